import Derived.Test.YtplomeacjbkgnadGreatDoorZ35
set_option linter.all false
set_option maxRecDepth 100000
set_option maxHeartbeats 16000000
namespace Ch.Live
structure Pl (q:Plant) (li ba:Int) (d:Bool) (f:Place→Int):Prop where
 folk:q.people=0
 lift:q.lift=li
 bay:q.bay=ba
 door:q.door=d
 slots:q.slots=f
theorem Pl.stalls {q:Plant} {li ba:Int} {d:Bool} {f:Place→Int} (h:Pl q li ba d f) (s:Nat):Pl (Plant.stalls q s) li ba d f:=⟨h.folk,h.lift,h.bay,h.door,h.slots⟩
def Stage (h:House) (b:Book) (c:Nat) (li ba:Int) (d:Bool) (f:Place→Int):Prop:=
 ∃ m q,m+q.stall.toNat≤c∧House.ticks m h={ h with b:=b,p:=q,goals:=[] }∧House.Inv2 { h with b:=b,p:=q,goals:=[] }∧Pl q li ba d f
theorem Stage.plan {h:House} {b:Book} {c:Nat} {li ba li' ba':Int} {d d':Bool} {f f':Place→Int} {l:List Goal} (hs:Stage h b c li ba d f) (hl:l≠[])
  (ht:∀ q,Core h.n b q→Pl q li ba d f→turnOf b h.n q=(l,none))
  (hr:∀ q,Core h.n b q→q.stall=0→Pl q li ba d f→∃ q',(∃ k,k≤28∧Steps (fun p=>p) k q l q' [])∧Pl q' li' ba' d' f'):Stage h b (c+28) li' ba' d' f':=by
 obtain ⟨m,q,h1,h2,h3,h4⟩:=hs;have hc:Core h.n b q:=h3.inv.core;obtain ⟨q',k1,k2⟩:=hr (Plant.stalls q 0) (core_stalls hc) rfl (h4.stalls 0);obtain ⟨m',s',e1,e2,e3,e4⟩:=plan_ticks h3 rfl h4.folk (ht q hc h4) hl k1;refine ⟨m+m',Plant.stalls q' s',?_,?_,e4,k2.stalls s'⟩
 ·show m+m'+((s':Nat):Int).toNat≤c+28
  rw [Int.toNat_natCast];have:m'+s'≤28+q.stall.toNat:=e1;omega
 ·rw [ticks_add,h2,e3]
theorem Stage.fetch {h:House} {b:Book} {c:Nat} {ba:Int} {d:Bool} {f:Place→Int} (hs:Stage h b c 0 ba d f) {y:Place} (hy:placeFault y h.n=0) (h1:f y≠0) (h2:y.depth=1→f (front y)=0)
  (ht:∀ q,Core h.n b q→Pl q 0 ba d f→turnOf b h.n q=(Ch.fetch y,none)):Stage h b (c+28) (f y) ba false (setSlot f y 0):=
 hs.plan (by simp [Ch.fetch,there,ahead]) ht fun q hc h0 hq=>⟨_,go_fetch hc hq.folk h0 hy hq.lift (by rw [hq.slots];exact h1) (by rw [hq.slots];exact h2),
  ⟨hq.folk,congrFun hq.slots y,hq.bay,rfl,congrArg (setSlot · y 0) hq.slots⟩⟩
theorem Stage.bring {h:House} {b:Book} {c:Nat} {li ba:Int} {d:Bool} {f:Place→Int} (hs:Stage h b c li ba d f) {y:Place} (hy:placeFault y h.n=0) (hl:li≠0) (h1:f y=0) (h2:y.depth=1→f (front y)=0)
  (ht:∀ q,Core h.n b q→Pl q li ba d f→turnOf b h.n q=(Ch.bring y,none)):Stage h b (c+28) 0 ba false (setSlot f y li):=
 hs.plan (by simp [Ch.bring,there,ahead]) ht fun q hc h0 hq=>⟨_,go_bring hc hq.folk h0 hy (by rw [hq.lift];exact hl) (by rw [hq.slots];exact h1) (by rw [hq.slots];exact h2),
  ⟨hq.folk,rfl,hq.bay,rfl,by show setSlot q.slots y q.lift=_;rw [hq.slots,hq.lift]⟩⟩
theorem Stage.give {h:House} {b:Book} {c:Nat} {li:Int} {d:Bool} {f:Place→Int} (hs:Stage h b c li 0 d f) (hl:li≠0)
  (ht:∀ q,Core h.n b q→Pl q li 0 d f→turnOf b h.n q=(giveOut,none)):Stage h b (c+28) 0 li true f:=
 hs.plan (by simp [giveOut,ahead]) ht fun q hc h0 hq=>⟨_,go_give hc hq.folk h0 (by rw [hq.lift];exact hl) hq.bay,
  ⟨hq.folk,rfl,hq.lift,rfl,hq.slots⟩⟩
theorem Stage.welcome {h:House} {b:Book} {c:Nat} {li ba:Int} {d:Bool} {f:Place→Int} (hs:Stage h b c li ba d f)
  (ht:∀ q,Core h.n b q→Pl q li ba d f→turnOf b h.n q=(Ch.welcome,none)):Stage h b (c+28) li ba true f:=
 hs.plan (by simp [Ch.welcome,ahead]) ht fun q hc h0 hq=>⟨_,go_welcome hc hq.folk h0,⟨hq.folk,hq.lift,hq.bay,rfl,hq.slots⟩⟩
theorem Stage.shut {h:House} {b:Book} {c:Nat} {li ba:Int} {f:Place→Int} (hs:Stage h b c li ba true f)
  (ht:∀ q,Core h.n b q→Pl q li ba true f→turnOf b h.n q=([⟨5,0⟩],none)):Stage h b (c+28) li ba false f:=
 hs.plan (by simp) ht fun q hc h0 hq=>⟨_,go_shut hc hq.folk h0 hq.door,⟨hq.folk,hq.lift,hq.bay,rfl,hq.slots⟩⟩
theorem Stage.done {h:House} {b b':Book} {c:Nat} {li ba:Int} {d:Bool} {f:Place→Int} (hs:Stage h b c li ba d f)
  (ht:∀ q,Core h.n b q→Pl q li ba d f→turnOf b h.n q=([],some b')):Stage h b' (c+1) li ba d f:=by
 obtain ⟨m,q,h1,h2,h3,h4⟩:=hs
 have e:House.tick { h with b:=b,p:=q,goals:=[] }={ h with b:=b',p:=q,goals:=[] }:=by
  conv=>lhs;unfold House.tick
  rw [if_pos rfl,show turnOf ({ h with b:=b,p:=q,goals:=[] }:House).b ({ h with b:=b,p:=q,goals:=[] }:House).n ({ h with b:=b,p:=q,goals:=[] }:House).p=_ from ht q h3.inv.core h4]
 refine ⟨m+1,q,by omega,?_,?_,h4⟩
 ·rw [ticks_add,h2];exact e
 ·rw [←e];exact h3.tick
theorem Stage.rest {h:House} {b:Book} {c k:Nat} {ba:Int} {f:Place→Int} (hs:Stage h b c 0 ba true f) (hj:b.jobs=[]) (hsp:f (Ch.spare h.n)=0) (hk:c≤k):
  ∃ q,House.ticks k h={ h with b:=b,p:=q,goals:=[] }∧House.Inv2 { h with b:=b,p:=q,goals:=[] }∧Pl q 0 ba true f:=by
 obtain ⟨m,q,h1,h2,h3,h4⟩:=hs;have e:House.tick { h with b:=b,p:=q,goals:=[] }={ h with b:=b,p:=q,goals:=[] }:=rest_tick rfl h4.lift (by show q.slots (Ch.spare h.n)=0;rw [h4.slots];exact hsp) hj h4.door
 have r:∀ j,House.ticks j { h with b:=b,p:=q,goals:=[] }={ h with b:=b,p:=q,goals:=[] }:=fun j=>by
  induction j with
  | zero=>rfl
  | succ j ih=>show House.ticks j (House.tick _)=_;rw [e,ih]
 refine ⟨q,?_,h3,h4⟩;rw [show k=m+(k - m) by omega,ticks_add,h2,r]
/-! ### a book with one job: a car is to be fetched -/
theorem stay_is {n:Int} {b:Book} (h:b.OK n) {x:Stay} (hx:x∈b.stays):b.stay x.ticket=x:=by
 unfold Book.stay Book.find
 cases hf:b.stays.find? (fun s=>s.ticket==x.ticket) with
 | none=>
  rw [List.find?_eq_none] at hf;exact absurd (by simp) (hf x hx)
 | some y=>
  have h1:=List.mem_of_find?_eq_some hf;have h2:=List.find?_some hf;exact ticket_inj h.stays h1 hx (by simpa using h2)
theorem first_one (b:Book) (t:Int) (hj:b.jobs=[⟨t,true⟩]) (bay:Int):firstJob b bay=some ⟨t,true⟩:=by
 unfold firstJob;rw [hj];rfl
theorem turn_one {n:Int} {b:Book} {x:Stay} {q:Plant} (hc:Core n b q) (hx:x∈b.stays) (hj:b.jobs=[⟨x.ticket,true⟩]) (hl:q.lift=0) (hsp:q.slots (spare n)=0∨spareB b n q=true):
  turnOf b n q=(if (fetchOf q x).2 then ([],some (doneWith b ⟨x.ticket,true⟩ false)) else ((fetchOf q x).1,none)):=by
 rw [turn_empty hl hsp,first_one b x.ticket hj];dsimp only;unfold jobOf;rw [if_pos rfl,stay_is hc.book hx]
theorem where_is {n:Int} {b:Book} {q:Plant} (hc:Core n b q) {y:Place} {id:Int} (h0:id≠0) (hy:q.slots y=id):q.where_ id=some y:=by
 obtain ⟨z,hz⟩:=where_of hc.safe.wf h0 hy;have:=(where_some hz).2.1;rw [hz,slots_inj hc.safe.wf hc.nodup (x:=z) (y:=y) (by rw [this];exact h0) (by rw [this,hy])]
theorem fetch_in {n:Int} {b:Book} {q:Plant} (hc:Core n b q) {x:Stay} {y:Place} (hid:1≤x.car.id) (hb:q.bay=0) (hy:q.slots y=x.car.id):
  fetchOf q x=if q.door=true then ([⟨5,0⟩],false) else if y.depth=1∧q.slots (front y)≠0 then (Ch.fetch (front y),false) else (Ch.fetch y,false):=by
 have hh:q.has x.car.id=true:=(has_iff' hc.safe.wf (by omega)).2 (Or.inl ⟨y,hy⟩);unfold fetchOf;rw [if_neg (by rw [hh];simp;omega),if_neg (by simp [hb]),if_neg (by simp [hb]),where_is hc (by omega) hy]
theorem turn_gets {n:Int} {b:Book} {x:Stay} {q:Plant} {l:List Goal} (hc:Core n b q) (hx:x∈b.stays) (hj:b.jobs=[⟨x.ticket,true⟩]) (hl:q.lift=0) (hsp:q.slots (spare n)=0∨spareB b n q=true) (hf:fetchOf q x=(l,false)):turnOf b n q=(l,none):=by
 rw [turn_one hc hx hj hl hsp,hf];rfl
theorem fetch_door {n:Int} {b:Book} {q:Plant} (hc:Core n b q) {x:Stay} {y:Place} (hid:1≤x.car.id) (hb:q.bay=0) (hy:q.slots y=x.car.id) (hd:q.door=true):fetchOf q x=([⟨5,0⟩],false):=by
 rw [fetch_in hc hid hb hy,if_pos hd]
theorem fetch_front {n:Int} {b:Book} {q:Plant} (hc:Core n b q) {x:Stay} {y:Place} (hid:1≤x.car.id) (hb:q.bay=0) (hy:q.slots y=x.car.id) (hd:q.door=false) (h:y.depth=1∧q.slots (front y)≠0):fetchOf q x=(Ch.fetch (front y),false):=by
 rw [fetch_in hc hid hb hy,if_neg (by rw [hd];simp),if_pos h]
theorem fetch_free {n:Int} {b:Book} {q:Plant} (hc:Core n b q) {x:Stay} {y:Place} (hid:1≤x.car.id) (hb:q.bay=0) (hy:q.slots y=x.car.id) (hd:q.door=false) (h:¬ (y.depth=1∧q.slots (front y)≠0)):fetchOf q x=(Ch.fetch y,false):=by
 rw [fetch_in hc hid hb hy,if_neg (by rw [hd];simp),if_neg h]
theorem loaded_one {b:Book} {n:Int} {q:Plant} {x z:Stay} (hj:b.jobs=[⟨x.ticket,true⟩]) (ho:b.of q.lift=some z) (hl:q.lift≠0):
  turnOf b n q=(if (x.ticket==z.ticket&&q.bay==0)=true then giveOut else if ((z.home.depth==1&&q.slots (front z.home) != 0) || blocks b q z ⟨x.ticket,true⟩)=true then Ch.bring (spare n) else Ch.bring z.home,none):=by
 unfold turnOf;rw [if_pos hl];unfold loaded;rw [ho,first_one b x.ticket hj];simp
theorem blocks_one {n:Int} {b:Book} {q:Plant} {x z:Stay} (hc:b.OK n) (hx:x∈b.stays):blocks b q z ⟨x.ticket,true⟩=(x.home.depth==1&&front x.home==z.home&&q.slots x.home==x.car.id):=by
 unfold blocks;rw [stay_is hc hx];simp
theorem of_is {n:Int} {b:Book} (h:b.OK n) {x:Stay} (hx:x∈b.stays):b.of x.car.id=some x:=by
 cases ho:b.of x.car.id with
 | none=>exact absurd rfl (of_none ho x hx)
 | some y=>
  obtain ⟨h1,h2⟩:=of_some ho;rw [id_inj h.stays h1 hx h2]
theorem House.Rest.fetched {h:House} (hr:House.Rest h) {x:Stay} (hx:x∈h.b.stays) (k:Nat) (hk:300≤k):
  ∃ b1 b2 q,h.want x.ticket=({ h with b:=b1 },0)∧House.ticks k { h with b:=b1 }={ h with b:=b2,p:=q,goals:=[] }∧b2.jobs=[]∧b2.stays=(h.b.stays.filter fun s=>!(s.ticket==x.ticket)) ∧
   House.Inv2 { h with b:=b2,p:=q,goals:=[] }∧q.bay=x.car.id∧q.door=true∧q.hurt=false∧∀ s∈b2.stays,q.slots s.home=s.car.id:=by
 have hc:=hr.inv.inv.core;have hid:=hc.id_pos hx;have hE:=hr.ended;have hg:=hr.goals
 -- the job
 let b1:Book:={ h.b with jobs:=[⟨x.ticket,true⟩] }
 have hj1:b1.jobs=[⟨x.ticket,true⟩]:=rfl
 have hw:h.want x.ticket=({ h with b:=b1 },0):=by
  unfold House.want Ch.want
  have hf:(h.b.find x.ticket).isNone=false:=by
   unfold Book.find;rw [Option.isNone_eq_false_iff,List.find?_isSome];exact ⟨x,hx,by simp⟩
  rw [if_neg (by rw [hf];simp),if_neg (by rw [hr.jobs];simp),if_neg (by rw [hr.jobs];simp),hr.jobs];rfl
 have hi1:House.Inv2 { h with b:=b1 }:=by
  have:=hr.inv.want x.ticket;rw [hw] at this;exact this
 have hok:b1.OK h.n:=hi1.inv.core.book;have hx1:x∈b1.stays:=hx
 let h1:House:={ h with b:=b1 }
 obtain ⟨f,hf⟩:∃ f,f=h.p.slots:=⟨_,rfl⟩
 have fx:f x.home=x.car.id:=by rw [hf];exact hE.home x hx
 have fs:f (Ch.spare h.n)=0:=by rw [hf];exact hr.spare
 obtain ⟨px,nx⟩:=hc.place hx
 have hst:h.p.stall.toNat≤5:=by have:=hc.safe.wf.st2;omega
 have s0:Stage h1 b1 5 0 0 true f:=by
  refine ⟨0,h.p,by omega,?_,?_,⟨hr.folk,hr.lift,hr.bay,hr.door,hf.symm⟩⟩
  ·show h1=_
   show ({ h with b:=b1 }:House)={ h with b:=b1,p:=h.p,goals:=[] }
   rw [←hg]
  ·have:({ h with b:=b1,p:=h.p,goals:=[] }:House)={ h with b:=b1 }:=by rw [←hg]
   show House.Inv2 { h with b:=b1,p:=h.p,goals:=[] };rw [this];exact hi1
 have s1:Stage h1 b1 33 0 0 false f:=s0.shut fun q hq hp=>by
  exact turn_gets hq hx1 hj1 hp.lift (Or.inl (by rw [hp.slots];exact fs)) (fetch_door hq (y:=x.home) hid hp.bay (by rw [hp.slots];exact fx) hp.door)
 -- what comes behind the giving out
 have fin:∀ (c:Nat) (g:Place→Int),c≤299→Stage h1 b1 c 0 x.car.id true g→g (Ch.spare h.n)=0→(∀ s∈h.b.stays,s≠x→g s.home=s.car.id)→∃ b1 b2 q,h.want x.ticket=({ h with b:=b1 },0)∧House.ticks k { h with b:=b1 }={ h with b:=b2,p:=q,goals:=[] }∧b2.jobs=[]∧b2.stays=(h.b.stays.filter fun s=>!(s.ticket==x.ticket)) ∧
   House.Inv2 { h with b:=b2,p:=q,goals:=[] }∧q.bay=x.car.id∧q.door=true∧q.hurt=false∧∀ s∈b2.stays,q.slots s.home=s.car.id:=by
  intro c g hck hs hg0 hgs
  have hd:=hs.done fun q hq hp=>by
   rw [turn_one hq hx1 hj1 hp.lift (Or.inl (by rw [hp.slots];exact hg0))]
   have:(fetchOf q x).2=true:=by unfold fetchOf;rw [if_pos (Or.inl hp.bay)]
   rw [if_pos this]
  have hdj:(doneWith b1 ⟨x.ticket,true⟩ false).jobs=[]:=by
   unfold doneWith;rw [hj1];simp
  obtain ⟨q,e1,e2,e3⟩:=hd.rest hdj hg0 (k:=k) (by omega);have hst2:(doneWith b1 ⟨x.ticket,true⟩ false).stays=(h.b.stays.filter fun s=>!(s.ticket==x.ticket)):=rfl;refine ⟨b1,_,q,hw,e1,hdj,hst2,e2,e3.bay,e3.door,e2.inv.core.safe.hh,?_⟩;intro s hs;rw [hst2,List.mem_filter] at hs;rw [e3.slots];exact hgs s hs.1 (by rintro rfl;simp at hs)
 by_cases hB:x.home.depth=1∧f (front x.home)≠0
 ·-- somebody stands in front
  obtain ⟨hd1,hfr⟩:=hB;obtain ⟨z,hz,ez,hzh⟩:=hc.slots (front x.home) (by rw [←hf];exact hfr)
  have hzh:z.home=front x.home:=by
   rcases hzh with e|e
   ·exact e.symm
   ·exact absurd e (front_spare hc hx)
  have hz1:z∈b1.stays:=hz;obtain ⟨pz,nz⟩:=hc.place hz;have hzid:=hc.id_pos hz
  have hzd:z.home.depth=0:=by rw [hzh];rfl
  have hne:z.home≠x.home:=fun e=>by rw [e] at hzd;omega
  have hzx:z≠x:=fun e=>hne (by rw [e])
  have htk:¬ x.ticket=z.ticket:=fun e=>hzx (ticket_inj hok.stays hz1 hx1 e.symm)
  have hzi:z.car.id≠x.car.id:=fun e=>hzx (id_inj hok.stays hz1 hx1 e)
  have fz:f z.home=z.car.id:=by rw [hf];exact hE.home z hz
  have hsd:(Ch.spare h.n).depth=0:=rfl;have psp:=spare_place hc
  have bl:∀ q:Plant,blocks b1 q z ⟨x.ticket,true⟩=(q.slots x.home==x.car.id):=fun q=>by
   rw [blocks_one hok hx1,hzh];simp [hd1]
  have s2:=s1.fetch (y:=z.home) pz (by rw [fz];omega) (fun e=>by omega) fun q hq hp=>by
   rw [hzh];exact turn_gets hq hx1 hj1 hp.lift (Or.inl (by rw [hp.slots];exact fs)) (fetch_front hq (y:=x.home) hid hp.bay (by rw [hp.slots];exact fx) hp.door ⟨hd1,by rw [hp.slots];exact hfr⟩)
  rw [fz] at s2
  obtain ⟨f2,hf2⟩:∃ f2,f2=setSlot f z.home 0:=⟨_,rfl⟩
  rw [←hf2] at s2
  have f2x:f2 x.home=x.car.id:=by rw [hf2];unfold setSlot;rw [if_neg (Ne.symm hne)];exact fx
  have f2s:f2 (Ch.spare h.n)=0:=by rw [hf2];unfold setSlot;split;rfl;exact fs
  have s3:=s2.bring (y:=Ch.spare h.n) psp (by omega) f2s (fun e=>by omega) fun q hq hp=>by
   rw [loaded_one hj1 (by rw [hp.lift];exact of_is hok hz1) (by rw [hp.lift];omega),if_neg (by simp [htk]),if_pos (by rw [bl,hp.slots,f2x];simp)];rfl
  obtain ⟨f3,hf3⟩:∃ f3,f3=setSlot f2 (Ch.spare h.n) z.car.id:=⟨_,rfl⟩
  rw [←hf3] at s3
  have f3x:f3 x.home=x.car.id:=by rw [hf3];unfold setSlot;rw [if_neg nx];exact f2x
  have f3s:f3 (Ch.spare h.n)=z.car.id:=by rw [hf3];unfold setSlot;rw [if_pos rfl]
  have f3z:f3 z.home=0:=by rw [hf3];unfold setSlot;rw [if_neg nz,hf2];unfold setSlot;rw [if_pos rfl]
  have hsb:∀ q:Plant,q.slots=f3→spareB b1 h.n q=true:=fun q e=>by
   unfold spareB;rw [e,f3s,of_is hok hz1];dsimp only;unfold blockB;rw [first_one b1 x.ticket hj1];dsimp only;rw [bl,e,f3x];simp
  have s4:=s3.fetch (y:=x.home) px (by rw [f3x];omega) (fun _=>by rw [←hzh];exact f3z) fun q hq hp=>by
   exact turn_gets hq hx1 hj1 hp.lift (Or.inr (hsb q hp.slots)) (fetch_free hq (y:=x.home) hid hp.bay (by rw [hp.slots];exact f3x) hp.door (by rw [←hzh,hp.slots,f3z];simp))
  rw [f3x] at s4
  obtain ⟨f4,hf4⟩:∃ f4,f4=setSlot f3 x.home 0:=⟨_,rfl⟩
  rw [←hf4] at s4
  have f4x:f4 x.home=0:=by rw [hf4];unfold setSlot;rw [if_pos rfl]
  have f4s:f4 (Ch.spare h.n)=z.car.id:=by rw [hf4];unfold setSlot;rw [if_neg (Ne.symm nx)];exact f3s
  have f4z:f4 z.home=0:=by rw [hf4];unfold setSlot;rw [if_neg hne];exact f3z
  have s5:=s4.give (by omega) fun q hq hp=>by
   rw [loaded_one hj1 (by rw [hp.lift];exact of_is hok hx1) (by rw [hp.lift];omega),if_pos (by rw [hp.bay];simp)]
  have s6:=s5.fetch (y:=Ch.spare h.n) psp (by rw [f4s];omega) (fun e=>by omega) fun q hq hp=>by
   refine turn_spare hp.lift (by rw [hp.slots];show f4 (Ch.spare h.n)≠0;rw [f4s];omega) ?_;unfold spareB;rw [hp.slots];show (match b1.of (f4 (Ch.spare h.n)) with|some x=>blockB b1 q x|none=>false)=false;rw [f4s,of_is hok hz1];dsimp only;unfold blockB;rw [first_one b1 x.ticket hj1];dsimp only;rw [bl,hp.slots,f4x];simp;omega
  rw [f4s] at s6
  obtain ⟨f6,hf6⟩:∃ f6,f6=setSlot f4 (Ch.spare h.n) 0:=⟨_,rfl⟩
  rw [←hf6] at s6
  have f6x:f6 x.home=0:=by rw [hf6];unfold setSlot;split;rfl;exact f4x
  have f6z:f6 z.home=0:=by rw [hf6];unfold setSlot;split;rfl;exact f4z
  have s7:=s6.bring (y:=z.home) pz (by omega) f6z (fun e=>by omega) fun q hq hp=>by
   rw [loaded_one hj1 (by rw [hp.lift];exact of_is hok hz1) (by rw [hp.lift];omega),if_neg (by simp [htk]),if_neg (by rw [bl,hp.slots,f6x];simp [hzd];omega)]
  obtain ⟨f7,hf7⟩:∃ f7,f7=setSlot f6 z.home z.car.id:=⟨_,rfl⟩
  rw [←hf7] at s7
  have f7s:f7 (Ch.spare h.n)=0:=by rw [hf7];unfold setSlot;rw [if_neg (Ne.symm nz),hf6];unfold setSlot;rw [if_pos rfl]
  have f7a:∀ s∈h.b.stays,s≠x→f7 s.home=s.car.id:=by
   intro s hs hsx
   by_cases e:s=z
   ·subst e;rw [hf7];unfold setSlot;rw [if_pos rfl]
   ·have n1:s.home≠z.home:=fun e'=>e (home_inj hok.stays hs hz1 e')
    have n2:s.home≠x.home:=fun e'=>hsx (home_inj hok.stays hs hx1 e')
    have n3:=(hc.place hs).2;rw [hf7,hf6,hf4,hf3,hf2];unfold setSlot;rw [if_neg n1,if_neg n3,if_neg n2,if_neg n3,if_neg n1,hf];exact hE.home s hs
  -- the job is done, the bay is opened
  have s8:=s7.done fun q hq hp=>by
   rw [turn_one hq hx1 hj1 hp.lift (Or.inl (by rw [hp.slots];exact f7s))]
   have:(fetchOf q x).2=true:=by unfold fetchOf;rw [if_pos (Or.inl hp.bay)]
   rw [if_pos this]
  have hdj:(doneWith b1 ⟨x.ticket,true⟩ false).jobs=[]:=by
   unfold doneWith;rw [hj1];simp
  have s9:=s8.welcome fun q hq hp=>by
   rw [turn_empty hp.lift (Or.inl (by rw [hp.slots];exact f7s))]
   have:firstJob (doneWith b1 ⟨x.ticket,true⟩ false) q.bay=none:=by unfold firstJob;rw [hdj];rfl
   rw [this];dsimp only;rw [if_neg (by rw [hp.door];simp)]
  obtain ⟨q,e1,e2,e3⟩:=s9.rest hdj f7s (k:=k) (by omega);have hst2:(doneWith b1 ⟨x.ticket,true⟩ false).stays=(h.b.stays.filter fun s=>!(s.ticket==x.ticket)):=rfl;refine ⟨b1,_,q,hw,e1,hdj,hst2,e2,e3.bay,e3.door,e2.inv.core.safe.hh,?_⟩;intro s hs;rw [hst2,List.mem_filter] at hs;rw [e3.slots];exact f7a s hs.1 (by rintro rfl;simp at hs)
 ·-- nobody does
  have s2:=s1.fetch (y:=x.home) px (by rw [fx];omega) (fun e=>Classical.byContradiction fun hn=>hB ⟨e,hn⟩) fun q hq hp=>by
   exact turn_gets hq hx1 hj1 hp.lift (Or.inl (by rw [hp.slots];exact fs)) (fetch_free hq (y:=x.home) hid hp.bay (by rw [hp.slots];exact fx) hp.door (by rw [hp.slots];exact hB))
  rw [fx] at s2
  have s3:=s2.give (by omega) fun q hq hp=>by
   rw [loaded_one hj1 (by rw [hp.lift];exact of_is hok hx1) (by rw [hp.lift];omega),if_pos (by rw [hp.bay];simp)]
  refine fin _ _ (by omega) s3 ?_ ?_
  ·unfold setSlot;split;rfl;exact fs
  ·intro s hs hsx
   have n2:s.home≠x.home:=fun e'=>hsx (home_inj hok.stays hs hx1 e')
   unfold setSlot;rw [if_neg n2,hf];exact hE.home s hs
end Ch.Live
