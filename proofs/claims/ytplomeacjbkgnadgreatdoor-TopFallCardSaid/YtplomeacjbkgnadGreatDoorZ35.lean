import Derived.Test.YtplomeacjbkgnadGreatDoorZ26
import Derived.Test.YtplomeacjbkgnadGreatDoorZ21
set_option linter.all false
set_option maxRecDepth 100000
set_option maxHeartbeats 16000000
namespace Ch.Live
/-! ### all is done -/
structure House.Ended (h:House):Prop where
 jobs:h.b.jobs=[]
 lift:h.p.lift=0
 bay:h.p.bay=0
 door:h.p.door=true
 height:h.p.height=0
 ext:h.p.ext=0
 hurt:h.p.hurt=false
 spare:h.p.slots (spare h.n)=0
 home:∀ s∈h.b.stays,h.p.slots s.home=s.car.id
 count:h.p.cars.length=h.b.stays.length
theorem at_home {n:Int} {b:Book} {p:Plant} (h:Core n b p) (hl:p.lift=0) (hs:p.slots (spare n)=0) {s:Stay} (hm:s∈b.stays) (h1:¬ (⟨s.ticket,false⟩:Job)∈b.jobs) (h2:¬ b.jobs.head? = some ⟨s.ticket,true⟩):p.slots s.home=s.car.id:=by
 have hid:=h.id_pos hm
 rcases h.C s hm h1 with ⟨y,hy⟩|e|e
 ·obtain ⟨t,ht,e1,e2⟩:=h.slots y (by omega)
  have:t=s:=id_inj h.book.stays ht hm (by omega);subst this
  rcases e2 with e2|e2
  ·rw [←e2,hy]
  ·rw [e2,hs] at hy;omega
 ·omega
 ·exact absurd e h2
theorem ids_nodup {n last:Int} {l:List Stay} (h:StaysOK n last l):(l.map fun s=>s.car.id).Nodup:=by
 have hp:=h.2;rw [List.nodup_iff_pairwise_ne,List.pairwise_map]
 exact hp.imp fun h=>h.2.2
theorem mem_cars {p:Plant} (hp:p.WF) {v:Int}:v∈p.cars↔v≠0∧(p.lift=v∨p.bay=v∨∃ y,p.slots y=v):=by
 by_cases hv:v=0
 ·subst hv
  constructor
  ·intro h
   have:=count_cars p 0;rw [if_pos rfl,List.count_eq_zero] at this;exact absurd h this
  ·exact fun h=>absurd rfl h.1
 ·rw [←has_iff hp hv,has_iff' hp hv]
  constructor
  ·rintro (h|h|h)
   ·exact ⟨hv,Or.inr (Or.inr h)⟩
   ·exact ⟨hv,Or.inl h⟩
   ·exact ⟨hv,Or.inr (Or.inl h)⟩
  ·rintro ⟨_,h|h|h⟩
   ·exact Or.inr (Or.inl h)
   ·exact Or.inr (Or.inr h)
   ·exact Or.inl h
theorem cars_stays {n:Int} {b:Book} {p:Plant} (h:Core n b p) (hl:p.lift=0) (hb:p.bay=0) (hs:p.slots (spare n)=0) (hh:∀ s∈b.stays,p.slots s.home=s.car.id):p.cars.length=b.stays.length:=by
 have:p.cars.Perm (b.stays.map fun s=>s.car.id):=by
  rw [List.perm_ext_iff_of_nodup h.nodup (ids_nodup h.book.stays)];intro v;rw [mem_cars h.safe.wf,List.mem_map];constructor
  ·rintro ⟨hv,e|e|⟨y,hy⟩⟩
   ·omega
   ·omega
   ·obtain ⟨t,ht,e1,_⟩:=h.slots y (by omega)
    exact ⟨t,ht,e1.trans hy⟩
  ·rintro ⟨t,ht,e⟩
   have:=h.id_pos ht;exact ⟨by omega,Or.inr (Or.inr ⟨t.home,(hh t ht).trans e⟩)⟩
 rw [this.length_eq,List.length_map]
theorem House.Rest.ended {h:House} (hr:House.Rest h):House.Ended h:=by
 have hc:=hr.inv.inv.core
 have hh:∀ s∈h.b.stays,h.p.slots s.home=s.car.id:=fun s hs=>at_home hc hr.lift hr.spare hs (by rw [hr.jobs];simp) (by rw [hr.jobs];simp)
 exact ⟨hr.jobs,hr.lift,hr.bay,hr.door,hc.safe.door hr.door,hc.safe.doorE hr.door,hc.safe.hh,hr.spare,hh,cars_stays hc hr.lift hr.bay hr.spare hh⟩
/-! ### ticks, one plan behind the other -/
theorem ticks_add (a b:Nat) (h:House):House.ticks (a+b) h=House.ticks b (House.ticks a h):=by
 induction a generalizing h with
 | zero=>rw [Nat.zero_add];rfl
 | succ a ih=>rw [show a+1+b=a+b+1 by omega];exact ih _
theorem id_ok:PreOK (fun p=>p) (fun _=>True) where
 quiet:=fun _ _ _=>rfl
 stall:=fun _ _=>rfl
 door:=fun _=>rfl
 folk:=fun _ _ _=>Or.inr rfl
 bay:=fun _ _=>Or.inl trivial
theorem fin_ticks {m:Nat} {p q:Plant} {l:List Goal} (hf:Fin (fun p=>p) m p l q):∀ (h:House),h.p=p→h.tick=h.go l→House.ticks m h={ h with p:=q,goals:=[] }:=by
 induction hf with
 | @last p q l hd=>
  intro h hp ht;show h.tick=_;rw [ht];unfold House.go;rw [hp,hd]
 | @more m p p1 q l l1 hd hl hf ih=>
  intro h hp ht;show House.ticks m h.tick=_
  have e:h.tick={ h with p:=p1,goals:=l1 }:=by
   rw [ht];unfold House.go;rw [hp,hd]
  rw [e]
  rw [ih { h with p:=p1,goals:=l1 } rfl (by
   conv=>lhs;unfold House.tick
   rw [if_neg (show ¬ l1=[] from hl)])]
theorem plan_ticks {h:House} {l:List Goal} {q:Plant} (hi:House.Inv2 h) (hg:h.goals=[]) (hp:h.p.people=0) (ht:turnOf h.b h.n h.p=(l,none)) (hl:l≠[])
  (hs:∃ k,k≤28∧Steps (fun p=>p) k (Plant.stalls h.p 0) l q []):
  ∃ m s':Nat,m+s'≤28+h.p.stall.toNat∧s'≤h.p.stall.toNat∧House.ticks m h={ h with p:=Plant.stalls q s',goals:=[] }∧House.Inv2 { h with p:=Plant.stalls q s',goals:=[] }:=by
 obtain ⟨k,hk,hs⟩:=hs;obtain ⟨n',s',c1,c2,c3,hf⟩:=fin_of_steps id_ok hs rfl hl hp (fun _=>trivial) rfl h.p.stall.toNat
 have hps:Plant.stalls (Plant.stalls h.p 0) h.p.stall.toNat=h.p:=by
  have:=hi.inv.core.safe.wf.st1;unfold Plant.stalls;dsimp only
  have e:((h.p.stall.toNat:Nat):Int)=h.p.stall:=by omega
  rw [e]
 rw [hps] at hf
 have:=fin_ticks hf h rfl (by
  conv=>lhs;unfold House.tick
  rw [if_pos hg,ht])
 refine ⟨n',s',by omega,c3,this,?_⟩;rw [←this];exact hi.ticks n'
/-! ### tickets -/
/-! ### where cars are -/
/-! ### who is told of -/
/-! ### what is where -/
theorem Inv'.home {h:House} (hi:h.Inv') {x:Stay} (hx:x∈h.b.stays):fits x.car.size (h.sizes.getD (x.home.level - 1).toNat default)=true∧(h.p.slots x.home=0∨h.p.slots x.home=x.car.id):=by
 refine ⟨hi.fit x hx,?_⟩
 by_cases h0:h.p.slots x.home=0
 ·exact Or.inl h0
 ·right
  obtain ⟨t,ht,e1,e2⟩:=hi.core.slots x.home h0
  rcases e2 with e2|e2
  ·rw [home_inj hi.core.book.stays hx ht e2,e1,←home_inj hi.core.book.stays hx ht e2]
  ·exact absurd e2 (hi.core.place hx).2
theorem Inv'.never {h:House} (hi:h.Inv'):h.p.hurt=false∧(0<h.p.people→h.p.door=true)∧(h.p.lift≠0→h.p.door=false):=⟨hi.core.safe.hh,hi.core.safe.folk,hi.core.H⟩
/-! ### whom there is room for -/
theorem House.Rest.full {h:House} (hr:House.Rest h) {c:Car} (hc:carFault c=0) (ha:(h.p.arrive c.id).2=0) (hl:h.b.last≠999999):
  (pick h.b h.sizes c=none→House.park { h with p:=(h.p.arrive c.id).1 } c=({ h with p:=(h.p.arrive c.id).1 },0,8)) ∧
  (∀ x,pick h.b h.sizes c=some x→∃ b',House.park { h with p:=(h.p.arrive c.id).1 } c=({ h with p:=(h.p.arrive c.id).1,b:=b' },h.b.last+1,0)):=by
 have hcore:=hr.inv.inv.core;have hE:=hr.ended
 have hb:(h.p.arrive c.id).1.bay=c.id∧h.p.has c.id=false:=by
  unfold Plant.arrive at ha ⊢
  split
  ·rename_i h1;rw [if_pos h1] at ha;cases ha
  ·rename_i h1
   rw [if_neg h1] at ha
   split
   ·rename_i h2;rw [if_pos h2] at ha;cases ha
   ·rename_i h2
    rw [if_neg h2] at ha
    split
    ·rename_i h3;rw [if_pos h3] at ha;cases ha
    ·rename_i h3;exact ⟨rfl,by simpa using h3⟩
 have hid:c.id≠0:=by
  unfold carFault at hc
  split at hc
  ·cases hc
  ·omega
 have hof:h.b.of c.id=none:=by
  cases ho:h.b.of c.id with
  | none=>rfl
  | some s=>
   obtain ⟨h1,h2⟩:=of_some ho;have:=hE.home s h1;have:h.p.has c.id=true:=(has_iff' hcore.safe.wf hid).2 (Or.inl ⟨s.home,by rw [this,h2]⟩);rw [hb.2] at this;cases this
 have hj:h.b.jobs.length≠8:=by rw [hr.jobs];decide
 constructor
 ·intro hp
  unfold House.park Ch.park;rw [if_neg (by simp [hb.1]),if_neg (by simp [hc]),if_neg (by simp [hof]),hp]
 ·intro x hp
  refine ⟨⟨h.b.last+1,h.b.stays++[⟨h.b.last+1,c,x⟩],h.b.jobs++[⟨h.b.last+1,false⟩]⟩,?_⟩;unfold House.park Ch.park;rw [if_neg (by simp [hb.1]),if_neg (by simp [hc]),if_neg (by simp [hof]),hp];dsimp only;rw [if_neg (by simp [hj,hl])]
structure HD where
 h:House
 e:Nat
 d:Disk
def HD.keep (x:HD) (b:Book):HD×Int:=
 if (x.d.keep (x.e+1) b).2=0 then (⟨{ x.h with b:=b },x.e+1,(x.d.keep (x.e+1) b).1⟩,0)
 else (⟨x.h,x.e,(x.d.keep (x.e+1) b).1⟩,(x.d.keep (x.e+1) b).2)
def HD.tick (x:HD):HD×Int:=
 if x.h.goals=[] then
  match turnOf x.h.b x.h.n x.h.p with
  | (_,some b)=>x.keep b
  | (l,none)=>({ x with h:=x.h.go l },0)
 else ({ x with h:=x.h.go x.h.goals },0)
def HD.park (x:HD) (c:Car):HD×Int×Int:=
 if x.h.p.bay≠c.id then (x,0,7)
 else match Ch.park x.h.b x.h.sizes c with
  | .error e=>(x,0,e)
  | .ok (b,n)=>if (x.keep b).2=0 then ((x.keep b).1,n,0) else ((x.keep b).1,0,(x.keep b).2)
def HD.want (x:HD) (t:Int):HD×Int:=
 match Ch.want x.h.b t with
 | .error e=>(x,e)
 | .ok b=>x.keep b
def HD.ticks:Nat→HD→HD
 | 0,x=>x
 | n+1,x=>HD.ticks n x.tick.1
def HD.play (x:HD) (a:Act):HD:=
 if a.kind=kPark then (x.park a.car).1
 else if a.kind=kWant then (x.want a.a).1
 else if a.kind=kWalk∨a.kind=kArrive∨a.kind=kLeave∨a.kind=kStall then { x with h:={ x.h with p:=x.h.p.outside a } }
 else HD.ticks (min a.a 60).toNat x
structure HD.Up (x:HD) (n:Nat):Prop where
 inv:House.Inv2 x.h
 calm:x.d.Calm n
 holds:Holds x.d.now x.h.n x.e x.h.b
structure HD.Fell (x:HD) (n:Nat):Prop where
 inv:House.Inv2 x.h
 down:x.d.down=true
 wf:x.d.WF n
 holds:∃ b',House.Inv2 { x.h with b:=b',goals:=[] }∧∀ keep,Holds (x.d.restart keep).now x.h.n x.e x.h.b∨Holds (x.d.restart keep).now x.h.n (x.e+1) b'
theorem keep_up {x:HD} {n:Nat} {b:Book} (hx:x.Up n) (hn:22≤n) (he:x.e+1<4294967296) (hb:House.Inv2 { x.h with b:=b }) (hb0:House.Inv2 { x.h with b:=b,goals:=[] }):
  ((x.keep b).2=0∧(x.keep b).1.Up n∧(x.keep b).1.h={ x.h with b:=b }∧(x.keep b).1.e=x.e+1∧(x.d.fuse=-1→(x.keep b).1.d.fuse=-1)) ∨
  ((x.keep b).2=9∧(x.keep b).1.Fell n∧(x.keep b).1.h=x.h∧(x.keep b).1.e=x.e∧x.d.fuse≠-1):=by
 have hlen:=levels_len hx.inv.inv.lv;have hbf:bookFault b x.h.n=0:=bookFault_iff.2 hb.inv.core.book;obtain ⟨k1,k2,k3⟩:=keep_law hx.calm hn hx.holds (show x.h.n≤4 by unfold House.n;omega) hbf he;unfold HD.keep
 rcases k3 with ⟨q1,q2,q3⟩|⟨q1,q2,q3⟩
 ·rw [if_pos q1]
  exact Or.inl ⟨rfl,⟨hb,q2,q3⟩,rfl,rfl,fun hf=>(k2 hf).2⟩
 ·rw [if_neg (by omega)]
  exact Or.inr ⟨q1,⟨hx.inv,q2,k1,b,hb0,q3⟩,rfl,rfl,fun hf=>by have:=(k2 hf).1;omega⟩
theorem inv2_nil {h:House} (hi:House.Inv2 h):House.Inv2 { h with goals:=[] }:=⟨⟨hi.inv.lv,hi.inv.core,hi.inv.fit,.nil⟩,gv_nil⟩
theorem keep_down {d:Disk} (hd:d.down=true) (hn:22≤d.now.length) (e:Nat) (b:Book) (ht:bookText b≠[]):d.keep e b=(d,9):=by
 have hs:d.stepped=d:=by unfold Disk.stepped;rw [if_pos hd]
 have hw:∀ (i:Nat) (s:ByteArray),i<22→s.size≤64→d.write (i:Int) s=(d,9):=fun i s hi hs'=>by
  unfold Disk.write;rw [if_neg (by omega),hs,if_pos hd]
 have hc:chunksB (bookText b)≠[]:=by
  intro h;have:=chunksB_len (bookText b);rw [h] at this;have h0:0<(bookText b).length:=List.length_pos_iff.2 ht;simp at this;omega
 unfold Disk.keep
 cases hcs:chunksB (bookText b) with
 | nil=>exact absurd hcs hc
 | cons s l=>
  have hsz:s.size≤64:=chunksB_small (s:=bookText b) (by rw [hcs];simp)
  have e1:writes d (2+e % 2 * 10) (s :: l)=(d,9):=by
   unfold writes;rw [hw _ s (by omega) hsz,if_neg (show ¬ (9:Int)=0 by decide)]
  rw [e1];dsimp only;rw [if_neg (show ¬ (9:Int)=0 by decide)]
theorem text_ne (b:Book):bookText b≠[]:=by
 intro h;unfold bookText bookNums at h;simp [joinWords] at h
theorem HD.tick_up {x:HD} {n:Nat} (hx:x.Up n) (hn:22≤n) (he:x.e+1<4294967296):
  (x.tick.2=0∧x.tick.1.Up n∧x.tick.1.h=x.h.tick∧x.tick.1.e≤x.e+1∧(x.d.fuse=-1→x.tick.1.d.fuse=-1)) ∨
  (x.tick.2=9∧x.tick.1.Fell n∧x.tick.1.h=x.h∧x.tick.1.e=x.e∧x.d.fuse≠-1∧x.tick.1.tick=(x.tick.1,9)):=by
 have hti:=hx.inv.tick;unfold House.tick at hti
 by_cases hg:x.h.goals=[]
 ·rw [if_pos hg] at hti
  cases ht:turnOf x.h.b x.h.n x.h.p with
  | mk l o=>
   rw [ht] at hti
   cases o with
   | none=>
    have e:x.tick=({ x with h:=x.h.go l },0):=by unfold HD.tick;rw [if_pos hg,ht]
    have e2:x.h.tick=x.h.go l:=by unfold House.tick;rw [if_pos hg,ht]
    rw [e,e2];exact Or.inl ⟨rfl,⟨hti,hx.calm,hx.holds⟩,rfl,Nat.le_succ _,id⟩
   | some b=>
    have e:x.tick=x.keep b:=by unfold HD.tick;rw [if_pos hg,ht]
    have e2:x.h.tick={ x.h with b:=b }:=by unfold House.tick;rw [if_pos hg,ht]
    rw [e,e2]
    rcases keep_up hx hn he hti (inv2_nil hti) with ⟨k1,k2,k3,k4,k5⟩|⟨k1,k2,k3,k4,k5⟩
    ·exact Or.inl ⟨k1,k2,k3,by omega,k5⟩
    ·refine Or.inr ⟨k1,k2,k3,k4,k5,?_⟩
     generalize hy:(x.keep b).1=y at *
     have:y.tick=y.keep b:=by
      unfold HD.tick;rw [k3,if_pos hg,ht]
     rw [this];unfold HD.keep;rw [keep_down k2.down (by rw [k2.wf.now];exact hn) _ _ (text_ne b),if_neg (show ¬ (9:Int)=0 by decide)]
 ·rw [if_neg hg] at hti
  have e:x.tick=({ x with h:=x.h.go x.h.goals },0):=by unfold HD.tick;rw [if_neg hg]
  have e2:x.h.tick=x.h.go x.h.goals:=by unfold House.tick;rw [if_neg hg]
  rw [e,e2];exact Or.inl ⟨rfl,⟨hti,hx.calm,hx.holds⟩,rfl,Nat.le_succ _,id⟩
theorem HD.stays_fell {y:HD} (h:y.tick=(y,9)):∀ k,HD.ticks k y=y
 | 0=>rfl
 | k+1=>by
  show HD.ticks k y.tick.1=y;rw [h];exact stays_fell h k
theorem HD.ticks_up {n:Nat} (hn:22≤n):∀ (k:Nat) (x:HD),x.Up n→x.e+k+1<4294967296 →
  ((HD.ticks k x).Up n∧(HD.ticks k x).h=House.ticks k x.h∧(HD.ticks k x).e≤x.e+k∧(x.d.fuse=-1→(HD.ticks k x).d.fuse=-1)) ∨
  ((HD.ticks k x).Fell n∧(HD.ticks k x).e≤x.e+k∧x.d.fuse≠-1∧(HD.ticks k x).h.sizes=x.h.sizes)
 | 0,x,hx,_=>Or.inl ⟨hx,rfl,Nat.le_refl _,id⟩
 | k + 1,x,hx,he=>by
  rcases HD.tick_up hx hn (by omega) with ⟨a1,a2,a3,a4,a5⟩|⟨a1,a2,a3,a4,a5,a6⟩
  ·have hs:x.tick.1.h.sizes=x.h.sizes:=by rw [a3];unfold House.tick;split;(split <;> rfl);rfl
   rcases HD.ticks_up hn k x.tick.1 a2 (by omega) with ⟨b1,b2,b3,b4⟩|⟨b1,b2,b3,b4⟩
   ·refine Or.inl ⟨b1,?_,?_,fun hf=>b4 (a5 hf)⟩
    ·show (HD.ticks k x.tick.1).h=House.ticks k x.h.tick
     rw [b2,a3]
    ·show (HD.ticks k x.tick.1).e≤x.e+(k+1)
     omega
   ·refine Or.inr ⟨b1,?_,fun hf=>b3 (a5 hf),b4.trans hs⟩
    show (HD.ticks k x.tick.1).e≤x.e+(k+1)
    omega
  ·refine Or.inr ?_
   show (HD.ticks k x.tick.1).Fell n∧(HD.ticks k x.tick.1).e≤x.e+(k+1)∧_∧(HD.ticks k x.tick.1).h.sizes=_;rw [HD.stays_fell a6 k];exact ⟨a2,by omega,a5,by rw [a3]⟩
theorem HD.park_up {x:HD} {n:Nat} (hx:x.Up n) (hn:22≤n) (he:x.e+1<4294967296) (c:Car):
  ((x.park c).1.Up n∧(x.park c).1.h=(x.h.park c).1∧(x.park c).2=(x.h.park c).2∧(x.park c).1.e≤x.e+1∧(x.d.fuse=-1→(x.park c).1.d.fuse=-1)) ∨
  ((x.park c).1.Fell n∧(x.park c).2=(0,9)∧(x.park c).1.h=x.h∧(x.park c).1.e=x.e∧x.d.fuse≠-1):=by
 have hi:=hx.inv.park c;have hlen:=levels_len hx.inv.inv.lv
 unfold House.park at hi ⊢
 unfold HD.park
 by_cases hb:x.h.p.bay≠c.id
 ·rw [if_pos hb,if_pos hb]
  exact Or.inl ⟨hx,rfl,rfl,Nat.le_succ _,id⟩
 ·rw [if_neg hb] at hi
  rw [if_neg hb,if_neg hb]
  cases hp:Ch.park x.h.b x.h.sizes c with
  | error e=>exact Or.inl ⟨hx,rfl,rfl,Nat.le_succ _,id⟩
  | ok r=>
   obtain ⟨b,k⟩:=r;rw [hp] at hi
   dsimp only at hi ⊢
   rcases keep_up hx hn he hi (inv2_nil hi) with ⟨k1,k2,k3,k4,k5⟩|⟨k1,k2,k3,k4,k5⟩
   ·rw [if_pos k1]
    exact Or.inl ⟨k2,k3,rfl,by dsimp only;omega,k5⟩
   ·rw [if_neg (by omega)]
    exact Or.inr ⟨k2,by dsimp only;rw [k1],k3,k4,k5⟩
theorem HD.want_up {x:HD} {n:Nat} (hx:x.Up n) (hn:22≤n) (he:x.e+1<4294967296) (t:Int):
  ((x.want t).1.Up n∧(x.want t).1.h=(x.h.want t).1∧(x.want t).2=(x.h.want t).2∧(x.want t).1.e≤x.e+1∧(x.d.fuse=-1→(x.want t).1.d.fuse=-1)) ∨
  ((x.want t).1.Fell n∧(x.want t).2=9∧(x.want t).1.h=x.h∧(x.want t).1.e=x.e∧x.d.fuse≠-1):=by
 have hi:=hx.inv.want t
 unfold House.want at hi ⊢
 unfold HD.want
 cases hw:Ch.want x.h.b t with
 | error e=>exact Or.inl ⟨hx,rfl,rfl,Nat.le_succ _,id⟩
 | ok b=>
  rw [hw] at hi
  dsimp only at hi ⊢
  rcases keep_up hx hn he hi (inv2_nil hi) with ⟨k1,k2,k3,k4,k5⟩|⟨k1,k2,k3,k4,k5⟩
  ·exact Or.inl ⟨k2,k3,k1,by omega,k5⟩
  ·exact Or.inr ⟨k2,k1,k3,k4,k5⟩
theorem HD.play_up {x:HD} {n:Nat} (hx:x.Up n) (hn:22≤n) (he:x.e+62<4294967296) (a:Act) (ho:a.kind≠kOpen):
  ((x.play a).Up n∧(x.play a).h=x.h.play a∧(x.play a).e≤x.e+60∧(x.d.fuse=-1→(x.play a).d.fuse=-1))∨((x.play a).Fell n∧(x.play a).e≤x.e+60∧x.d.fuse≠-1∧(x.play a).h.sizes=x.h.sizes):=by
 have hi:=hx.inv.play a
 unfold House.play at hi ⊢
 unfold HD.play
 by_cases h1:a.kind=kPark
 ·rw [if_pos h1,if_pos h1]
  rcases HD.park_up hx hn (by omega) a.car with ⟨b1,b2,b3,b4,b5⟩|⟨b1,b2,b3,b4,b5⟩
  ·exact Or.inl ⟨b1,b2,by omega,b5⟩
  ·exact Or.inr ⟨b1,by omega,b5,by rw [b3]⟩
 rw [if_neg h1,if_neg h1];rw [if_neg h1] at hi
 by_cases h2:a.kind=kWant
 ·rw [if_pos h2,if_pos h2]
  rcases HD.want_up hx hn (by omega) a.a with ⟨b1,b2,b3,b4,b5⟩|⟨b1,b2,b3,b4,b5⟩
  ·exact Or.inl ⟨b1,b2,by omega,b5⟩
  ·exact Or.inr ⟨b1,by omega,b5,by rw [b3]⟩
 rw [if_neg h2,if_neg h2,if_neg ho];rw [if_neg h2,if_neg ho] at hi
 by_cases h3:a.kind=kWalk∨a.kind=kArrive∨a.kind=kLeave∨a.kind=kStall
 ·rw [if_pos h3,if_pos h3]
  rw [if_pos h3] at hi;exact Or.inl ⟨⟨hi,hx.calm,hx.holds⟩,rfl,by dsimp only;omega,id⟩
 ·rw [if_neg h3,if_neg h3]
  rcases HD.ticks_up hn (min a.a 60).toNat x hx (by omega) with ⟨b1,b2,b3,b4⟩|⟨b1,b2,b3,b4⟩
  ·exact Or.inl ⟨b1,b2,by omega,b4⟩
  ·exact Or.inr ⟨b1,by omega,b3,b4⟩
theorem HD.again {x:HD} {n:Nat} (hx:x.Up n∨x.Fell n) (keep:Nat):
  ∃ e b,e≤x.e+1∧(x.d.restart keep).Calm n∧(x.d.restart keep).fuse=-1∧Holds (x.d.restart keep).now x.h.n e b∧House.Inv2 { x.h with b:=b,goals:=[] }:=by
 have cal:x.d.WF n→(x.d.restart keep).Calm n:=fun h=>⟨h.restart keep,rfl,rfl,rfl⟩
 rcases hx with hx|hx
 ·refine ⟨x.e,x.h.b,Nat.le_succ _,cal hx.calm.wf,rfl,?_,inv2_nil hx.inv⟩
  have:(x.d.restart keep).now=x.d.now:=by
   show keptOf keep 0 x.d.wait x.d.kept=_;rw [hx.calm.none,←hx.calm.all];rfl
  rw [this];exact hx.holds
 ·obtain ⟨b',h1,h2⟩:=hx.holds
  rcases h2 keep with h|h
  ·exact ⟨x.e,x.h.b,Nat.le_succ _,cal hx.wf,rfl,h,inv2_nil hx.inv⟩
  ·exact ⟨x.e+1,b',Nat.le_refl _,cal hx.wf,rfl,h,h1⟩
end Ch.Live
namespace Go.Proofs.YtplomeacjbkgnadGreatDoor
open Go.RowKit
abbrev houseCells (la:Option Addr) (ln lc pb lb:Nat) (ga:Option Addr) (gn gc:Nat):Array Value:=#[.slice la ln lc,.pointer (some ⟨pb,0,none⟩),.pointer (some ⟨lb,0,none⟩),.slice ga gn gc]
def HB (Y:Nat→Prop) (pb mb hb:Nat):Nat→Prop:=fun k=>Y k∨k=pb∨k=mb∨k=hb
structure HS (Y Z:Nat→Prop) (pb mb db lb hb n:Nat) (la:Option Addr) (ln lc:Nat) (ga:Option Addr) (gn gc:Nat) (x:Ch.Live.HD) (w:World):Prop where
 pl:PlantAt w pb mb x.h.p
 led:LN Y db lb n x.h.n x.e x.h.b x.d w
 blk:w.heap[hb]? = some (.cells (houseCells la ln lc pb lb ga gn gc) 83 (0,0))
 lv:Sl w 3 sizeCells x.h.sizes la ln lc
 go:Sl w 2 goalCells x.h.goals ga gn gc
 yp:¬ Y pb
 ym:¬ Y mb
 yh:¬ Y hb
 hp:hb≠pb
 hm:hb≠mb
 far1:0<ln→∀ b o,la=some ⟨b,o,none⟩→¬ HB Y pb mb hb b∧Z b
 far2:0<gn→∀ b o,ga=some ⟨b,o,none⟩→¬ HB Y pb mb hb b∧Z b
section
variable {Y Z:Nat→Prop} {pb mb db lb hb n:Nat} {la:Option Addr} {ln lc:Nat} {ga:Option Addr} {gn gc:Nat} {x:Ch.Live.HD} {w w':World}
theorem HS.ext (h:HS Y Z pb mb db lb hb n la ln lc ga gn gc x w) (e:Ext w w'):HS Y Z pb mb db lb hb n la ln lc ga gn gc x w':=
 ⟨h.pl.ext e,h.led.ext e,(e.below.block hb (blk_lt h.blk)).trans h.blk,Sl.below h.lv e.below,Sl.below h.go e.below,h.yp,h.ym,h.yh,h.hp,h.hm,h.far1,h.far2⟩
theorem HS.lt (h:HS Y Z pb mb db lb hb n la ln lc ga gn gc x w):hb<w.heap.size:=blk_lt h.blk
theorem HS.cells (h:HS Y Z pb mb db lb hb n la ln lc ga gn gc x w):
  w.cell? ⟨hb,0,none⟩=some (.slice la ln lc)∧w.cell? ⟨hb,1,none⟩=some (.pointer (some ⟨pb,0,none⟩))∧w.cell? ⟨hb,2,none⟩=some (.pointer (some ⟨lb,0,none⟩))∧w.cell? ⟨hb,3,none⟩=some (.slice ga gn gc)∧∀ i,w.frozen? ⟨hb,i,none⟩=false:=
 ⟨blk_cell h.blk rfl,blk_cell h.blk rfl,blk_cell h.blk rfl,blk_cell h.blk rfl,blk_free h.blk⟩
theorem HS.lt1 (h:HS Y Z pb mb db lb hb n la ln lc ga gn gc x w):0<ln→∀ b o,la=some ⟨b,o,none⟩→b<w.heap.size:=fun h0 b o e=>by
 subst e;obtain ⟨b',o',s,e',_,f⟩:=h.lv.get h0;cases e';exact cell_lt (f 0 _ rfl)
theorem HS.lt2 (h:HS Y Z pb mb db lb hb n la ln lc ga gn gc x w):0<gn→∀ b o,ga=some ⟨b,o,none⟩→b<w.heap.size:=fun h0 b o e=>by
 subst e;obtain ⟨b',o',s,e',_,f⟩:=h.go.get h0;cases e';exact cell_lt (f 0 _ rfl)
theorem HS.zed {Z':Nat→Prop} (h:HS Y Z pb mb db lb hb n la ln lc ga gn gc x w) (hz:∀ k,k<w.heap.size→Z k→Z' k):HS Y Z' pb mb db lb hb n la ln lc ga gn gc x w:=
 ⟨h.pl,h.led,h.blk,h.lv,h.go,h.yp,h.ym,h.yh,h.hp,h.hm,fun h0 b o e=>⟨(h.far1 h0 b o e).1,hz b (h.lt1 h0 b o e) (h.far1 h0 b o e).2⟩,fun h0 b o e=>⟨(h.far2 h0 b o e).1,hz b (h.lt2 h0 b o e) (h.far2 h0 b o e).2⟩⟩
theorem HS.move {Y':Nat→Prop} (h:HS Y Z pb mb db lb hb n la ln lc ga gn gc x w) (hy:∀ k,k<w.heap.size→(Y' k↔Y k)):HS Y' Z pb mb db lb hb n la ln lc ga gn gc x w:=by
 have hb':∀ b,b<w.heap.size→¬ HB Y pb mb hb b→¬ HB Y' pb mb hb b:=fun b hlt hn hh=>hn (by
  rcases hh with hh|hh
  ·exact Or.inl ((hy b hlt).1 hh)
  ·exact Or.inr hh)
 have lt1:=h.lt1;have lt2:=h.lt2
 exact ⟨h.pl,h.led.move (fun k hk hz=>(hy k hk).2 hz),h.blk,h.lv,h.go,fun hh=>h.yp ((hy pb h.pl.lt.1).1 hh),fun hh=>h.ym ((hy mb h.pl.lt.2).1 hh),fun hh=>h.yh ((hy hb h.lt).1 hh),h.hp,h.hm,
  fun h0 b o e=>⟨hb' b (lt1 h0 b o e) (h.far1 h0 b o e).1,(h.far1 h0 b o e).2⟩,fun h0 b o e=>⟨hb' b (lt2 h0 b o e) (h.far2 h0 b o e).1,(h.far2 h0 b o e).2⟩⟩
theorem HS.plant {p':Ch.Plant} (h:HS Y Z pb mb db lb hb n la ln lc ga gn gc x w) (k:Kept (Own pb mb) w w') (hp:PlantAt w' pb mb p'):HS Y Z pb mb db lb hb n la ln lc ga gn gc { x with h:={ x.h with p:=p' } } w':=by
 have hs:∀ i,Own pb mb i→¬ Y i:=fun i hi hy=>by
  rcases hi with rfl|rfl
  ·exact h.yp hy
  ·exact h.ym hy
 have ho:∀ b,¬ HB Y pb mb hb b→¬ Own pb mb b:=fun b hn hh=>hn (by
  rcases hh with hh|hh
  ·exact Or.inr (Or.inl hh)
  ·exact Or.inr (Or.inr (Or.inl hh)))
 exact ⟨hp,h.led.kept k hs,(k.block hb h.lt (fun e=>by rcases e with e|e;exact h.hp e;exact h.hm e)).trans h.blk,h.lv.keptS k (fun h0 b o e=>ho b (h.far1 h0 b o e).1),h.go.keptS k (fun h0 b o e=>ho b (h.far2 h0 b o e).1),h.yp,h.ym,h.yh,h.hp,h.hm,h.far1,h.far2⟩
theorem HS.ledger {b':Ch.Book} {e':Nat} {d':Ch.Disk} (h:HS Y Z pb mb db lb hb n la ln lc ga gn gc x w) (k:Kept Y w w') (hl:LN Y db lb n x.h.n e' b' d' w'):HS Y Z pb mb db lb hb n la ln lc ga gn gc ⟨{ x.h with b:=b' },e',d'⟩ w':=by
 have hy:∀ b,¬ HB Y pb mb hb b→¬ Y b:=fun b hn hh=>hn (Or.inl hh)
 exact ⟨h.pl.same (k.block pb h.pl.lt.1 h.yp) (k.block mb h.pl.lt.2 h.ym),hl,(k.block hb h.lt h.yh).trans h.blk,h.lv.keptS k (fun h0 b o e=>hy b (h.far1 h0 b o e).1),h.go.keptS k (fun h0 b o e=>hy b (h.far2 h0 b o e).1),h.yp,h.ym,h.yh,h.hp,h.hm,h.far1,h.far2⟩
theorem HS.apart {S:Nat→Prop} (h:HS Y Z pb mb db lb hb n la ln lc ga gn gc x w) (k:Kept S w w') (hz:∀ k,HB Y pb mb hb k→Z k) (hs:∀ i,S i→¬ Z i):HS Y Z pb mb db lb hb n la ln lc ga gn gc x w':=by
 have ho:∀ b,Z b→¬ S b:=fun b hb hh=>hs b hh hb
 exact ⟨h.pl.same (k.block pb h.pl.lt.1 (ho pb (hz pb (Or.inr (Or.inl rfl))))) (k.block mb h.pl.lt.2 (ho mb (hz mb (Or.inr (Or.inr (Or.inl rfl)))))),h.led.kept k (fun i hi hy=>hs i hi (hz i (Or.inl hy))),(k.block hb h.lt (ho hb (hz hb (Or.inr (Or.inr (Or.inr rfl)))))).trans h.blk,h.lv.keptS k (fun h0 b o e=>ho b (h.far1 h0 b o e).2),h.go.keptS k (fun h0 b o e=>ho b (h.far2 h0 b o e).2),h.yp,h.ym,h.yh,h.hp,h.hm,h.far1,h.far2⟩
theorem HS.goals {ga':Option Addr} {gn' gc':Nat} {l:List Ch.Goal} (h:HS Y Z pb mb db lb hb n la ln lc ga gn gc x w) (hg:Sl w 2 goalCells l ga' gn' gc') (hf:0<gn'→∀ b o,ga'=some ⟨b,o,none⟩→¬ HB Y pb mb hb b∧Z b):
  HS Y Z pb mb db lb hb n la ln lc ga' gn' gc' { x with h:={ x.h with goals:=l } } (w.setCell ⟨hb,3,none⟩ (.slice ga' gn' gc'))∧Kept (Is hb) w (w.setCell ⟨hb,3,none⟩ (.slice ga' gn' gc')):=by
 have k:Kept (Is hb) w (w.setCell ⟨hb,3,none⟩ (.slice ga' gn' gc')):=(Kept.refl (Is hb) w).setCell (a:=⟨hb,3,none⟩) (Or.inl rfl) _
 have hs:∀ i,Is hb i→¬ Y i:=fun i hi hy=>by cases hi;exact h.yh hy
 have ho:∀ b,¬ HB Y pb mb hb b→¬ Is hb b:=fun b hn hh=>hn (Or.inr (Or.inr (Or.inr hh)))
 refine ⟨⟨h.pl.same (k.block pb h.pl.lt.1 (fun e=>h.hp e.symm)) (k.block mb h.pl.lt.2 (fun e=>h.hm e.symm)),h.led.kept k hs,?_,h.lv.keptS k (fun h0 b o e=>ho b (h.far1 h0 b o e).1),hg.keptS k (fun h0 b o e=>ho b (hf h0 b o e).1),h.yp,h.ym,h.yh,h.hp,h.hm,h.far1,hf⟩,k⟩;rw [setCell_block h.blk];rfl
end
def HN (Z:Nat→Prop) (pb mb db lb hb n:Nat) (x:Ch.Live.HD) (w:World):Prop:=
 ∃ Y la ln lc ga gn gc,HS Y Z pb mb db lb hb n la ln lc ga gn gc x w∧(∀ k,HB Y pb mb hb k→Z k)
theorem HN.ext {Z:Nat→Prop} {pb mb db lb hb n:Nat} {x:Ch.Live.HD} {w w':World} (h:HN Z pb mb db lb hb n x w) (e:Ext w w'):HN Z pb mb db lb hb n x w':=by
 obtain ⟨Y,la,ln,lc,ga,gn,gc,hs,hz⟩:=h;exact ⟨Y,la,ln,lc,ga,gn,gc,hs.ext e,hz⟩
theorem HN.plantAt {Z:Nat→Prop} {pb mb db lb hb n:Nat} {x:Ch.Live.HD} {w:World} (h:HN Z pb mb db lb hb n x w):PlantAt w pb mb x.h.p:=by
 obtain ⟨Y,la,ln,lc,ga,gn,gc,hs,hz⟩:=h;exact hs.pl
theorem HN.own {Z:Nat→Prop} {pb mb db lb hb n:Nat} {x:Ch.Live.HD} {w:World} (h:HN Z pb mb db lb hb n x w):∀ k,Own pb mb k→Z k:=by
 obtain ⟨Y,la,ln,lc,ga,gn,gc,hs,hz⟩:=h;intro k hk
 rcases hk with rfl|rfl
 ·exact hz _ (Or.inr (Or.inl rfl))
 ·exact hz _ (Or.inr (Or.inr (Or.inl rfl)))
theorem HN.plant {Z:Nat→Prop} {pb mb db lb hb n:Nat} {x:Ch.Live.HD} {w w':World} {p':Ch.Plant} (h:HN Z pb mb db lb hb n x w) (k:Kept (Own pb mb) w w') (hp:PlantAt w' pb mb p'):
  HN Z pb mb db lb hb n { x with h:={ x.h with p:=p' } } w'∧Kept Z w w':=by
 have ho:=h.own;obtain ⟨Y,la,ln,lc,ga,gn,gc,hs,hz⟩:=h;exact ⟨⟨Y,la,ln,lc,ga,gn,gc,hs.plant k hp,hz⟩,⟨k.os,k.tape,k.output,k.size,fun i hi hn=>k.block i hi (fun e=>hn (ho i e))⟩⟩
theorem HN.open_ {Z:Nat→Prop} {pb mb db lb hb n:Nat} {x:Ch.Live.HD} {w:World} (h:HN Z pb mb db lb hb n x w) (hZ:∀ k,w.heap.size≤k→Z k):
  ∃ Y la ln lc ga gn gc,HS Y Z pb mb db lb hb n la ln lc ga gn gc x w∧(∀ k,HB Y pb mb hb k→Z k)∧(∀ k,Y k→k<w.heap.size):=by
 obtain ⟨Y,la,ln,lc,ga,gn,gc,hs,hz⟩:=h;refine ⟨fun k=>Y k∧k<w.heap.size,la,ln,lc,ga,gn,gc,hs.move (fun k hk=>⟨fun h=>h.1,fun h=>⟨h,hk⟩⟩),fun k hk=>hz k ?_,fun k hk=>hk.2⟩
 rcases hk with hk|hk
 ·exact Or.inl hk.1
 ·exact Or.inr hk
end Go.Proofs.YtplomeacjbkgnadGreatDoor
