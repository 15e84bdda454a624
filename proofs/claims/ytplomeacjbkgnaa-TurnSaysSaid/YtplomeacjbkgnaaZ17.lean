import Derived.Test.YtplomeacjbkgnaaZ16
set_option linter.all false
set_option maxRecDepth 100000
set_option maxHeartbeats 16000000
namespace Ch
/-! ### turn -/
def Book.stay (b:Book) (t:Int):Stay:=(b.find t).getD default
def firstJob (b:Book) (bay:Int):Option Job:=
 match b.jobs.find? (fun j=>!j.fetch&&(b.stay j.ticket).car.id==bay) with
 | some j=>some j
 | none=>b.jobs.head?
def blocks (b:Book) (p:Plant) (x:Stay) (j:Job):Bool:=
 j.fetch&&(b.stay j.ticket).home.depth==1&&front (b.stay j.ticket).home==x.home&&p.slots (b.stay j.ticket).home==(b.stay j.ticket).car.id
def loaded (b:Book) (levels:Int) (p:Plant):List Goal:=
 match b.of p.lift with
 | none=>giveOut
 | some x=>
  match firstJob b p.bay with
  | some j=>
   if j.fetch&&j.ticket==x.ticket&&p.bay==0 then giveOut
   else if (x.home.depth==1&&p.slots (front x.home) != 0) || blocks b p x j then bring (spare levels)
   else bring x.home
  | none=>if x.home.depth==1&&p.slots (front x.home) != 0 then bring (spare levels) else bring x.home
def storeOf (p:Plant) (x:Stay):List Goal×Option Bool:=
 if p.slots x.home=x.car.id then ([],some false)
 else if p.bay=x.car.id then (takeIn,none)
 else if p.has x.car.id then ([],none) else ([],some true)
def fetchOf (p:Plant) (x:Stay):List Goal×Bool:=
 if p.bay=x.car.id∨p.has x.car.id=false then ([],true)
 else if p.bay≠0∧p.door=true then ([],false)
 else if p.bay≠0 then (welcome,false)
 else if p.door=true then ([⟨5,0⟩],false)
 else match p.where_ x.car.id with
  | some y=>if y.depth=1∧p.slots (front y)≠0 then (fetch (front y),false) else (fetch y,false)
  | none=>([],false)
def jobOf (b:Book) (p:Plant) (j:Job):List Goal×Option Book:=
 if j.fetch then
  if (fetchOf p (b.stay j.ticket)).2 then ([],some (doneWith b j false)) else ((fetchOf p (b.stay j.ticket)).1,none)
 else
  match (storeOf p (b.stay j.ticket)).2 with
  | some g=>([],some (doneWith b j g))
  | none=>((storeOf p (b.stay j.ticket)).1,none)
def turnOf (b:Book) (levels:Int) (p:Plant):List Goal×Option Book:=
 if p.lift≠0 then (loaded b levels p,none)
 else
  let j:=firstJob b p.bay
  if p.slots (spare levels)≠0∧¬ (∃ y∈j,∃ x∈b.of (p.slots (spare levels)),blocks b p x y=true) then (fetch (spare levels),none)
  else match j with
   | some j=>jobOf b p j
   | none=>if p.door then ([],none) else (welcome,none)
/-! ### house -/
structure House where
 sizes:List Size
 p:Plant
 b:Book
 goals:List Goal
def House.n (h:House):Int:=h.sizes.length
def House.new (sizes:List Size):House:=⟨sizes,Plant.new sizes.length,⟨0,[],[]⟩,[]⟩
/-! ### what stays true -/
def Bringing (b:Book) (levels:Int) (p:Plant) (l:List Goal):Prop:=
 ∃ x s,s∈b.stays∧s.car.id=p.lift∧(x=s.home∨x=spare levels)∧l <:+ bring x∧(l=[⟨4,0⟩,⟨2,0⟩]→p.height=x.level * 3∧p.ext=extOf x)∧(l=[⟨2,extOf x⟩,⟨4,0⟩,⟨2,0⟩]→p.height=x.level * 3)
def Plain (l:List Goal):Prop:=∀ g∈l,g.kind≠4
structure House.Inv (h:House):Prop where
 lv:levelsFault h.sizes=0
 ln:h.p.levels=h.n
 safe:h.p.Safe
 book:h.b.OK h.n
 nodup:h.p.cars.Nodup
 slots:∀ x,h.p.slots x≠0→∃ s∈h.b.stays,s.car.id=h.p.slots x∧(x=s.home∨x=spare h.n)
 fit:∀ s∈h.b.stays,fits s.car.size (h.sizes.getD (s.home.level - 1).toNat default)=true
 goals:Plain h.goals∨Bringing h.b h.n h.p h.goals
structure Core (n:Int) (b:Book) (p:Plant):Prop where
 ln:p.levels=n
 safe:p.Safe
 book:b.OK n
 nodup:p.cars.Nodup
 slots:∀ x,p.slots x≠0→∃ s∈b.stays,s.car.id=p.slots x∧(x=s.home∨x=spare n)
 B:∀ x∈b.stays,∀ z∈b.stays,x.home.depth=1→z.home=front x.home→¬ (⟨x.ticket,false⟩:Job)∈b.jobs
 C:∀ x∈b.stays,¬ (⟨x.ticket,false⟩:Job)∈b.jobs→(∃ y,p.slots y=x.car.id)∨p.lift=x.car.id∨b.jobs.head? = some ⟨x.ticket,true⟩
 D:∀ x∈b.stays,p.slots (spare n)=x.car.id→x.home.depth=0
 E:∀ x∈b.stays,p.lift=x.car.id→x.home.depth=1→(⟨x.ticket,false⟩:Job)∈b.jobs∨(b.jobs.head? = some ⟨x.ticket,true⟩∧p.bay=0)
 F:p.lift≠0→p.slots (spare n)≠0→p.bay=0∧∃ x∈b.stays,p.lift=x.car.id∧b.jobs.head? = some ⟨x.ticket,true⟩
 U:p.lift≠0→(∀ x∈b.stays,x.car.id≠p.lift)→p.bay=0
 G:b.jobs.Pairwise fun a c=>¬ (a.ticket=c.ticket∧a.fetch=true∧c.fetch=false)
 H:p.lift≠0→p.door=false
 R:p.ext=2∨p.ext=-2→p.lift≠0→p.full (p.ext / 2)=false
structure Fetching (n:Int) (b:Book) (p:Plant) (y:Place):Prop where
 ok:placeFault y n=0
 car:p.slots y≠0
 free:y.depth=1→p.slots (front y)=0
 spare:p.slots (spare n)≠0→y=Ch.spare n∨(p.bay=0∧p.door=false∧∀ x∈b.stays,p.slots y=x.car.id→b.jobs.head? = some ⟨x.ticket,true⟩)
 deep:∀ x∈b.stays,p.slots y=x.car.id→x.home.depth=1→b.jobs.head? = some ⟨x.ticket,true⟩∧p.bay=0∧p.door=false
structure Bringing' (n:Int) (b:Book) (p:Plant) (x:Place):Prop where
 ok:placeFault x n=0
 car:p.slots x=0
 free:x.depth=1→p.slots (front x)=0
 stay:∃ s∈b.stays,s.car.id=p.lift∧(x=s.home∨(x=spare n∧s.home.depth=0))
def Track (p:Plant) (x:Place) (k:Int) (l:List Goal):Prop:=
 (l=[⟨k,0⟩,⟨2,0⟩]→p.height=x.level * 3∧p.ext=extOf x)∧(l=[⟨2,extOf x⟩,⟨k,0⟩,⟨2,0⟩]→p.height=x.level * 3)
inductive GoalsOK (n:Int) (b:Book) (p:Plant):List Goal→Prop
 | nil:GoalsOK n b p []
 | back:GoalsOK n b p [⟨2,0⟩]
 | shut:GoalsOK n b p [⟨5,0⟩]
 | welcome (l:List Goal):l <:+ welcome→p.lift=0→GoalsOK n b p l
 | takeIn (l:List Goal):l <:+ takeIn→(p.lift=0→p.slots (spare n)=0)→GoalsOK n b p l
 | giveOut (l:List Goal):l≠[]→l <:+ ahead 0++[⟨8,0⟩]→(∀ x∈b.stays,p.lift=x.car.id→b.jobs.head? = some ⟨x.ticket,true⟩)→GoalsOK n b p (l++[⟨6,0⟩])
 | fetch (l:List Goal) (y:Place):l <:+ fetch y→(p.lift=0→Fetching n b p y)→Track p y 3 l→GoalsOK n b p l
 | bring (l:List Goal) (x:Place):l <:+ bring x→(p.lift≠0→Bringing' n b p x)→Track p x 4 l→GoalsOK n b p l
/-! ### numbers of cars -/
/-! ### what is done to a machine -/
theorem Core.id_pos {n:Int} {b:Book} {p:Plant} (h:Core n b p) {s:Stay} (hs:s∈b.stays):1≤s.car.id:=by
 have:=(h.book.stays.1 s hs).1;unfold carFault at this
 split at this
 ·cases this
 ·omega
theorem Core.place {n:Int} {b:Book} {p:Plant} (h:Core n b p) {s:Stay} (hs:s∈b.stays):placeFault s.home n=0∧s.home≠spare n:=by
 have hk:=h.book.stays.1 s hs;refine ⟨hk.2.1,?_⟩;have hm:=hk.2.2.2.2;have h1:=h.safe.wf.lv1;have h2:=h.safe.wf.lv2;rw [h.ln] at h1 h2
 have:n=1∨n=2∨n=3∨n=4:=by omega
 intro e;rw [e] at hm;revert hm
 rcases this with rfl|rfl|rfl|rfl <;> decide
theorem Core.move {n:Int} {b:Book} {p q:Plant} (h:Core n b p) (hs:q.Safe) (h1:q.levels=p.levels) (h2:q.lift=p.lift) (h3:q.bay=p.bay) (h4:q.slots=p.slots) (h5:p.lift≠0→q.door=false)
  (h6:q.ext=2∨q.ext=-2→q.lift≠0→q.full (q.ext / 2)=false):Core n b q where
 ln:=h1.trans h.ln
 safe:=hs
 book:=h.book
 nodup:=by
  have:q.cars=p.cars:=by unfold Plant.cars;rw [h2,h3,h4]
  rw [this];exact h.nodup
 slots:=by rw [h4];exact h.slots
 B:=h.B
 C:=by rw [h4,h2];exact h.C
 D:=by rw [h4];exact h.D
 E:=by rw [h2,h3];exact h.E
 F:=by rw [h4,h2,h3];exact h.F
 U:=by rw [h2,h3];exact h.U
 G:=h.G
 H:=by rw [h2];exact h5
 R:=h6
theorem may_103 {p:Plant} (hm:may 103 p.sense=true):p.lift=0∧0<p.height∧p.height % 3=0:=by
 unfold may at hm;simp only [Int.reduceEq,if_false,or_self,if_true,Bool.and_eq_true,beq_iff_eq] at hm;have:=level_sense.1 hm.1.1.1;exact ⟨hm.1.2,this⟩
theorem may_112 {p:Plant} (hm:may 112 p.sense=true):p.lift≠0∧0<p.height∧p.height % 3=0∧p.full p.ext=false:=by
 unfold may at hm;simp only [Int.reduceEq,if_false,or_self,if_true,Bool.and_eq_true,bne_iff_ne,Bool.not_eq_true'] at hm;have:=level_sense.1 hm.1.1.1;exact ⟨hm.1.2,this.1,this.2,hm.2⟩
theorem Core.grab {n:Int} {b:Book} {p:Plant} (h:Core n b p) {y:Place} (hm:may 103 p.sense=true) (hy:p.place p.ext=some y) (hf:Fetching n b p y):
  Core n b (p.act 103):=by
 obtain ⟨m1,m2,m3⟩:=may_103 hm;have hs:=h.safe.act 103 hm
 have hnd:(p.act 103).cars.Nodup:=by
  rw [nodup_count];intro v;rw [act_cars h.safe.wf];exact nodup_count.1 h.nodup v
 have hdoor:p.door=false:=by
  cases hd:p.door
  ·rfl
  ·have:=h.safe.door hd;omega
 have key:=Plant.place_some hy;rw [act_grab hy m1 hf.car] at *
 have hother:∀ x,x≠y→setSlot p.slots y 0 x=p.slots x:=fun x hx=>setSlot_other _ _ hx
 have hnz:∀ x,setSlot p.slots y 0 x≠0→x≠y∧p.slots x≠0:=by
  intro x hx
  by_cases e:x=y
  ·subst e;rw [setSlot_get] at hx;exact absurd rfl hx
  ·rw [hother x e] at hx;exact ⟨e,hx⟩
 have hid:∀ s∈b.stays,s.car.id≠0:=fun s hs=>by have:=h.id_pos hs;omega
 refine ⟨h.ln,hs,h.book,hnd,?_,h.B,?_,?_,?_,?_,?_,h.G,fun _=>hdoor,?_⟩
 ·intro x hx
  obtain ⟨e,hx'⟩:=hnz x hx;dsimp only;rw [hother x e];exact h.slots x hx'
 ·intro x hx hst
  rcases h.C x hx hst with ⟨z,hz⟩|hl|hj
  ·by_cases e:z=y
   ·right;left;dsimp only;rw [←e];exact hz
   ·left;exact ⟨z,by dsimp only;rw [hother z e];exact hz⟩
  ·rw [m1] at hl;exact absurd hl.symm (hid x hx)
  ·exact Or.inr (Or.inr hj)
 ·intro x hx hz
  dsimp only at hz;have:=hnz _ (by rw [hz];exact hid x hx);rw [hother _ this.1] at hz;exact h.D x hx hz
 ·intro x hx hl hd
  exact Or.inr ⟨(hf.deep x hx hl hd).1,(hf.deep x hx hl hd).2.1⟩
 ·intro _ hsp
  dsimp only at hsp ⊢
  obtain ⟨e,hsp'⟩:=hnz _ hsp
  rcases hf.spare hsp' with e'|⟨k1,k2,k3⟩
  ·exact absurd e'.symm e
  ·obtain ⟨s,hs1,hs2,_⟩:=h.slots y hf.car
   exact ⟨k1,s,hs1,hs2.symm,k3 s hs1 hs2.symm⟩
 ·intro _ hu
  obtain ⟨s,hs1,hs2,_⟩:=h.slots y hf.car;exact absurd hs2 (hu s hs1)
 ·intro he _
  dsimp only at he ⊢
  have hd1:y.depth=1:=by omega
  have e2:p.ext=extOf y:=by
   unfold extOf
   split <;> omega
  have hyl:placeFault y p.levels=0:=by rw [h.ln];exact hf.ok
  have hh:=ext_half hyl (by rw [←e2];omega);rw [show p.ext / 2=extOf (front y) by rw [e2];exact hh.1];rw [full_of (p:={ p with lift:=p.slots y,slots:=setSlot p.slots y 0 }) (x:=front y) (front_ok hyl) (by dsimp only [front];omega)];dsimp only;rw [hother _ (front_ne hd1),hf.free hd1];rfl
theorem Core.put {n:Int} {b:Book} {p:Plant} (h:Core n b p) {x:Place} (hm:may 112 p.sense=true) (hx:p.place p.ext=some x) (hf:Bringing' n b p x):
  Core n b (p.act 112):=by
 obtain ⟨m1,m2,m3,m4⟩:=may_112 hm;have hs:=h.safe.act 112 hm
 have hnd:(p.act 112).cars.Nodup:=by
  rw [nodup_count];intro v;rw [act_cars h.safe.wf];exact nodup_count.1 h.nodup v
 rw [act_put hx m1 hf.car] at *
 have hother:∀ y,y≠x→setSlot p.slots x p.lift y=p.slots y:=fun y hy=>setSlot_other _ _ hy
 obtain ⟨s,s1,s2,s3⟩:=hf.stay
 have hid:∀ s∈b.stays,s.car.id≠0:=fun s hs=>by have:=h.id_pos hs;omega
 refine ⟨h.ln,hs,h.book,hnd,?_,h.B,?_,?_,?_,?_,?_,h.G,?_,?_⟩
 ·intro y hy
  dsimp only at hy ⊢
  by_cases e:y=x
  ·subst e
   rw [setSlot_get];refine ⟨s,s1,s2,?_⟩
   rcases s3 with s3|s3
   ·exact Or.inl s3
   ·exact Or.inr s3.1
  ·rw [hother y e] at hy ⊢
   exact h.slots y hy
 ·intro z hz hst
  rcases h.C z hz hst with ⟨y,hy⟩|hl|hj
  ·left
   refine ⟨y,?_⟩;dsimp only;rw [hother y]
   ·exact hy
   ·rintro rfl
    rw [hf.car] at hy;exact hid z hz hy.symm
  ·left;exact ⟨x,by dsimp only;rw [setSlot_get];exact hl⟩
  ·exact Or.inr (Or.inr hj)
 ·intro z hz hsp
  dsimp only at hsp
  by_cases e:spare n=x
  ·rw [←e,setSlot_get] at hsp
   have:z=s:=id_inj h.book.stays hz s1 (by rw [s2];exact hsp.symm);subst this
   rcases s3 with s3|s3
   ·exact absurd (e.trans s3).symm (h.place s1).2
   ·exact s3.2
  ·rw [hother _ e] at hsp
   exact h.D z hz hsp
 ·intro z hz hl;exact absurd hl.symm (hid z hz)
 ·intro hl;exact absurd rfl hl
 ·intro hl;exact absurd rfl hl
 ·intro hl;exact absurd rfl hl
 ·intro _ hl;exact absurd rfl hl
structure Like (p q:Plant):Prop where
 lift:q.lift=p.lift
 bay:q.bay=p.bay
 slots:q.slots=p.slots
 door:p.door=false→q.door=false
theorem Fetching.like {n:Int} {b:Book} {p q:Plant} {y:Place} (h:Fetching n b p y) (e:Like p q):Fetching n b q y where
 ok:=h.ok
 car:=by rw [e.slots];exact h.car
 free:=by rw [e.slots];exact h.free
 spare:=by rw [e.slots,e.bay];exact fun hs=>(h.spare hs).imp id fun k=>⟨k.1,e.door k.2.1,k.2.2⟩
 deep:=by rw [e.slots,e.bay];exact fun x hx hs hd=>let k:=h.deep x hx hs hd;⟨k.1,k.2.1,e.door k.2.2⟩
theorem Bringing'.like {n:Int} {b:Book} {p q:Plant} {y:Place} (h:Bringing' n b p y) (e:Like p q):Bringing' n b q y where
 ok:=h.ok
 car:=by rw [e.slots];exact h.car
 free:=by rw [e.slots];exact h.free
 stay:=by rw [e.lift];exact h.stay
theorem GoalsOK.like {n:Int} {b:Book} {p q:Plant} {l:List Goal} (h:GoalsOK n b p l) (e:Like p q) (ht:∀ x k,Track p x k l→Track q x k l):GoalsOK n b q l:=by
 cases h with
 | nil=>exact .nil
 | back=>exact .back
 | shut=>exact .shut
 | welcome _ h1 h2=>exact .welcome _ h1 (by rw [e.lift];exact h2)
 | takeIn _ h1 h2=>exact .takeIn _ h1 (by rw [e.lift,e.slots];exact h2)
 | giveOut _ h0 h1 h2=>exact .giveOut _ h0 h1 (by rw [e.lift];exact h2)
 | fetch _ y h1 h2 h3=>exact .fetch _ y h1 (fun hl=>(h2 (by rw [←e.lift];exact hl)).like e) (ht y 3 h3)
 | bring _ y h1 h2 h3=>exact .bring _ y h1 (fun hl=>(h2 (by rw [←e.lift];exact hl)).like e) (ht y 4 h3)
structure House.Inv' (h:House):Prop where
 lv:levelsFault h.sizes=0
 core:Core h.n h.b h.p
 fit:∀ s∈h.b.stays,fits s.car.size (h.sizes.getD (s.home.level - 1).toNat default)=true
 goals:GoalsOK h.n h.b h.p h.goals
structure Grown (b c:Book):Prop where
 stays:∀ s∈b.stays,s∈c.stays
 head:∀ j,b.jobs.head? = some j→c.jobs.head? = some j
 jobs:∀ j∈b.jobs,j∈c.jobs
/-! ### from outside -/
theorem Core.walk {n:Int} {b:Book} {p:Plant} (h:Core n b p) (k:Int):Core n b (p.walk k).1:=by
 have hs:=h.safe.outside ⟨kWalk,k,0,default,⟨#[]⟩,0,⟨0,[],[]⟩⟩ (show kWalk≠kStep by decide);have e:p.outside ⟨kWalk,k,0,default,⟨#[]⟩,0,⟨0,[],[]⟩⟩=(p.walk k).1:=rfl;rw [e] at hs;clear e;unfold Plant.walk at *
 split
 ·exact h
 ·rename_i h1
  rw [if_neg h1] at hs
  split
  ·exact h
  ·rename_i h2
   rw [if_neg h2] at hs;exact h.move hs rfl rfl rfl rfl h.H h.R
theorem GoalsOK.walk {n:Int} {b:Book} {p:Plant} {l:List Goal} (h:GoalsOK n b p l) (k:Int):GoalsOK n b (p.walk k).1 l:=by
 unfold Plant.walk
 split
 ·exact h
 ·split
  ·exact h
  ·exact h.like ⟨rfl,rfl,rfl,id⟩ fun _ _ h=>h
theorem Core.stall {n:Int} {b:Book} {p:Plant} (h:Core n b p) (k:Int):Core n b (p.setStall k).1:=by
 have hs:=h.safe.outside ⟨kStall,k,0,default,⟨#[]⟩,0,⟨0,[],[]⟩⟩ (show kStall≠kStep by decide);have e:p.outside ⟨kStall,k,0,default,⟨#[]⟩,0,⟨0,[],[]⟩⟩=(p.setStall k).1:=rfl;rw [e] at hs;clear e;unfold Plant.setStall at *
 split
 ·exact h
 ·rename_i h1
  rw [if_neg h1] at hs;exact h.move hs rfl rfl rfl rfl h.H h.R
theorem GoalsOK.stall {n:Int} {b:Book} {p:Plant} {l:List Goal} (h:GoalsOK n b p l) (k:Int):GoalsOK n b (p.setStall k).1 l:=by
 unfold Plant.setStall
 split
 ·exact h
 ·exact h.like ⟨rfl,rfl,rfl,id⟩ fun _ _ h=>h
theorem of_some {b:Book} {id:Int} {x:Stay} (h:b.of id=some x):x∈b.stays∧x.car.id=id:=by
 unfold Book.of at h;exact ⟨List.mem_of_find?_eq_some h,by simpa using List.find?_some h⟩
theorem stay_of {b:Book} {n:Int} (h:b.OK n) {j:Job} (hj:j∈b.jobs):b.stay j.ticket∈b.stays∧(b.stay j.ticket).ticket=j.ticket:=by
 obtain ⟨s,hs,e⟩:=h.found j hj;unfold Book.stay Book.find
 cases hf:b.stays.find? (fun s=>s.ticket==j.ticket) with
 | none=>
  rw [List.find?_eq_none] at hf;exact absurd (by simpa using e) (hf s hs)
 | some x=>exact ⟨List.mem_of_find?_eq_some hf,by simpa using List.find?_some hf⟩
theorem first_mem {b:Book} {bay:Int} {j:Job} (h:firstJob b bay=some j):j∈b.jobs∧(b.jobs.head? = some j∨(j.fetch=false∧(b.stay j.ticket).car.id=bay)):=by
 unfold firstJob at h
 split at h
 ·rename_i i hi
  cases h;have:=List.find?_some hi;simp at this;exact ⟨List.mem_of_find?_eq_some hi,Or.inr ⟨this.1,this.2⟩⟩
 ·exact ⟨List.mem_of_head? h,Or.inl h⟩
theorem head_filter {α:Type} {l:List α} {f:α→Bool} {x:α} (h:l.head? = some x) (hf:f x=true):(l.filter f).head? = some x:=by
 cases l with
 | nil=>cases h
 | cons y l=>
  cases h;simp [hf]
theorem Core.gone {n:Int} {b:Book} {p:Plant} (h:Core n b p) (hl:p.lift=0) {j:Job} {g:Bool} (hjm:j∈b.jobs) (ho:(j.fetch || g)=true) (hns:∀ y,p.slots y≠(b.stay j.ticket).car.id):Core n (doneWith b j g) p:=by
 have hok:=done_ok h.book j g;obtain ⟨hx,hxt⟩:=stay_of h.book hjm
 have hst:(doneWith b j g).stays=b.stays.filter fun s=>!(s.ticket==j.ticket):=by unfold doneWith;rw [ho];rfl
 have hjb:(doneWith b j g).jobs=b.jobs.filter fun y=>!(y==j || ((j.fetch || g)&&y.ticket==j.ticket)):=rfl
 have hmem:∀ {s:Stay},s∈(doneWith b j g).stays→s∈b.stays∧s.ticket≠j.ticket:=fun hs=>by
  rw [hst,List.mem_filter] at hs;exact ⟨hs.1,by simpa using hs.2⟩
 have hjob:∀ {y:Job},y∈(doneWith b j g).jobs→y∈b.jobs:=fun hy=>by
  rw [hjb,List.mem_filter] at hy;exact hy.1
 have hkeep:∀ {y:Job},y.ticket≠j.ticket→(!(y==j || ((j.fetch || g)&&y.ticket==j.ticket)))=true:=fun {y} hy=>by
  have:y≠j:=by rintro rfl;exact hy rfl
  simp [this,hy]
 refine ⟨h.ln,h.safe,hok,h.nodup,?_,?_,?_,?_,?_,?_,?_,?_,h.H,h.R⟩
 ·intro y hy
  obtain ⟨s,hs,e,hh⟩:=h.slots y hy;refine ⟨s,?_,e,hh⟩;rw [hst,List.mem_filter];refine ⟨hs,?_⟩
  have:s.ticket≠j.ticket:=by
   intro c;have:s=b.stay j.ticket:=ticket_inj h.book.stays hs hx (by rw [c,hxt]);exact hns y (by rw [←e,this])
  simpa using this
 ·intro u hu z hz hd he hc
  exact h.B u (hmem hu).1 z (hmem hz).1 hd he (hjob hc)
 ·intro u hu hc
  obtain ⟨hu1,hu2⟩:=hmem hu
  have hc':¬ (⟨u.ticket,false⟩:Job)∈b.jobs:=by
   intro hm;apply hc;rw [hjb,List.mem_filter];exact ⟨hm,hkeep hu2⟩
  rcases h.C u hu1 hc' with k|k|k
  ·exact Or.inl k
  ·exact Or.inr (Or.inl k)
  ·exact Or.inr (Or.inr (by rw [hjb];exact head_filter k (hkeep hu2)))
 ·intro u hu hs
  exact h.D u (hmem hu).1 hs
 ·intro u hu hc
  have:=h.id_pos (hmem hu).1;omega
 ·intro hc;exact absurd hl hc
 ·intro hc;exact absurd hl hc
 ·rw [hjb];exact h.G.sublist List.filter_sublist
theorem Core.stored {n:Int} {b:Book} {p:Plant} (h:Core n b p) (hl:p.lift=0) {j:Job} (hjm:j∈b.jobs) (hf:j.fetch=false) (hs:p.slots (b.stay j.ticket).home=(b.stay j.ticket).car.id):Core n (doneWith b j false) p:=by
 have hok:=done_ok h.book j false;obtain ⟨hx,hxt⟩:=stay_of h.book hjm
 have hst:(doneWith b j false).stays=b.stays:=by unfold doneWith;rw [hf];rfl
 have hjb:(doneWith b j false).jobs=b.jobs.filter fun y=>!(y==j || ((j.fetch || false)&&y.ticket==j.ticket)):=rfl
 have hjob:∀ {y:Job},y∈(doneWith b j false).jobs→y∈b.jobs:=fun hy=>by
  rw [hjb,List.mem_filter] at hy;exact hy.1
 have hkeep:∀ {y:Job},y≠j→(!(y==j || ((j.fetch || false)&&y.ticket==j.ticket)))=true:=fun {y} hy=>by
  simp [hy,hf]
 refine ⟨h.ln,h.safe,hok,h.nodup,by rw [hst];exact h.slots,?_,?_,by rw [hst];exact h.D,?_,?_,?_,?_,h.H,h.R⟩
 ·intro u hu z hz hd he hc
  rw [hst] at hu hz;exact h.B u hu z hz hd he (hjob hc)
 ·intro u hu hc
  rw [hst] at hu
  by_cases hux:u=b.stay j.ticket
  ·left;exact ⟨_,by rw [hux];exact hs⟩
  ·have hut:u.ticket≠j.ticket:=fun c=>hux (ticket_inj h.book.stays hu hx (by rw [c,hxt]))
   have hc':¬ (⟨u.ticket,false⟩:Job)∈b.jobs:=by
    intro hm;apply hc;rw [hjb,List.mem_filter];exact ⟨hm,hkeep (by rintro rfl;exact hut rfl)⟩
   rcases h.C u hu hc' with k|k|k
   ·exact Or.inl k
   ·exact Or.inr (Or.inl k)
   ·exact Or.inr (Or.inr (by rw [hjb];exact head_filter k (hkeep (by rintro rfl;exact hut rfl))))
 ·intro u hu hc
  rw [hst] at hu;have:=h.id_pos hu;omega
 ·intro hc;exact absurd hl hc
 ·intro hc;exact absurd hl hc
 ·rw [hjb];exact h.G.sublist List.filter_sublist
theorem levels_len {l:List Size} (h:levelsFault l=0):1≤l.length∧l.length≤4:=by
 unfold levelsFault at h
 split at h
 ·cases h
 ·omega
theorem House.Inv'.new {sizes:List Size} (h:levelsFault sizes=0):(House.new sizes).Inv':=by
 have hlen:=levels_len h
 have h1:(1:Int)≤sizes.length:=by omega
 have h2:(sizes.length:Int)≤4:=by omega
 have hb:(House.new sizes).b.OK (House.new sizes).n:=bookFault_iff.1 (by
  show bookFault ⟨0,[],[]⟩ _=0
  simp [bookFault,staysFault,jobsFault])
 refine ⟨h,?_,(by intro s hs;cases hs),.nil⟩;refine ⟨rfl,Plant.Safe.new h1 h2,hb,?_,?_,?_,?_,?_,?_,?_,?_,?_,?_,?_⟩
 all_goals first
  | (show (Plant.new _).cars.Nodup;rw [new_cars];simp;done)
  | (intro x hx;cases hx;done)
  | exact (fun x hx=>absurd rfl hx)
  | exact (fun hl=>absurd rfl hl)
  | exact List.Pairwise.nil
  | exact (fun hx=>by rcases hx with hx|hx <;> cases hx)
  | skip
end Ch
