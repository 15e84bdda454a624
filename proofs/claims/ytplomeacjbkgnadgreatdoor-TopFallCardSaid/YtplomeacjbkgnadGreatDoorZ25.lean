import Derived.Test.YtplomeacjbkgnadGreatDoorZ24
set_option linter.all false
set_option maxRecDepth 100000
set_option maxHeartbeats 16000000
namespace Ch
/-! ### turn -/
def Book.stay (b:Book) (t:Int):Stay:=(b.find t).getD default
def firstJob (b:Book) (bay:Int):Option Job:=
 match b.jobs.find? (fun j=>!j.fetch&&(b.stay j.ticket).car.id==bay) with
 | some j=>some j
 | none=>b.jobs.head?
def blocks (b:Book) (p:Plant) (x:Stay) (j:Job):Bool:=
 j.fetch&&(b.stay j.ticket).home.depth==1&&front (b.stay j.ticket).home==x.home&&p.slots (b.stay j.ticket).home==(b.stay j.ticket).car.id
def loaded (b:Book) (levels:Int) (p:Plant):List Goal:=
 match b.of p.lift with
 | none=>giveOut
 | some x=>
  match firstJob b p.bay with
  | some j=>
   if j.fetch&&j.ticket==x.ticket&&p.bay==0 then giveOut
   else if (x.home.depth==1&&p.slots (front x.home) != 0) || blocks b p x j then bring (spare levels)
   else bring x.home
  | none=>if x.home.depth==1&&p.slots (front x.home) != 0 then bring (spare levels) else bring x.home
def storeOf (p:Plant) (x:Stay):List Goal×Option Bool:=
 if p.slots x.home=x.car.id then ([],some false)
 else if p.bay=x.car.id then (takeIn,none)
 else if p.has x.car.id then ([],none) else ([],some true)
def fetchOf (p:Plant) (x:Stay):List Goal×Bool:=
 if p.bay=x.car.id∨p.has x.car.id=false then ([],true)
 else if p.bay≠0∧p.door=true then ([],false)
 else if p.bay≠0 then (welcome,false)
 else if p.door=true then ([⟨5,0⟩],false)
 else match p.where_ x.car.id with
  | some y=>if y.depth=1∧p.slots (front y)≠0 then (fetch (front y),false) else (fetch y,false)
  | none=>([],false)
def jobOf (b:Book) (p:Plant) (j:Job):List Goal×Option Book:=
 if j.fetch then
  if (fetchOf p (b.stay j.ticket)).2 then ([],some (doneWith b j false)) else ((fetchOf p (b.stay j.ticket)).1,none)
 else
  match (storeOf p (b.stay j.ticket)).2 with
  | some g=>([],some (doneWith b j g))
  | none=>((storeOf p (b.stay j.ticket)).1,none)
def turnOf (b:Book) (levels:Int) (p:Plant):List Goal×Option Book:=
 if p.lift≠0 then (loaded b levels p,none)
 else
  let j:=firstJob b p.bay
  if p.slots (spare levels)≠0∧¬ (∃ y∈j,∃ x∈b.of (p.slots (spare levels)),blocks b p x y=true) then (fetch (spare levels),none)
  else match j with
   | some j=>jobOf b p j
   | none=>if p.door then ([],none) else (welcome,none)
/-! ### house -/
structure House where
 sizes:List Size
 p:Plant
 b:Book
 goals:List Goal
def House.n (h:House):Int:=h.sizes.length
def drive (p:Plant):List Goal→Plant×List Goal
 | []=>(p,[])
 | g :: r=>if (nextOf g p.sense).2 then drive p r else if may (nextOf g p.sense).1 p.sense then (p.step (nextOf g p.sense).1,g :: r) else (p,[])
def House.go (h:House) (l:List Goal):House:={ h with p:=(drive h.p l).1,goals:=(drive h.p l).2 }
def House.tick (h:House):House:=
 if h.goals=[] then
  match turnOf h.b h.n h.p with
  | (_,some b)=>{ h with b:=b }
  | (l,none)=>h.go l
 else h.go h.goals
def House.park (h:House) (c:Car):House×Int×Int:=
 if h.p.bay≠c.id then (h,0,7)
 else match Ch.park h.b h.sizes c with
  | .error e=>(h,0,e)
  | .ok (b,n)=>({ h with b:=b },n,0)
def House.want (h:House) (t:Int):House×Int:=
 match Ch.want h.b t with
 | .error e=>(h,e)
 | .ok b=>({ h with b:=b },0)
def House.ticks:Nat→House→House
 | 0,h=>h
 | n+1,h=>House.ticks n h.tick
def kPark:ByteArray:=⟨#[112,97,114,107]⟩
def kWant:ByteArray:=⟨#[119,97,110,116]⟩
def kOpen:ByteArray:=⟨#[111,112,101,110]⟩
def House.play (h:House) (a:Act):House:=
 if a.kind=kPark then (h.park a.car).1
 else if a.kind=kWant then (h.want a.a).1
 else if a.kind=kOpen then { h with goals:=[] }
 else if a.kind=kWalk∨a.kind=kArrive∨a.kind=kLeave∨a.kind=kStall then { h with p:=h.p.outside a }
 else House.ticks (min a.a 60).toNat h
def House.new (sizes:List Size):House:=⟨sizes,Plant.new sizes.length,⟨0,[],[]⟩,[]⟩
/-! ### what stays true -/
def Bringing (b:Book) (levels:Int) (p:Plant) (l:List Goal):Prop:=
 ∃ x s,s∈b.stays∧s.car.id=p.lift∧(x=s.home∨x=spare levels)∧l <:+ bring x∧(l=[⟨4,0⟩,⟨2,0⟩]→p.height=x.level * 3∧p.ext=extOf x)∧(l=[⟨2,extOf x⟩,⟨4,0⟩,⟨2,0⟩]→p.height=x.level * 3)
def Plain (l:List Goal):Prop:=∀ g∈l,g.kind≠4
structure House.Inv (h:House):Prop where
 lv:levelsFault h.sizes=0
 ln:h.p.levels=h.n
 safe:h.p.Safe
 book:h.b.OK h.n
 nodup:h.p.cars.Nodup
 slots:∀ x,h.p.slots x≠0→∃ s∈h.b.stays,s.car.id=h.p.slots x∧(x=s.home∨x=spare h.n)
 fit:∀ s∈h.b.stays,fits s.car.size (h.sizes.getD (s.home.level - 1).toNat default)=true
 goals:Plain h.goals∨Bringing h.b h.n h.p h.goals
structure Core (n:Int) (b:Book) (p:Plant):Prop where
 ln:p.levels=n
 safe:p.Safe
 book:b.OK n
 nodup:p.cars.Nodup
 slots:∀ x,p.slots x≠0→∃ s∈b.stays,s.car.id=p.slots x∧(x=s.home∨x=spare n)
 B:∀ x∈b.stays,∀ z∈b.stays,x.home.depth=1→z.home=front x.home→¬ (⟨x.ticket,false⟩:Job)∈b.jobs
 C:∀ x∈b.stays,¬ (⟨x.ticket,false⟩:Job)∈b.jobs→(∃ y,p.slots y=x.car.id)∨p.lift=x.car.id∨b.jobs.head? = some ⟨x.ticket,true⟩
 D:∀ x∈b.stays,p.slots (spare n)=x.car.id→x.home.depth=0
 E:∀ x∈b.stays,p.lift=x.car.id→x.home.depth=1→(⟨x.ticket,false⟩:Job)∈b.jobs∨(b.jobs.head? = some ⟨x.ticket,true⟩∧p.bay=0)
 F:p.lift≠0→p.slots (spare n)≠0→p.bay=0∧∃ x∈b.stays,p.lift=x.car.id∧b.jobs.head? = some ⟨x.ticket,true⟩
 U:p.lift≠0→(∀ x∈b.stays,x.car.id≠p.lift)→p.bay=0
 G:b.jobs.Pairwise fun a c=>¬ (a.ticket=c.ticket∧a.fetch=true∧c.fetch=false)
 H:p.lift≠0→p.door=false
 R:p.ext=2∨p.ext=-2→p.lift≠0→p.full (p.ext / 2)=false
structure Fetching (n:Int) (b:Book) (p:Plant) (y:Place):Prop where
 ok:placeFault y n=0
 car:p.slots y≠0
 free:y.depth=1→p.slots (front y)=0
 spare:p.slots (spare n)≠0→y=Ch.spare n∨(p.bay=0∧p.door=false∧∀ x∈b.stays,p.slots y=x.car.id→b.jobs.head? = some ⟨x.ticket,true⟩)
 deep:∀ x∈b.stays,p.slots y=x.car.id→x.home.depth=1→b.jobs.head? = some ⟨x.ticket,true⟩∧p.bay=0∧p.door=false
structure Bringing' (n:Int) (b:Book) (p:Plant) (x:Place):Prop where
 ok:placeFault x n=0
 car:p.slots x=0
 free:x.depth=1→p.slots (front x)=0
 stay:∃ s∈b.stays,s.car.id=p.lift∧(x=s.home∨(x=spare n∧s.home.depth=0))
def Track (p:Plant) (x:Place) (k:Int) (l:List Goal):Prop:=
 (l=[⟨k,0⟩,⟨2,0⟩]→p.height=x.level * 3∧p.ext=extOf x)∧(l=[⟨2,extOf x⟩,⟨k,0⟩,⟨2,0⟩]→p.height=x.level * 3)
inductive GoalsOK (n:Int) (b:Book) (p:Plant):List Goal→Prop
 | nil:GoalsOK n b p []
 | back:GoalsOK n b p [⟨2,0⟩]
 | shut:GoalsOK n b p [⟨5,0⟩]
 | welcome (l:List Goal):l <:+ welcome→p.lift=0→GoalsOK n b p l
 | takeIn (l:List Goal):l <:+ takeIn→(p.lift=0→p.slots (spare n)=0)→GoalsOK n b p l
 | giveOut (l:List Goal):l≠[]→l <:+ ahead 0++[⟨8,0⟩]→(∀ x∈b.stays,p.lift=x.car.id→b.jobs.head? = some ⟨x.ticket,true⟩)→GoalsOK n b p (l++[⟨6,0⟩])
 | fetch (l:List Goal) (y:Place):l <:+ fetch y→(p.lift=0→Fetching n b p y)→Track p y 3 l→GoalsOK n b p l
 | bring (l:List Goal) (x:Place):l <:+ bring x→(p.lift≠0→Bringing' n b p x)→Track p x 4 l→GoalsOK n b p l
/-! ### numbers of cars -/
theorem cars_lift {p:Plant} (hd:p.cars.Nodup) (h:p.lift≠0):p.bay≠p.lift∧∀ x,x∈allPlaces 4→p.slots x≠p.lift:=by
 have:=nodup_count.1 hd p.lift;rw [count_cars,if_neg h,if_pos rfl] at this;constructor
 ·intro e;rw [if_pos e] at this;omega
 ·intro x hx e
  have:0<((allPlaces 4).map p.slots).count p.lift:=List.count_pos_iff.2 (List.mem_map.2 ⟨x,hx,e⟩);omega
theorem cars_bay {p:Plant} (hd:p.cars.Nodup) (h:p.bay≠0):p.lift≠p.bay∧∀ x,x∈allPlaces 4→p.slots x≠p.bay:=by
 have:=nodup_count.1 hd p.bay;rw [count_cars,if_neg h] at this;rw [if_pos (rfl:p.bay=p.bay)] at this;constructor
 ·intro e;rw [if_pos e] at this;omega
 ·intro x hx e
  have:0<((allPlaces 4).map p.slots).count p.bay:=List.count_pos_iff.2 (List.mem_map.2 ⟨x,hx,e⟩);omega
theorem two_count {l:List Place} {f:Place→Int} {x y:Place} (hx:x∈l) (hy:y∈l) (hne:x≠y) (e:f x=f y) (hn:l.Nodup):2≤(l.map f).count (f x):=by
 induction l with
 | nil=>cases hx
 | cons z l ih=>
  obtain ⟨h1,h2⟩:=List.nodup_cons.1 hn;rw [List.map_cons,List.count_cons]
  rcases List.mem_cons.1 hx with rfl|hx' <;> rcases List.mem_cons.1 hy with rfl|hy'
  ·exact absurd rfl hne
  ·have:0<(l.map f).count (f x):=List.count_pos_iff.2 (List.mem_map.2 ⟨y,hy',e.symm⟩)
   rw [if_pos (by simp)];omega
  ·have:0<(l.map f).count (f x):=List.count_pos_iff.2 (List.mem_map.2 ⟨x,hx',rfl⟩)
   rw [if_pos (by simp [e])];omega
  ·have:=ih hx' hy' h2
   omega
theorem slots_mem {p:Plant} (hp:p.WF) {x:Place} (h:p.slots x≠0):x∈allPlaces 4:=by
 have h1:=hp.sl x h;have h2:=hp.lv2;rw [mem_allPlaces,placeFault_iff];rw [placeFault_iff] at h1;omega
theorem slots_inj {p:Plant} (hp:p.WF) (hd:p.cars.Nodup) {x y:Place} (h:p.slots x≠0) (e:p.slots x=p.slots y):x=y:=by
 apply Classical.byContradiction;intro hne;have h1:=two_count (slots_mem hp h) (slots_mem hp (by rw [←e];exact h)) hne e (nodup_allPlaces 4);have:=nodup_count.1 hd (p.slots x);rw [count_cars,if_neg h] at this;omega
theorem slots_lift {p:Plant} (hp:p.WF) (hd:p.cars.Nodup) (h:p.lift≠0) (x:Place):p.slots x≠p.lift:=fun e=>
 (cars_lift hd h).2 x (slots_mem hp (by rw [e];exact h)) e
theorem slots_bay {p:Plant} (hp:p.WF) (hd:p.cars.Nodup) (h:p.bay≠0) (x:Place):p.slots x≠p.bay:=fun e=>
 (cars_bay hd h).2 x (slots_mem hp (by rw [e];exact h)) e
/-! ### what is done to a machine -/
theorem Core.id_pos {n:Int} {b:Book} {p:Plant} (h:Core n b p) {s:Stay} (hs:s∈b.stays):1≤s.car.id:=by
 have:=(h.book.stays.1 s hs).1;unfold carFault at this
 split at this
 ·cases this
 ·omega
theorem Core.place {n:Int} {b:Book} {p:Plant} (h:Core n b p) {s:Stay} (hs:s∈b.stays):placeFault s.home n=0∧s.home≠spare n:=by
 have hk:=h.book.stays.1 s hs;refine ⟨hk.2.1,?_⟩;have hm:=hk.2.2.2.2;have h1:=h.safe.wf.lv1;have h2:=h.safe.wf.lv2;rw [h.ln] at h1 h2
 have:n=1∨n=2∨n=3∨n=4:=by omega
 intro e;rw [e] at hm;revert hm
 rcases this with rfl|rfl|rfl|rfl <;> decide
theorem spare_ok {n:Int} (h1:1≤n):placeFault (spare n) n=0:=by
 rw [placeFault_iff];unfold spare;dsimp only;omega
theorem Core.move {n:Int} {b:Book} {p q:Plant} (h:Core n b p) (hs:q.Safe) (h1:q.levels=p.levels) (h2:q.lift=p.lift) (h3:q.bay=p.bay) (h4:q.slots=p.slots) (h5:p.lift≠0→q.door=false)
  (h6:q.ext=2∨q.ext=-2→q.lift≠0→q.full (q.ext / 2)=false):Core n b q where
 ln:=h1.trans h.ln
 safe:=hs
 book:=h.book
 nodup:=by
  have:q.cars=p.cars:=by unfold Plant.cars;rw [h2,h3,h4]
  rw [this];exact h.nodup
 slots:=by rw [h4];exact h.slots
 B:=h.B
 C:=by rw [h4,h2];exact h.C
 D:=by rw [h4];exact h.D
 E:=by rw [h2,h3];exact h.E
 F:=by rw [h4,h2,h3];exact h.F
 U:=by rw [h2,h3];exact h.U
 G:=h.G
 H:=by rw [h2];exact h5
 R:=h6
theorem full_same {p q:Plant} (h1:q.height=p.height) (h2:q.slots=p.slots) (e:Int):q.full e=p.full e:=by
 unfold Plant.full Plant.place;rw [h1,h2]
theorem Core.quiet {n:Int} {b:Book} {p:Plant} (h:Core n b p) {c:Int} (hc:c=117∨c=100∨c=108∨c=114∨c=99) (hm:may c p.sense=true):
  Core n b (p.act c)∧(p.act c).levels=p.levels∧(p.act c).lift=p.lift∧(p.act c).bay=p.bay∧(p.act c).slots=p.slots∧((p.act c).door=true→p.door=true):=by
 have hs:=h.safe.act c hm;have e1:=h.safe.wf.ex1;have e2:=h.safe.wf.ex2
 have key:(p.act c).levels=p.levels∧(p.act c).lift=p.lift∧(p.act c).bay=p.bay∧(p.act c).slots=p.slots∧((p.act c).door=true→p.door=true)∧((p.act c).ext=2∨(p.act c).ext=-2→p.lift≠0→(p.act c).full ((p.act c).ext / 2)=false):=by
  rcases hc with rfl|rfl|rfl|rfl|rfl
  ·have he:p.ext=0:=by
    unfold may at hm;simp [Plant.sense] at hm;exact hm.1
   exact ⟨rfl,rfl,rfl,rfl,id,fun q=>by have q':p.ext=2∨p.ext=-2:=q;omega⟩
  ·have he:p.ext=0:=by
    unfold may at hm;simp [Plant.sense] at hm;exact hm.1
   exact ⟨rfl,rfl,rfl,rfl,id,fun q=>by have q':p.ext=2∨p.ext=-2:=q;omega⟩
  ·have e:p.act 108=p.stretch (-1):=rfl
   rw [e];unfold Plant.stretch
   split
   ·exact ⟨rfl,rfl,rfl,rfl,id,h.R⟩
   ·refine ⟨rfl,rfl,rfl,rfl,id,?_⟩
    intro q hl
    dsimp only at q ⊢
    have hx:p.ext=-1:=by omega
    have:=h.safe.free (by omega) hl;rw [full_same (p:=p) rfl rfl]
    rw [hx] at this ⊢
    exact this
  ·have e:p.act 114=p.stretch 1:=rfl
   rw [e];unfold Plant.stretch
   split
   ·exact ⟨rfl,rfl,rfl,rfl,id,h.R⟩
   ·refine ⟨rfl,rfl,rfl,rfl,id,?_⟩
    intro q hl
    dsimp only at q ⊢
    have hx:p.ext=1:=by omega
    have:=h.safe.free (by omega) hl;rw [full_same (p:=p) rfl rfl]
    rw [hx] at this ⊢
    exact this
  ·refine ⟨rfl,rfl,rfl,rfl,(fun q=>by cases q),fun q hl=>?_⟩
   exact h.R q hl
 obtain ⟨k1,k2,k3,k4,k5,k6⟩:=key;refine ⟨h.move hs k1 k2 k3 k4 ?_ (by rw [k2];exact k6),k1,k2,k3,k4,k5⟩;intro hl;have:=h.H hl;cases hd:(p.act c).door
 ·rfl
 ·rw [k5 hd] at this;cases this
theorem may_103 {p:Plant} (hm:may 103 p.sense=true):p.lift=0∧0<p.height∧p.height % 3=0:=by
 unfold may at hm;simp only [Int.reduceEq,if_false,or_self,if_true,Bool.and_eq_true,beq_iff_eq] at hm;have:=level_sense.1 hm.1.1.1;exact ⟨hm.1.2,this⟩
theorem may_112 {p:Plant} (hm:may 112 p.sense=true):p.lift≠0∧0<p.height∧p.height % 3=0∧p.full p.ext=false:=by
 unfold may at hm;simp only [Int.reduceEq,if_false,or_self,if_true,Bool.and_eq_true,bne_iff_ne,Bool.not_eq_true'] at hm;have:=level_sense.1 hm.1.1.1;exact ⟨hm.1.2,this.1,this.2,hm.2⟩
theorem Core.grab {n:Int} {b:Book} {p:Plant} (h:Core n b p) {y:Place} (hm:may 103 p.sense=true) (hy:p.place p.ext=some y) (hf:Fetching n b p y):
  Core n b (p.act 103):=by
 obtain ⟨m1,m2,m3⟩:=may_103 hm;have hs:=h.safe.act 103 hm
 have hnd:(p.act 103).cars.Nodup:=by
  rw [nodup_count];intro v;rw [act_cars h.safe.wf];exact nodup_count.1 h.nodup v
 have hdoor:p.door=false:=by
  cases hd:p.door
  ·rfl
  ·have:=h.safe.door hd;omega
 have key:=Plant.place_some hy;rw [act_grab hy m1 hf.car] at *
 have hother:∀ x,x≠y→setSlot p.slots y 0 x=p.slots x:=fun x hx=>setSlot_other _ _ hx
 have hnz:∀ x,setSlot p.slots y 0 x≠0→x≠y∧p.slots x≠0:=by
  intro x hx
  by_cases e:x=y
  ·subst e;rw [setSlot_get] at hx;exact absurd rfl hx
  ·rw [hother x e] at hx;exact ⟨e,hx⟩
 have hid:∀ s∈b.stays,s.car.id≠0:=fun s hs=>by have:=h.id_pos hs;omega
 refine ⟨h.ln,hs,h.book,hnd,?_,h.B,?_,?_,?_,?_,?_,h.G,fun _=>hdoor,?_⟩
 ·intro x hx
  obtain ⟨e,hx'⟩:=hnz x hx;dsimp only;rw [hother x e];exact h.slots x hx'
 ·intro x hx hst
  rcases h.C x hx hst with ⟨z,hz⟩|hl|hj
  ·by_cases e:z=y
   ·right;left;dsimp only;rw [←e];exact hz
   ·left;exact ⟨z,by dsimp only;rw [hother z e];exact hz⟩
  ·rw [m1] at hl;exact absurd hl.symm (hid x hx)
  ·exact Or.inr (Or.inr hj)
 ·intro x hx hz
  dsimp only at hz;have:=hnz _ (by rw [hz];exact hid x hx);rw [hother _ this.1] at hz;exact h.D x hx hz
 ·intro x hx hl hd
  exact Or.inr ⟨(hf.deep x hx hl hd).1,(hf.deep x hx hl hd).2.1⟩
 ·intro _ hsp
  dsimp only at hsp ⊢
  obtain ⟨e,hsp'⟩:=hnz _ hsp
  rcases hf.spare hsp' with e'|⟨k1,k2,k3⟩
  ·exact absurd e'.symm e
  ·obtain ⟨s,hs1,hs2,_⟩:=h.slots y hf.car
   exact ⟨k1,s,hs1,hs2.symm,k3 s hs1 hs2.symm⟩
 ·intro _ hu
  obtain ⟨s,hs1,hs2,_⟩:=h.slots y hf.car;exact absurd hs2 (hu s hs1)
 ·intro he _
  dsimp only at he ⊢
  have hd1:y.depth=1:=by omega
  have e2:p.ext=extOf y:=by
   unfold extOf
   split <;> omega
  have hyl:placeFault y p.levels=0:=by rw [h.ln];exact hf.ok
  have hh:=ext_half hyl (by rw [←e2];omega);rw [show p.ext / 2=extOf (front y) by rw [e2];exact hh.1];rw [full_of (p:={ p with lift:=p.slots y,slots:=setSlot p.slots y 0 }) (x:=front y) (front_ok hyl) (by dsimp only [front];omega)];dsimp only;rw [hother _ (front_ne hd1),hf.free hd1];rfl
theorem Core.put {n:Int} {b:Book} {p:Plant} (h:Core n b p) {x:Place} (hm:may 112 p.sense=true) (hx:p.place p.ext=some x) (hf:Bringing' n b p x):
  Core n b (p.act 112):=by
 obtain ⟨m1,m2,m3,m4⟩:=may_112 hm;have hs:=h.safe.act 112 hm
 have hnd:(p.act 112).cars.Nodup:=by
  rw [nodup_count];intro v;rw [act_cars h.safe.wf];exact nodup_count.1 h.nodup v
 rw [act_put hx m1 hf.car] at *
 have hother:∀ y,y≠x→setSlot p.slots x p.lift y=p.slots y:=fun y hy=>setSlot_other _ _ hy
 obtain ⟨s,s1,s2,s3⟩:=hf.stay
 have hid:∀ s∈b.stays,s.car.id≠0:=fun s hs=>by have:=h.id_pos hs;omega
 refine ⟨h.ln,hs,h.book,hnd,?_,h.B,?_,?_,?_,?_,?_,h.G,?_,?_⟩
 ·intro y hy
  dsimp only at hy ⊢
  by_cases e:y=x
  ·subst e
   rw [setSlot_get];refine ⟨s,s1,s2,?_⟩
   rcases s3 with s3|s3
   ·exact Or.inl s3
   ·exact Or.inr s3.1
  ·rw [hother y e] at hy ⊢
   exact h.slots y hy
 ·intro z hz hst
  rcases h.C z hz hst with ⟨y,hy⟩|hl|hj
  ·left
   refine ⟨y,?_⟩;dsimp only;rw [hother y]
   ·exact hy
   ·rintro rfl
    rw [hf.car] at hy;exact hid z hz hy.symm
  ·left;exact ⟨x,by dsimp only;rw [setSlot_get];exact hl⟩
  ·exact Or.inr (Or.inr hj)
 ·intro z hz hsp
  dsimp only at hsp
  by_cases e:spare n=x
  ·rw [←e,setSlot_get] at hsp
   have:z=s:=id_inj h.book.stays hz s1 (by rw [s2];exact hsp.symm);subst this
   rcases s3 with s3|s3
   ·exact absurd (e.trans s3).symm (h.place s1).2
   ·exact s3.2
  ·rw [hother _ e] at hsp
   exact h.D z hz hsp
 ·intro z hz hl;exact absurd hl.symm (hid z hz)
 ·intro hl;exact absurd rfl hl
 ·intro hl;exact absurd rfl hl
 ·intro hl;exact absurd rfl hl
 ·intro _ hl;exact absurd rfl hl
theorem Core.opens {n:Int} {b:Book} {p:Plant} (h:Core n b p) (hm:may 111 p.sense=true) (hl:p.lift=0):Core n b (p.act 111):=by
 have hs:=h.safe.act 111 hm;exact h.move hs rfl rfl rfl rfl (fun q=>absurd hl q) (fun _ q=>absurd hl q)
theorem may_pass {p:Plant} {c:Int} (hc:c=110∨c=120) (hm:may c p.sense=true):p.height=0∧p.ext=0∧p.door=false∧p.people=0∧(c=110→p.lift=0∧p.bay≠0)∧(c=120→p.lift≠0∧p.bay=0):=by
 rcases hc with rfl|rfl
 ·unfold may at hm
  simp only [Int.reduceEq,if_false,or_self,if_true,Bool.and_eq_true,beq_iff_eq,bne_iff_ne] at hm;have:=shut_sense.1 hm.1.1.2;exact ⟨hm.1.1.1.1,hm.1.1.1.2,this.1,this.2,fun _=>⟨hm.1.2,hm.2⟩,fun q=>by omega⟩
 ·unfold may at hm
  simp only [Int.reduceEq,if_false,or_self,if_true,Bool.and_eq_true,beq_iff_eq,bne_iff_ne] at hm;have:=shut_sense.1 hm.1.1.2;exact ⟨hm.1.1.1.1,hm.1.1.1.2,this.1,this.2,fun q=>by omega,fun _=>⟨hm.1.2,hm.2⟩⟩
theorem act_in {p:Plant} (h0:p.height=0) (h1:p.ext=0) (h2:p.door=false) (h3:p.people=0) (h4:p.lift=0):p.act 110={ p with lift:=p.bay,bay:=0 }:=by
 show p.pass true=_;unfold Plant.pass Plant.openB;simp [h0,h1,h2,h3,h4]
theorem act_out {p:Plant} (h0:p.height=0) (h1:p.ext=0) (h2:p.door=false) (h3:p.people=0) (h4:p.bay=0):p.act 120={ p with bay:=p.lift,lift:=0 }:=by
 show p.pass false=_;unfold Plant.pass Plant.openB;simp [h0,h1,h2,h3,h4]
theorem Core.ins {n:Int} {b:Book} {p:Plant} (h:Core n b p) (hm:may 110 p.sense=true) (hsp:p.slots (spare n)=0):Core n b (p.act 110):=by
 obtain ⟨m1,m2,m3,m4,m5,_⟩:=may_pass (Or.inl rfl) hm;obtain ⟨m5,m6⟩:=m5 rfl;have hs:=h.safe.act 110 hm
 have hnd:(p.act 110).cars.Nodup:=by
  rw [nodup_count];intro v;rw [act_cars h.safe.wf];exact nodup_count.1 h.nodup v
 rw [act_in m1 m2 m3 m4 m5] at *
 have hid:∀ s∈b.stays,s.car.id≠0:=fun s hs=>by have:=h.id_pos hs;omega
 refine ⟨h.ln,hs,h.book,hnd,h.slots,h.B,?_,h.D,?_,fun _ q=>absurd hsp q,fun _ _=>rfl,h.G,fun _=>m3,?_⟩
 ·intro x hx hst
  rcases h.C x hx hst with hy|hl|hj
  ·exact Or.inl hy
  ·rw [m5] at hl;exact absurd hl.symm (hid x hx)
  ·exact Or.inr (Or.inr hj)
 ·intro x hx hl hd
  by_cases hst:(⟨x.ticket,false⟩:Job)∈b.jobs
  ·exact Or.inl hst
  ·right
   rcases h.C x hx hst with ⟨y,hy⟩|hl'|hj
   ·have hl:p.bay=x.car.id:=hl
    exact absurd (hy.trans hl.symm) (slots_bay h.safe.wf h.nodup m6 y)
   ·rw [m5] at hl';exact absurd hl'.symm (hid x hx)
   ·exact ⟨hj,rfl⟩
 ·intro q;have q:p.ext=2∨p.ext=-2:=q;omega
theorem Core.outs {n:Int} {b:Book} {p:Plant} (h:Core n b p) (hm:may 120 p.sense=true) (hg:∀ x∈b.stays,p.lift=x.car.id→b.jobs.head? = some ⟨x.ticket,true⟩):Core n b (p.act 120):=by
 obtain ⟨m1,m2,m3,m4,_,m5⟩:=may_pass (Or.inr rfl) hm;obtain ⟨m5,m6⟩:=m5 rfl;have hs:=h.safe.act 120 hm
 have hnd:(p.act 120).cars.Nodup:=by
  rw [nodup_count];intro v;rw [act_cars h.safe.wf];exact nodup_count.1 h.nodup v
 rw [act_out m1 m2 m3 m4 m6] at *
 have hid:∀ s∈b.stays,s.car.id≠0:=fun s hs=>by have:=h.id_pos hs;omega
 refine ⟨h.ln,hs,h.book,hnd,h.slots,h.B,?_,h.D,?_,?_,?_,h.G,?_,?_⟩
 ·intro x hx hst
  rcases h.C x hx hst with hy|hl|hj
  ·exact Or.inl hy
  ·exact Or.inr (Or.inr (hg x hx hl))
  ·exact Or.inr (Or.inr hj)
 ·intro z hz hl;exact absurd hl.symm (hid z hz)
 ·intro hl;exact absurd rfl hl
 ·intro hl;exact absurd rfl hl
 ·intro hl;exact absurd rfl hl
 ·intro _ hl;exact absurd rfl hl
theorem suffix_there {x:Place} {k:Int} {l:List Goal} (h:l <:+ there x k):
  l=[⟨2,0⟩,⟨5,0⟩,⟨1,x.level * 3⟩,⟨2,extOf x⟩,⟨k,0⟩,⟨2,0⟩]∨l=[⟨5,0⟩,⟨1,x.level * 3⟩,⟨2,extOf x⟩,⟨k,0⟩,⟨2,0⟩]∨l=[⟨1,x.level * 3⟩,⟨2,extOf x⟩,⟨k,0⟩,⟨2,0⟩] ∨
  l=[⟨2,extOf x⟩,⟨k,0⟩,⟨2,0⟩]∨l=[⟨k,0⟩,⟨2,0⟩]∨l=[⟨2,0⟩]∨l=[]:=by
 unfold there ahead at h
 simpa [List.suffix_cons_iff] using h
theorem suffix_down {k:Int} {l:List Goal} (h:l <:+ ahead 0++[⟨k,0⟩]):
  l=[⟨2,0⟩,⟨5,0⟩,⟨1,0⟩,⟨k,0⟩]∨l=[⟨5,0⟩,⟨1,0⟩,⟨k,0⟩]∨l=[⟨1,0⟩,⟨k,0⟩]∨l=[⟨k,0⟩]∨l=[]:=by
 unfold ahead at h
 simpa [List.suffix_cons_iff] using h
structure Like (p q:Plant):Prop where
 lift:q.lift=p.lift
 bay:q.bay=p.bay
 slots:q.slots=p.slots
 door:p.door=false→q.door=false
theorem Fetching.like {n:Int} {b:Book} {p q:Plant} {y:Place} (h:Fetching n b p y) (e:Like p q):Fetching n b q y where
 ok:=h.ok
 car:=by rw [e.slots];exact h.car
 free:=by rw [e.slots];exact h.free
 spare:=by rw [e.slots,e.bay];exact fun hs=>(h.spare hs).imp id fun k=>⟨k.1,e.door k.2.1,k.2.2⟩
 deep:=by rw [e.slots,e.bay];exact fun x hx hs hd=>let k:=h.deep x hx hs hd;⟨k.1,k.2.1,e.door k.2.2⟩
theorem Bringing'.like {n:Int} {b:Book} {p q:Plant} {y:Place} (h:Bringing' n b p y) (e:Like p q):Bringing' n b q y where
 ok:=h.ok
 car:=by rw [e.slots];exact h.car
 free:=by rw [e.slots];exact h.free
 stay:=by rw [e.lift];exact h.stay
theorem GoalsOK.like {n:Int} {b:Book} {p q:Plant} {l:List Goal} (h:GoalsOK n b p l) (e:Like p q) (ht:∀ x k,Track p x k l→Track q x k l):GoalsOK n b q l:=by
 cases h with
 | nil=>exact .nil
 | back=>exact .back
 | shut=>exact .shut
 | welcome _ h1 h2=>exact .welcome _ h1 (by rw [e.lift];exact h2)
 | takeIn _ h1 h2=>exact .takeIn _ h1 (by rw [e.lift,e.slots];exact h2)
 | giveOut _ h0 h1 h2=>exact .giveOut _ h0 h1 (by rw [e.lift];exact h2)
 | fetch _ y h1 h2 h3=>exact .fetch _ y h1 (fun hl=>(h2 (by rw [←e.lift];exact hl)).like e) (ht y 3 h3)
 | bring _ y h1 h2 h3=>exact .bring _ y h1 (fun hl=>(h2 (by rw [←e.lift];exact hl)).like e) (ht y 4 h3)
theorem Core.stalled {n:Int} {b:Book} {p:Plant} (h:Core n b p) (hs:0<p.stall):Core n b { p with stall:=p.stall - 1 }:=by
 have hw:({ p with stall:=p.stall - 1 }:Plant).WF:=by
  have:=h.safe.wf.step 117;unfold Plant.step at this;rw [if_pos ⟨hs,by decide⟩] at this;exact this
 exact h.move ⟨hw,h.safe.hh,h.safe.at_,h.safe.free,h.safe.door,h.safe.folk⟩ rfl rfl rfl rfl h.H h.R
theorem GoalsOK.stalled {n:Int} {b:Book} {p:Plant} {l:List Goal} (h:GoalsOK n b p l) (k:Int):GoalsOK n b { p with stall:=k } l:=
 h.like ⟨rfl,rfl,rfl,id⟩ fun _ _ h=>h
theorem done_reach {p:Plant} {e:Int} (h:(nextOf ⟨2,e⟩ p.sense).2=true):p.ext=e:=by
 have hs:nextOf ⟨2,e⟩ p.sense=toward p.ext e 114 108:=by unfold nextOf;rw [if_neg (by simp),if_pos rfl];rfl
 rw [hs] at h;unfold toward at h
 split at h
 ·cases h
 ·split at h
  ·cases h
  ·omega
theorem done_height {p:Plant} {e:Int} (h:(nextOf ⟨1,e⟩ p.sense).2=true):p.height=e:=by
 have hs:nextOf ⟨1,e⟩ p.sense=toward p.height e 117 100:=by unfold nextOf;rw [if_pos rfl];rfl
 rw [hs] at h;unfold toward at h
 split at h
 ·cases h
 ·split at h
  ·cases h
  ·omega
theorem done_out {p:Plant} (h:(nextOf ⟨8,0⟩ p.sense).2=true):p.lift=0:=by
 unfold nextOf once at h;simp only [Int.reduceEq,if_false,if_true] at h
 split at h
 ·rename_i hl;simpa [Plant.sense] using hl
 ·cases h
theorem next_code {g:Goal} {s:Sensed} (hd:(nextOf g s).2=false):(g.kind=3→(nextOf g s).1=103)∧(g.kind=4→(nextOf g s).1=112)∧(g.kind=6→(nextOf g s).1=111)∧(g.kind=7→(nextOf g s).1=110)∧(g.kind=8→(nextOf g s).1=120):=by
 unfold nextOf once at *;refine ⟨fun hk=>?_,fun hk=>?_,fun hk=>?_,fun hk=>?_,fun hk=>?_⟩
 all_goals
  simp only [hk,Int.reduceEq,if_false,if_true] at *
  split at hd
  ·cases hd
  ·rename_i h;rw [if_neg h]
theorem GoalsOK.pop {n:Int} {b:Book} {p:Plant} {g:Goal} {r:List Goal} (h:GoalsOK n b p (g :: r)) (hd:(nextOf g p.sense).2=true):GoalsOK n b p r:=by
 generalize hl:g :: r=l at h
 cases h with
 | nil=>cases hl
 | back=>cases hl;exact .nil
 | shut=>cases hl;exact .nil
 | welcome _ h1 h2=>subst hl;exact .welcome _ ((List.suffix_cons _ _).trans h1) h2
 | takeIn _ h1 h2=>subst hl;exact .takeIn _ ((List.suffix_cons _ _).trans h1) h2
 | giveOut l' h0 h1 h2=>
  cases l' with
  | nil=>exact absurd rfl h0
  | cons g' r'=>
   cases hl
   by_cases hr:r'=[]
   ·subst hr
    have hg:g=⟨8,0⟩:=by
     have:=suffix_down h1
     simpa using this
    subst hg;exact .welcome _ (by unfold Ch.welcome;simp [ahead,List.suffix_cons_iff]) (done_out hd)
   ·exact .giveOut r' hr ((List.suffix_cons _ _).trans h1) h2
 | fetch _ y h1 h2 h3=>
  subst hl;refine .fetch _ y ((List.suffix_cons _ _).trans h1) h2 ⟨?_,?_⟩
  ·intro e;subst e
   have hg:=suffix_there h1;simp at hg;subst hg;exact ⟨h3.2 rfl,done_reach hd⟩
  ·intro e;subst e
   have hg:=suffix_there h1;simp at hg;subst hg;exact done_height hd
 | bring _ y h1 h2 h3=>
  subst hl;refine .bring _ y ((List.suffix_cons _ _).trans h1) h2 ⟨?_,?_⟩
  ·intro e;subst e
   have hg:=suffix_there h1;simp at hg;subst hg;exact ⟨h3.2 rfl,done_reach hd⟩
  ·intro e;subst e
   have hg:=suffix_there h1;simp at hg;subst hg;exact done_height hd
theorem next_move {g:Goal} {s:Sensed} (hk:g.kind=1∨g.kind=2∨g.kind=5) (hd:(nextOf g s).2=false):
  ((nextOf g s).1=117∨(nextOf g s).1=100∨(nextOf g s).1=108∨(nextOf g s).1=114∨(nextOf g s).1=99)∧(g.kind=2→(nextOf g s).1=108∨(nextOf g s).1=114):=by
 unfold nextOf toward once at *
 rcases hk with hk|hk|hk
 ·simp only [hk,if_true] at *
  split at hd
  ·rename_i h;rw [if_pos h];simp
  ·rename_i h
   rw [if_neg h]
   split at hd
   ·rename_i h;rw [if_pos h];simp
   ·cases hd
 ·simp only [hk,if_true] at *
  simp only [Int.reduceEq,if_false] at *
  split at hd
  ·rename_i h;rw [if_pos h];simp
  ·rename_i h
   rw [if_neg h]
   split at hd
   ·rename_i h;rw [if_pos h];simp
   ·cases hd
 ·simp only [hk,Int.reduceEq,if_false,if_true] at *
  split at hd
  ·cases hd
  ·rename_i h;rw [if_neg h];simp
theorem stretch_height (p:Plant) (n:Int):(p.stretch n).height=p.height:=by unfold Plant.stretch;split <;> rfl
theorem GoalsOK.moves {n:Int} {b:Book} {p:Plant} {g:Goal} {r:List Goal} (hc:Core n b p) (h:GoalsOK n b p (g :: r)) (hk:g.kind=1∨g.kind=2∨g.kind=5) (hd:(nextOf g p.sense).2=false) (hm:may (nextOf g p.sense).1 p.sense=true):
  Core n b (p.act (nextOf g p.sense).1)∧GoalsOK n b (p.act (nextOf g p.sense).1) (g :: r):=by
 obtain ⟨c1,c2⟩:=next_move hk hd;obtain ⟨q0,q1,q2,q3,q4,q5⟩:=hc.quiet c1 hm;refine ⟨q0,h.like ⟨q2,q3,q4,?_⟩ ?_⟩
 ·intro hp
  cases hq:(p.act (nextOf g p.sense).1).door
  ·rfl
  ·rw [q5 hq] at hp;cases hp
 ·have hh:g.kind=2→(p.act (nextOf g p.sense).1).height=p.height:=fun h2=>by
   rcases c2 h2 with e|e
   ·rw [e];exact stretch_height p (-1)
   ·rw [e];exact stretch_height p 1
  intro x k ht;refine ⟨fun e=>?_,fun e=>?_⟩
  ·cases e
   by_cases h2:k=2
   ·subst h2
    -- a track whose put is a reach: never asked
    have:=ht.1 rfl;exfalso;have hr:=h;generalize hl:(⟨2,0⟩:Goal) :: [⟨2,0⟩]=l at hr
    cases hr with
    | nil=>cases hl
    | back=>cases hl
    | shut=>cases hl
    | welcome _ h1 _=>subst hl;simp [Ch.welcome,ahead,List.suffix_cons_iff] at h1
    | takeIn _ h1 _=>subst hl;simp [Ch.takeIn,ahead,List.suffix_cons_iff] at h1
    | giveOut l' h0 h1 _=>
     have:=congrArg List.getLast? hl;simp at this
    | fetch _ y h1 _ _=>subst hl;have:=suffix_there h1;simp at this
    | bring _ y h1 _ _=>subst hl;have:=suffix_there h1;simp at this
   ·exfalso
    have hr:=h;generalize hl:(⟨k,0⟩:Goal) :: [⟨2,0⟩]=l at hr;dsimp only at hk
    cases hr with
    | nil=>cases hl
    | back=>cases hl
    | shut=>cases hl
    | welcome _ h1 _=>subst hl;simp [Ch.welcome,ahead,List.suffix_cons_iff] at h1
    | takeIn _ h1 _=>subst hl;simp [Ch.takeIn,ahead,List.suffix_cons_iff] at h1
    | giveOut l' h0 h1 _=>
     have:=congrArg List.getLast? hl;simp at this
    | fetch _ y h1 _ _=>subst hl;have:=suffix_there h1;simp at this;omega
    | bring _ y h1 _ _=>subst hl;have:=suffix_there h1;simp at this;omega
  ·cases e
   rw [hh rfl];exact ht.2 rfl
theorem GoalsOK.does {n:Int} {b:Book} {p:Plant} {g:Goal} {r:List Goal} (hc:Core n b p) (h:GoalsOK n b p (g :: r)) (hd:(nextOf g p.sense).2=false) (hm:may (nextOf g p.sense).1 p.sense=true):
  Core n b (p.act (nextOf g p.sense).1)∧GoalsOK n b (p.act (nextOf g p.sense).1) (g :: r):=by
 by_cases hk:g.kind=1∨g.kind=2∨g.kind=5
 ·exact h.moves hc hk hd hm
 have hr:=h;generalize hl:g :: r=l at hr
 have hid:∀ s∈b.stays,s.car.id≠0:=fun s hs=>by have:=hc.id_pos hs;omega
 cases hr with
 | nil=>cases hl
 | back=>cases hl;exact absurd (Or.inr (Or.inl rfl)) hk
 | shut=>cases hl;exact absurd (Or.inr (Or.inr rfl)) hk
 | welcome _ h1 h2=>
  subst hl;have:=suffix_down h1;simp at this
  rcases this with ⟨rfl,rfl⟩|⟨rfl,rfl⟩|⟨rfl,rfl⟩|⟨rfl,rfl⟩ <;> first|(exfalso;apply hk;simp;done)|skip
  have e:(nextOf ⟨6,0⟩ p.sense).1=111:=(next_code hd).2.2.1 rfl
  rw [e] at hm ⊢
  exact ⟨hc.opens hm h2,.welcome _ h1 h2⟩
 | takeIn _ h1 h2=>
  subst hl;have:=suffix_down h1;simp at this
  rcases this with ⟨rfl,rfl⟩|⟨rfl,rfl⟩|⟨rfl,rfl⟩|⟨rfl,rfl⟩ <;> first|(exfalso;apply hk;simp;done)|skip
  have e:(nextOf ⟨7,0⟩ p.sense).1=110:=(next_code hd).2.2.2.1 rfl
  rw [e] at hm ⊢
  obtain ⟨m1,m2,m3,m4,m5,_⟩:=may_pass (Or.inl rfl) hm;obtain ⟨m5,m6⟩:=m5 rfl;refine ⟨hc.ins hm (h2 m5),.takeIn _ h1 ?_⟩;rw [act_in m1 m2 m3 m4 m5];intro hl;exact absurd hl m6
 | giveOut l' h0 h1 h2=>
  have:=suffix_down h1
  rcases this with rfl|rfl|rfl|rfl|rfl <;> simp at hl
  ·obtain ⟨rfl,rfl⟩:=hl;exact absurd (by simp) hk
  ·obtain ⟨rfl,rfl⟩:=hl;exact absurd (by simp) hk
  ·obtain ⟨rfl,rfl⟩:=hl;exact absurd (by simp) hk
  ·obtain ⟨rfl,rfl⟩:=hl
   have e:(nextOf ⟨8,0⟩ p.sense).1=120:=(next_code hd).2.2.2.2 rfl
   rw [e] at hm ⊢
   obtain ⟨m1,m2,m3,m4,_,m5⟩:=may_pass (Or.inr rfl) hm;obtain ⟨m5,m6⟩:=m5 rfl;refine ⟨hc.outs hm h2,.giveOut [⟨8,0⟩] h0 h1 ?_⟩;rw [act_out m1 m2 m3 m4 m6];intro x hx hl;exact absurd hl.symm (hid x hx)
  ·exact absurd rfl h0
 | fetch _ y h1 h2 h3=>
  subst hl;have:=suffix_there h1;simp at this
  rcases this with ⟨rfl,rfl⟩|⟨rfl,rfl⟩|⟨rfl,rfl⟩|⟨rfl,rfl⟩|⟨rfl,rfl⟩|⟨rfl,rfl⟩ <;> first|(exfalso;apply hk;simp;done)|skip
  have e:(nextOf ⟨3,0⟩ p.sense).1=103:=(next_code hd).1 rfl
  rw [e] at hm ⊢
  obtain ⟨t1,t2⟩:=h3.1 rfl;obtain ⟨m1,m2,m3⟩:=may_103 hm;have hf:=h2 m1
  have hy:p.place p.ext=some y:=by rw [t2];exact place_of (by rw [hc.ln];exact hf.ok) t1
  refine ⟨hc.grab hm hy hf,.fetch _ y h1 ?_ ?_⟩
  ·rw [act_grab hy m1 hf.car]
   intro hl;exact absurd hl hf.car
  ·rw [act_grab hy m1 hf.car]
   exact h3
 | bring _ y h1 h2 h3=>
  subst hl;have:=suffix_there h1;simp at this
  rcases this with ⟨rfl,rfl⟩|⟨rfl,rfl⟩|⟨rfl,rfl⟩|⟨rfl,rfl⟩|⟨rfl,rfl⟩|⟨rfl,rfl⟩ <;> first|(exfalso;apply hk;simp;done)|skip
  have e:(nextOf ⟨4,0⟩ p.sense).1=112:=(next_code hd).2.1 rfl
  rw [e] at hm ⊢
  obtain ⟨t1,t2⟩:=h3.1 rfl;obtain ⟨m1,m2,m3,m4⟩:=may_112 hm;have hf:=h2 m1
  have hy:p.place p.ext=some y:=by rw [t2];exact place_of (by rw [hc.ln];exact hf.ok) t1
  refine ⟨hc.put hm hy hf,.bring _ y h1 ?_ ?_⟩
  ·rw [act_put hy m1 hf.car]
   intro hl;exact absurd rfl hl
  ·rw [act_put hy m1 hf.car]
   exact h3
theorem GoalsOK.steps {n:Int} {b:Book} {p:Plant} {g:Goal} {r:List Goal} (hc:Core n b p) (h:GoalsOK n b p (g :: r)) (hd:(nextOf g p.sense).2=false) (hm:may (nextOf g p.sense).1 p.sense=true):
  Core n b (p.step (nextOf g p.sense).1)∧GoalsOK n b (p.step (nextOf g p.sense).1) (g :: r):=by
 unfold Plant.step
 split
 ·rename_i hs
  exact ⟨hc.stalled hs.1,h.stalled _⟩
 ·exact h.does hc hd hm
theorem drive_ok {n:Int} {b:Book} {p:Plant} (hc:Core n b p):∀ {l:List Goal},GoalsOK n b p l→Core n b (drive p l).1∧GoalsOK n b (drive p l).1 (drive p l).2
 | [],h=>⟨hc,h⟩
 | g :: r,h=>by
  unfold drive
  by_cases hd:(nextOf g p.sense).2=true
  ·rw [if_pos hd]
   exact drive_ok hc (h.pop hd)
  ·rw [if_neg hd]
   by_cases hm:may (nextOf g p.sense).1 p.sense=true
   ·rw [if_pos hm]
    exact h.steps hc (by simpa using hd) hm
   ·rw [if_neg hm]
    exact ⟨hc,.nil⟩
structure House.Inv' (h:House):Prop where
 lv:levelsFault h.sizes=0
 core:Core h.n h.b h.p
 fit:∀ s∈h.b.stays,fits s.car.size (h.sizes.getD (s.home.level - 1).toNat default)=true
 goals:GoalsOK h.n h.b h.p h.goals
theorem House.Inv'.go {h:House} (hi:h.Inv') {l:List Goal} (hl:GoalsOK h.n h.b h.p l):(h.go l).Inv':=by
 have:=drive_ok hi.core hl;exact ⟨hi.lv,this.1,hi.fit,this.2⟩
theorem head_append {α:Type} {l:List α} {a x:α} (h:l.head? = some x):(l++[a]).head? = some x:=by
 cases l with
 | nil=>cases h
 | cons y l=>exact h
structure Grown (b c:Book):Prop where
 stays:∀ s∈b.stays,s∈c.stays
 head:∀ j,b.jobs.head? = some j→c.jobs.head? = some j
 jobs:∀ j∈b.jobs,j∈c.jobs
theorem Core.parked {n:Int} {b:Book} {p:Plant} {c:Car} {x:Place} (h:Core n b p) (hb:p.bay=c.id) (hc:1≤c.id)
  (hok:(⟨b.last+1,b.stays++[⟨b.last+1,c,x⟩],b.jobs++[⟨b.last+1,false⟩]⟩:Book).OK n) (h1:hasHome b (front x)=false) (h3:waits b x=false):
  Core n ⟨b.last+1,b.stays++[⟨b.last+1,c,x⟩],b.jobs++[⟨b.last+1,false⟩]⟩ p:=by
 have hb0:p.bay≠0:=by omega
 have hns:∀ y,p.slots y≠c.id:=fun y=>by rw [←hb];exact slots_bay h.safe.wf h.nodup hb0 y
 have hnl:p.lift≠c.id:=by rw [←hb];exact (cars_bay h.nodup hb0).1
 have hmem:∀ {s:Stay},s∈b.stays++[(⟨b.last+1,c,x⟩:Stay)]→s∈b.stays∨s=⟨b.last+1,c,x⟩:=fun hs=>by
  rcases List.mem_append.1 hs with hs|hs
  ·exact Or.inl hs
  ·exact Or.inr (by simpa using hs)
 have htk:∀ {s:Stay},s∈b.stays→s.ticket≤b.last:=fun hs=>(h.book.stays.1 _ hs).2.2.2.1
 have hjt:∀ {j:Job},j∈b.jobs→j.ticket≤b.last:=fun hj=>by
  obtain ⟨s,hs,e⟩:=h.book.found _ hj;rw [←e];exact htk hs
 have hjob:∀ {s:Stay},s∈b.stays→((⟨s.ticket,false⟩:Job)∈b.jobs++[(⟨b.last+1,false⟩:Job)]↔(⟨s.ticket,false⟩:Job)∈b.jobs):=fun hs=>by
  have:=htk hs;simp;omega
 rw [hasHome_iff] at h1;refine ⟨h.ln,h.safe,hok,h.nodup,?_,?_,?_,?_,?_,?_,?_,?_,h.H,h.R⟩
 ·intro y hy
  obtain ⟨s,hs,e⟩:=h.slots y hy;exact ⟨s,List.mem_append_left _ hs,e⟩
 ·intro u hu z hz hd he hj
  rcases hmem hu with hu|rfl
  ·rw [hjob hu] at hj
   rcases hmem hz with hz|rfl
   ·exact h.B u hu z hz hd he hj
   ·-- the new one stands in front of one that is to be filled
    have:waits b x=true:=by
     unfold waits;rw [List.any_eq_true];refine ⟨u,hu,?_⟩;dsimp only at he;simp [he,hj]
     exact fun e=>front_ne hd e.symm
    rw [this] at h3;cases h3
  ·dsimp only at hd he
   rcases hmem hz with hz|rfl
   ·exact h1 z hz he
   ·dsimp only at he
    exact front_ne hd he.symm
 ·intro u hu hj
  rcases hmem hu with hu|rfl
  ·rw [hjob hu] at hj
   rcases h.C u hu hj with k|k|k
   ·exact Or.inl k
   ·exact Or.inr (Or.inl k)
   ·exact Or.inr (Or.inr (head_append k))
  ·exact absurd (by simp) hj
 ·intro u hu hs
  rcases hmem hu with hu|rfl
  ·exact h.D u hu hs
  ·exact absurd hs (hns _)
 ·intro u hu hl hd
  rcases hmem hu with hu|rfl
  ·rcases h.E u hu hl hd with k|k
   ·exact Or.inl (List.mem_append_left _ k)
   ·exact Or.inr ⟨head_append k.1,k.2⟩
  ·exact absurd hl hnl
 ·intro hl hs
  obtain ⟨k1,u,hu,k2,k3⟩:=h.F hl hs;exact ⟨k1,u,List.mem_append_left _ hu,k2,head_append k3⟩
 ·intro hl hu
  exact h.U hl fun u hu'=>hu u (List.mem_append_left _ hu')
 ·dsimp only
  rw [List.pairwise_append];refine ⟨h.G,by simp,?_⟩;intro a ha y hy;simp at hy;subst hy;rintro ⟨e,_⟩;have:=hjt ha;dsimp only at e;omega
theorem GoalsOK.parked {n:Int} {b:Book} {p:Plant} {c:Car} {x:Place} {l:List Goal} (hc:Core n b p) (h:GoalsOK n b p l) (hb:p.bay=c.id) (hc1:1≤c.id):
  GoalsOK n ⟨b.last+1,b.stays++[⟨b.last+1,c,x⟩],b.jobs++[⟨b.last+1,false⟩]⟩ p l:=by
 have hb0:p.bay≠0:=by omega
 have hns:∀ y,p.slots y≠c.id:=fun y=>by rw [←hb];exact slots_bay hc.safe.wf hc.nodup hb0 y
 have hnl:p.lift≠c.id:=by rw [←hb];exact (cars_bay hc.nodup hb0).1
 have hmem:∀ {s:Stay},s∈b.stays++[(⟨b.last+1,c,x⟩:Stay)]→s∈b.stays∨s=⟨b.last+1,c,x⟩:=fun hs=>by
  rcases List.mem_append.1 hs with hs|hs
  ·exact Or.inl hs
  ·exact Or.inr (by simpa using hs)
 cases h with
 | nil=>exact .nil
 | back=>exact .back
 | shut=>exact .shut
 | welcome _ h1 h2=>exact .welcome _ h1 h2
 | takeIn _ h1 h2=>exact .takeIn _ h1 h2
 | giveOut _ h0 h1 h2=>
  refine .giveOut _ h0 h1 fun u hu hl=>?_
  rcases hmem hu with hu|rfl
  ·exact head_append (h2 u hu hl)
  ·exact absurd hl hnl
 | fetch _ y h1 h2 h3=>
  refine .fetch _ y h1 (fun hl=>?_) h3;have hf:=h2 hl;refine ⟨hf.ok,hf.car,hf.free,fun hs=>(hf.spare hs).imp id fun k=>⟨k.1,k.2.1,fun u hu he=>?_⟩,fun u hu he hd=>?_⟩
  ·rcases hmem hu with hu|rfl
   ·exact head_append (k.2.2 u hu he)
   ·exact absurd he (hns _)
  ·rcases hmem hu with hu|rfl
   ·exact ⟨head_append (hf.deep u hu he hd).1,(hf.deep u hu he hd).2⟩
   ·exact absurd he (hns _)
 | bring _ y h1 h2 h3=>
  refine .bring _ y h1 (fun hl=>?_) h3;have hf:=h2 hl;obtain ⟨s,s1,s2⟩:=hf.stay;exact ⟨hf.ok,hf.car,hf.free,s,List.mem_append_left _ s1,s2⟩
theorem Core.wanted {n:Int} {b:Book} {p:Plant} {t:Int} (h:Core n b p) (hok:({ b with jobs:=b.jobs++[⟨t,true⟩] }:Book).OK n):Core n { b with jobs:=b.jobs++[⟨t,true⟩] } p:=by
 have hjob:∀ k:Int,((⟨k,false⟩:Job)∈b.jobs++[(⟨t,true⟩:Job)]↔(⟨k,false⟩:Job)∈b.jobs):=fun k=>by simp
 refine ⟨h.ln,h.safe,hok,h.nodup,h.slots,?_,?_,h.D,?_,?_,h.U,?_,h.H,h.R⟩
 ·intro u hu z hz hd he hj
  rw [hjob] at hj;exact h.B u hu z hz hd he hj
 ·intro u hu hj
  rw [hjob] at hj
  rcases h.C u hu hj with k|k|k
  ·exact Or.inl k
  ·exact Or.inr (Or.inl k)
  ·exact Or.inr (Or.inr (head_append k))
 ·intro u hu hl hd
  rcases h.E u hu hl hd with k|k
  ·exact Or.inl (List.mem_append_left _ k)
  ·exact Or.inr ⟨head_append k.1,k.2⟩
 ·intro hl hs
  obtain ⟨k1,u,hu,k2,k3⟩:=h.F hl hs;exact ⟨k1,u,hu,k2,head_append k3⟩
 ·dsimp only
  rw [List.pairwise_append];refine ⟨h.G,by simp,?_⟩;intro a ha y hy;simp at hy;subst hy;rintro ⟨_,_,e⟩;cases e
theorem GoalsOK.wanted {n:Int} {b:Book} {p:Plant} {t:Int} {l:List Goal} (h:GoalsOK n b p l):GoalsOK n { b with jobs:=b.jobs++[⟨t,true⟩] } p l:=by
 cases h with
 | nil=>exact .nil
 | back=>exact .back
 | shut=>exact .shut
 | welcome _ h1 h2=>exact .welcome _ h1 h2
 | takeIn _ h1 h2=>exact .takeIn _ h1 h2
 | giveOut _ h0 h1 h2=>exact .giveOut _ h0 h1 fun u hu hl=>head_append (h2 u hu hl)
 | fetch _ y h1 h2 h3=>
  refine .fetch _ y h1 (fun hl=>?_) h3;have hf:=h2 hl;exact ⟨hf.ok,hf.car,hf.free,fun hs=>(hf.spare hs).imp id fun k=>⟨k.1,k.2.1,fun u hu he=>head_append (k.2.2 u hu he)⟩,fun u hu he hd=>⟨head_append (hf.deep u hu he hd).1,(hf.deep u hu he hd).2⟩⟩
 | bring _ y h1 h2 h3=>
  refine .bring _ y h1 (fun hl=>?_) h3;have hf:=h2 hl;exact ⟨hf.ok,hf.car,hf.free,hf.stay⟩
/-! ### from outside -/
theorem Core.walk {n:Int} {b:Book} {p:Plant} (h:Core n b p) (k:Int):Core n b (p.walk k).1:=by
 have hs:=h.safe.outside ⟨kWalk,k,0,default,⟨#[]⟩,0,⟨0,[],[]⟩⟩ (show kWalk≠kStep by decide);have e:p.outside ⟨kWalk,k,0,default,⟨#[]⟩,0,⟨0,[],[]⟩⟩=(p.walk k).1:=rfl;rw [e] at hs;clear e;unfold Plant.walk at *
 split
 ·exact h
 ·rename_i h1
  rw [if_neg h1] at hs
  split
  ·exact h
  ·rename_i h2
   rw [if_neg h2] at hs;exact h.move hs rfl rfl rfl rfl h.H h.R
theorem GoalsOK.walk {n:Int} {b:Book} {p:Plant} {l:List Goal} (h:GoalsOK n b p l) (k:Int):GoalsOK n b (p.walk k).1 l:=by
 unfold Plant.walk
 split
 ·exact h
 ·split
  ·exact h
  ·exact h.like ⟨rfl,rfl,rfl,id⟩ fun _ _ h=>h
theorem Core.stall {n:Int} {b:Book} {p:Plant} (h:Core n b p) (k:Int):Core n b (p.setStall k).1:=by
 have hs:=h.safe.outside ⟨kStall,k,0,default,⟨#[]⟩,0,⟨0,[],[]⟩⟩ (show kStall≠kStep by decide);have e:p.outside ⟨kStall,k,0,default,⟨#[]⟩,0,⟨0,[],[]⟩⟩=(p.setStall k).1:=rfl;rw [e] at hs;clear e;unfold Plant.setStall at *
 split
 ·exact h
 ·rename_i h1
  rw [if_neg h1] at hs;exact h.move hs rfl rfl rfl rfl h.H h.R
theorem GoalsOK.stall {n:Int} {b:Book} {p:Plant} {l:List Goal} (h:GoalsOK n b p l) (k:Int):GoalsOK n b (p.setStall k).1 l:=by
 unfold Plant.setStall
 split
 ·exact h
 ·exact h.like ⟨rfl,rfl,rfl,id⟩ fun _ _ h=>h
theorem Core.bayed {n:Int} {b:Book} {p q:Plant} (h:Core n b p) (hs:q.Safe) (hd:p.door=true) (hn:q.cars.Nodup) (hq:q={ p with bay:=q.bay }):Core n b q:=by
 have hl:p.lift=0:=by
  apply Classical.byContradiction;intro hc;have:=h.H hc;rw [hd] at this;cases this
 have k1:q.levels=p.levels:=by rw [hq]
 have k2:q.lift=p.lift:=by rw [hq]
 have k4:q.slots=p.slots:=by rw [hq]
 exact {
  ln:=k1.trans h.ln
  safe:=hs
  book:=h.book
  nodup:=hn
  slots:=by rw [k4];exact h.slots
  B:=h.B
  C:=by rw [k4,k2];exact h.C
  D:=by rw [k4];exact h.D
  E:=fun x hx hc=>by
   have:=h.id_pos hx
   rw [k2,hl] at hc
   omega
  F:=fun hc=>absurd (k2.trans hl) hc
  U:=fun hc=>absurd (k2.trans hl) hc
  G:=h.G
  H:=fun hc=>absurd (k2.trans hl) hc
  R:=fun _ hc=>absurd (k2.trans hl) hc }
theorem GoalsOK.bayed {n:Int} {b:Book} {p q:Plant} {l:List Goal} (h:GoalsOK n b p l) (hd:p.door=true) (hq:q={ p with bay:=q.bay }):GoalsOK n b q l:=by
 have k2:q.lift=p.lift:=by rw [hq]
 have k4:q.slots=p.slots:=by rw [hq]
 have k5:q.height=p.height:=by rw [hq]
 have k6:q.ext=p.ext:=by rw [hq]
 have ht:∀ x k,Track p x k l→Track q x k l:=fun x k h=>⟨by rw [k5,k6];exact h.1,by rw [k5];exact h.2⟩
 cases h with
 | nil=>exact .nil
 | back=>exact .back
 | shut=>exact .shut
 | welcome _ h1 h2=>exact .welcome _ h1 (k2.trans h2)
 | takeIn _ h1 h2=>exact .takeIn _ h1 (by rw [k2,k4];exact h2)
 | giveOut _ h0 h1 h2=>exact .giveOut _ h0 h1 (by rw [k2];exact h2)
 | fetch _ y h1 h2 h3=>
  refine .fetch _ y h1 (fun hl=>?_) (ht _ _ h3);have hf:=h2 (by rw [←k2];exact hl);refine ⟨hf.ok,by rw [k4];exact hf.car,by rw [k4];exact hf.free,?_,?_⟩
  ·rw [k4]
   intro hs
   rcases hf.spare hs with e|e
   ·exact Or.inl e
   ·have:=e.2.1;rw [hd] at this;cases this
  ·rw [k4]
   intro x hx hs hdp;have:=(hf.deep x hx hs hdp).2.2;rw [hd] at this;cases this
 | bring _ y h1 h2 h3=>
  refine .bring _ y h1 (fun hl=>?_) (ht _ _ h3);have hf:=h2 (by rw [←k2];exact hl);exact ⟨hf.ok,by rw [k4];exact hf.car,by rw [k4];exact hf.free,by rw [k2];exact hf.stay⟩
theorem arrive_form (p:Plant) (k:Int):(p.arrive k).1=p∨(p.door=true∧(p.arrive k).1={ p with bay:=k }):=by
 unfold Plant.arrive
 split
 ·exact Or.inl rfl
 ·split
  ·exact Or.inl rfl
  ·rename_i h
   split
   ·exact Or.inl rfl
   ·refine Or.inr ⟨?_,rfl⟩
    cases hd:p.door
    ·exact absurd (Or.inl hd) h
    ·rfl
theorem leave_form (p:Plant):p.leave.1=p∨(p.door=true∧p.leave.1={ p with bay:=0 }):=by
 unfold Plant.leave
 split
 ·exact Or.inl rfl
 ·rename_i h
  refine Or.inr ⟨?_,rfl⟩;cases hd:p.door
  ·exact absurd (Or.inl hd) h
  ·rfl
theorem outside_ok {n:Int} {b:Book} {p:Plant} {l:List Goal} (h:Core n b p) (hg:GoalsOK n b p l) (a:Act) (hk:a.kind≠kStep):Core n b (p.outside a)∧GoalsOK n b (p.outside a) l:=by
 have hs:=h.safe.outside a hk;have hn:=nodup_next h.safe.wf h.nodup a;unfold Plant.outside at *;rw [if_neg hk] at *
 split
 ·exact ⟨h.walk _,hg.walk _⟩
 ·rename_i k2
  rw [if_neg k2] at hs hn
  split
  ·rename_i k3
   rw [if_pos k3] at hs hn
   rcases arrive_form p a.a with e|⟨hd,e⟩
   ·rw [e];exact ⟨h,hg⟩
   ·have hq:(p.arrive a.a).1={ p with bay:=(p.arrive a.a).1.bay }:=by rw [e]
    exact ⟨h.bayed hs hd hn hq,hg.bayed hd hq⟩
  ·rename_i k3
   rw [if_neg k3] at hs hn
   split
   ·rename_i k4
    rw [if_pos k4] at hs hn
    rcases leave_form p with e|⟨hd,e⟩
    ·rw [e];exact ⟨h,hg⟩
    ·have hq:p.leave.1={ p with bay:=p.leave.1.bay }:=by rw [e]
     exact ⟨h.bayed hs hd hn hq,hg.bayed hd hq⟩
   ·split
    ·exact ⟨h.stall _,hg.stall _⟩
    ·exact ⟨h,hg⟩
theorem of_some {b:Book} {id:Int} {x:Stay} (h:b.of id=some x):x∈b.stays∧x.car.id=id:=by
 unfold Book.of at h;exact ⟨List.mem_of_find?_eq_some h,by simpa using List.find?_some h⟩
theorem of_none {b:Book} {id:Int} (h:b.of id=none):∀ x∈b.stays,x.car.id≠id:=by
 unfold Book.of at h;rw [List.find?_eq_none] at h;intro x hx e;exact h x hx (by simpa using e)
theorem stay_of {b:Book} {n:Int} (h:b.OK n) {j:Job} (hj:j∈b.jobs):b.stay j.ticket∈b.stays∧(b.stay j.ticket).ticket=j.ticket:=by
 obtain ⟨s,hs,e⟩:=h.found j hj;unfold Book.stay Book.find
 cases hf:b.stays.find? (fun s=>s.ticket==j.ticket) with
 | none=>
  rw [List.find?_eq_none] at hf;exact absurd (by simpa using e) (hf s hs)
 | some x=>exact ⟨List.mem_of_find?_eq_some hf,by simpa using List.find?_some hf⟩
theorem first_mem {b:Book} {bay:Int} {j:Job} (h:firstJob b bay=some j):j∈b.jobs∧(b.jobs.head? = some j∨(j.fetch=false∧(b.stay j.ticket).car.id=bay)):=by
 unfold firstJob at h
 split at h
 ·rename_i i hi
  cases h;have:=List.find?_some hi;simp at this;exact ⟨List.mem_of_find?_eq_some hi,Or.inr ⟨this.1,this.2⟩⟩
 ·exact ⟨List.mem_of_head? h,Or.inl h⟩
theorem first_head {n:Int} {b:Book} {p:Plant} (h:Core n b p) (hb:p.bay=0):firstJob b p.bay=b.jobs.head?:=by
 unfold firstJob;rw [hb]
 cases hf:b.jobs.find? (fun j=>!j.fetch&&(b.stay j.ticket).car.id==0) with
 | none=>rfl
 | some j=>
  have h1:=List.find?_some hf;have hm:=List.mem_of_find?_eq_some hf;have hs:=(stay_of h.book hm).1;have:=h.id_pos hs;simp at h1;omega
theorem fetch_head {b:Book} {bay:Int} {j:Job} (h:firstJob b bay=some j) (hf:j.fetch=true):b.jobs.head? = some j:=by
 rcases (first_mem h).2 with k|k
 ·exact k
 ·rw [hf] at k;cases k.1
theorem front_spare {n:Int} {b:Book} {p:Plant} (h:Core n b p) {s:Stay} (hs:s∈b.stays):front s.home≠spare n:=by
 have hm:=(h.book.stays.1 s hs).2.2.2.2;have h1:=h.safe.wf.lv1;have h2:=h.safe.wf.lv2;rw [h.ln] at h1 h2
 have:n=1∨n=2∨n=3∨n=4:=by omega
 have key:∀ m:Int,m=1∨m=2∨m=3∨m=4→∀ x∈places m,front x≠spare m:=by
  rintro m (rfl|rfl|rfl|rfl) <;> decide
 exact key n this _ hm
theorem home_free {n:Int} {b:Book} {p:Plant} (h:Core n b p) {x:Stay} (hx:x∈b.stays) (hl:p.lift=x.car.id):p.slots x.home=0:=by
 apply Classical.byContradiction;intro hc
 have hl0:p.lift≠0:=by have:=h.id_pos hx;omega
 obtain ⟨s,hs,e,hh⟩:=h.slots _ hc
 rcases hh with hh|hh
 ·have:x=s:=home_inj h.book.stays hx hs hh
  subst this;exact slots_lift h.safe.wf h.nodup hl0 x.home (by rw [←e,hl])
 ·exact (h.place hx).2 hh
theorem loaded_ok {n:Int} {b:Book} {p:Plant} (h:Core n b p) (hl:p.lift≠0):GoalsOK n b p (loaded b n p):=by
 have hn1:1≤n:=by have:=h.safe.wf.lv1;rw [h.ln] at this;exact this
 have give:(∀ x∈b.stays,p.lift=x.car.id→b.jobs.head? = some ⟨x.ticket,true⟩)→GoalsOK n b p giveOut:=fun hg=>by
  have:=GoalsOK.giveOut (n:=n) (b:=b) (p:=p) (ahead 0++[⟨8,0⟩]) (by simp [ahead]) (List.suffix_refl _) hg
  simpa [giveOut] using this
 unfold loaded
 cases ho:b.of p.lift with
 | none=>exact give fun x hx e=>absurd e.symm (of_none ho x hx)
 | some x=>
  obtain ⟨hx,hxl⟩:=of_some ho
  have hu:∀ y∈b.stays,p.lift=y.car.id→y=x:=fun y hy e=>id_inj h.book.stays hy hx (by rw [hxl,e])
  -- a car whose home is behind a place that somebody has: its fetch is the head job, and the bay is empty
  have deep:x.home.depth=1→p.slots (front x.home)≠0→b.jobs.head? = some ⟨x.ticket,true⟩∧p.bay=0:=by
   intro hd hf
   rcases h.E x hx hxl.symm hd with hst|hst
   ·exfalso
    obtain ⟨s,hs,e,hh⟩:=h.slots _ hf
    rcases hh with hh|hh
    ·exact h.B x hx s hs hd hh.symm hst
    ·exact front_spare h hx hh
   ·exact hst
  have home:(x.home.depth=1→p.slots (front x.home)=0)→GoalsOK n b p (bring x.home):=fun hf=>
   .bring _ x.home (List.suffix_refl _) (fun _=>⟨(h.place hx).1,home_free h hx hxl.symm,hf,x,hx,hxl,Or.inl rfl⟩)
    ⟨fun e=>by simp [bring,there,ahead] at e,fun e=>by simp [bring,there,ahead] at e⟩
  cases hj:firstJob b p.bay with
  | none=>
   dsimp only
   have hjobs:b.jobs.head? = none:=by
    unfold firstJob at hj
    split at hj
    ·cases hj
    ·exact hj
   by_cases hc:(x.home.depth==1&&p.slots (front x.home) != 0)=true
   ·exfalso
    simp at hc;have:=(deep hc.1 hc.2).1;rw [hjobs] at this;cases this
   ·rw [if_neg hc]
    simp at hc;exact home hc
  | some j=>
   dsimp only
   by_cases hg:(j.fetch&&j.ticket==x.ticket&&p.bay==0)=true
   ·rw [if_pos hg]
    simp at hg
    refine give fun y hy e=>?_
    rw [hu y hy e,fetch_head hj hg.1.1]
    congr 1
    obtain ⟨t,f⟩:=j;simp at hg;simp [hg]
   ·rw [if_neg hg]
    by_cases hc:((x.home.depth==1&&p.slots (front x.home) != 0) || blocks b p x j)=true
    ·rw [if_pos hc]
     have noA:¬ (x.home.depth=1∧p.slots (front x.home)≠0):=by
      rintro ⟨h1,h2⟩;obtain ⟨k1,k2⟩:=deep h1 h2;rw [first_head h k2,k1] at hj;cases hj;apply hg;simp [k2]
     simp only [Bool.or_eq_true,Bool.and_eq_true,beq_iff_eq,bne_iff_ne] at hc
     rcases hc with hc|hc
     ·exact absurd hc noA
     ·have hc':=hc
      unfold blocks at hc;simp only [Bool.and_eq_true,beq_iff_eq] at hc
      have hd0:x.home.depth=0:=by rw [←hc.1.2];rfl
      have hsp:p.slots (spare n)=0:=by
       apply Classical.byContradiction;intro hne;obtain ⟨k1,y,hy,k2,k3⟩:=h.F hl hne;have hyx:=hu y hy k2;subst hyx;rw [first_head h k1,k3] at hj;cases hj;apply hg;simp [k1]
      exact .bring _ (spare n) (List.suffix_refl _) (fun _=>⟨spare_ok hn1,hsp,fun e=>by unfold spare at e;simp at e,x,hx,hxl,Or.inr ⟨rfl,hd0⟩⟩)
       ⟨fun e=>by simp [bring,there,ahead] at e,fun e=>by simp [bring,there,ahead] at e⟩
    ·rw [if_neg hc]
     simp at hc;exact home hc.1
theorem where_some {p:Plant} {id:Int} {y:Place} (h:p.where_ id=some y):id≠0∧p.slots y=id∧placeFault y p.levels=0:=by
 unfold Plant.where_ at h
 split at h
 ·cases h
 ·rename_i h0
  have h1:=List.find?_some h;have h2:=List.mem_of_find?_eq_some h;rw [mem_allPlaces] at h2;exact ⟨h0,by simpa using h1,h2⟩
theorem fetch_start {n:Int} {b:Book} {p:Plant} {y:Place} (h:Fetching n b p y):GoalsOK n b p (fetch y):=
 .fetch _ y (List.suffix_refl _) (fun _=>h) ⟨fun e=>by simp [fetch,there,ahead] at e,fun e=>by simp [fetch,there,ahead] at e⟩
theorem turn_goals {n:Int} {b:Book} {p:Plant} (h:Core n b p) {l:List Goal} (ht:turnOf b n p=(l,none)):GoalsOK n b p l:=by
 have hn1:1≤n:=by have:=h.safe.wf.lv1;rw [h.ln] at this;exact this
 unfold turnOf at ht
 by_cases hl:p.lift≠0
 ·rw [if_pos hl] at ht
  cases ht;exact loaded_ok h hl
 ·rw [if_neg hl] at ht
  have hl:p.lift=0:=by omega
  dsimp only at ht
  by_cases hc:p.slots (spare n)≠0∧¬ (∃ y∈firstJob b p.bay,∃ x∈b.of (p.slots (spare n)),blocks b p x y=true)
  ·rw [if_pos hc] at ht
   cases ht;exact fetch_start ⟨spare_ok hn1,hc.1,fun e=>by unfold spare at e;simp at e,fun _=>Or.inl rfl,fun x hx hs hd=>by have:=h.D x hx hs;omega⟩
  ·rw [if_neg hc] at ht
   cases hj:firstJob b p.bay with
   | none=>
    rw [hj] at ht;dsimp only at ht
    split at ht
    ·cases ht;exact .nil
    ·cases ht;exact .welcome _ (List.suffix_refl _) hl
   | some j=>
    rw [hj] at ht hc;dsimp only at ht;obtain ⟨hjm,_⟩:=first_mem hj;obtain ⟨hx,hxt⟩:=stay_of h.book hjm;generalize hxe:b.stay j.ticket=x at hx hxt;unfold jobOf at ht;rw [hxe] at ht
    by_cases hf:j.fetch=true
    ·rw [if_pos hf] at ht
     have hhead:b.jobs.head? = some ⟨x.ticket,true⟩:=by
      rw [fetch_head hj hf,hxt]
      congr 1
      obtain ⟨t,f⟩:=j;simp at hf;simp [hf]
     by_cases ho:(fetchOf p x).2=true
     ·rw [if_pos ho] at ht;cases ht
     ·rw [if_neg ho] at ht
      cases ht;unfold fetchOf at *
      by_cases c1:p.bay=x.car.id∨p.has x.car.id=false
      ·rw [if_pos c1] at ho;exact absurd rfl ho
      rw [if_neg c1] at ho ⊢
      by_cases c2:p.bay≠0∧p.door=true
      ·rw [if_pos c2];exact .nil
      rw [if_neg c2] at ho ⊢
      by_cases c3:p.bay≠0
      ·rw [if_pos c3];exact .welcome _ (List.suffix_refl _) hl
      rw [if_neg c3] at ho ⊢
      by_cases c4:p.door=true
      ·rw [if_pos c4];exact .shut
      rw [if_neg c4] at ho ⊢
      have hb0:p.bay=0:=by omega
      have hd0:p.door=false:=by simpa using c4
      cases hw:p.where_ x.car.id with
      | none=>exact .nil
      | some y=>
       obtain ⟨w1,w2,w3⟩:=where_some hw;rw [h.ln] at w3
       have only:∀ z∈b.stays,p.slots y=z.car.id→z=x:=fun z hz e=>id_inj h.book.stays hz hx (by rw [←e,w2])
       dsimp only
       by_cases c5:y.depth=1∧p.slots (front y)≠0
       ·rw [if_pos c5]
        refine fetch_start ⟨front_ok w3,c5.2,fun e=>by unfold front at e;simp at e,?_,?_⟩
        ·intro hs
         left
         -- the spare place is taken: by the car that belongs in front of the one that is fetched
         apply Classical.byContradiction;intro hne;apply hc;refine ⟨hs,?_⟩;rintro ⟨y',hy',x0,hx0,hbl⟩;cases hy';obtain ⟨m1,m2⟩:=of_some hx0;unfold blocks at hbl;rw [hxe] at hbl;simp only [Bool.and_eq_true,beq_iff_eq] at hbl;have hyh:y=x.home:=slots_inj h.safe.wf h.nodup (by rw [w2];exact w1) (by rw [w2,hbl.2]);obtain ⟨s,hs1,hs2,hs3⟩:=h.slots _ c5.2
         rcases hs3 with hs3|hs3
         ·have:s=x0:=home_inj h.book.stays hs1 m1 (by rw [←hs3,hyh,hbl.1.2])
          subst this;exact hne (slots_inj h.safe.wf h.nodup c5.2 (by rw [←hs2,m2]))
         ·exact hne hs3
        ·intro z hz e hd
         exfalso;obtain ⟨s,hs1,hs2,hs3⟩:=h.slots _ c5.2;have:s=z:=id_inj h.book.stays hs1 hz (by rw [hs2,e]);subst this
         rcases hs3 with hs3|hs3
         ·have:s.home.depth=0:=by rw [←hs3];rfl
          omega
         ·have:=h.D s hs1 (by rw [←hs3,←hs2])
          omega
       ·rw [if_neg c5]
        refine fetch_start ⟨w3,by rw [w2];exact w1,?_,?_,?_⟩
        ·intro hd
         apply Classical.byContradiction;intro hne;exact c5 ⟨hd,hne⟩
        ·intro _
         exact Or.inr ⟨hb0,hd0,fun z hz e=>by rw [only z hz e];exact hhead⟩
        ·intro z hz e _
         exact ⟨by rw [only z hz e];exact hhead,hb0,hd0⟩
    ·rw [if_neg hf] at ht
     cases hst:(storeOf p x).2 with
     | some g=>rw [hst] at ht;cases ht
     | none=>
      rw [hst] at ht;cases ht
      have hsp:p.slots (spare n)=0:=by
       apply Classical.byContradiction;intro hne;apply hc;refine ⟨hne,?_⟩;rintro ⟨y',hy',x0,_,hbl⟩;cases hy';unfold blocks at hbl;simp only [Bool.and_eq_true] at hbl;exact hf hbl.1.1.1
      unfold storeOf at *
      split
      ·exact .nil
      ·split
       ·exact .takeIn _ (List.suffix_refl _) (fun _=>hsp)
       ·split <;> exact .nil
theorem head_filter {α:Type} {l:List α} {f:α→Bool} {x:α} (h:l.head? = some x) (hf:f x=true):(l.filter f).head? = some x:=by
 cases l with
 | nil=>cases h
 | cons y l=>
  cases h;simp [hf]
theorem Core.gone {n:Int} {b:Book} {p:Plant} (h:Core n b p) (hl:p.lift=0) {j:Job} {g:Bool} (hjm:j∈b.jobs) (ho:(j.fetch || g)=true) (hns:∀ y,p.slots y≠(b.stay j.ticket).car.id):Core n (doneWith b j g) p:=by
 have hok:=done_ok h.book j g;obtain ⟨hx,hxt⟩:=stay_of h.book hjm
 have hst:(doneWith b j g).stays=b.stays.filter fun s=>!(s.ticket==j.ticket):=by unfold doneWith;rw [ho];rfl
 have hjb:(doneWith b j g).jobs=b.jobs.filter fun y=>!(y==j || ((j.fetch || g)&&y.ticket==j.ticket)):=rfl
 have hmem:∀ {s:Stay},s∈(doneWith b j g).stays→s∈b.stays∧s.ticket≠j.ticket:=fun hs=>by
  rw [hst,List.mem_filter] at hs;exact ⟨hs.1,by simpa using hs.2⟩
 have hjob:∀ {y:Job},y∈(doneWith b j g).jobs→y∈b.jobs:=fun hy=>by
  rw [hjb,List.mem_filter] at hy;exact hy.1
 have hkeep:∀ {y:Job},y.ticket≠j.ticket→(!(y==j || ((j.fetch || g)&&y.ticket==j.ticket)))=true:=fun {y} hy=>by
  have:y≠j:=by rintro rfl;exact hy rfl
  simp [this,hy]
 refine ⟨h.ln,h.safe,hok,h.nodup,?_,?_,?_,?_,?_,?_,?_,?_,h.H,h.R⟩
 ·intro y hy
  obtain ⟨s,hs,e,hh⟩:=h.slots y hy;refine ⟨s,?_,e,hh⟩;rw [hst,List.mem_filter];refine ⟨hs,?_⟩
  have:s.ticket≠j.ticket:=by
   intro c;have:s=b.stay j.ticket:=ticket_inj h.book.stays hs hx (by rw [c,hxt]);exact hns y (by rw [←e,this])
  simpa using this
 ·intro u hu z hz hd he hc
  exact h.B u (hmem hu).1 z (hmem hz).1 hd he (hjob hc)
 ·intro u hu hc
  obtain ⟨hu1,hu2⟩:=hmem hu
  have hc':¬ (⟨u.ticket,false⟩:Job)∈b.jobs:=by
   intro hm;apply hc;rw [hjb,List.mem_filter];exact ⟨hm,hkeep hu2⟩
  rcases h.C u hu1 hc' with k|k|k
  ·exact Or.inl k
  ·exact Or.inr (Or.inl k)
  ·exact Or.inr (Or.inr (by rw [hjb];exact head_filter k (hkeep hu2)))
 ·intro u hu hs
  exact h.D u (hmem hu).1 hs
 ·intro u hu hc
  have:=h.id_pos (hmem hu).1;omega
 ·intro hc;exact absurd hl hc
 ·intro hc;exact absurd hl hc
 ·rw [hjb];exact h.G.sublist List.filter_sublist
theorem Core.stored {n:Int} {b:Book} {p:Plant} (h:Core n b p) (hl:p.lift=0) {j:Job} (hjm:j∈b.jobs) (hf:j.fetch=false) (hs:p.slots (b.stay j.ticket).home=(b.stay j.ticket).car.id):Core n (doneWith b j false) p:=by
 have hok:=done_ok h.book j false;obtain ⟨hx,hxt⟩:=stay_of h.book hjm
 have hst:(doneWith b j false).stays=b.stays:=by unfold doneWith;rw [hf];rfl
 have hjb:(doneWith b j false).jobs=b.jobs.filter fun y=>!(y==j || ((j.fetch || false)&&y.ticket==j.ticket)):=rfl
 have hjob:∀ {y:Job},y∈(doneWith b j false).jobs→y∈b.jobs:=fun hy=>by
  rw [hjb,List.mem_filter] at hy;exact hy.1
 have hkeep:∀ {y:Job},y≠j→(!(y==j || ((j.fetch || false)&&y.ticket==j.ticket)))=true:=fun {y} hy=>by
  simp [hy,hf]
 refine ⟨h.ln,h.safe,hok,h.nodup,by rw [hst];exact h.slots,?_,?_,by rw [hst];exact h.D,?_,?_,?_,?_,h.H,h.R⟩
 ·intro u hu z hz hd he hc
  rw [hst] at hu hz;exact h.B u hu z hz hd he (hjob hc)
 ·intro u hu hc
  rw [hst] at hu
  by_cases hux:u=b.stay j.ticket
  ·left;exact ⟨_,by rw [hux];exact hs⟩
  ·have hut:u.ticket≠j.ticket:=fun c=>hux (ticket_inj h.book.stays hu hx (by rw [c,hxt]))
   have hc':¬ (⟨u.ticket,false⟩:Job)∈b.jobs:=by
    intro hm;apply hc;rw [hjb,List.mem_filter];exact ⟨hm,hkeep (by rintro rfl;exact hut rfl)⟩
   rcases h.C u hu hc' with k|k|k
   ·exact Or.inl k
   ·exact Or.inr (Or.inl k)
   ·exact Or.inr (Or.inr (by rw [hjb];exact head_filter k (hkeep (by rintro rfl;exact hut rfl))))
 ·intro u hu hc
  rw [hst] at hu;have:=h.id_pos hu;omega
 ·intro hc;exact absurd hl hc
 ·intro hc;exact absurd hl hc
 ·rw [hjb];exact h.G.sublist List.filter_sublist
theorem has_not {p:Plant} (hp:p.WF) {id:Int} (hid:id≠0) (h:p.has id=false):(∀ y,p.slots y≠id)∧p.lift≠id∧p.bay≠id:=by
 have key:id∉p.cars:=fun hm=>by rw [(has_iff hp hid).2 hm] at h;cases h
 rw [←List.count_eq_zero,count_cars,if_neg hid] at key;refine ⟨?_,?_,?_⟩
 ·intro y hy
  have hm:y∈allPlaces 4:=slots_mem hp (by rw [hy];exact hid);have:0<((allPlaces 4).map p.slots).count id:=List.count_pos_iff.2 (List.mem_map.2 ⟨y,hm,hy⟩);omega
 ·intro e;rw [if_pos e] at key;omega
 ·intro e;rw [if_pos e] at key;omega
theorem turn_book {n:Int} {b b':Book} {p:Plant} {l:List Goal} (h:Core n b p) (ht:turnOf b n p=(l,some b')):
  Core n b' p∧(∀ s∈b'.stays,s∈b.stays)∧(∀ s∈b.stays,s∉b'.stays→(∀ y,p.slots y≠s.car.id)∧p.lift≠s.car.id)∧b'.last=b.last∧∃ j g,j∈b.jobs∧b'=doneWith b j g:=by
 unfold turnOf at ht
 by_cases hl:p.lift≠0
 ·rw [if_pos hl] at ht;cases ht
 rw [if_neg hl] at ht
 have hl:p.lift=0:=by omega
 dsimp only at ht
 split at ht
 ·cases ht
 cases hj:firstJob b p.bay with
 | none=>rw [hj] at ht;dsimp only at ht;split at ht <;> cases ht
 | some j=>
  rw [hj] at ht;dsimp only at ht;obtain ⟨hjm,_⟩:=first_mem hj;obtain ⟨hx,hxt⟩:=stay_of h.book hjm
  have hid:(b.stay j.ticket).car.id≠0:=by have:=h.id_pos hx;omega
  have sub:∀ g,∀ s∈(doneWith b j g).stays,s∈b.stays:=fun g s hs=>by
   unfold doneWith at hs;dsimp only at hs
   split at hs
   ·exact (List.mem_filter.1 hs).1
   ·exact hs
  have left:∀ g,∀ s∈b.stays,s∉(doneWith b j g).stays→s=b.stay j.ticket:=fun g s hs hns=>by
   unfold doneWith at hns;dsimp only at hns
   split at hns
   ·have:s.ticket=j.ticket:=by
     apply Classical.byContradiction;intro hc;exact hns (List.mem_filter.2 ⟨hs,by simpa using hc⟩)
    exact ticket_inj h.book.stays hs hx (by rw [this,hxt])
   ·exact absurd hs hns
  have full:∀ g,(j.fetch || g)=true→(∀ y,p.slots y≠(b.stay j.ticket).car.id)→p.lift≠(b.stay j.ticket).car.id→b'=doneWith b j g →
    Core n b' p∧(∀ s∈b'.stays,s∈b.stays)∧(∀ s∈b.stays,s∉b'.stays→(∀ y,p.slots y≠s.car.id)∧p.lift≠s.car.id)∧b'.last=b.last∧∃ j g,j∈b.jobs∧b'=doneWith b j g:=by
   intro g ho hns hnl e;subst e;refine ⟨h.gone hl hjm ho hns,sub g,?_,rfl,j,g,hjm,rfl⟩;intro s hs hn;rw [left g s hs hn];exact ⟨hns,hnl⟩
  have hnl:p.lift≠(b.stay j.ticket).car.id:=by rw [hl];exact fun e=>hid e.symm
  unfold jobOf at ht
  by_cases hf:j.fetch=true
  ·rw [if_pos hf] at ht
   by_cases ho:(fetchOf p (b.stay j.ticket)).2=true
   ·rw [if_pos ho] at ht
    cases ht;refine full false (by rw [hf];rfl) ?_ hnl rfl;unfold fetchOf at ho
    by_cases c1:p.bay=(b.stay j.ticket).car.id∨p.has (b.stay j.ticket).car.id=false
    ·rcases c1 with c1|c1
     ·intro y
      rw [←c1];exact slots_bay h.safe.wf h.nodup (by rw [c1];exact hid) y
     ·exact (has_not h.safe.wf hid c1).1
    ·exfalso
     rw [if_neg c1] at ho
     split at ho
     ·cases ho
     ·split at ho
      ·cases ho
      ·split at ho
       ·cases ho
       ·split at ho
        ·split at ho <;> cases ho
        ·cases ho
   ·rw [if_neg ho] at ht;cases ht
  ·rw [if_neg hf] at ht
   have hf:j.fetch=false:=by simpa using hf
   cases hst:(storeOf p (b.stay j.ticket)).2 with
   | none=>rw [hst] at ht;cases ht
   | some g=>
    rw [hst] at ht;cases ht;unfold storeOf at hst
    by_cases c1:p.slots (b.stay j.ticket).home=(b.stay j.ticket).car.id
    ·rw [if_pos c1] at hst
     cases hst
     have e:(doneWith b j false).stays=b.stays:=by unfold doneWith;rw [hf];rfl
     refine ⟨h.stored hl hjm hf c1,sub false,?_,rfl,j,false,hjm,rfl⟩;intro s hs hn;rw [e] at hn;exact absurd hs hn
    ·rw [if_neg c1] at hst
     by_cases c2:p.bay=(b.stay j.ticket).car.id
     ·rw [if_pos c2] at hst;cases hst
     ·rw [if_neg c2] at hst
      by_cases c3:p.has (b.stay j.ticket).car.id=true
      ·rw [if_pos c3] at hst;cases hst
      ·rw [if_neg c3] at hst
       cases hst;exact full true (by simp) (has_not h.safe.wf hid (by simpa using c3)).1 hnl rfl
theorem House.Inv'.tick {h:House} (hi:h.Inv'):h.tick.Inv':=by
 unfold House.tick
 by_cases hg:h.goals=[]
 ·rw [if_pos hg]
  cases ht:turnOf h.b h.n h.p with
  | mk l o=>
   cases o with
   | none=>exact hi.go (turn_goals hi.core ht)
   | some b=>
    obtain ⟨k1,k2,_,_⟩:=turn_book hi.core ht;exact ⟨hi.lv,k1,fun s hs=>hi.fit s (k2 s hs),by rw [show ({ h with b:=b }:House).goals=[] from hg];exact .nil⟩
 ·rw [if_neg hg]
  exact hi.go hi.goals
theorem levels_len {l:List Size} (h:levelsFault l=0):1≤l.length∧l.length≤4:=by
 unfold levelsFault at h
 split at h
 ·cases h
 ·omega
theorem House.Inv'.park {h:House} (hi:h.Inv') (c:Car):(h.park c).1.Inv':=by
 unfold House.park
 by_cases hb:h.p.bay≠c.id
 ·rw [if_pos hb];exact hi
 rw [if_neg hb]
 have hb:h.p.bay=c.id:=by omega
 have hlen:=levels_len hi.lv
 cases hp:Ch.park h.b h.sizes c with
 | error e=>exact hi
 | ok r=>
  obtain ⟨b,k⟩:=r;obtain ⟨x,k1,k2,k3,k4,k5,k6,k7,k8⟩:=park_ok (x:=b) (k:=k) hi.core.book hlen.2 hp;obtain ⟨q1,q2,q3,q4,q5⟩:=pick_some k1
  have hc1:1≤c.id:=by
   unfold carFault at k2
   split at k2
   ·cases k2
   ·omega
  subst k7;refine ⟨hi.lv,hi.core.parked hb hc1 k8 q4 q5,?_,hi.goals.parked hi.core hb hc1⟩;intro s hs
  rcases List.mem_append.1 hs with hs|hs
  ·exact hi.fit s hs
  ·simp at hs;subst hs;exact q2
theorem House.Inv'.want {h:House} (hi:h.Inv') (t:Int):(h.want t).1.Inv':=by
 unfold House.want
 cases hw:Ch.want h.b t with
 | error e=>exact hi
 | ok b=>
  obtain ⟨k1,k2⟩:=want_ok hi.core.book hw;subst k1;exact ⟨hi.lv,hi.core.wanted k2,hi.fit,hi.goals.wanted⟩
theorem House.Inv'.ticks {h:House} (hi:h.Inv') (n:Nat):(House.ticks n h).Inv':=by
 induction n generalizing h with
 | zero=>exact hi
 | succ n ih=>exact ih hi.tick
theorem House.Inv'.play {h:House} (hi:h.Inv') (a:Act):(h.play a).Inv':=by
 unfold House.play
 split
 ·exact hi.park _
 ·split
  ·exact hi.want _
  ·split
   ·exact ⟨hi.lv,hi.core,hi.fit,.nil⟩
   ·split
    ·rename_i hk
     have hs:a.kind≠kStep:=by
      rcases hk with hk|hk|hk|hk <;> (rw [hk];decide)
     have:=outside_ok hi.core hi.goals a hs;exact ⟨hi.lv,this.1,hi.fit,this.2⟩
    ·exact hi.ticks _
theorem House.Inv'.new {sizes:List Size} (h:levelsFault sizes=0):(House.new sizes).Inv':=by
 have hlen:=levels_len h
 have h1:(1:Int)≤sizes.length:=by omega
 have h2:(sizes.length:Int)≤4:=by omega
 have hb:(House.new sizes).b.OK (House.new sizes).n:=bookFault_iff.1 (by
  show bookFault ⟨0,[],[]⟩ _=0
  simp [bookFault,staysFault,jobsFault])
 refine ⟨h,?_,(by intro s hs;cases hs),.nil⟩;refine ⟨rfl,Plant.Safe.new h1 h2,hb,?_,?_,?_,?_,?_,?_,?_,?_,?_,?_,?_⟩
 all_goals first
  | (show (Plant.new _).cars.Nodup;rw [new_cars];simp;done)
  | (intro x hx;cases hx;done)
  | exact (fun x hx=>absurd rfl hx)
  | exact (fun hl=>absurd rfl hl)
  | exact List.Pairwise.nil
  | exact (fun hx=>by rcases hx with hx|hx <;> cases hx)
  | skip
end Ch
