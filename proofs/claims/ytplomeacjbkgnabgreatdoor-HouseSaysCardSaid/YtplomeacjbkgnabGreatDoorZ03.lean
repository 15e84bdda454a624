import Derived.Test.YtplomeacjbkgnabGreatDoorZ01
set_option linter.all false
set_option maxRecDepth 100000
set_option maxHeartbeats 16000000
namespace Ch
theorem placeFault_iff {x:Place} {n:Int}:placeFault x n=0↔1≤x.level∧x.level≤n∧0≤x.side∧x.side≤1∧0≤x.depth∧x.depth≤1:=by
 unfold placeFault
 split <;> simp <;> omega
theorem mem_allPlaces {x:Place} {n:Int}:x∈allPlaces n↔placeFault x n=0:=by
 rw [placeFault_iff];obtain ⟨a,b,c⟩:=x;simp only [allPlaces,List.mem_flatMap,List.mem_range,List.mem_cons,Place.mk.injEq,List.not_mem_nil,or_false];constructor
 ·rintro ⟨k,hk,h⟩;omega
 ·intro h
  refine ⟨(a - 1).toNat,by omega,?_⟩;omega
structure Plant.WF (p:Plant):Prop where
 lv1:1≤p.levels
 lv2:p.levels≤4
 ht1:0≤p.height
 ht2:p.height≤p.levels * 3
 ex1:-2≤p.ext
 ex2:p.ext≤2
 pe1:0≤p.people
 pe2:p.people≤9
 st1:0≤p.stall
 st2:p.stall≤5
 li1:0≤p.lift
 li2:p.lift≤999
 ba1:0≤p.bay
 ba2:p.bay≤999
 sl:∀ x,p.slots x≠0→placeFault x p.levels=0
 sv:∀ x,0≤p.slots x∧p.slots x≤999
theorem Plant.place_some {p:Plant} {e:Int} {x:Place} (h:p.place e=some x):
  p.height % 3=0∧p.height≠0∧e≠0∧-2≤e∧e≤2∧x.level=p.height / 3∧((e<0∧x.side=0∧x.depth=-e - 1)∨(0<e∧x.side=1∧x.depth=e - 1)):=by
 unfold Plant.place at h
 split at h
 ·cases h
 ·split at h <;> (cases h;simp;omega)
theorem Plant.place_ok {p:Plant} (hp:p.WF) {e:Int} {x:Place} (h:p.place e=some x):placeFault x p.levels=0:=by
 have:=place_some h;have h1:=hp.ht1;have h2:=hp.ht2;rw [placeFault_iff];omega
theorem clamp_bd (n hi:Int) (h:0≤hi):0≤clamp n hi∧clamp n hi≤hi:=by unfold clamp;omega
theorem Plant.WF.act {p:Plant} (hp:p.WF) (c:Int):(p.act c).WF:=by
 obtain ⟨a1,a2,a3,a4,a5,a6,a7,a8,a9,a10,a11,a12,a13,a14,a15,a16⟩:=id hp;unfold Plant.act
 have hr:∀ n,(p.rise n).WF:=fun n=>by
  have:=clamp_bd (p.height+n) (p.levels * 3) (by omega);exact ⟨a1,a2,this.1,this.2,a5,a6,a7,a8,a9,a10,a11,a12,a13,a14,a15,a16⟩
 have hs:∀ n,(p.stretch n).WF:=fun n=>by
  unfold Plant.stretch
  split
  ·exact hp
  ·exact ⟨a1,a2,a3,a4,by dsimp only;omega,by dsimp only;omega,a7,a8,a9,a10,a11,a12,a13,a14,a15,a16⟩
 have hg:p.grab.WF:=by
  unfold Plant.grab
  split
  ·exact hp
  ·rename_i x hx
   split
   ·refine ⟨a1,a2,a3,a4,a5,a6,a7,a8,a9,a10,(a16 x).1,(a16 x).2,a13,a14,?_,?_⟩
    ·intro y hy
     simp only [setSlot] at hy
     split at hy
     ·exact absurd rfl hy
     ·exact a15 y hy
    ·intro y
     simp only [setSlot]
     split
     ·omega
     ·exact a16 y
   ·exact hp
 have hu:p.put.WF:=by
  unfold Plant.put
  split
  ·exact hp
  ·rename_i x hx
   split
   ·refine ⟨a1,a2,a3,a4,a5,a6,a7,a8,a9,a10,by simp,by simp,a13,a14,?_,?_⟩
    ·intro y hy
     simp only [setSlot] at hy
     split at hy
     ·rename_i e;rw [e];exact Plant.place_ok hp hx
     ·exact a15 y hy
    ·intro y
     simp only [setSlot]
     split
     ·omega
     ·exact a16 y
   ·exact hp
 have hw:∀ o,(p.swing o).WF:=fun o=>⟨a1,a2,a3,a4,a5,a6,a7,a8,a9,a10,a11,a12,a13,a14,a15,a16⟩
 have hpa:∀ i,(p.pass i).WF:=fun i=>by
  unfold Plant.pass;dsimp only
  split
  ·exact ⟨a1,a2,a3,a4,a5,a6,a7,a8,a9,a10,a11,a12,a13,a14,a15,a16⟩
  ·split
   ·split
    ·exact ⟨a1,a2,a3,a4,a5,a6,a7,a8,a9,a10,a13,a14,by simp,by simp,a15,a16⟩
    ·exact ⟨a1,a2,a3,a4,a5,a6,a7,a8,a9,a10,a11,a12,a13,a14,a15,a16⟩
   ·split
    ·exact ⟨a1,a2,a3,a4,a5,a6,a7,a8,a9,a10,by simp,by simp,a11,a12,a15,a16⟩
    ·exact ⟨a1,a2,a3,a4,a5,a6,a7,a8,a9,a10,a11,a12,a13,a14,a15,a16⟩
 repeat' split
 all_goals first|exact hr _|exact hs _|exact hg|exact hu|exact hw _|exact hpa _|exact hp
theorem Plant.WF.step {p:Plant} (hp:p.WF) (c:Int):(p.step c).WF:=by
 unfold Plant.step
 split
 ·obtain ⟨a1,a2,a3,a4,a5,a6,a7,a8,a9,a10,a11,a12,a13,a14,a15,a16⟩:=hp
  exact ⟨a1,a2,a3,a4,a5,a6,a7,a8,by dsimp only;omega,by dsimp only;omega,a11,a12,a13,a14,a15,a16⟩
 ·exact hp.act c
theorem Plant.WF.walk {p:Plant} (hp:p.WF) (n:Int):(p.walk n).1.WF:=by
 unfold Plant.walk
 split
 ·exact hp
 ·split
  ·exact hp
  ·obtain ⟨a1,a2,a3,a4,a5,a6,a7,a8,a9,a10,a11,a12,a13,a14,a15,a16⟩:=hp
   have:=clamp_bd (p.people+n) 9 (by omega);exact ⟨a1,a2,a3,a4,a5,a6,this.1,this.2,a9,a10,a11,a12,a13,a14,a15,a16⟩
theorem Plant.WF.arrive {p:Plant} (hp:p.WF) (n:Int):(p.arrive n).1.WF:=by
 unfold Plant.arrive
 split
 ·exact hp
 ·split
  ·exact hp
  ·split
   ·exact hp
   ·obtain ⟨a1,a2,a3,a4,a5,a6,a7,a8,a9,a10,a11,a12,a13,a14,a15,a16⟩:=hp
    exact ⟨a1,a2,a3,a4,a5,a6,a7,a8,a9,a10,a11,a12,by dsimp only;omega,by dsimp only;omega,a15,a16⟩
theorem Plant.WF.leave {p:Plant} (hp:p.WF):p.leave.1.WF:=by
 unfold Plant.leave
 split
 ·exact hp
 ·obtain ⟨a1,a2,a3,a4,a5,a6,a7,a8,a9,a10,a11,a12,a13,a14,a15,a16⟩:=hp
  exact ⟨a1,a2,a3,a4,a5,a6,a7,a8,a9,a10,a11,a12,by simp,by simp,a15,a16⟩
theorem Plant.WF.setStall {p:Plant} (hp:p.WF) (n:Int):(p.setStall n).1.WF:=by
 unfold Plant.setStall
 split
 ·exact hp
 ·obtain ⟨a1,a2,a3,a4,a5,a6,a7,a8,a9,a10,a11,a12,a13,a14,a15,a16⟩:=hp
  exact ⟨a1,a2,a3,a4,a5,a6,a7,a8,by dsimp only;omega,by dsimp only;omega,a11,a12,a13,a14,a15,a16⟩
theorem Plant.WF.new {n:Int} (h1:1≤n) (h2:n≤4):(Plant.new n).WF:=by
 constructor <;> simp [Plant.new] <;> omega
structure Act where
 kind:ByteArray
 a:Int
 b:Int
 car:Car
 s:ByteArray
 k:Int
 book:Book
def kStep:ByteArray:=⟨#[115,116,101,112]⟩
def kWalk:ByteArray:=⟨#[119,97,108,107]⟩
def kArrive:ByteArray:=⟨#[97,114,114,105,118,101]⟩
def kLeave:ByteArray:=⟨#[108,101,97,118,101]⟩
def kStall:ByteArray:=⟨#[115,116,97,108,108]⟩
def Act.first (a:Act):Option Int:=a.s.data.toList.head?.map fun c=>(c.toNat:Int)
def Plant.outside (p:Plant) (a:Act):Plant:=
 if a.kind=kStep then (match a.first with|none=>p|some c=>p.step c)
 else if a.kind=kWalk then (p.walk a.a).1
 else if a.kind=kArrive then (p.arrive a.a).1
 else if a.kind=kLeave then p.leave.1
 else if a.kind=kStall then (p.setStall a.a).1
 else p
theorem Plant.WF.outside {p:Plant} (hp:p.WF) (a:Act):(p.outside a).WF:=by
 unfold Plant.outside
 split
 ·split
  ·exact hp
  ·exact hp.step _
 ·split
  ·exact hp.walk _
  ·split
   ·exact hp.arrive _
   ·split
    ·exact hp.leave
    ·split
     ·exact hp.setStall _
     ·exact hp
/-! ### what may not be done -/
/-! ### a height, a reach come nearer -/
def StayOK (n last:Int) (s:Stay):Prop:=carFault s.car=0∧placeFault s.home n=0∧1≤s.ticket∧s.ticket≤last∧s.home∈places n
def StayLt (a b:Stay):Prop:=a.ticket<b.ticket∧a.home≠b.home∧a.car.id≠b.car.id
def oJ (n last:Int) (l:List Stay):Prop:=(∀ s∈l,StayOK n last s)∧l.Pairwise StayLt
theorem stayFault_iff {n last:Int} {before:List Stay} {s:Stay} (hb:before.Pairwise StayLt):stayFault n last before s=0↔StayOK n last s∧∀ x∈before,StayLt x s:=by
 unfold stayFault StayOK
 by_cases h1:carFault s.car≠0
 ·rw [if_pos h1];exact ⟨fun h=>absurd h h1,fun h=>absurd h.1.1 h1⟩
 rw [if_neg h1]
 by_cases h2:placeFault s.home n≠0
 ·rw [if_pos h2];exact ⟨fun h=>absurd h h2,fun h=>absurd h.1.2.1 h2⟩
 rw [if_neg h2]
 by_cases h3:s.ticket<1∨last<s.ticket
 ·rw [if_pos h3]
  constructor
  ·intro h;cases h
  ·intro h;omega
 rw [if_neg h3]
 by_cases h4:¬ s.home∈places n∨(∃ x∈before.getLast?,s.ticket≤x.ticket)
 ·rw [if_pos h4]
  constructor
  ·intro h;cases h
  ·rintro ⟨h,h'⟩
   rcases h4 with h4|⟨x,hx,hle⟩
   ·exact absurd h.2.2.2.2 h4
   ·have:=(h' x (List.mem_of_getLast? hx)).1
    omega
 rw [if_neg h4]
 have h4a:s.home∈places n:=by
  apply Classical.byContradiction;intro hc;exact h4 (Or.inl hc)
 have h4b:∀ x∈before,x.ticket<s.ticket:=by
  intro x hx
  cases hg:before.getLast? with
  | none=>rw [List.getLast?_eq_none_iff] at hg;subst hg;cases hx
  | some y=>
   have hy:y.ticket<s.ticket:=by
    apply Classical.byContradiction;intro hc;exact h4 (Or.inr ⟨y,hg,by omega⟩)
   rw [List.getLast?_eq_some_iff] at hg;obtain ⟨ys,rfl⟩:=hg;rw [List.pairwise_append] at hb
   rcases List.mem_append.1 hx with hx|hx
   ·have:=(hb.2.2 x hx y (by simp)).1;omega
   ·simp at hx;subst hx;exact hy
 by_cases h5:(before.any fun x=>x.home==s.home || x.car.id==s.car.id)=true
 ·rw [if_pos h5]
  constructor
  ·intro h;cases h
  ·rintro ⟨_,h'⟩
   rw [List.any_eq_true] at h5;obtain ⟨x,hx,e⟩:=h5;have:=(h' x hx).2;simp at e
   rcases e with e|e
   ·exact absurd e this.1
   ·exact absurd e this.2
 rw [if_neg h5];refine ⟨fun _=>⟨⟨by omega,by omega,by omega,by omega,h4a⟩,?_⟩,fun _=>rfl⟩;intro x hx;refine ⟨h4b x hx,?_,?_⟩
 ·intro e;apply h5;rw [List.any_eq_true];exact ⟨x,hx,by simp [e]⟩
 ·intro e;apply h5;rw [List.any_eq_true];exact ⟨x,hx,by simp [e]⟩
theorem staysFault_iff {n last:Int} {before l:List Stay} (hb:oJ n last before):staysFault n last before l=0↔oJ n last (before++l):=by
 induction l generalizing before with
 | nil=>simp [staysFault,hb]
 | cons s l ih=>
  unfold staysFault
  by_cases h:stayFault n last before s=0
  ·rw [if_neg (by simpa using h)]
   rw [stayFault_iff hb.2] at h;rw [ih,List.append_assoc]
   ·rfl
   ·refine ⟨?_,?_⟩
    ·intro x hx
     rcases List.mem_append.1 hx with hx|hx
     ·exact hb.1 x hx
     ·simp at hx;subst hx;exact h.1
    ·rw [List.pairwise_append]
     refine ⟨hb.2,by simp,?_⟩;intro x hx y hy;simp at hy;subst hy;exact h.2 x hx
  ·rw [if_pos h]
   refine ⟨fun e=>absurd e h,fun e=>?_⟩;exfalso;apply h;rw [stayFault_iff hb.2];refine ⟨e.1 s (by simp),fun x hx=>?_⟩;have:=List.pairwise_append.1 e.2;exact this.2.2 x hx s (by simp)
theorem jobsFault_iff {stays:List Stay} {before l:List Job} (hb:before.Nodup):jobsFault stays before l=0↔(∀ j∈l,∃ s∈stays,s.ticket=j.ticket)∧(before++l).Nodup:=by
 induction l generalizing before with
 | nil=>simp [jobsFault,hb]
 | cons j l ih=>
  unfold jobsFault
  by_cases h:(stays.any fun s=>s.ticket==j.ticket)=false∨j∈before
  ·rw [if_pos h]
   constructor
   ·intro e;cases e
   ·rintro ⟨e1,e2⟩
    rcases h with h|h
    ·obtain ⟨s,hs,e⟩:=e1 j (by simp)
     rw [List.any_eq_false] at h;exact absurd (by simpa using e) (h s hs)
    ·rw [List.nodup_append] at e2
     exact absurd rfl (e2.2.2 j h j (by simp))
  ·rw [if_neg h]
   have h1:∃ s∈stays,s.ticket=j.ticket:=by
    apply Classical.byContradiction;intro hc;apply h;left;rw [List.any_eq_false];intro s hs e;exact hc ⟨s,hs,by simpa using e⟩
   have h2:¬ j∈before:=fun hc=>h (Or.inr hc)
   have hb':(before++[j]).Nodup:=by
    rw [List.nodup_append];refine ⟨hb,by simp,?_⟩;intro x hx y hy;simp at hy;subst hy;rintro rfl;exact h2 hx
   rw [ih hb',List.append_assoc];constructor
   ·rintro ⟨e1,e2⟩
    refine ⟨?_,e2⟩;intro x hx
    rcases List.mem_cons.1 hx with rfl|hx
    ·exact h1
    ·exact e1 x hx
   ·rintro ⟨e1,e2⟩
    exact ⟨fun x hx=>e1 x (by simp [hx]),e2⟩
structure Book.OK (b:Book) (n:Int):Prop where
 l1:0≤b.last
 l2:b.last≤999999
 s16:b.stays.length≤16
 j8:b.jobs.length≤8
 stays:oJ n b.last b.stays
 found:∀ j∈b.jobs,∃ s∈b.stays,s.ticket=j.ticket
 once:b.jobs.Nodup
theorem bookFault_iff {b:Book} {n:Int}:bookFault b n=0↔b.OK n:=by
 unfold bookFault
 by_cases h1:b.last<0∨999999<b.last
 ·rw [if_pos h1]
  constructor
  ·intro h;cases h
  ·intro h;have:=h.l1;have:=h.l2;omega
 rw [if_neg h1]
 by_cases h2:16<b.stays.length∨8<b.jobs.length
 ·rw [if_pos h2]
  constructor
  ·intro h;cases h
  ·intro h;have:=h.s16;have:=h.j8;omega
 rw [if_neg h2];have hs:=staysFault_iff (n:=n) (last:=b.last) (before:=[]) (l:=b.stays) ⟨by simp,List.Pairwise.nil⟩;rw [List.nil_append] at hs;have hj:=jobsFault_iff (stays:=b.stays) (before:=[]) (l:=b.jobs) (by simp);rw [List.nil_append] at hj
 by_cases h3:staysFault n b.last [] b.stays≠0
 ·rw [if_pos h3]
  exact ⟨fun h=>absurd h h3,fun h=>absurd (hs.2 h.stays) h3⟩
 rw [if_neg h3,hj]
 have h3:staysFault n b.last [] b.stays=0:=by omega
 constructor
 ·rintro ⟨e1,e2⟩
  exact ⟨by omega,by omega,by omega,by omega,hs.1 h3,e1,e2⟩
 ·intro h
  exact ⟨h.found,h.once⟩
theorem oJ.sub {n last:Int} {l m:List Stay} (h:oJ n last l) (hs:List.Sublist m l):oJ n last m:=⟨fun s hm=>h.1 s (hs.subset hm),h.2.sublist hs⟩
/-! ### a job is over -/
theorem done_ok {b:Book} {n:Int} (h:b.OK n) (j:Job) (gone:Bool):(doneWith b j gone).OK n:=by
 obtain ⟨l1,l2,s16,j8,st,fo,on⟩:=h;unfold doneWith;refine ⟨l1,l2,?_,?_,?_,?_,?_⟩
 ·dsimp only
  split
  ·exact Nat.le_trans (List.length_filter_le _ _) s16
  ·exact s16
 ·exact Nat.le_trans (List.length_filter_le _ _) j8
 ·dsimp only
  split
  ·exact st.sub List.filter_sublist
  ·exact st
 ·dsimp only
  intro x hx;rw [List.mem_filter] at hx;obtain ⟨s,hs,e⟩:=fo x hx.1;refine ⟨s,?_,e⟩
  split
  ·rename_i ho
   rw [List.mem_filter];refine ⟨hs,?_⟩;have:=hx.2;rw [ho] at this;simp at this;simp [e,this.2]
  ·exact hs
 ·exact on.filter _
/-! ### a car is parked -/
theorem places_len {n:Int} (h:n≤4):(places n).length≤14:=by
 by_cases h1:n≤0
 ·have:places n=[]:=by unfold places;rw [show n.toNat=0 by omega];rfl
  rw [this];simp
 ·have:n=1∨n=2∨n=3∨n=4:=by omega
  rcases this with rfl|rfl|rfl|rfl <;> decide
theorem jH {α:Type} [DecidableEq α]:∀ {l m:List α},l.Nodup→(∀ x∈l,x∈m)→l.length≤m.length
 | [],_,_,_=>Nat.zero_le _
 | x :: l,m,hn,hs=>by
  obtain ⟨h1,h2⟩:=List.nodup_cons.1 hn;have hx:=hs x (by simp)
  have:=jH (l:=l) (m:=m.erase x) h2 (fun y hy=>by
   rw [List.mem_erase_of_ne]
   ·exact hs y (by simp [hy])
   ·rintro rfl;exact h1 hy)
  rw [List.length_erase_of_mem hx] at this;have:0<m.length:=List.length_pos_of_mem hx;simp;omega
theorem homes_nodup {n last:Int} {l:List Stay} (h:oJ n last l):(l.map fun s=>s.home).Nodup:=by
 unfold List.Nodup;rw [List.pairwise_map]
 exact h.2.imp fun h=>h.2.1
theorem pick_some {b:Book} {levels:List Size} {c:Car} {p:Place} (h:pick b levels c=some p):
  p∈places levels.length∧fits c.size (levels.getD (p.level - 1).toNat default)=true∧hasHome b p=false∧hasHome b (front p)=false∧waits b p=false:=by
 unfold pick at h;have h1:=List.mem_of_find?_eq_some h;have h2:=List.find?_some h;simp only [Bool.and_eq_true,Bool.not_eq_true'] at h2;exact ⟨h1,h2.1.1.1,h2.1.1.2,h2.1.2,h2.2⟩
theorem hasHome_iff {b:Book} {p:Place}:hasHome b p=false↔∀ s∈b.stays,s.home≠p:=by
 unfold hasHome;rw [List.any_eq_false];simp
theorem places_ok {n:Int} (h:n≤4):∀ x∈places n,placeFault x n=0:=by
 by_cases h1:n≤0
 ·have:places n=[]:=by unfold places;rw [show n.toNat=0 by omega];rfl
  rw [this];simp
 ·have:n=1∨n=2∨n=3∨n=4:=by omega
  rcases this with rfl|rfl|rfl|rfl <;> decide
theorem park_ok {b:Book} {levels:List Size} {c:Car} {x:Book} {k:Int} (h:b.OK levels.length) (h4:levels.length≤4) (hp:park b levels c = .ok (x,k)):
  ∃ p,pick b levels c=some p∧carFault c=0∧(b.of c.id)=none∧b.last<999999∧b.jobs.length<8∧k=b.last+1∧x=⟨b.last+1,b.stays++[⟨b.last+1,c,p⟩],b.jobs++[⟨b.last+1,false⟩]⟩∧x.OK levels.length:=by
 obtain ⟨l1,l2,s16,j8,st,fo,on⟩:=h;unfold park at hp
 by_cases c1:carFault c≠0
 ·rw [if_pos c1] at hp;cases hp
 rw [if_neg c1] at hp
 by_cases c2:(b.of c.id).isSome=true
 ·rw [if_pos c2] at hp;cases hp
 rw [if_neg c2] at hp
 cases c3:pick b levels c with
 | none=>rw [c3] at hp;cases hp
 | some p=>
  rw [c3] at hp;dsimp only at hp
  by_cases c4:b.last=999999∨b.jobs.length=8
  ·rw [if_pos c4] at hp;cases hp
  rw [if_neg c4] at hp;cases hp;obtain ⟨k1,k2,k3,k4,k5⟩:=pick_some c3
  have hno:b.of c.id=none:=by simpa using c2
  refine ⟨p,rfl,by omega,hno,by omega,by omega,rfl,rfl,?_⟩;rw [hasHome_iff] at k3
  have hid:∀ s∈b.stays,s.car.id≠c.id:=by
   intro s hs e;unfold Book.of at hno;rw [List.find?_eq_none] at hno;exact hno s hs (by simpa using e)
  have hlen:(b.stays++[(⟨b.last+1,c,p⟩:Stay)]).length≤14:=by
   have hn:((b.stays++[(⟨b.last+1,c,p⟩:Stay)]).map fun s=>s.home).Nodup:=by
    rw [List.map_append,List.nodup_append];refine ⟨homes_nodup st,by simp,?_⟩;intro y hy z hz;simp at hz;subst hz;rw [List.mem_map] at hy;obtain ⟨s,hs,rfl⟩:=hy;exact k3 s hs
   have:=jH hn (m:=places levels.length) (fun y hy=>by
    rw [List.mem_map] at hy
    obtain ⟨s,hs,rfl⟩:=hy
    rcases List.mem_append.1 hs with hs|hs
    ·exact (st.1 s hs).2.2.2.2
    ·simp at hs;subst hs;exact k1)
   have h14:=places_len (n:=levels.length) (by omega);simp only [List.length_map] at this;omega
  refine ⟨by dsimp only;omega,by dsimp only;omega,by dsimp only;omega,by simp;omega,⟨?_,?_⟩,?_,?_⟩
  ·intro s hs
   rcases List.mem_append.1 hs with hs|hs
   ·have:=st.1 s hs
    exact ⟨this.1,this.2.1,this.2.2.1,by have:=this.2.2.2.1;dsimp only;omega,this.2.2.2.2⟩
   ·simp at hs;subst hs
    exact ⟨by dsimp only;omega,places_ok (by omega) p k1,by dsimp only;omega,by dsimp only;omega,k1⟩
  ·dsimp only
   rw [List.pairwise_append];refine ⟨st.2,by simp,?_⟩;intro s hs y hy;simp at hy;subst hy;exact ⟨by have:=(st.1 s hs).2.2.2.1;dsimp only;omega,k3 s hs,hid s hs⟩
  ·intro j hj
   rcases List.mem_append.1 hj with hj|hj
   ·obtain ⟨s,hs,e⟩:=fo j hj
    exact ⟨s,List.mem_append_left _ hs,e⟩
   ·simp at hj;subst hj
    exact ⟨⟨b.last+1,c,p⟩,by simp,rfl⟩
  ·dsimp only
   rw [List.nodup_append];refine ⟨on,by simp,?_⟩;intro j hj y hy;simp at hy;subst hy;rintro rfl;obtain ⟨s,hs,e⟩:=fo _ hj;have:=(st.1 s hs).2.2.2.1;dsimp only at e;omega
theorem want_ok {b x:Book} {n t:Int} (h:b.OK n) (hw:want b t = .ok x):x={ b with jobs:=b.jobs++[⟨t,true⟩] }∧x.OK n:=by
 obtain ⟨l1,l2,s16,j8,st,fo,on⟩:=h;unfold want at hw
 by_cases c1:(b.find t).isNone=true
 ·rw [if_pos c1] at hw;cases hw
 rw [if_neg c1] at hw
 by_cases c2:b.jobs.contains ⟨t,true⟩=true
 ·rw [if_pos c2] at hw;cases hw
 rw [if_neg c2] at hw
 by_cases c3:b.jobs.length=8
 ·rw [if_pos c3] at hw;cases hw
 rw [if_neg c3] at hw;cases hw;refine ⟨rfl,l1,l2,s16,by simp;omega,st,?_,?_⟩
 ·intro j hj
  rcases List.mem_append.1 hj with hj|hj
  ·exact fo j hj
  ·simp at hj;subst hj
   unfold Book.find at c1
   cases hf:b.stays.find? (fun s=>s.ticket==t) with
   | none=>rw [hf] at c1;exact absurd rfl c1
   | some s=>exact ⟨s,List.mem_of_find?_eq_some hf,by simpa using List.find?_some hf⟩
 ·dsimp only
  rw [List.nodup_append];refine ⟨on,by simp,?_⟩;intro j hj y hy;simp at hy;subst hy;rintro rfl;exact c2 (by simpa using hj)
end Ch
