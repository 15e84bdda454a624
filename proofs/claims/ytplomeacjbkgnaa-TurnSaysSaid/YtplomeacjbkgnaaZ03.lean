import Derived.Test.YtplomeacjbkgnaaZ01
set_option linter.all false
set_option maxRecDepth 100000
set_option maxHeartbeats 16000000
namespace Ch
theorem placeFault_iff {x:Place} {n:Int}:placeFault x n=0↔1≤x.level∧x.level≤n∧0≤x.side∧x.side≤1∧0≤x.depth∧x.depth≤1:=by
 unfold placeFault
 split <;> simp <;> omega
theorem mem_allPlaces {x:Place} {n:Int}:x∈allPlaces n↔placeFault x n=0:=by
 rw [placeFault_iff];obtain ⟨a,b,c⟩:=x;simp only [allPlaces,List.mem_flatMap,List.mem_range,List.mem_cons,Place.mk.injEq,List.not_mem_nil,or_false];constructor
 ·rintro ⟨k,hk,h⟩;omega
 ·intro h
  refine ⟨(a - 1).toNat,by omega,?_⟩;omega
theorem nodup_allPlaces (n:Int):(allPlaces n).Nodup:=by
 unfold allPlaces;generalize n.toNat=m;unfold List.Nodup;rw [List.pairwise_flatMap];refine ⟨fun k _=>by simp,?_⟩;refine List.Pairwise.imp ?_ (List.nodup_range (n:=m));intro a b hab x hx y hy he;subst he;simp only [List.mem_cons,List.not_mem_nil,or_false] at hx hy
 rcases hx with rfl|rfl|rfl|rfl <;> simp at hy <;> omega
structure Plant.WF (p:Plant):Prop where
 lv1:1≤p.levels
 lv2:p.levels≤4
 ht1:0≤p.height
 ht2:p.height≤p.levels * 3
 ex1:-2≤p.ext
 ex2:p.ext≤2
 pe1:0≤p.people
 pe2:p.people≤9
 st1:0≤p.stall
 st2:p.stall≤5
 li1:0≤p.lift
 li2:p.lift≤999
 ba1:0≤p.bay
 ba2:p.bay≤999
 sl:∀ x,p.slots x≠0→placeFault x p.levels=0
 sv:∀ x,0≤p.slots x∧p.slots x≤999
theorem Plant.place_some {p:Plant} {e:Int} {x:Place} (h:p.place e=some x):
  p.height % 3=0∧p.height≠0∧e≠0∧-2≤e∧e≤2∧x.level=p.height / 3∧((e<0∧x.side=0∧x.depth=-e - 1)∨(0<e∧x.side=1∧x.depth=e - 1)):=by
 unfold Plant.place at h
 split at h
 ·cases h
 ·split at h <;> (cases h;simp;omega)
theorem Plant.place_ok {p:Plant} (hp:p.WF) {e:Int} {x:Place} (h:p.place e=some x):placeFault x p.levels=0:=by
 have:=place_some h;have h1:=hp.ht1;have h2:=hp.ht2;rw [placeFault_iff];omega
theorem clamp_bd (n hi:Int) (h:0≤hi):0≤clamp n hi∧clamp n hi≤hi:=by unfold clamp;omega
theorem Plant.WF.act {p:Plant} (hp:p.WF) (c:Int):(p.act c).WF:=by
 obtain ⟨a1,a2,a3,a4,a5,a6,a7,a8,a9,a10,a11,a12,a13,a14,a15,a16⟩:=id hp;unfold Plant.act
 have hr:∀ n,(p.rise n).WF:=fun n=>by
  have:=clamp_bd (p.height+n) (p.levels * 3) (by omega);exact ⟨a1,a2,this.1,this.2,a5,a6,a7,a8,a9,a10,a11,a12,a13,a14,a15,a16⟩
 have hs:∀ n,(p.stretch n).WF:=fun n=>by
  unfold Plant.stretch
  split
  ·exact hp
  ·exact ⟨a1,a2,a3,a4,by dsimp only;omega,by dsimp only;omega,a7,a8,a9,a10,a11,a12,a13,a14,a15,a16⟩
 have hg:p.grab.WF:=by
  unfold Plant.grab
  split
  ·exact hp
  ·rename_i x hx
   split
   ·refine ⟨a1,a2,a3,a4,a5,a6,a7,a8,a9,a10,(a16 x).1,(a16 x).2,a13,a14,?_,?_⟩
    ·intro y hy
     simp only [setSlot] at hy
     split at hy
     ·exact absurd rfl hy
     ·exact a15 y hy
    ·intro y
     simp only [setSlot]
     split
     ·omega
     ·exact a16 y
   ·exact hp
 have hu:p.put.WF:=by
  unfold Plant.put
  split
  ·exact hp
  ·rename_i x hx
   split
   ·refine ⟨a1,a2,a3,a4,a5,a6,a7,a8,a9,a10,by simp,by simp,a13,a14,?_,?_⟩
    ·intro y hy
     simp only [setSlot] at hy
     split at hy
     ·rename_i e;rw [e];exact Plant.place_ok hp hx
     ·exact a15 y hy
    ·intro y
     simp only [setSlot]
     split
     ·omega
     ·exact a16 y
   ·exact hp
 have hw:∀ o,(p.swing o).WF:=fun o=>⟨a1,a2,a3,a4,a5,a6,a7,a8,a9,a10,a11,a12,a13,a14,a15,a16⟩
 have hpa:∀ i,(p.pass i).WF:=fun i=>by
  unfold Plant.pass;dsimp only
  split
  ·exact ⟨a1,a2,a3,a4,a5,a6,a7,a8,a9,a10,a11,a12,a13,a14,a15,a16⟩
  ·split
   ·split
    ·exact ⟨a1,a2,a3,a4,a5,a6,a7,a8,a9,a10,a13,a14,by simp,by simp,a15,a16⟩
    ·exact ⟨a1,a2,a3,a4,a5,a6,a7,a8,a9,a10,a11,a12,a13,a14,a15,a16⟩
   ·split
    ·exact ⟨a1,a2,a3,a4,a5,a6,a7,a8,a9,a10,by simp,by simp,a11,a12,a15,a16⟩
    ·exact ⟨a1,a2,a3,a4,a5,a6,a7,a8,a9,a10,a11,a12,a13,a14,a15,a16⟩
 repeat' split
 all_goals first|exact hr _|exact hs _|exact hg|exact hu|exact hw _|exact hpa _|exact hp
theorem Plant.WF.step {p:Plant} (hp:p.WF) (c:Int):(p.step c).WF:=by
 unfold Plant.step
 split
 ·obtain ⟨a1,a2,a3,a4,a5,a6,a7,a8,a9,a10,a11,a12,a13,a14,a15,a16⟩:=hp
  exact ⟨a1,a2,a3,a4,a5,a6,a7,a8,by dsimp only;omega,by dsimp only;omega,a11,a12,a13,a14,a15,a16⟩
 ·exact hp.act c
theorem Plant.WF.walk {p:Plant} (hp:p.WF) (n:Int):(p.walk n).1.WF:=by
 unfold Plant.walk
 split
 ·exact hp
 ·split
  ·exact hp
  ·obtain ⟨a1,a2,a3,a4,a5,a6,a7,a8,a9,a10,a11,a12,a13,a14,a15,a16⟩:=hp
   have:=clamp_bd (p.people+n) 9 (by omega);exact ⟨a1,a2,a3,a4,a5,a6,this.1,this.2,a9,a10,a11,a12,a13,a14,a15,a16⟩
theorem Plant.WF.arrive {p:Plant} (hp:p.WF) (n:Int):(p.arrive n).1.WF:=by
 unfold Plant.arrive
 split
 ·exact hp
 ·split
  ·exact hp
  ·split
   ·exact hp
   ·obtain ⟨a1,a2,a3,a4,a5,a6,a7,a8,a9,a10,a11,a12,a13,a14,a15,a16⟩:=hp
    exact ⟨a1,a2,a3,a4,a5,a6,a7,a8,a9,a10,a11,a12,by dsimp only;omega,by dsimp only;omega,a15,a16⟩
theorem Plant.WF.leave {p:Plant} (hp:p.WF):p.leave.1.WF:=by
 unfold Plant.leave
 split
 ·exact hp
 ·obtain ⟨a1,a2,a3,a4,a5,a6,a7,a8,a9,a10,a11,a12,a13,a14,a15,a16⟩:=hp
  exact ⟨a1,a2,a3,a4,a5,a6,a7,a8,a9,a10,a11,a12,by simp,by simp,a15,a16⟩
theorem Plant.WF.setStall {p:Plant} (hp:p.WF) (n:Int):(p.setStall n).1.WF:=by
 unfold Plant.setStall
 split
 ·exact hp
 ·obtain ⟨a1,a2,a3,a4,a5,a6,a7,a8,a9,a10,a11,a12,a13,a14,a15,a16⟩:=hp
  exact ⟨a1,a2,a3,a4,a5,a6,a7,a8,by dsimp only;omega,by dsimp only;omega,a11,a12,a13,a14,a15,a16⟩
theorem Plant.WF.new {n:Int} (h1:1≤n) (h2:n≤4):(Plant.new n).WF:=by
 constructor <;> simp [Plant.new] <;> omega
structure Act where
 kind:ByteArray
 a:Int
 b:Int
 car:Car
 s:ByteArray
 k:Int
 book:Book
def kStep:ByteArray:=⟨#[115,116,101,112]⟩
def kWalk:ByteArray:=⟨#[119,97,108,107]⟩
def kArrive:ByteArray:=⟨#[97,114,114,105,118,101]⟩
def kLeave:ByteArray:=⟨#[108,101,97,118,101]⟩
def kStall:ByteArray:=⟨#[115,116,97,108,108]⟩
def Act.first (a:Act):Option Int:=a.s.data.toList.head?.map fun c=>(c.toNat:Int)
def Plant.outside (p:Plant) (a:Act):Plant:=
 if a.kind=kStep then (match a.first with|none=>p|some c=>p.step c)
 else if a.kind=kWalk then (p.walk a.a).1
 else if a.kind=kArrive then (p.arrive a.a).1
 else if a.kind=kLeave then p.leave.1
 else if a.kind=kStall then (p.setStall a.a).1
 else p
theorem Plant.WF.outside {p:Plant} (hp:p.WF) (a:Act):(p.outside a).WF:=by
 unfold Plant.outside
 split
 ·split
  ·exact hp
  ·exact hp.step _
 ·split
  ·exact hp.walk _
  ·split
   ·exact hp.arrive _
   ·split
    ·exact hp.leave
    ·split
     ·exact hp.setStall _
     ·exact hp
theorem w64_small {n:Int} (h1:-9223372036854775808≤n) (h2:n≤9223372036854775807):w64 n=n:=by unfold w64;omega
theorem place_none {p:Plant} {e:Int} (h1:0<p.height) (h2:p.height % 3=0) (h3:e≠0) (h4:-2≤e) (h5:e≤2):(p.place e).isNone=false:=by
 unfold Plant.place;rw [if_neg (by omega)]
 split <;> rfl
theorem level_sense {p:Plant}:level p.sense=true↔0<p.height∧p.height % 3=0:=by
 unfold level;rw [Bool.and_eq_true,decide_eq_true_eq,beq_iff_eq];exact Iff.rfl
theorem shut_sense {p:Plant}:shut p.sense=true↔p.door=false∧p.people=0:=by simp [shut,Plant.sense]
theorem open_shut {p:Plant} (h:0≤p.people):p.openB = !shut p.sense:=by
 unfold Plant.openB shut;rw [show p.sense.door=p.door from rfl,show p.sense.people=p.people from rfl];cases p.door
 ·rw [Bool.false_or,Bool.eq_iff_iff]
  simp;omega
 ·simp
theorem may_stretch {p:Plant} (hp:p.WF) (hh:p.hurt=false) {n:Int} {f:Bool} (hn:n=1∨n=-1) (hf:f=p.full (p.ext+n)) (hm:mayStretch p.sense (w64 (p.ext+n)) f=true):(p.stretch n).hurt=false:=by
 have e1:=hp.ex1;have e2:=hp.ex2;rw [w64_small (by omega) (by omega)] at hm;unfold mayStretch at hm;unfold Plant.stretch
 split
 ·exact hh
 ·rename_i hb
  rw [if_neg hb] at hm;dsimp only;rw [hh];simp only [Bool.or_eq_true,beq_iff_eq,Bool.and_eq_true,Bool.not_eq_true',Bool.and_eq_false_iff] at hm;simp only [Bool.false_or,Bool.or_eq_false_iff,Bool.and_eq_false_iff]
  rcases hm with h0|⟨hl,hm⟩
  ·rw [h0]
   refine ⟨Or.inl (by simp),Or.inr ?_⟩;unfold Plant.full Plant.place;simp
  ·rw [level_sense] at hl
   constructor
   ·by_cases h0:p.ext+n=0
    ·left;simp [h0]
    ·right;exact place_none hl.1 hl.2 h0 (by omega) (by omega)
   ·rw [←hf]
    simpa [Plant.sense] using hm
theorem may_safe {p:Plant} (hp:p.WF) (hh:p.hurt=false) (c:Int) (hm:may c p.sense=true):(p.act c).hurt=false:=by
 have hpe:=hp.pe1;have hop:=open_shut hpe;unfold may at hm;unfold Plant.act
 by_cases c1:c=45
 ·subst c1;simpa using hh
 rw [if_neg c1] at hm
 by_cases c2:c=117
 ·subst c2
  rw [if_pos (Or.inl rfl)] at hm;rw [if_pos rfl];simp only [Bool.and_eq_true,beq_iff_eq] at hm;simp [Plant.rise,hh,hop,hm.2];exact hm.1
 by_cases c3:c=100
 ·subst c3
  rw [if_pos (Or.inr rfl)] at hm;rw [if_neg (by decide),if_pos rfl];simp only [Bool.and_eq_true,beq_iff_eq] at hm;simp [Plant.rise,hh,hop,hm.2];exact hm.1
 rw [if_neg (by omega)] at hm;rw [if_neg c2,if_neg c3]
 by_cases c4:c=108
 ·subst c4
  rw [if_pos rfl] at hm;rw [if_pos rfl];exact may_stretch hp hh (n:=-1) (Or.inr rfl) rfl hm
 rw [if_neg c4] at hm ⊢
 by_cases c5:c=114
 ·subst c5
  rw [if_pos rfl] at hm;rw [if_pos rfl];exact may_stretch hp hh (n:=1) (Or.inl rfl) rfl hm
 rw [if_neg c5] at hm ⊢
 by_cases c6:c=103
 ·subst c6
  rw [if_pos rfl];unfold Plant.grab
  split
  ·exact hh
  ·split
   ·exact hh
   ·exact hh
 rw [if_neg c6] at hm ⊢
 by_cases c7:c=112
 ·subst c7
  rw [if_pos rfl];unfold Plant.put
  split
  ·exact hh
  ·split
   ·exact hh
   ·exact hh
 rw [if_neg c7] at hm ⊢
 by_cases c8:c=111
 ·subst c8
  rw [if_pos rfl] at hm;rw [if_pos rfl];simp only [Bool.and_eq_true,beq_iff_eq,Plant.sense] at hm;simp [Plant.swing,hh,hm.1,hm.2]
 rw [if_neg c8] at hm ⊢
 by_cases c9:c=99
 ·subst c9
  rw [if_pos rfl] at hm;rw [if_pos rfl];simp only [beq_iff_eq,Plant.sense] at hm;simp [Plant.swing,hh,hm]
 rw [if_neg c9] at hm ⊢
 have hpass:∀ i,shut p.sense=true→(p.pass i).hurt=false:=fun i hs=>by
  unfold Plant.pass;dsimp only
  split
  ·simp [hh,hop,hs]
  ·split
   ·split <;> simp [hh,hop,hs]
   ·split <;> simp [hh,hop,hs]
 by_cases c10:c=110
 ·subst c10
  rw [if_pos rfl] at hm;rw [if_pos rfl];simp only [Bool.and_eq_true] at hm;exact hpass _ hm.1.1.2
 rw [if_neg c10] at hm ⊢
 by_cases c11:c=120
 ·subst c11
  rw [if_pos rfl] at hm;rw [if_pos rfl];simp only [Bool.and_eq_true] at hm;exact hpass _ hm.1.1.2
 rw [if_neg c11];exact hh
/-! ### what may not be done -/
/-! ### a height, a reach come nearer -/
def Plant.cars (p:Plant):List Int:=
 (if p.lift≠0 then [p.lift] else [])++(if p.bay≠0 then [p.bay] else [])++((allPlaces 4).map p.slots).filter (fun n=>n != 0)
theorem count_set {l:List Place} (hn:l.Nodup) {x:Place} (hx:x∈l) (f:Place→Int) (a v:Int):
  (l.map (setSlot f x a)).count v+(if f x=v then 1 else 0)=(l.map f).count v+(if a=v then 1 else 0):=by
 induction l with
 | nil=>cases hx
 | cons y l ih=>
  obtain ⟨hy,hl⟩:=List.nodup_cons.1 hn;simp only [List.map_cons,List.count_cons,beq_iff_eq]
  rcases List.mem_cons.1 hx with rfl|hx'
  ·have e:l.map (setSlot f x a)=l.map f:=by
    apply List.map_congr_left;intro z hz;simp only [setSlot];rw [if_neg];rintro rfl;exact hy hz
   rw [e];simp only [setSlot,if_true];omega
  ·have hne:y≠x:=by rintro rfl;exact hy hx'
   have:=ih hl hx';simp only [setSlot,if_neg hne];omega
theorem count_cars (p:Plant) (v:Int):p.cars.count v=if v=0 then 0 else (if p.lift=v then 1 else 0)+(if p.bay=v then 1 else 0)+((allPlaces 4).map p.slots).count v:=by
 unfold Plant.cars;simp only [List.count_append]
 by_cases hv:v=0
 ·subst hv
  rw [if_pos rfl]
  have h1:(if p.lift≠0 then [p.lift] else []).count 0=0:=by
   split
   ·rename_i h;simp [h]
   ·rfl
  have h2:(if p.bay≠0 then [p.bay] else []).count 0=0:=by
   split
   ·rename_i h;simp [h]
   ·rfl
  rw [h1,h2,List.count_eq_zero_of_not_mem];simp
 ·rw [if_neg hv]
  have h1:(if p.lift≠0 then [p.lift] else []).count v=if p.lift=v then 1 else 0:=by
   split
   ·simp [List.count_cons]
   ·rename_i h
    have h:p.lift=0:=by simpa using h
    rw [if_neg (by omega)];rfl
  have h2:(if p.bay≠0 then [p.bay] else []).count v=if p.bay=v then 1 else 0:=by
   split
   ·simp [List.count_cons]
   ·rename_i h
    have h:p.bay=0:=by simpa using h
    rw [if_neg (by omega)];rfl
  rw [h1,h2,List.count_filter (by simpa using hv)]
theorem place_mem4 {p:Plant} (hp:p.WF) {e:Int} {x:Place} (h:p.place e=some x):x∈allPlaces 4:=by
 have h1:=Plant.place_ok hp h;have h2:=hp.lv2;rw [mem_allPlaces,placeFault_iff];rw [placeFault_iff] at h1;omega
def Plant.tally (p:Plant) (v:Int):Nat:=(if p.lift=v then 1 else 0)+(if p.bay=v then 1 else 0)+((allPlaces 4).map p.slots).count v
theorem tally_rise (p:Plant) (n v:Int):(p.rise n).tally v=p.tally v:=rfl
theorem tally_swing (p:Plant) (o:Bool) (v:Int):(p.swing o).tally v=p.tally v:=rfl
theorem tally_stretch (p:Plant) (n v:Int):(p.stretch n).tally v=p.tally v:=by
 unfold Plant.stretch;split <;> rfl
theorem tally_grab {p:Plant} (hp:p.WF) {v:Int} (hv:v≠0):p.grab.tally v=p.tally v:=by
 unfold Plant.grab;split
 ·rfl
 ·rename_i x hx
  split
  ·rename_i hl
   have:=count_set (nodup_allPlaces 4) (place_mem4 hp hx) p.slots 0 v;unfold Plant.tally;dsimp only;rw [if_neg (show ¬ (0:Int)=v by omega)] at this;rw [if_neg (show ¬ p.lift=v by omega)];omega
  ·rfl
theorem tally_put {p:Plant} (hp:p.WF) {v:Int} (hv:v≠0):p.put.tally v=p.tally v:=by
 unfold Plant.put;split
 ·rfl
 ·rename_i x hx
  split
  ·rename_i hl
   have:=count_set (nodup_allPlaces 4) (place_mem4 hp hx) p.slots p.lift v;unfold Plant.tally;dsimp only;rw [if_neg (show ¬ p.slots x=v by omega)] at this;rw [if_neg (show ¬ (0:Int)=v by omega)];omega
  ·rfl
theorem tally_pass (p:Plant) (i:Bool) {v:Int} (hv:v≠0):(p.pass i).tally v=p.tally v:=by
 unfold Plant.pass;dsimp only;split
 ·rfl
 ·split
  ·split
   ·rename_i hl
    unfold Plant.tally;dsimp only;rw [if_neg (show ¬ (0:Int)=v by omega),if_neg (show ¬ p.lift=v by omega)];omega
   ·rfl
  ·split
   ·rename_i hl
    unfold Plant.tally;dsimp only;rw [if_neg (show ¬ (0:Int)=v by omega),if_neg (show ¬ p.bay=v by omega)];omega
   ·rfl
theorem tally_act {p:Plant} (hp:p.WF) (c:Int) {v:Int} (hv:v≠0):(p.act c).tally v=p.tally v:=by
 unfold Plant.act
 repeat' split
 all_goals first|rfl|exact tally_rise _ _ _|exact tally_swing _ _ _|exact tally_stretch _ _ _|exact tally_grab hp hv|exact tally_put hp hv|exact tally_pass _ _ hv
theorem act_cars {p:Plant} (hp:p.WF) (c:Int) (v:Int):(p.act c).cars.count v=p.cars.count v:=by
 rw [count_cars,count_cars]
 by_cases hv:v=0
 ·rw [if_pos hv,if_pos hv]
 rw [if_neg hv,if_neg hv];exact tally_act hp c hv
theorem nodup_count {l:List Int}:l.Nodup↔∀ v,l.count v≤1:=List.nodup_iff_count
theorem new_cars (n:Int):(Plant.new n).cars=[]:=by
 unfold Plant.cars Plant.new;simp
def StayOK (n last:Int) (s:Stay):Prop:=carFault s.car=0∧placeFault s.home n=0∧1≤s.ticket∧s.ticket≤last∧s.home∈places n
def StayLt (a b:Stay):Prop:=a.ticket<b.ticket∧a.home≠b.home∧a.car.id≠b.car.id
def StaysOK (n last:Int) (l:List Stay):Prop:=(∀ s∈l,StayOK n last s)∧l.Pairwise StayLt
theorem stayFault_iff {n last:Int} {before:List Stay} {s:Stay} (hb:before.Pairwise StayLt):stayFault n last before s=0↔StayOK n last s∧∀ x∈before,StayLt x s:=by
 unfold stayFault StayOK
 by_cases h1:carFault s.car≠0
 ·rw [if_pos h1];exact ⟨fun h=>absurd h h1,fun h=>absurd h.1.1 h1⟩
 rw [if_neg h1]
 by_cases h2:placeFault s.home n≠0
 ·rw [if_pos h2];exact ⟨fun h=>absurd h h2,fun h=>absurd h.1.2.1 h2⟩
 rw [if_neg h2]
 by_cases h3:s.ticket<1∨last<s.ticket
 ·rw [if_pos h3]
  constructor
  ·intro h;cases h
  ·intro h;omega
 rw [if_neg h3]
 by_cases h4:¬ s.home∈places n∨(∃ x∈before.getLast?,s.ticket≤x.ticket)
 ·rw [if_pos h4]
  constructor
  ·intro h;cases h
  ·rintro ⟨h,h'⟩
   rcases h4 with h4|⟨x,hx,hle⟩
   ·exact absurd h.2.2.2.2 h4
   ·have:=(h' x (List.mem_of_getLast? hx)).1
    omega
 rw [if_neg h4]
 have h4a:s.home∈places n:=by
  apply Classical.byContradiction;intro hc;exact h4 (Or.inl hc)
 have h4b:∀ x∈before,x.ticket<s.ticket:=by
  intro x hx
  cases hg:before.getLast? with
  | none=>rw [List.getLast?_eq_none_iff] at hg;subst hg;cases hx
  | some y=>
   have hy:y.ticket<s.ticket:=by
    apply Classical.byContradiction;intro hc;exact h4 (Or.inr ⟨y,hg,by omega⟩)
   rw [List.getLast?_eq_some_iff] at hg;obtain ⟨ys,rfl⟩:=hg;rw [List.pairwise_append] at hb
   rcases List.mem_append.1 hx with hx|hx
   ·have:=(hb.2.2 x hx y (by simp)).1;omega
   ·simp at hx;subst hx;exact hy
 by_cases h5:(before.any fun x=>x.home==s.home || x.car.id==s.car.id)=true
 ·rw [if_pos h5]
  constructor
  ·intro h;cases h
  ·rintro ⟨_,h'⟩
   rw [List.any_eq_true] at h5;obtain ⟨x,hx,e⟩:=h5;have:=(h' x hx).2;simp at e
   rcases e with e|e
   ·exact absurd e this.1
   ·exact absurd e this.2
 rw [if_neg h5];refine ⟨fun _=>⟨⟨by omega,by omega,by omega,by omega,h4a⟩,?_⟩,fun _=>rfl⟩;intro x hx;refine ⟨h4b x hx,?_,?_⟩
 ·intro e;apply h5;rw [List.any_eq_true];exact ⟨x,hx,by simp [e]⟩
 ·intro e;apply h5;rw [List.any_eq_true];exact ⟨x,hx,by simp [e]⟩
theorem staysFault_iff {n last:Int} {before l:List Stay} (hb:StaysOK n last before):staysFault n last before l=0↔StaysOK n last (before++l):=by
 induction l generalizing before with
 | nil=>simp [staysFault,hb]
 | cons s l ih=>
  unfold staysFault
  by_cases h:stayFault n last before s=0
  ·rw [if_neg (by simpa using h)]
   rw [stayFault_iff hb.2] at h;rw [ih,List.append_assoc]
   ·rfl
   ·refine ⟨?_,?_⟩
    ·intro x hx
     rcases List.mem_append.1 hx with hx|hx
     ·exact hb.1 x hx
     ·simp at hx;subst hx;exact h.1
    ·rw [List.pairwise_append]
     refine ⟨hb.2,by simp,?_⟩;intro x hx y hy;simp at hy;subst hy;exact h.2 x hx
  ·rw [if_pos h]
   refine ⟨fun e=>absurd e h,fun e=>?_⟩;exfalso;apply h;rw [stayFault_iff hb.2];refine ⟨e.1 s (by simp),fun x hx=>?_⟩;have:=List.pairwise_append.1 e.2;exact this.2.2 x hx s (by simp)
theorem jobsFault_iff {stays:List Stay} {before l:List Job} (hb:before.Nodup):jobsFault stays before l=0↔(∀ j∈l,∃ s∈stays,s.ticket=j.ticket)∧(before++l).Nodup:=by
 induction l generalizing before with
 | nil=>simp [jobsFault,hb]
 | cons j l ih=>
  unfold jobsFault
  by_cases h:(stays.any fun s=>s.ticket==j.ticket)=false∨j∈before
  ·rw [if_pos h]
   constructor
   ·intro e;cases e
   ·rintro ⟨e1,e2⟩
    rcases h with h|h
    ·obtain ⟨s,hs,e⟩:=e1 j (by simp)
     rw [List.any_eq_false] at h;exact absurd (by simpa using e) (h s hs)
    ·rw [List.nodup_append] at e2
     exact absurd rfl (e2.2.2 j h j (by simp))
  ·rw [if_neg h]
   have h1:∃ s∈stays,s.ticket=j.ticket:=by
    apply Classical.byContradiction;intro hc;apply h;left;rw [List.any_eq_false];intro s hs e;exact hc ⟨s,hs,by simpa using e⟩
   have h2:¬ j∈before:=fun hc=>h (Or.inr hc)
   have hb':(before++[j]).Nodup:=by
    rw [List.nodup_append];refine ⟨hb,by simp,?_⟩;intro x hx y hy;simp at hy;subst hy;rintro rfl;exact h2 hx
   rw [ih hb',List.append_assoc];constructor
   ·rintro ⟨e1,e2⟩
    refine ⟨?_,e2⟩;intro x hx
    rcases List.mem_cons.1 hx with rfl|hx
    ·exact h1
    ·exact e1 x hx
   ·rintro ⟨e1,e2⟩
    exact ⟨fun x hx=>e1 x (by simp [hx]),e2⟩
structure Book.OK (b:Book) (n:Int):Prop where
 l1:0≤b.last
 l2:b.last≤999999
 s16:b.stays.length≤16
 j8:b.jobs.length≤8
 stays:StaysOK n b.last b.stays
 found:∀ j∈b.jobs,∃ s∈b.stays,s.ticket=j.ticket
 once:b.jobs.Nodup
theorem bookFault_iff {b:Book} {n:Int}:bookFault b n=0↔b.OK n:=by
 unfold bookFault
 by_cases h1:b.last<0∨999999<b.last
 ·rw [if_pos h1]
  constructor
  ·intro h;cases h
  ·intro h;have:=h.l1;have:=h.l2;omega
 rw [if_neg h1]
 by_cases h2:16<b.stays.length∨8<b.jobs.length
 ·rw [if_pos h2]
  constructor
  ·intro h;cases h
  ·intro h;have:=h.s16;have:=h.j8;omega
 rw [if_neg h2];have hs:=staysFault_iff (n:=n) (last:=b.last) (before:=[]) (l:=b.stays) ⟨by simp,List.Pairwise.nil⟩;rw [List.nil_append] at hs;have hj:=jobsFault_iff (stays:=b.stays) (before:=[]) (l:=b.jobs) (by simp);rw [List.nil_append] at hj
 by_cases h3:staysFault n b.last [] b.stays≠0
 ·rw [if_pos h3]
  exact ⟨fun h=>absurd h h3,fun h=>absurd (hs.2 h.stays) h3⟩
 rw [if_neg h3,hj]
 have h3:staysFault n b.last [] b.stays=0:=by omega
 constructor
 ·rintro ⟨e1,e2⟩
  exact ⟨by omega,by omega,by omega,by omega,hs.1 h3,e1,e2⟩
 ·intro h
  exact ⟨h.found,h.once⟩
theorem StaysOK.sub {n last:Int} {l m:List Stay} (h:StaysOK n last l) (hs:List.Sublist m l):StaysOK n last m:=⟨fun s hm=>h.1 s (hs.subset hm),h.2.sublist hs⟩
theorem ticket_inj {n last:Int} {l:List Stay} (h:StaysOK n last l) {a b:Stay} (ha:a∈l) (hb:b∈l) (e:a.ticket=b.ticket):a=b:=by
 have hp:=h.2;clear h
 induction l with
 | nil=>cases ha
 | cons x l ih=>
  obtain ⟨h1,h2⟩:=List.pairwise_cons.1 hp
  rcases List.mem_cons.1 ha with rfl|ha' <;> rcases List.mem_cons.1 hb with rfl|hb'
  ·rfl
  ·have:=(h1 b hb').1;omega
  ·have:=(h1 a ha').1;omega
  ·exact ih ha' hb' h2
theorem id_inj {n last:Int} {l:List Stay} (h:StaysOK n last l) {a b:Stay} (ha:a∈l) (hb:b∈l) (e:a.car.id=b.car.id):a=b:=by
 have hp:=h.2;clear h
 induction l with
 | nil=>cases ha
 | cons x l ih=>
  obtain ⟨h1,h2⟩:=List.pairwise_cons.1 hp
  rcases List.mem_cons.1 ha with rfl|ha' <;> rcases List.mem_cons.1 hb with rfl|hb'
  ·rfl
  ·exact absurd e (h1 b hb').2.2
  ·exact absurd e.symm (h1 a ha').2.2
  ·exact ih ha' hb' h2
/-! ### a job is over -/
theorem done_ok {b:Book} {n:Int} (h:b.OK n) (j:Job) (gone:Bool):(doneWith b j gone).OK n:=by
 obtain ⟨l1,l2,s16,j8,st,fo,on⟩:=h;unfold doneWith;refine ⟨l1,l2,?_,?_,?_,?_,?_⟩
 ·dsimp only
  split
  ·exact Nat.le_trans (List.length_filter_le _ _) s16
  ·exact s16
 ·exact Nat.le_trans (List.length_filter_le _ _) j8
 ·dsimp only
  split
  ·exact st.sub List.filter_sublist
  ·exact st
 ·dsimp only
  intro x hx;rw [List.mem_filter] at hx;obtain ⟨s,hs,e⟩:=fo x hx.1;refine ⟨s,?_,e⟩
  split
  ·rename_i ho
   rw [List.mem_filter];refine ⟨hs,?_⟩;have:=hx.2;rw [ho] at this;simp at this;simp [e,this.2]
  ·exact hs
 ·exact on.filter _
/-! ### a car is parked -/
end Ch
