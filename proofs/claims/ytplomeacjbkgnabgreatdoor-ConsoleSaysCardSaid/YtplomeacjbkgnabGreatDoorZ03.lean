import Derived.Test.YtplomeacjbkgnabGreatDoorZ01
import Derived.Lib.ItoaNum
import Derived.Lib.AtoiAll
set_option linter.all false
set_option maxRecDepth 100000
set_option maxHeartbeats 16000000
namespace Ch
theorem uC {x:pB} {n:Int}:uA x n=0↔1<=x.level/\x.level<=n/\0<=x.side/\x.side<=1/\0<=x.depth/\x.depth<=1:=by
 unfold uA
 split <;> simp <;> omega
theorem mem_allPlaces {x:pB} {n:Int}:x∈dG n↔uA x n=0:=by
 rw [uC];obtain ⟨a,b,c⟩:=x;simp only [dG,List.mem_flatMap,List.mem_range,List.mem_cons,pB.mk.injEq,List.not_mem_nil,or_false];constructor
 ·rintro ⟨k,hk,h⟩;omega
 ·intro h
  refine ⟨(a - 1).toNat,om,?_⟩;omega
structure dA.WF (p:dA):Prop where
 lv1:1<=p.levels
 lv2:p.levels<=4
 ht1:0<=p.height
 ht2:p.height<=p.levels * 3
 ex1:-2<=p.ext
 ex2:p.ext<=2
 pe1:0<=p.people
 pe2:p.people<=9
 st1:0<=p.stall
 st2:p.stall<=5
 li1:0<=p.lift
 li2:p.lift<=999
 ba1:0<=p.bay
 ba2:p.bay<=999
 sl:∀ x,p.slots x≠0->uA x p.levels=0
 sv:∀ x,0<=p.slots x/\p.slots x<=999
theorem dA.place_some {p:dA} {e:Int} {x:pB} (h:p.place e=some x):
  p.height % 3=0/\p.height≠0/\e≠0/\-2<=e/\e<=2/\x.level=p.height / 3/\((e<0/\x.side=0/\x.depth=-e - 1)\/(0<e/\x.side=1/\x.depth=e - 1)):=by
 unfold dA.place at h
 split at h
 ·cases h
 ·split at h <;> (cases h;simp;omega)
theorem dA.place_ok {p:dA} (hp:p.WF) {e:Int} {x:pB} (h:p.place e=some x):uA x p.levels=0:=by
 have:=place_some h;have h1:=hp.ht1;have h2:=hp.ht2;rw [uC];omega
theorem clamp_bd (n hi:Int) (h:0<=hi):0<=oJ n hi/\oJ n hi<=hi:=by unfold oJ;omega
theorem dA.WF.act {p:dA} (hp:p.WF) (c:Int):(p.act c).WF:=by
 obtain ⟨a1,a2,a3,a4,a5,a6,a7,a8,a9,a10,a11,a12,a13,a14,a15,a16⟩:=id hp;unfold dA.act
 have hr:∀ n,(p.rise n).WF:=fun n=>by
  have:=clamp_bd (p.height+n) (p.levels * 3) om;exact ⟨a1,a2,this.1,this.2,a5,a6,a7,a8,a9,a10,a11,a12,a13,a14,a15,a16⟩
 have hs:∀ n,(p.stretch n).WF:=fun n=>by
  unfold dA.stretch
  split
  ·exact hp
  ·exact ⟨a1,a2,a3,a4,by dsimp only;omega,by dsimp only;omega,a7,a8,a9,a10,a11,a12,a13,a14,a15,a16⟩
 have hg:p.grab.WF:=by
  unfold dA.grab
  split
  ·exact hp
  ·rename_i x hx
   split
   ·refine ⟨a1,a2,a3,a4,a5,a6,a7,a8,a9,a10,(a16 x).1,(a16 x).2,a13,a14,?_,?_⟩
    ·intro y hy
     simp only [sD] at hy
     split at hy
     ·exact absurd rfl hy
     ·exact a15 y hy
    ·intro y
     simp only [sD]
     split
     ·omega
     ·exact a16 y
   ·exact hp
 have hu:p.put.WF:=by
  unfold dA.put
  split
  ·exact hp
  ·rename_i x hx
   split
   ·refine ⟨a1,a2,a3,a4,a5,a6,a7,a8,a9,a10,sp,sp,a13,a14,?_,?_⟩
    ·intro y hy
     simp only [sD] at hy
     split at hy
     ·rename_i e;rw [e];exact dA.place_ok hp hx
     ·exact a15 y hy
    ·intro y
     simp only [sD]
     split
     ·omega
     ·exact a16 y
   ·exact hp
 have hw:∀ o,(p.swing o).WF:=fun o=>⟨a1,a2,a3,a4,a5,a6,a7,a8,a9,a10,a11,a12,a13,a14,a15,a16⟩
 have hpa:∀ i,(p.pass i).WF:=fun i=>by
  unfold dA.pass;dsimp only
  split
  ·exact ⟨a1,a2,a3,a4,a5,a6,a7,a8,a9,a10,a11,a12,a13,a14,a15,a16⟩
  ·split
   ·split
    ·exact ⟨a1,a2,a3,a4,a5,a6,a7,a8,a9,a10,a13,a14,sp,sp,a15,a16⟩
    ·exact ⟨a1,a2,a3,a4,a5,a6,a7,a8,a9,a10,a11,a12,a13,a14,a15,a16⟩
   ·split
    ·exact ⟨a1,a2,a3,a4,a5,a6,a7,a8,a9,a10,sp,sp,a11,a12,a15,a16⟩
    ·exact ⟨a1,a2,a3,a4,a5,a6,a7,a8,a9,a10,a11,a12,a13,a14,a15,a16⟩
 repeat' split
 all_goals first|exact hr _|exact hs _|exact hg|exact hu|exact hw _|exact hpa _|exact hp
theorem dA.WF.step {p:dA} (hp:p.WF) (c:Int):(p.step c).WF:=by
 unfold dA.step
 split
 ·obtain ⟨a1,a2,a3,a4,a5,a6,a7,a8,a9,a10,a11,a12,a13,a14,a15,a16⟩:=hp
  exact ⟨a1,a2,a3,a4,a5,a6,a7,a8,by dsimp only;omega,by dsimp only;omega,a11,a12,a13,a14,a15,a16⟩
 ·exact hp.act c
theorem dA.WF.walk {p:dA} (hp:p.WF) (n:Int):(p.walk n).1.WF:=by
 unfold dA.walk
 split
 ·exact hp
 ·split
  ·exact hp
  ·obtain ⟨a1,a2,a3,a4,a5,a6,a7,a8,a9,a10,a11,a12,a13,a14,a15,a16⟩:=hp
   have:=clamp_bd (p.people+n) 9 om;exact ⟨a1,a2,a3,a4,a5,a6,this.1,this.2,a9,a10,a11,a12,a13,a14,a15,a16⟩
theorem dA.WF.arrive {p:dA} (hp:p.WF) (n:Int):(p.arrive n).1.WF:=by
 unfold dA.arrive
 split
 ·exact hp
 ·split
  ·exact hp
  ·split
   ·exact hp
   ·obtain ⟨a1,a2,a3,a4,a5,a6,a7,a8,a9,a10,a11,a12,a13,a14,a15,a16⟩:=hp
    exact ⟨a1,a2,a3,a4,a5,a6,a7,a8,a9,a10,a11,a12,by dsimp only;omega,by dsimp only;omega,a15,a16⟩
theorem dA.WF.leave {p:dA} (hp:p.WF):p.leave.1.WF:=by
 unfold dA.leave
 split
 ·exact hp
 ·obtain ⟨a1,a2,a3,a4,a5,a6,a7,a8,a9,a10,a11,a12,a13,a14,a15,a16⟩:=hp
  exact ⟨a1,a2,a3,a4,a5,a6,a7,a8,a9,a10,a11,a12,sp,sp,a15,a16⟩
theorem dA.WF.setStall {p:dA} (hp:p.WF) (n:Int):(p.setStall n).1.WF:=by
 unfold dA.setStall
 split
 ·exact hp
 ·obtain ⟨a1,a2,a3,a4,a5,a6,a7,a8,a9,a10,a11,a12,a13,a14,a15,a16⟩:=hp
  exact ⟨a1,a2,a3,a4,a5,a6,a7,a8,by dsimp only;omega,by dsimp only;omega,a11,a12,a13,a14,a15,a16⟩
theorem dA.WF.new {n:Int} (h1:1<=n) (h2:n<=4):(dA.new n).WF:=by
 constructor <;> simp [dA.new] <;> omega
structure Act where
 kind:ByteArray
 a:Int
 b:Int
 car:Car
 s:ByteArray
 k:Int
 book:gB
def Act.first (a:Act):Option Int:=a.s.data.toList.head?.map fun c=>(c.toNat:Int)
def StayOK (n last:Int) (s:sA):Prop:=gC s.car=0/\uA s.home n=0/\1<=s.ticket/\s.ticket<=last/\s.home∈aE n
def StayLt (a b:sA):Prop:=a.ticket<b.ticket/\a.home≠b.home/\a.car.id≠b.car.id
def sO (n last:Int) (l:List sA):Prop:=(∀ s∈l,StayOK n last s)/\l.Pairwise StayLt
theorem stayFault_iff {n last:Int} {before:List sA} {s:sA} (hb:before.Pairwise StayLt):qE n last before s=0↔StayOK n last s/\∀ x∈before,StayLt x s:=by
 unfold qE StayOK
 by_cases h1:gC s.car≠0
 ·rw [if_pos h1];exact ⟨fun h=>absurd h h1,fun h=>absurd h.1.1 h1⟩
 rw [if_neg h1]
 by_cases h2:uA s.home n≠0
 ·rw [if_pos h2];exact ⟨fun h=>absurd h h2,fun h=>absurd h.1.2.1 h2⟩
 rw [if_neg h2]
 by_cases h3:s.ticket<1\/last<s.ticket
 ·rw [if_pos h3]
  constructor
  ·intro h;cases h
  ·intro h;omega
 rw [if_neg h3]
 by_cases h4:¬ s.home∈aE n\/(∃ x∈before.getLast?,s.ticket<=x.ticket)
 ·rw [if_pos h4]
  constructor
  ·intro h;cases h
  ·rintro ⟨h,h'⟩
   rcases h4 with h4|⟨x,hx,hle⟩
   ·exact absurd h.2.2.2.2 h4
   ·have:=(h' x (List.mem_of_getLast? hx)).1
    omega
 rw [if_neg h4]
 have h4a:s.home∈aE n:=by
  apply Classical.byContradiction;intro hc;exact h4 (Or.inl hc)
 have h4b:∀ x∈before,x.ticket<s.ticket:=by
  intro x hx
  cases hg:before.getLast? with
  | none=>rw [List.getLast?_eq_none_iff] at hg;subst hg;cases hx
  | some y=>
   have hy:y.ticket<s.ticket:=by
    apply Classical.byContradiction;intro hc;exact h4 (Or.inr ⟨y,hg,om⟩)
   rw [List.getLast?_eq_some_iff] at hg;obtain ⟨ys,rfl⟩:=hg;rw [List.pairwise_append] at hb
   rcases List.mem_append.1 hx with hx|hx
   ·have:=(hb.2.2 x hx y sp).1;omega
   ·simp at hx;subst hx;exact hy
 by_cases h5:(before.any fun x=>x.home==s.home || x.car.id==s.car.id)=true
 ·rw [if_pos h5]
  constructor
  ·intro h;cases h
  ·rintro ⟨_,h'⟩
   rw [List.any_eq_true] at h5;obtain ⟨x,hx,e⟩:=h5;have:=(h' x hx).2;simp at e
   rcases e with e|e
   ·exact absurd e this.1
   ·exact absurd e this.2
 rw [if_neg h5];refine ⟨fun _=>⟨⟨om,om,om,om,h4a⟩,?_⟩,fun _=>rfl⟩;intro x hx;refine ⟨h4b x hx,?_,?_⟩
 ·intro e;apply h5;rw [List.any_eq_true];exact ⟨x,hx,by simp [e]⟩
 ·intro e;apply h5;rw [List.any_eq_true];exact ⟨x,hx,by simp [e]⟩
theorem staysFault_iff {n last:Int} {before l:List sA} (hb:sO n last before):sC n last before l=0↔sO n last (before++l):=by
 induction l generalizing before with
 | nil=>simp [sC,hb]
 | cons s l ih=>
  unfold sC
  by_cases h:qE n last before s=0
  ·rw [if_neg (by simpa using h)]
   rw [stayFault_iff hb.2] at h;rw [ih,List.append_assoc]
   ·rfl
   ·refine ⟨?_,?_⟩
    ·intro x hx
     rcases List.mem_append.1 hx with hx|hx
     ·exact hb.1 x hx
     ·simp at hx;subst hx;exact h.1
    ·rw [List.pairwise_append]
     refine ⟨hb.2,sp,?_⟩;intro x hx y hy;simp at hy;subst hy;exact h.2 x hx
  ·rw [if_pos h]
   refine ⟨fun e=>absurd e h,fun e=>?_⟩;exfalso;apply h;rw [stayFault_iff hb.2];refine ⟨e.1 s sp,fun x hx=>?_⟩;have:=List.pairwise_append.1 e.2;exact this.2.2 x hx s sp
theorem jobsFault_iff {stays:List sA} {before l:List Job} (hb:before.Nodup):vD stays before l=0↔(∀ j∈l,∃ s∈stays,s.ticket=j.ticket)/\(before++l).Nodup:=by
 induction l generalizing before with
 | nil=>simp [vD,hb]
 | cons j l ih=>
  unfold vD
  by_cases h:(stays.any fun s=>s.ticket==j.ticket)=false\/j∈before
  ·rw [if_pos h]
   constructor
   ·intro e;cases e
   ·rintro ⟨e1,e2⟩
    rcases h with h|h
    ·obtain ⟨s,hs,e⟩:=e1 j sp
     rw [List.any_eq_false] at h;exact absurd (by simpa using e) (h s hs)
    ·rw [List.nodup_append] at e2
     exact absurd rfl (e2.2.2 j h j sp)
  ·rw [if_neg h]
   have h1:∃ s∈stays,s.ticket=j.ticket:=by
    apply Classical.byContradiction;intro hc;apply h;left;rw [List.any_eq_false];intro s hs e;exact hc ⟨s,hs,by simpa using e⟩
   have h2:¬ j∈before:=fun hc=>h (Or.inr hc)
   have hb':(before++[j]).Nodup:=by
    rw [List.nodup_append];refine ⟨hb,sp,?_⟩;intro x hx y hy;simp at hy;subst hy;rintro rfl;exact h2 hx
   rw [ih hb',List.append_assoc];constructor
   ·rintro ⟨e1,e2⟩
    refine ⟨?_,e2⟩;intro x hx
    rcases List.mem_cons.1 hx with rfl|hx
    ·exact h1
    ·exact e1 x hx
   ·rintro ⟨e1,e2⟩
    exact ⟨fun x hx=>e1 x (by simp [hx]),e2⟩
structure gB.OK (b:gB) (n:Int):Prop where
 l1:0<=b.last
 l2:b.last<=999999
 s16:b.stays.length<=16
 j8:b.jobs.length<=8
 stays:sO n b.last b.stays
 found:∀ j∈b.jobs,∃ s∈b.stays,s.ticket=j.ticket
 once:b.jobs.Nodup
theorem uF {b:gB} {n:Int}:fC b n=0↔b.OK n:=by
 unfold fC
 by_cases h1:b.last<0\/999999<b.last
 ·rw [if_pos h1]
  constructor
  ·intro h;cases h
  ·intro h;have:=h.l1;have:=h.l2;omega
 rw [if_neg h1]
 by_cases h2:16<b.stays.length\/8<b.jobs.length
 ·rw [if_pos h2]
  constructor
  ·intro h;cases h
  ·intro h;have:=h.s16;have:=h.j8;omega
 rw [if_neg h2];have hs:=staysFault_iff (n:=n) (last:=b.last) (before:=[]) (l:=b.stays) ⟨sp,List.Pairwise.nil⟩;rw [List.nil_append] at hs;have hj:=jobsFault_iff (stays:=b.stays) (before:=[]) (l:=b.jobs) sp;rw [List.nil_append] at hj
 by_cases h3:sC n b.last [] b.stays≠0
 ·rw [if_pos h3]
  exact ⟨fun h=>absurd h h3,fun h=>absurd (hs.2 h.stays) h3⟩
 rw [if_neg h3,hj]
 have h3:sC n b.last [] b.stays=0:=om
 constructor
 ·rintro ⟨e1,e2⟩
  exact ⟨om,om,om,om,hs.1 h3,e1,e2⟩
 ·intro h
  exact ⟨h.found,h.once⟩
theorem sO.sub {n last:Int} {l m:List sA} (h:sO n last l) (hs:List.Sublist m l):sO n last m:=⟨fun s hm=>h.1 s (hs.subset hm),h.2.sublist hs⟩
theorem done_ok {b:gB} {n:Int} (h:b.OK n) (j:Job) (gone:Bool):(yC b j gone).OK n:=by
 obtain ⟨l1,l2,s16,j8,st,fo,on⟩:=h;unfold yC;refine ⟨l1,l2,?_,?_,?_,?_,?_⟩
 ·dsimp only
  split
  ·exact Nat.le_trans (List.length_filter_le _ _) s16
  ·exact s16
 ·exact Nat.le_trans (List.length_filter_le _ _) j8
 ·dsimp only
  split
  ·exact st.sub List.filter_sublist
  ·exact st
 ·dsimp only
  intro x hx;rw [List.mem_filter] at hx;obtain ⟨s,hs,e⟩:=fo x hx.1;refine ⟨s,?_,e⟩
  split
  ·rename_i ho
   rw [List.mem_filter];refine ⟨hs,?_⟩;have:=hx.2;rw [ho] at this;simp at this;simp [e,this.2]
  ·exact hs
 ·exact on.filter _
theorem places_len {n:Int} (h:n<=4):(aE n).length<=14:=by
 by_cases h1:n<=0
 ·have:aE n=[]:=by unfold aE;rw [show n.toNat=0 by omega];rfl
  rw [this];simp
 ·have:n=1\/n=2\/n=3\/n=4:=om
  rcases this with rfl|rfl|rfl|rfl <;> decide
theorem oL {α:Type} [DecidableEq α]:∀ {l m:List α},l.Nodup->(∀ x∈l,x∈m)->l.length<=m.length
 | [],_,_,_=>Nat.zero_le _
 | x :: l,m,hn,hs=>by
  obtain ⟨h1,h2⟩:=List.nodup_cons.1 hn;have hx:=hs x sp
  have:=oL (l:=l) (m:=m.erase x) h2 (fun y hy=>by
   rw [List.mem_erase_of_ne]
   ·exact hs y (by simp [hy])
   ·rintro rfl;exact h1 hy)
  rw [List.length_erase_of_mem hx] at this;have:0<m.length:=List.length_pos_of_mem hx;simp;omega
theorem homes_nodup {n last:Int} {l:List sA} (h:sO n last l):(l.map fun s=>s.home).Nodup:=by
 unfold List.Nodup;rw [List.pairwise_map]
 exact h.2.imp fun h=>h.2.1
theorem pick_some {b:gB} {levels:List dD} {c:Car} {p:pB} (h:pick b levels c=some p):
  p∈aE levels.length/\pM c.size (levels.getD (p.level - 1).toNat default)=true/\hasHome b p=false/\hasHome b (aH p)=false/\waits b p=false:=by
 unfold pick at h;have h1:=List.mem_of_find?_eq_some h;have h2:=List.find?_some h;simp only [Bool.and_eq_true,Bool.not_eq_true'] at h2;exact ⟨h1,h2.1.1.1,h2.1.1.2,h2.1.2,h2.2⟩
theorem hasHome_iff {b:gB} {p:pB}:hasHome b p=false↔∀ s∈b.stays,s.home≠p:=by
 unfold hasHome;rw [List.any_eq_false];simp
theorem places_ok {n:Int} (h:n<=4):∀ x∈aE n,uA x n=0:=by
 by_cases h1:n<=0
 ·have:aE n=[]:=by unfold aE;rw [show n.toNat=0 by omega];rfl
  rw [this];simp
 ·have:n=1\/n=2\/n=3\/n=4:=om
  rcases this with rfl|rfl|rfl|rfl <;> decide
theorem park_ok {b:gB} {levels:List dD} {c:Car} {x:gB} {k:Int} (h:b.OK levels.length) (h4:levels.length<=4) (hp:park b levels c = .ok (x,k)):
  ∃ p,pick b levels c=some p/\gC c=0/\(b.of c.id)=none/\b.last<999999/\b.jobs.length<8/\k=b.last+1/\x=⟨b.last+1,b.stays++[⟨b.last+1,c,p⟩],b.jobs++[⟨b.last+1,false⟩]⟩/\x.OK levels.length:=by
 obtain ⟨l1,l2,s16,j8,st,fo,on⟩:=h;unfold park at hp
 by_cases c1:gC c≠0
 ·rw [if_pos c1] at hp;cases hp
 rw [if_neg c1] at hp
 by_cases c2:(b.of c.id).isSome=true
 ·rw [if_pos c2] at hp;cases hp
 rw [if_neg c2] at hp
 cases c3:pick b levels c with
 | none=>rw [c3] at hp;cases hp
 | some p=>
  rw [c3] at hp;dsimp only at hp
  by_cases c4:b.last=999999\/b.jobs.length=8
  ·rw [if_pos c4] at hp;cases hp
  rw [if_neg c4] at hp;cases hp;obtain ⟨k1,k2,k3,k4,k5⟩:=pick_some c3
  have hno:b.of c.id=none:=by simpa using c2
  refine ⟨p,rfl,om,hno,om,om,rfl,rfl,?_⟩;rw [hasHome_iff] at k3
  have hid:∀ s∈b.stays,s.car.id≠c.id:=by
   intro s hs e;unfold gB.of at hno;rw [List.find?_eq_none] at hno;exact hno s hs (by simpa using e)
  have hlen:(b.stays++[(⟨b.last+1,c,p⟩:sA)]).length<=14:=by
   have hn:((b.stays++[(⟨b.last+1,c,p⟩:sA)]).map fun s=>s.home).Nodup:=by
    rw [List.map_append,List.nodup_append];refine ⟨homes_nodup st,sp,?_⟩;intro y hy z hz;simp at hz;subst hz;rw [List.mem_map] at hy;obtain ⟨s,hs,rfl⟩:=hy;exact k3 s hs
   have:=oL hn (m:=aE levels.length) (fun y hy=>by
    rw [List.mem_map] at hy
    obtain ⟨s,hs,rfl⟩:=hy
    rcases List.mem_append.1 hs with hs|hs
    ·exact (st.1 s hs).2.2.2.2
    ·simp at hs;subst hs;exact k1)
   have h14:=places_len (n:=levels.length) om;simp only [List.length_map] at this;omega
  refine ⟨by dsimp only;omega,by dsimp only;omega,by dsimp only;omega,by simp;omega,⟨?_,?_⟩,?_,?_⟩
  ·intro s hs
   rcases List.mem_append.1 hs with hs|hs
   ·have:=st.1 s hs
    exact ⟨this.1,this.2.1,this.2.2.1,by have:=this.2.2.2.1;dsimp only;omega,this.2.2.2.2⟩
   ·simp at hs;subst hs
    exact ⟨by dsimp only;omega,places_ok om p k1,by dsimp only;omega,by dsimp only;omega,k1⟩
  ·dsimp only
   rw [List.pairwise_append];refine ⟨st.2,sp,?_⟩;intro s hs y hy;simp at hy;subst hy;exact ⟨by have:=(st.1 s hs).2.2.2.1;dsimp only;omega,k3 s hs,hid s hs⟩
  ·intro j hj
   rcases List.mem_append.1 hj with hj|hj
   ·obtain ⟨s,hs,e⟩:=fo j hj
    exact ⟨s,List.mem_append_left _ hs,e⟩
   ·simp at hj;subst hj
    exact ⟨⟨b.last+1,c,p⟩,sp,rfl⟩
  ·dsimp only
   rw [List.nodup_append];refine ⟨on,sp,?_⟩;intro j hj y hy;simp at hy;subst hy;rintro rfl;obtain ⟨s,hs,e⟩:=fo _ hj;have:=(st.1 s hs).2.2.2.1;dsimp only at e;omega
theorem want_ok {b x:gB} {n t:Int} (h:b.OK n) (hw:want b t = .ok x):x={ b with jobs:=b.jobs++[⟨t,true⟩] }/\x.OK n:=by
 obtain ⟨l1,l2,s16,j8,st,fo,on⟩:=h;unfold want at hw
 by_cases c1:(b.find t).isNone=true
 ·rw [if_pos c1] at hw;cases hw
 rw [if_neg c1] at hw
 by_cases c2:b.jobs.contains ⟨t,true⟩=true
 ·rw [if_pos c2] at hw;cases hw
 rw [if_neg c2] at hw
 by_cases c3:b.jobs.length=8
 ·rw [if_pos c3] at hw;cases hw
 rw [if_neg c3] at hw;cases hw;refine ⟨rfl,l1,l2,s16,by simp;omega,st,?_,?_⟩
 ·intro j hj
  rcases List.mem_append.1 hj with hj|hj
  ·exact fo j hj
  ·simp at hj;subst hj
   unfold gB.find at c1
   cases hf:b.stays.find? (fun s=>s.ticket==t) with
   | none=>rw [hf] at c1;exact absurd rfl c1
   | some s=>exact ⟨s,List.mem_of_find?_eq_some hf,by simpa using List.find?_some hf⟩
 ·dsimp only
  rw [List.nodup_append];refine ⟨on,sp,?_⟩;intro j hj y hy;simp at hy;subst hy;rintro rfl;exact c2 (by simpa using hj)
end Ch
namespace Ch
open Go
def bK (w:List UInt8):Option Int:=
 match Lib.atoiAll w with
 | .ok k=>if Lib.itoa k=w/\0<=k/\k<=999999 then some k else none
 | _=>none
theorem parse_digit {acc i:Nat} (h:i<10) (ha:acc<=999999) (r:List UInt8):Lib.parseUint10 acc (UInt8.ofNat (48+i) :: r)=Lib.parseUint10 (acc * 10+i) r:=by
 have hn:(UInt8.ofNat (48+i)).toNat=48+i:=by simp;omega
 rw [Lib.parseUint10,hn,if_pos om,if_neg om,if_neg om]
 congr 1;omega
theorem fI (u:Nat) (h:¬ u<10):Lib.decDigits u=Lib.decDigits (u / 10)++[UInt8.ofNat (48+u % 10)]:=by rw [Lib.decDigits,dif_neg h]
theorem parse_dec:∀ (u:Nat),u<=9999999->∀ r,Lib.parseUint10 0 (Lib.decDigits u++r)=Lib.parseUint10 u r:=by
 intro u
 induction u using Nat.strongRecOn with
 | _ u ih=>
  intro hu r
  by_cases h:u<10
  ·rw [Lib.decDigits_one h,List.singleton_append,parse_digit h om]
   simp
  ·rw [fI u h,List.append_assoc,ih (u / 10) om om,List.singleton_append,parse_digit om om]
   congr 1;omega
theorem dec_head (u:Nat):∃ i r,i<10/\Lib.decDigits u=UInt8.ofNat (48+i) :: r:=by
 induction u using Nat.strongRecOn with
 | _ u ih=>
  by_cases h:u<10
  ·exact ⟨u,[],h,Lib.decDigits_one h⟩
  ·obtain ⟨i,r,hi,e⟩:=ih (u / 10) om
   rw [fI u h,e];exact ⟨i,r++[UInt8.ofNat (48+u % 10)],hi,rfl⟩
theorem xL {n:Int} (h0:0<=n) (h1:n<=9999999):Lib.atoiAll (Lib.itoa n) = .ok n:=by
 have e:Lib.itoa n=Lib.decDigits n.toNat:=by unfold Lib.itoa;rw [if_neg om]
 obtain ⟨i,r,hi,hd⟩:=dec_head n.toNat;have hp:=parse_dec n.toNat om [];rw [List.append_nil] at hp;rw [e]
 rw [hd] at hp ⊢
 have hn:(UInt8.ofNat (48+i)).toNat=48+i:=by simp;omega
 unfold Lib.atoiAll;simp only [hn];rw [if_neg om];unfold Lib.parseMag;rw [if_neg sp,hp];simp only [Lib.parseUint10];rw [if_neg om,if_neg om,if_neg om]
 congr 1;omega
theorem lH {w:List UInt8} {k:Int}:bK w=some k↔0<=k/\k<=999999/\w=Lib.itoa k:=by
 unfold bK;constructor
 ·intro h
  split at h
  ·split at h
   ·rename_i hc
    cases h;exact ⟨hc.2.1,hc.2.2,hc.1.symm⟩
   ·cases h
  ·cases h
 ·rintro ⟨h0,h1,rfl⟩
  rw [xL h0 om];simp [h0,h1]
theorem numOf_itoa {k:Int} (h0:0<=k) (h1:k<=999999):bK (Lib.itoa k)=some k:=lH.2 ⟨h0,h1,rfl⟩
theorem dec_bytes (u:Nat):∀ b∈Lib.decDigits u,48<=b.toNat/\b.toNat<=57:=by
 induction u using Nat.strongRecOn with
 | _ u ih=>
  by_cases h:u<10
  ·rw [Lib.decDigits_one h]
   intro b hb;simp at hb;subst hb;simp;omega
  ·rw [fI u h]
   intro b hb
   rcases List.mem_append.1 hb with hb|hb
   ·exact ih (u / 10) om b hb
   ·simp at hb;subst hb;simp;omega
theorem dec_len {u k:Nat} (h:u<10 ^ (k+1)):(Lib.decDigits u).length<=k+1:=by
 induction k generalizing u with
 | zero=>rw [Lib.decDigits_one (by simpa using h)];simp
 | succ k ih=>
  by_cases h10:u<10
  ·rw [Lib.decDigits_one h10];simp
  ·rw [fI u h10]
   have:=ih (u:=u / 10) (by rw [Nat.pow_succ] at h;omega);simp;omega
theorem yF {n:Int} {k:Nat} (h0:0<=n) (h:n<(10 ^ (k+1):Nat)):(Lib.itoa n).length<=k+1:=by
 unfold Lib.itoa;rw [if_neg om];exact dec_len om
theorem itoa_bytes {n:Int} (h0:0<=n):∀ b∈Lib.itoa n,48<=b.toNat/\b.toNat<=57:=by
 unfold Lib.itoa;rw [if_neg om];exact dec_bytes _
theorem itoa_ne {n:Int} (h0:0<=n):Lib.itoa n≠[]:=by
 unfold Lib.itoa;rw [if_neg om];obtain ⟨i,r,_,e⟩:=dec_head n.toNat;rw [e];simp
def eC (w:List UInt8):List UInt8->List (List UInt8)
 | []=>[w]
 | b :: s=>if b=32 then w :: eC [] s else eC (w++[b]) s
def kI (s:List UInt8):List (List UInt8):=eC [] s
def mE:List (List UInt8)->List UInt8
 | []=>[]
 | [w]=>w
 | w :: v :: l=>w++32 :: mE (v :: l)
theorem words_word (w v s:List UInt8) (h:∀ b∈v,b≠32):eC w (v++s)=eC (w++v) s:=by
 induction v generalizing w with
 | nil=>simp
 | cons b v ih=>
  rw [List.cons_append,eC,if_neg (h b sp),ih _ (fun c hc=>h c (by simp [hc]))];simp
theorem words_join:∀ (l:List (List UInt8)),l≠[]->(∀ w∈l,∀ b∈w,b≠32)->kI (mE l)=l
 | [],h,_=>absurd rfl h
 | [w],_,h=>by
  have:=words_word [] w [] (h w sp);rw [List.append_nil,List.nil_append] at this;unfold kI mE;rw [this];rfl
 | w :: v :: l,_,h=>by
  have ih:=words_join (v :: l) sp (fun x hx=>h x (by simp [hx]))
  unfold kI at ih ⊢
  rw [mE,words_word [] w _ (h w sp),eC,if_pos rfl,ih];simp
def tC (s:sA):List Int:=[s.ticket,s.car.id,s.car.size.long,s.car.size.high,s.car.size.heavy,s.home.level,s.home.side,s.home.depth]
def sG (j:Job):List Int:=[j.ticket,if j.fetch then 1 else 0]
def oD (b:gB):List Int:=[b.last,(b.stays.length:Int),(b.jobs.length:Int)]++b.stays.flatMap tC++b.jobs.flatMap sG
def mB (b:gB):List UInt8:=mE ((oD b).map Lib.itoa)
def stayOf:List Int->sA
 | [a,b,c,d,e,f,g,h]=>⟨a,⟨b,⟨c,d,e⟩⟩,⟨f,g,h⟩⟩
 | _=>default
def zM:Nat->List Int->List sA
 | 0,_=>[]
 | k+1,l=>stayOf (l.take 8) :: zM k (l.drop 8)
def jobsOf:Nat->List Int->Option (List Job)
 | 0,_=>some []
 | k+1,l=>
  match l with
  | t :: f :: r=>if 1<f then none else (jobsOf k r).map fun js=>⟨t,f==1⟩ :: js
  | _=>none
def numsOf (s:List UInt8):Option (List Int):=(kI s).mapM bK
def kJ (n:List Int) (levels:Int):Option gB:=
 match n with
 | a :: b :: c :: r=>
  if (n.length:Int)=3+8 * b+2 * c then
   match jobsOf c.toNat (r.drop (8 * b.toNat)) with
   | none=>none
   | some js=>if fC ⟨a,zM b.toNat r,js⟩ levels=0 then some ⟨a,zM b.toNat r,js⟩ else none
  else none
 | _=>none
def uD (s:List UInt8) (levels:Int):Option gB:=(numsOf s).bind fun n=>kJ n levels
theorem staysOf_nums:∀ (l:List sA) (r:List Int),zM l.length (l.flatMap tC++r)=l
 | [],_=>rfl
 | s :: l,r=>by
  simp only [List.length_cons,zM,List.flatMap_cons,List.append_assoc]
  have h1:(tC s++(l.flatMap tC++r)).take 8=tC s:=by simp [tC]
  have h2:(tC s++(l.flatMap tC++r)).drop 8=l.flatMap tC++r:=by simp [tC]
  rw [h1,h2,staysOf_nums l r];rfl
theorem jobsOf_nums:∀ (l:List Job),jobsOf l.length (l.flatMap sG)=some l
 | []=>rfl
 | j :: l=>by
  simp only [List.length_cons,List.flatMap_cons,sG,List.cons_append,List.nil_append,jobsOf,jobsOf_nums l,Option.map_some];obtain ⟨t,f⟩:=j
  cases f <;> simp
theorem stays_len (l:List sA):(l.flatMap tC).length=8 * l.length:=by
 induction l with
 | nil=>rfl
 | cons s l ih=>simp [tC,ih];omega
theorem jobs_len (l:List Job):(l.flatMap sG).length=2 * l.length:=by
 induction l with
 | nil=>rfl
 | cons s l ih=>simp [sG,ih];omega
theorem mapM_num:∀ (l:List Int),(∀ k∈l,0<=k/\k<=999999)->(l.map Lib.itoa).mapM bK=some l
 | [],_=>rfl
 | k :: l,h=>by
  have hk:=h k sp;simp only [List.map_cons,List.mapM_cons,numOf_itoa hk.1 hk.2,mapM_num l (fun x hx=>h x (by simp [hx]))];rfl
theorem stay_range {n last:Int} {s:sA} (h:StayOK n last s) (hn:n<=4) (hl:last<=999999):∀ k∈tC s,0<=k/\k<=999999:=by
 obtain ⟨h1,h2,h3,h4,_⟩:=h;unfold gC at h1
 split at h1
 ·cases h1
 rename_i hc;unfold iC at h1
 split at h1
 ·cases h1
 rename_i hs;unfold uA at h2
 split at h2
 ·cases h2
 rename_i hp;intro k hk;simp only [tC,List.mem_cons,List.not_mem_nil,or_false] at hk
 rcases hk with rfl|rfl|rfl|rfl|rfl|rfl|rfl|rfl <;> omega
theorem book_range {b:gB} {n:Int} (h:b.OK n) (hn:n<=4):∀ k∈oD b,0<=k/\k<=999999:=by
 have l1:=h.l1;have l2:=h.l2;have s16:=h.s16;have j8:=h.j8;intro k hk;unfold oD at hk
 rcases List.mem_append.1 hk with hk|hk
 ·rcases List.mem_append.1 hk with hk|hk
  ·simp at hk
   rcases hk with rfl|rfl|rfl <;> omega
  ·obtain ⟨s,hs,hk⟩:=List.mem_flatMap.1 hk
   exact stay_range (h.stays.1 s hs) hn l2 k hk
 ·obtain ⟨j,hj,hk⟩:=List.mem_flatMap.1 hk
  obtain ⟨s,hs,e⟩:=h.found j hj;have:=h.stays.1 s hs;have h3:=this.2.2.1;have h4:=this.2.2.2.1;simp only [sG,List.mem_cons,List.not_mem_nil,or_false] at hk
  rcases hk with rfl|rfl
  ·omega
  ·split <;> omega
theorem bookOfNums_nums {b:gB} {n:Int} (h:fC b n=0):kJ (oD b) n=some b:=by
 unfold oD kJ;simp only [List.cons_append,List.nil_append]
 have hl:(((b.last :: (b.stays.length:Int) :: (b.jobs.length:Int) :: (b.stays.flatMap tC++b.jobs.flatMap sG)).length:Nat):Int)=3+8 * (b.stays.length:Int)+2 * (b.jobs.length:Int):=by
  simp only [List.length_cons,List.length_append,stays_len,jobs_len];omega
 rw [if_pos hl]
 have hd:(b.stays.flatMap tC++b.jobs.flatMap sG).drop (8 * (b.stays.length:Int).toNat)=b.jobs.flatMap sG:=by
  rw [Int.toNat_natCast,List.drop_append_of_le_length (by rw [stays_len];omega),List.drop_of_length_le (by rw [stays_len];omega),List.nil_append]
 rw [hd,Int.toNat_natCast,Int.toNat_natCast,jobsOf_nums,staysOf_nums];simp only;rw [if_pos h]
theorem parse_text {b:gB} {n:Int} (h:fC b n=0) (hn:n<=4):uD (mB b) n=some b:=by
 have hok:=uF.1 h;have hr:=book_range hok hn;unfold uD numsOf mB
 rw [words_join _ (by simp [oD]) (by
  intro w hw b' hb'
  obtain ⟨k,hk,rfl⟩:=List.mem_map.1 hw
  have:=itoa_bytes (hr k hk).1 b' hb'
  intro e;subst e;revert this;decide),mapM_num _ hr]
 exact bookOfNums_nums h
theorem join_len:∀ (l:List (List UInt8)),(mE l).length<=(l.map List.length).sum+l.length
 | []=>by simp [mE]
 | [w]=>by simp [mE]
 | w :: v :: l=>by
  have:=join_len (v :: l)
  simp only [mE,List.length_append,List.length_cons,List.map_cons,List.sum_cons] at this ⊢
  omega
theorem sum_flat {α:Type} (f:α->List Int) (c:Nat):∀ (l:List α),(∀ x∈l,(((f x).map Lib.itoa).map List.length).sum<=c)->((((l.flatMap f).map Lib.itoa).map List.length).sum)<=c * l.length
 | [],_=>by simp
 | x :: l,h=>by
  have h1:=h x sp;have h2:=sum_flat f c l (fun y hy=>h y (by simp [hy]));simp only [List.flatMap_cons,List.map_append,List.sum_append,List.length_cons,Nat.mul_succ];omega
theorem stay_digits {n last:Int} {s:sA} (h:StayOK n last s) (hn:n<=4) (hl:last<=999999):(((tC s).map Lib.itoa).map List.length).sum<=18:=by
 obtain ⟨h1,h2,h3,h4,_⟩:=h;unfold gC at h1
 split at h1
 ·cases h1
 rename_i hc;unfold iC at h1
 split at h1
 ·cases h1
 rename_i hs;unfold uA at h2
 split at h2
 ·cases h2
 rename_i hp;have e1:=yF (n:=s.ticket) (k:=5) om om;have e2:=yF (n:=s.car.id) (k:=2) om om;have e3:=yF (n:=s.car.size.long) (k:=1) om om;have e4:=yF (n:=s.car.size.high) (k:=1) om om;have e5:=yF (n:=s.car.size.heavy) (k:=1) om om;have e6:=yF (n:=s.home.level) (k:=0) om om;have e7:=yF (n:=s.home.side) (k:=0) om om;have e8:=yF (n:=s.home.depth) (k:=0) om om;simp only [tC,List.map_cons,List.map_nil,List.sum_cons,List.sum_nil];omega
theorem text_len {b:gB} {n:Int} (h:fC b n=0) (hn:n<=4):(mB b).length<=640:=by
 have hok:=uF.1 h;have l1:=hok.l1;have l2:=hok.l2;have s16:=hok.s16;have j8:=hok.j8;have h1:=join_len ((oD b).map Lib.itoa);have hs:=sum_flat tC 18 b.stays (fun s hs=>stay_digits (hok.stays.1 s hs) hn l2)
 have hj:=sum_flat sG 7 b.jobs (fun j hj=>by
  obtain ⟨s,hs,e⟩:=hok.found j hj
  have:=hok.stays.1 s hs
  have h3:=this.2.2.1
  have h4:=this.2.2.2.1
  have e1:=yF (n:=j.ticket) (k:=5) om om
  have e2:=yF (n:=if j.fetch then 1 else 0) (k:=0) (by split <;> omega) (by split <;> omega)
  simp only [sG,List.map_cons,List.map_nil,List.sum_cons,List.sum_nil]
  omega)
 have e1:=yF (n:=b.last) (k:=5) om om;have e2:=yF (n:=(b.stays.length:Int)) (k:=1) om om;have e3:=yF (n:=(b.jobs.length:Int)) (k:=0) om om
 have hlen:(oD b).length=3+8 * b.stays.length+2 * b.jobs.length:=by
  simp only [oD,List.length_append,stays_len,jobs_len,List.length_cons,List.length_nil]
 rw [List.length_map,hlen] at h1
 have hsum:((((oD b).map Lib.itoa).map List.length).sum)=(Lib.itoa b.last).length+((Lib.itoa (b.stays.length:Int)).length+((Lib.itoa (b.jobs.length:Int)).length))+(((b.stays.flatMap tC).map Lib.itoa).map List.length).sum+(((b.jobs.flatMap sG).map Lib.itoa).map List.length).sum:=by
  simp only [oD,List.map_append,List.sum_append,List.map_cons,List.map_nil,List.sum_cons,List.sum_nil];omega
 unfold mB;omega
end Ch
namespace Ch
def yL (n:Nat):ByteArray:=⟨Array.replicate n 0⟩
def vC (s:ByteArray):ByteArray:=s++yL (64 - s.size)
structure aB where
 kept:List ByteArray
 now:List ByteArray
 wait:List (Nat×ByteArray)
 fuse:Int
 down:Bool
 deriving Inhabited
def aB.new (n:Nat):aB:=⟨List.replicate n (yL 64),List.replicate n (yL 64),[],-1,false⟩
def aB.stepped (d:aB):aB:=
 if d.down then d else if d.fuse=0 then { d with down:=true,fuse:=-1 } else { d with fuse:=max (d.fuse - 1) (-1) }
def aB.stepErr (d:aB):Int:=if d.stepped.down then 9 else 0
def aB.read (d:aB) (at_:Int):ByteArray×Int:=
 if d.down then (⟨#[]⟩,9) else if at_<0\/(d.now.length:Int)<=at_ then (⟨#[]⟩,1) else (d.now.getD at_.toNat ⟨#[]⟩,0)
def aB.write (d:aB) (at_:Int) (data:ByteArray):aB×Int:=
 if at_<0\/(d.now.length:Int)<=at_\/64<data.size then (d,1)
 else if d.stepped.down then (d.stepped,9)
 else ({ d.stepped with now:=d.now.set at_.toNat (vC data),wait:=d.wait++[(at_.toNat,vC data)] },0)
def aB.flush (d:aB):aB×Int:=
 if d.stepped.down then (d.stepped,9) else ({ d.stepped with kept:=d.now,wait:=[] },0)
def rL (keep:Nat) (i:Nat):Bool:=(keep / 2 ^ (i % 64)) % 2==1
def nH (keep:Nat):Nat->List (Nat×ByteArray)->List ByteArray->List ByteArray
 | _,[],k=>k
 | i,t :: l,k=>nH keep (i+1) l (if rL keep i then k.set t.1 t.2 else k)
def aB.restart (d:aB) (keep:Nat):aB:=
 let k:=nH keep 0 d.wait d.kept
 { kept:=k,now:=k,wait:=[],fuse:=-1,down:=false }
structure aB.WF (d:aB) (n:Nat):Prop where
 kept:d.kept.length=n
 now:d.now.length=n
 keptS:∀ s∈d.kept,s.size=64
 nowS:∀ s∈d.now,s.size=64
 wait:∀ t∈d.wait,t.1<n/\t.2.size=64
 fuse:-1<=d.fuse
 fuse2:d.fuse<=9223372036854775807
theorem yN (n:Nat):(yL n).size=n:=by simp [yL,ByteArray.size]
theorem mO {s:ByteArray} (h:s.size<=64):(vC s).size=64:=by
 simp [vC,yN];omega
theorem aB.WF.new (n:Nat):(aB.new n).WF n:=
 ⟨by simp [aB.new],by simp [aB.new],by intro s hs;simp [aB.new] at hs;rw [hs.2,yN],by intro s hs;simp [aB.new] at hs;rw [hs.2,yN],by simp [aB.new],by simp [aB.new],by simp [aB.new]⟩
theorem aB.WF.stepped {d:aB} {n:Nat} (h:d.WF n):d.stepped.WF n:=by
 have:=h.fuse;have:=h.fuse2;unfold aB.stepped
 split
 ·exact h
 ·split
  ·exact ⟨h.kept,h.now,h.keptS,h.nowS,h.wait,sp,sp⟩
  ·exact ⟨h.kept,h.now,h.keptS,h.nowS,h.wait,by simp;omega,by simp;omega⟩
theorem uK (d:aB):d.stepped.now=d.now:=by unfold aB.stepped;split;rfl;split <;> rfl
theorem lI (d:aB):d.stepped.kept=d.kept:=by unfold aB.stepped;split;rfl;split <;> rfl
theorem fG (d:aB):d.stepped.wait=d.wait:=by unfold aB.stepped;split;rfl;split <;> rfl
theorem aB.WF.write {d:aB} {n:Nat} (h:d.WF n) (a:Int) (s:ByteArray):(d.write a s).1.WF n:=by
 unfold aB.write
 split
 ·exact h
 ·rename_i hc
  split
  ·exact h.stepped
  ·have hn:=h.now
   have hs:=h.stepped;refine ⟨hs.kept,by simp [h.now],hs.keptS,?_,?_,hs.fuse,hs.fuse2⟩
   ·intro x hx
    rcases List.mem_or_eq_of_mem_set hx with hx|rfl
    ·exact h.nowS x hx
    ·exact mO om
   ·intro t ht
    simp at ht
    rcases ht with ht|rfl
    ·exact h.wait t ht
    ·exact ⟨by simp;omega,mO om⟩
theorem aB.WF.flush {d:aB} {n:Nat} (h:d.WF n):d.flush.1.WF n:=by
 unfold aB.flush
 split
 ·exact h.stepped
 ·exact ⟨h.now,h.stepped.now,h.nowS,h.stepped.nowS,sp,h.stepped.fuse,h.stepped.fuse2⟩
theorem keptOf_ok (keep n:Nat):∀ (l:List (Nat×ByteArray)) (i:Nat) (k:List ByteArray),k.length=n->(∀ s∈k,s.size=64)->(∀ t∈l,t.1<n/\t.2.size=64) ->
  (nH keep i l k).length=n/\∀ s∈nH keep i l k,s.size=64
 | [],_,k,h1,h2,_=>⟨h1,h2⟩
 | t :: l,i,k,h1,h2,h3=>by
  unfold nH;refine keptOf_ok keep n l (i+1) _ ?_ ?_ (fun t' ht=>h3 t' (by simp [ht]))
  ·split <;> simp [h1]
  ·split
   ·intro s hs
    rcases List.mem_or_eq_of_mem_set hs with hs|rfl
    ·exact h2 s hs
    ·exact (h3 t sp).2
   ·exact h2
theorem aB.WF.restart {d:aB} {n:Nat} (h:d.WF n) (keep:Nat):(d.restart keep).WF n:=by
 obtain ⟨h1,h2⟩:=keptOf_ok keep n d.wait 0 d.kept h.kept h.keptS h.wait;exact ⟨h1,h1,h2,h2,by simp [aB.restart],by simp [aB.restart],by simp [aB.restart]⟩
theorem keptOf_snoc (keep:Nat) (t:Nat×ByteArray):∀ (l:List (Nat×ByteArray)) (i:Nat) (k:List ByteArray),
  nH keep i (l++[t]) k=if rL keep (i+l.length) then (nH keep i l k).set t.1 t.2 else nH keep i l k
 | [],i,k=>by simp [nH]
 | u :: l,i,k=>by
  simp only [List.cons_append,nH,List.length_cons];rw [keptOf_snoc keep t l (i+1)];rw [show i+1+l.length=i+(l.length+1) by omega]
theorem keptOf_take (keep:Nat) {l:List (Nat×ByteArray)} {k:Nat} {t:Nat×ByteArray} (h:l[k]? = some t) (m:List ByteArray):
  nH keep 0 (l.take (k+1)) m=if rL keep k then (nH keep 0 (l.take k) m).set t.1 t.2 else nH keep 0 (l.take k) m:=by
 have hk:k<l.length:=by
  by_cases hk:k<l.length
  ·exact hk
  ·rw [List.getElem?_eq_none om] at h;cases h
 rw [List.take_add_one,h];simp only [Option.toList_some];rw [keptOf_snoc,List.length_take,Nat.zero_add,Nat.min_eq_left om]
end Ch
namespace Ch
open Go
def vJ (s:List UInt8) (i:Nat):Nat:=(s.getD i 0).toNat
def four (n:Nat):List UInt8:=[UInt8.ofNat n,UInt8.ofNat (n / 256),UInt8.ofNat (n / 65536),UInt8.ofNat (n / 16777216)]
def uH (s:List UInt8) (i:Nat):Nat:=vJ s i+256 * vJ s (i+1)+65536 * vJ s (i+2)+16777216 * vJ s (i+3)
def head (epoch size:Nat):List UInt8:=66 :: (four epoch++four size)
theorem unfour_head (e k:Nat) (he:e<4294967296) (hk:k<4294967296) (r:List UInt8):vJ (head e k++r) 0=66/\uH (head e k++r) 1=e/\uH (head e k++r) 5=k:=by
 refine ⟨rfl,?_,?_⟩
 ·show (UInt8.ofNat e).toNat+256 * (UInt8.ofNat (e / 256)).toNat+65536 * (UInt8.ofNat (e / 65536)).toNat+16777216 * (UInt8.ofNat (e / 16777216)).toNat=e
  simp only [UInt8.toNat_ofNat'];omega
 ·show (UInt8.ofNat k).toNat+256 * (UInt8.ofNat (k / 256)).toNat+65536 * (UInt8.ofNat (k / 65536)).toNat+16777216 * (UInt8.ofNat (k / 16777216)).toNat=k
  simp only [UInt8.toNat_ofNat'];omega
def mL (s:List UInt8) (x:Nat×Nat):Nat×Nat:=if vJ s 0=66/\x.1<uH s 1/\uH s 5<=640 then (uH s 1,uH s 5) else x
def newest (l:List ByteArray):Nat×Nat:=mL (l.getD 1 ⟨#[]⟩).data.toList (mL (l.getD 0 ⟨#[]⟩).data.toList (0,0))
def uJ (l:List ByteArray) (e:Nat):List UInt8:=((l.drop (2+e % 2 * 10)).take 10).flatMap (·.data.toList)
def fO (l:List ByteArray) (levels:Int):Option (Nat×gB):=
 if (newest l).1=0 then none else (uD ((uJ l (newest l).1).take (newest l).2) levels).map fun b=>((newest l).1,b)
def iL:Nat->List UInt8->List (List UInt8)
 | 0,_=>[]
 | n+1,s=>if s=[] then [] else s.take 64 :: iL n (s.drop 64)
structure rF (l:List ByteArray) (levels:Int) (e:Nat) (b:gB):Prop where
 pos:1<=e
 fit:e<4294967296
 ok:fC b levels=0
 head:∃ r,(l.getD (e % 2) ⟨#[]⟩).data.toList=head e (mB b).length++r
 text:(uJ l e).take (mB b).length=mB b
 old:(mL (l.getD ((e+1) % 2) ⟨#[]⟩).data.toList (0,0)).1<e
theorem tells_head {s:List UInt8} {e k:Nat} {x:Nat×Nat} (h:∃ r,s=head e k++r) (he:e<4294967296) (hk:k<=640) (hx:x.1<e):mL s x=(e,k):=by
 obtain ⟨r,rfl⟩:=h;obtain ⟨h0,h1,h2⟩:=unfour_head e k he om r;unfold mL;rw [h0,h1,h2,if_pos ⟨rfl,hx,hk⟩]
theorem tells_old {s:List UInt8} {e k:Nat} (h:(mL s (0,0)).1<e):mL s (e,k)=(e,k):=by
 unfold mL at h ⊢
 split at h
 ·rename_i hc
  rw [if_neg];rintro ⟨_,h1,_⟩;dsimp only at h h1;omega
 ·rename_i hc
  rw [if_neg];rintro ⟨h0,h1,h2⟩;exact hc ⟨h0,by dsimp only at h1 ⊢;omega,h2⟩
theorem rF.newest {l:List ByteArray} {levels:Int} {e:Nat} {b:gB} (h:rF l levels e b) (hl:levels<=4):newest l=(e,(mB b).length):=by
 have ht:=text_len h.ok hl;unfold Ch.newest
 rcases Nat.mod_two_eq_zero_or_one e with he|he
 ·have h1:=h.head
  have h2:=h.old;rw [he] at h1;rw [show (e+1) % 2=1 by omega] at h2;rw [tells_head (x:=(0,0)) h1 h.fit ht (by show 0<e;exact h.pos),tells_old h2]
 ·have h1:=h.head
  have h2:=h.old;rw [he] at h1;rw [show (e+1) % 2=0 by omega] at h2;exact tells_head h1 h.fit ht h2
theorem rF.opens {l:List ByteArray} {levels:Int} {e:Nat} {b:gB} (h:rF l levels e b) (hl:levels<=4):fO l levels=some (e,b):=by
 unfold fO;rw [h.newest hl];dsimp only;rw [if_neg (by have:=h.pos;omega),h.text,parse_text h.ok hl];rfl
end Ch
