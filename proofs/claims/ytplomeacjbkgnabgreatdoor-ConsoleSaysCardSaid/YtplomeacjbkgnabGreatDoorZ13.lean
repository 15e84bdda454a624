import Derived.Test.YtplomeacjbkgnabGreatDoorZ11
set_option linter.all false
set_option maxRecDepth 100000
set_option maxHeartbeats 16000000
namespace Go.Proofs.YtplomeacjbkgnabGreatDoor
open Go.RowKit Tryz Ch
theorem yA.map {w:World} {pb mb:Nat} {p:dA} (h:yA w pb mb p) {l:List lJ} {clock:Nat} {f:pB->Int} (hs:oI (ChangeMaps.setBlock w mb (.map (l.map ent).toArray clock)) mb l clock f):
  yA (ChangeMaps.setBlock w mb (.map (l.map ent).toArray clock)) pb mb { p with slots:=f }:=by
 refine ⟨?_,l,clock,hs⟩
 have:mb≠pb:=fun e=>h.ne e.symm
 simp only [ChangeMaps.setBlock];rw [Array.getElem?_setIfInBounds_ne this];exact h.blk
theorem grab_none {p:dA} (h:p.place p.ext=none):p.grab=p:=by unfold dA.grab;rw [h]
theorem grab_not {p:dA} {x:pB} (h:p.place p.ext=some x) (hn:p.lift≠0\/p.slots x=0):p.grab=p:=by
 unfold dA.grab;rw [h];dsimp only;rw [if_neg om]
theorem grab_yes {p:dA} {x:pB} (h:p.place p.ext=some x) (hl:p.lift=0) (hn:p.slots x≠0):p.grab={ p with lift:=p.slots x,slots:=sD p.slots x 0 }:=by
 unfold dA.grab;rw [h];dsimp only;rw [if_pos ⟨hl,hn⟩]
theorem grab_any {pb mb:Nat} {p:dA} {w:World} (h:yA w pb mb p) (hp:p.WF):
  Calls prog 106 #[.pointer (some ⟨pb,0,none⟩)] w (Did pb mb w p.grab (.tuple #[])):=by
 obtain ⟨c0,c1,c2,c3,c4,c5,c6,c7,c8,c9⟩:=h.cells;have hb:=cA c1;have HP:=aA h;have fz:=vA h.blk;have h1:=hp.ht1
 have h2:p.height<=12:=by have:=hp.ht2;have:=hp.lv2;omega
 have h3:=hp.ex1;have h4:=hp.ex2;clear h
 cases hx:bG p.height p.ext with
 | none=>
  have HX:=aA hx
  have HG:Hid (p.grab=p):=by unfold Hid;exact grab_none hx
  clear hx;go_enter func106,ntmps106;go_wp2_with (go_at_call 133;with_reducible refine mo (at_none _ _ _ _ (by assumption) om om om om HX.out) fun o1 n1=>?_)
  (refine qF ?_;rintro _ ⟨oq,nq,rfl⟩)
  go_wp2
  go_end0
  rw [HG.out];exact ⟨rfl,HP.out.ext eX,fA.of_ext eX⟩
 | some x=>
  obtain ⟨a,b,c⟩:=x;have HX:=aA hx
  have hl:∀ o1 n1 o n,(Instr.lookup 93 (.map (some mb)) (.agg #[vi a,vi b,vi c]) false).run prog (World.plus ((w.plus o1 n1).alloc (.cells #[vi a,vi b,vi c] 89)) o n) = .ok (vi (p.slots ⟨a,b,c⟩)) (World.plus ((w.plus o1 n1).alloc (.cells #[vi a,vi b,vi c] 89)) o n):=fun o1 n1 o n=>by
   obtain ⟨l,k,hs⟩:=(HP.out.ext (w':=World.plus ((w.plus o1 n1).alloc (.cells #[vi a,vi b,vi c] 89)) o n) eX).slots;exact hs.look ⟨a,b,c⟩
  by_cases g1:p.lift=0
  ·have e1:(p.lift==0)=true:=by simpa using g1
   by_cases g2:p.slots ⟨a,b,c⟩=0
   ·have e2:(p.slots ⟨a,b,c⟩ != 0)=false:=by simpa using g2
    have HG:Hid (p.grab=p):=by unfold Hid;exact grab_not hx (Or.inr g2)
    clear hx g1 g2;go_enter func106,ntmps106;go_wp2_with (go_at_call 133;with_reducible refine mo (lN _ _ _ a b c _ (by assumption) om om om om HX.out) fun o1 n1=>?_)
    (refine qF ?_;rintro _ ⟨oq,nq,rfl⟩)
    go_wp2
    go_end0
    rw [HG.out];exact ⟨rfl,HP.out.ext eX,fA.of_ext eX⟩
   ·have e2:(p.slots ⟨a,b,c⟩ != 0)=true:=by simpa using g2
    have HG:Hid (p.grab={ p with lift:=p.slots ⟨a,b,c⟩,slots:=sD p.slots ⟨a,b,c⟩ 0 }):=by unfold Hid;exact grab_yes hx g1 g2
    clear hx g1 g2;go_enter func106,ntmps106;go_wp2_with (go_at_call 133;with_reducible refine mo (lN _ _ _ a b c _ (by assumption) om om om om HX.out) fun o1 n1=>?_)
    (refine qF ?_;rintro _ ⟨oq,nq,rfl⟩)
    go_wp2
    (refine iD 9 kR kR ?_;(simp only [List.take_succ_cons,List.take_zero,List.drop_succ_cons,List.drop_zero]);(repeat (first|go_big_quiet_step (fail)|quiet_step (fail)));refine wpQuiet_nil ?_;rintro _ ⟨oq,nq,rfl⟩)
    go_wp2;generalize hW:World.setCell _ _ _=wq
    have P1:yA wq pb mb { p with lift:=p.slots ⟨a,b,c⟩ }:=by
     rw [<-hW];exact (HP.out.ext eX).set 5 _ sp rfl
    have K1:fA (Own pb mb) w wq:=by
     rw [<-hW];exact (fA.of_ext eX).setCell (Or.inl (Or.inl rfl)) _
    have x0:wq.cell? ⟨w.heap.size+o1.size,0,none⟩=some (vi a):=cQ hW;have x1:wq.cell? ⟨w.heap.size+o1.size,1,none⟩=some (vi b):=cQ hW;have x2:wq.cell? ⟨w.heap.size+o1.size,2,none⟩=some (vi c):=cQ hW;clear hW;obtain ⟨d0,d1,d2,d3,d4,d5,d6,d7,d8,d9⟩:=P1.cells;have hb':=cA d1;have hx':=cA x1;have HP1:=aA P1;have HK1:=aA K1;clear P1 K1 c0 c1 c2 c3 c4 c5 c6 c7 c8 c9 hl e1 e2
    (refine iD 5 kR kR ?_;(simp only [List.take_succ_cons,List.take_zero,List.drop_succ_cons,List.drop_zero]);(repeat (first|go_big_quiet_step (fail)|quiet_step (fail)));refine wpQuiet_nil ?_;rintro _ ⟨oq,nq,rfl⟩)
    obtain ⟨l0,k0,hs⟩:=(HP1.out.ext (w':=wq.plus oq nq) eX).slots;obtain ⟨l1,hrun,hs1⟩:=hs.drop ⟨a,b,c⟩;have HS:=aA hs1;clear hs hs1;go_wp2
    go_end0
    rw [HG.out];exact ⟨rfl,yA.map (HP1.out.ext eX) HS.out,(HK1.out.ext eX).setBlock (Or.inr rfl) _⟩
  ·have e1:(p.lift==0)=false:=by simpa using g1
   have HG:Hid (p.grab=p):=by unfold Hid;exact grab_not hx (Or.inl g1)
   clear hx g1;go_enter func106,ntmps106;go_wp2_with (go_at_call 133;with_reducible refine mo (lN _ _ _ a b c _ (by assumption) om om om om HX.out) fun o1 n1=>?_)
   (refine qF ?_;rintro _ ⟨oq,nq,rfl⟩)
   go_wp2
   go_end0
   rw [HG.out];exact ⟨rfl,HP.out.ext eX,fA.of_ext eX⟩
theorem put_none {p:dA} (h:p.place p.ext=none):p.put=p:=by unfold dA.put;rw [h]
theorem put_not {p:dA} {x:pB} (h:p.place p.ext=some x) (hn:p.lift=0\/p.slots x≠0):p.put=p:=by
 unfold dA.put;rw [h];dsimp only;rw [if_neg om]
theorem put_yes {p:dA} {x:pB} (h:p.place p.ext=some x) (hl:p.lift≠0) (hn:p.slots x=0):p.put={ p with slots:=sD p.slots x p.lift,lift:=0 }:=by
 unfold dA.put;rw [h];dsimp only;rw [if_pos ⟨hl,hn⟩]
theorem oI.store {w:World} {mb:Nat} {l:List lJ} {clock:Nat} {f:pB->Int} (h:oI w mb l clock f) {x:pB} {v:Int} (hx:f x=0) (hv:v≠0):
  ∃ m1 m2:Obj,((Instr.mapEntry 93 (.map (some mb)) (pD x)).run prog w = .ok (.tuple #[vi 0,vi clock]) (ChangeMaps.setBlock w mb m1)) /\
   ((Instr.entryStore 93 (.map (some mb)) (vi clock) (vi v)).run prog (ChangeMaps.setBlock w mb m1) = .ok () (ChangeMaps.setBlock (ChangeMaps.setBlock w mb m1) mb m2)) /\
   ∃ l' c',m2 = .map (l'.map ent).toArray c'/\oI (ChangeMaps.setBlock (ChangeMaps.setBlock w mb m1) mb m2) mb l' c' (sD f x v):=by
 have hne:∀ e∈l,e.1≠x:=by
  rcases jJ x l 0 with ⟨_,_,h3⟩|⟨j,e,h1,h2,_,h4⟩
  ·exact h3
  ·exfalso
   apply h.full e (List.mem_of_getElem? h1);rw [<-h4,h.is];exact hx
 have h1:=run_mapEntry_place h.heap x hne;have hb:=ChangeMaps.heap_setBlock_same h.heap (.map ((l++[(x,0,clock)]).map ent).toArray (clock+1));refine ⟨_,_,h1,run_entryStore_place (v:=v) hb h.clock,_,_,rfl,?_⟩;exact h.stored hx hv (ChangeMaps.heap_setBlock_same hb _)
@[go_sem] theorem setBlock_cell (w:World) (mb b i:Nat) (s:Option Nat) (o:Obj) (h:b≠mb):(ChangeMaps.setBlock w mb o).cell? ⟨b,i,s⟩=w.cell? ⟨b,i,s⟩:=by
 have hne:mb≠b:=fun e=>h e.symm
 simp only [World.cell?,ChangeMaps.setBlock,Array.getElem?_setIfInBounds_ne hne]
theorem put_any {pb mb:Nat} {p:dA} {w:World} (h:yA w pb mb p) (hp:p.WF):
  Calls prog 107 #[.pointer (some ⟨pb,0,none⟩)] w (Did pb mb w p.put (.tuple #[])):=by
 obtain ⟨c0,c1,c2,c3,c4,c5,c6,c7,c8,c9⟩:=h.cells;have hb:=cA c1;have HP:=aA h;have fz:=vA h.blk;have h1:=hp.ht1
 have h2:p.height<=12:=by have:=hp.ht2;have:=hp.lv2;omega
 have h3:=hp.ex1;have h4:=hp.ex2;clear h
 cases hx:bG p.height p.ext with
 | none=>
  have HX:=aA hx
  have HG:Hid (p.put=p):=by unfold Hid;exact put_none hx
  clear hx;go_enter func107,ntmps107;go_wp2_with (go_at_call 133;with_reducible refine mo (at_none _ _ _ _ (by assumption) om om om om HX.out) fun o1 n1=>?_)
  (refine qF ?_;rintro _ ⟨oq,nq,rfl⟩)
  go_wp2
  go_end0
  rw [HG.out];exact ⟨rfl,HP.out.ext eX,fA.of_ext eX⟩
 | some x=>
  obtain ⟨a,b,c⟩:=x;have HX:=aA hx
  have hl:∀ o1 n1 o n,(Instr.lookup 93 (.map (some mb)) (.agg #[vi a,vi b,vi c]) false).run prog (World.plus ((w.plus o1 n1).alloc (.cells #[vi a,vi b,vi c] 89)) o n) = .ok (vi (p.slots ⟨a,b,c⟩)) (World.plus ((w.plus o1 n1).alloc (.cells #[vi a,vi b,vi c] 89)) o n):=fun o1 n1 o n=>by
   obtain ⟨l,k,hs⟩:=(HP.out.ext (w':=World.plus ((w.plus o1 n1).alloc (.cells #[vi a,vi b,vi c] 89)) o n) eX).slots;exact hs.look ⟨a,b,c⟩
  by_cases g1:p.lift=0
  ·have e1:(p.lift != 0)=false:=by simpa using g1
   have HG:Hid (p.put=p):=by unfold Hid;exact put_not hx (Or.inl g1)
   clear hx g1;go_enter func107,ntmps107;go_wp2_with (go_at_call 133;with_reducible refine mo (lN _ _ _ a b c _ (by assumption) om om om om HX.out) fun o1 n1=>?_)
   (refine qF ?_;rintro _ ⟨oq,nq,rfl⟩)
   go_wp2
   go_end0
   rw [HG.out];exact ⟨rfl,HP.out.ext eX,fA.of_ext eX⟩
  ·have e1:(p.lift != 0)=true:=by simpa using g1
   by_cases g2:p.slots ⟨a,b,c⟩=0
   ·have e2:(p.slots ⟨a,b,c⟩==0)=true:=by simpa using g2
    have HG:Hid (p.put={ p with slots:=sD p.slots ⟨a,b,c⟩ p.lift,lift:=0 }):=by unfold Hid;exact put_yes hx g1 g2
    have G1:=aA g1;have G2:=aA g2;clear hx g1 g2;go_enter func107,ntmps107;go_wp2_with (go_at_call 133;with_reducible refine mo (lN _ _ _ a b c _ (by assumption) om om om om HX.out) fun o1 n1=>?_)
    (refine qF ?_;rintro _ ⟨oq,nq,rfl⟩)
    go_wp2;generalize hW:World.plus _ _ _=wq
    have P0:yA wq pb mb p:=by rw [<-hW];exact HP.out.ext eX
    have K0:fA (Own pb mb) w wq:=by rw [<-hW];exact fA.of_ext eX
    have x0:wq.cell? ⟨w.heap.size+o1.size,0,none⟩=some (vi a):=cQ hW;have x1:wq.cell? ⟨w.heap.size+o1.size,1,none⟩=some (vi b):=cQ hW;have x2:wq.cell? ⟨w.heap.size+o1.size,2,none⟩=some (vi c):=cQ hW;have hmb:=P0.lt.2;have n1':pb≠mb:=P0.ne
    have n2':w.heap.size+o1.size≠mb:=by have:=HP.out.lt.2;omega
    clear hW;have P1:yA wq.drew pb mb p:=P0.same rfl rfl;have K1:fA (Own pb mb) w wq.drew:=K0.trans ⟨rfl,rfl,rfl,Nat.le_refl _,fun _ _ _=>rfl⟩;obtain ⟨l0,k0,hs⟩:=P1.slots;obtain ⟨m1,m2,r1,r2,l1,k1,hm,hs1⟩:=hs.store (x:=⟨a,b,c⟩) G2.out G1.out;subst hm
    have P2:yA (ChangeMaps.setBlock (ChangeMaps.setBlock wq.drew mb m1) mb (.map (l1.map ent).toArray k1)) pb mb { p with slots:=sD p.slots ⟨a,b,c⟩ p.lift }:=by
     refine ⟨?_,l1,k1,hs1⟩
     have:mb≠pb:=fun e=>P1.ne e.symm
     simp only [ChangeMaps.setBlock];rw [Array.getElem?_setIfInBounds_ne this,Array.getElem?_setIfInBounds_ne this];exact P1.blk
    have K2:fA (Own pb mb) w (ChangeMaps.setBlock (ChangeMaps.setBlock wq.drew mb m1) mb (.map (l1.map ent).toArray k1)):=(K1.setBlock (Or.inr rfl) _).setBlock (Or.inr rfl) _;have hz:=vA P2.blk;obtain ⟨y0,y1,y2,y3,y4,y5,y6,y7,y8,y9⟩:=P0.cells;have HP2:=aA P2;have HK2:=aA K2;clear P1 P2 P0 K0 K1 K2 hs hs1 hl e1 e2 c0 c1 c2 c3 c4 c5 c6 c7 c8 c9
    go_region
    go_end0
    rw [HG.out];exact ⟨rfl,HP2.out.set 5 _ sp rfl,HK2.out.setCell (Or.inl (Or.inl rfl)) _⟩
   ·have e2:(p.slots ⟨a,b,c⟩==0)=false:=by simpa using g2
    have HG:Hid (p.put=p):=by unfold Hid;exact put_not hx (Or.inr g2)
    clear hx g1 g2;go_enter func107,ntmps107;go_wp2_with (go_at_call 133;with_reducible refine mo (lN _ _ _ a b c _ (by assumption) om om om om HX.out) fun o1 n1=>?_)
    (refine qF ?_;rintro _ ⟨oq,nq,rfl⟩)
    go_wp2
    go_end0
    rw [HG.out];exact ⟨rfl,HP.out.ext eX,fA.of_ext eX⟩
theorem getIn_mem:∀ {l:List lJ},(l.map fun e=>e.1).Nodup->∀ {e:lJ},e∈l->dI e.1 l=e.2.1
 | [],_,e,h=>by cases h
 | y :: l,hn,e,h=>by
  obtain ⟨h1,h2⟩:=List.nodup_cons.1 hn
  rcases List.mem_cons.1 h with rfl|h
  ·simp [dI]
  ·have:e.1≠y.1:=fun c=>h1 (by show y.1∈_;rw [<-c];exact List.mem_map.2 ⟨e,h,rfl⟩)
   simp only [dI,if_neg this];exact getIn_mem h2 h
theorem getIn_some {x:pB}:∀ {l:List lJ},dI x l≠0->∃ e∈l,e.1=x/\e.2.1=dI x l
 | [],h=>absurd rfl h
 | y :: l,h=>by
  by_cases hx:x=y.1
  ·exact ⟨y,sp,hx.symm,by simp [dI,hx]⟩
  ·simp only [dI,if_neg hx] at h ⊢
   obtain ⟨e,h1,h2,h3⟩:=getIn_some h;exact ⟨e,by simp [h1],h2,h3⟩
theorem has_list {w:World} {mb:Nat} {l:List lJ} {clock:Nat} {p:dA} (h:oI w mb l clock p.slots) (hp:p.WF) (id:Int):p.has id=(l.any (fun e=>e.2.1==id) || p.lift==id || p.bay==id):=by
 unfold dA.has
 congr 2
 rw [Bool.eq_iff_iff];simp only [Bool.and_eq_true,bne_iff_ne,List.any_eq_true,beq_iff_eq];constructor
 ·rintro ⟨h0,x,_,hx⟩
  obtain ⟨e,h1,h2,h3⟩:=getIn_some (x:=x) (l:=l) (by rw [h.is,hx];exact h0);exact ⟨e,h1,by rw [h3,h.is,hx]⟩
 ·rintro ⟨e,he,hv⟩
  have h1:=getIn_mem h.once he;rw [h.is] at h1;have h0:=h.full e he;refine ⟨by rw [<-hv];exact h0,e.1,?_,by rw [h1];exact hv⟩;rw [mem_allPlaces];exact hp.sl e.1 (by rw [h1];exact h0)
def NotYet (l:List lJ) (id:Int) (seen:Array Nat):Prop:=∀ e∈l,seen.contains e.2.2=true->e.2.1≠id
theorem born_inj:∀ {l:List lJ},(l.map fun e=>e.2.2).Nodup->∀ {a b:lJ},a∈l->b∈l->a.2.2=b.2.2->a=b
 | [],_,a,_,h,_,_=>by cases h
 | y :: l,hn,a,b,ha,hb,e=>by
  obtain ⟨h1,h2⟩:=List.nodup_cons.1 hn
  rcases List.mem_cons.1 ha with rfl|ha' <;> rcases List.mem_cons.1 hb with rfl|hb'
  ·rfl
  ·exact absurd (List.mem_map.2 ⟨b,hb',e.symm⟩) h1
  ·exact absurd (List.mem_map.2 ⟨a,ha',e⟩) h1
  ·exact born_inj h2 ha' hb' e
theorem has_any {pb mb:Nat} {p:dA} {w:World} (h:yA w pb mb p) (hp:p.WF) (id:Int):
  Calls prog 82 #[.pointer (some ⟨pb,0,none⟩),vi id] w fun r w'=>r = .returned (.bool (p.has id))/\Ext w w':=by
 obtain ⟨c0,c1,c2,c3,c4,c5,c6,c7,c8,c9⟩:=h.cells;have hb:=cA c1;obtain ⟨l,k,hs⟩:=h.slots;have HL:=aA (has_list hs hp id);have HP:=aA h;have HS:=aA hs;have hrg:=run_range_map (P:=prog) w 93 _ _ mb _ k mapType hs.heap;have HM:=aA hs.heap;clear h hs;go_enter func82,ntmps82;go_wp2;clear hrg
 go_loopw [12] (fun _ wr=>∃ seen,wr.heap[w.heap.size]? = some (.mapIter (some mb) k seen k)/\Below w.heap.size w wr/\NotYet l id seen) (fun _ wr=>wr.rangeLeft mb w.heap.size)
 case atStart=>exact ⟨#[],heap_alloc_new w _,(Below.refl _ _).alloc (Nat.le_refl _) _,fun e _ h=>by simp at h⟩
 case round=>
  obtain ⟨seen,hr,hk,hny⟩:=hrel;have hbm:wr.heap[mb]? = some (.map (l.map ent).toArray k):=(hk.block mb HS.out.lt).trans HM.out
  have hc:∀ i v,w.cell? ⟨pb,i,none⟩=some v->wr.cell? ⟨pb,i,none⟩=some v:=fun i v hv=>(hk.cell (p:=⟨pb,i,none⟩) hb).trans hv
  have d5:=hc _ _ c5;have d6:=hc _ _ c6
  have hold:∀ x∈(l.map ent).toArray.toList,x.born<k:=fun x hx=>by
   simp only [List.mem_map] at hx;obtain ⟨s,h1,rfl⟩:=hx;exact HS.out.clock s h1
  have HK:=aA hk;have HN:=aA hny;have HR:=aA hr;have HB:=aA hbm
  rcases run_next_at (P:=prog) wr 0 w.heap.size mb k k seen _ k hr hbm hold (Nat.le_refl _) with ⟨h0,hrun⟩|⟨e,he,w1,hal,hrun⟩
  ·have hany:(l.any fun e=>e.2.1==id)=false:=by
    rw [List.any_eq_false];intro s h1;have:=all_seen _ seen h0 (ent s) (by simp only [List.mem_map];exact ⟨s,h1,rfl⟩)
    simpa using hny s h1 this
   have HA:=aA hany;clear hold hc hk hny hr hbm hany h0 c0 c1 c2 c3 c4 c5 c6 c7 c8 c9;go_wp2
   all_goals
    go_ret;go_light;refine ⟨?_,Ext.of_below HK.out⟩;rw [HL.out,HA.out];simp [*]
  ·have hem:=mem_left he
   have hsh:=left_shrinks _ seen e he
   obtain ⟨s,h1,rfl⟩:∃ s∈l,ent s=e:=by
    have:=hem.1;simp only [List.mem_map] at this;exact this
   have hbn:((l.map ent).toArray.toList.map (·.born)).Nodup:=by
    have:=HS.out.born;simp only [List.map_map];exact this
   have hset:∀ w1:World,(w1=wr\/w1=wr.drew)->(ChangeMaps.setBlock w1 w.heap.size (.mapIter (some mb) k (seen.push s.2.2) k)).heap[w.heap.size]? = some (.mapIter (some mb) k (seen.push s.2.2) k) /\
     (ChangeMaps.setBlock w1 w.heap.size (.mapIter (some mb) k (seen.push s.2.2) k)).heap[mb]? = some (.map (l.map ent).toArray k)/\Below w.heap.size w (ChangeMaps.setBlock w1 w.heap.size (.mapIter (some mb) k (seen.push s.2.2) k)):=by
    intro w1 hw
    have hh:w1.heap=wr.heap:=by rcases hw with rfl|rfl <;> rfl
    have ho:w1.os=wr.os/\w1.tape=wr.tape/\w1.output=wr.output:=by rcases hw with rfl|rfl <;> exact ⟨rfl,rfl,rfl⟩
    have hlt:w.heap.size<wr.heap.size:=by
     by_cases hz:w.heap.size<wr.heap.size
     ·exact hz
     ·rw [Array.getElem?_eq_none om] at hr;cases hr
    have hm:=HS.out.lt;refine ⟨?_,?_,?_⟩
    ·simp only [ChangeMaps.setBlock,hh];simp [hlt]
    ·simp only [ChangeMaps.setBlock,hh]
     rw [Array.getElem?_setIfInBounds_ne om];exact hbm
    ·refine ⟨ho.1.trans hk.os,ho.2.1.trans hk.tape,ho.2.2.trans hk.output,?_,?_⟩
     ·simp only [ChangeMaps.setBlock,hh,Array.size_setIfInBounds];exact hk.size
     ·intro i hi
      simp only [ChangeMaps.setBlock,hh];rw [Array.getElem?_setIfInBounds_ne om];exact hk.block i hi
   obtain ⟨q1,q2,q3⟩:=hset w1 hal;have hent:=run_entry_at (P:=prog) (ChangeMaps.setBlock w1 w.heap.size (.mapIter (some mb) k (seen.push s.2.2) k)) w.heap.size mb k seen (l.map ent).toArray k (ent s) q1 q2 hem.1 hbn;have Q1:=aA q1;have Q2:=aA q2;have Q3:=aA q3;have HH:=aA hsh;have H1:=aA h1;have HE:=aA hem.2;clear hold hc hk hny hr hbm c0 c1 c2 c3 c4 c5 c6 c7 c8 c9 hset hbn hem hsh q1 q2 q3 he hal h1;rw [show (ent s).key=pD s.1 from rfl,show (ent s).val=vi s.2.1 from rfl] at hrun hent;rw [show (ent s).born=s.2.2 from rfl] at hrun
   by_cases hv:s.2.1=id
   ·have HV:=aA hv
    have ev:(s.2.1==id)=true:=by simpa using hv
    clear hv;go_wp2;go_ret;refine ⟨?_,Ext.of_below Q3.out⟩;rw [HL.out,List.any_eq_true.2 ⟨s,H1.out,by simpa using HV.out⟩];rfl
   ·have HV:=aA hv
    have ev:(s.2.1==id)=false:=by simpa using hv
    clear hv;go_wp2;go_roundw
    case rel=>
     refine ⟨seen.push s.2.2,Q1.out,Q3.out,?_⟩;intro e he hc;simp only [Array.contains_push,Bool.or_eq_true,beq_iff_eq] at hc
     rcases hc with hc|hc
     ·exact HN.out e he hc
     ·have:e=s:=by
       have:=HS.out.born;exact born_inj this he H1.out hc
      rw [this];exact HV.out
    case measure=>
     have a1:=Q1.out;have a2:=Q2.out;have a3:=HR.out;have a4:=HB.out;simp only [World.rangeLeft,a1,a2,a3,a4];exact HH.out
theorem Did.ret {pb mb:Nat} {w:World} {p q:dA} {r:Value} {e:Ending} {w':World} (h:Did pb mb w p r e w') (hq:p=q):Did pb mb w q r e w':=hq▸h
theorem stall_any {pb mb:Nat} {p:dA} {w:World} (h:yA w pb mb p) (n:Int):
  Calls prog 63 #[.pointer (some ⟨pb,0,none⟩),vi n] w (Did pb mb w (p.setStall n).1 (aC (p.setStall n).2)):=by
 obtain ⟨c0,c1,c2,c3,c4,c5,c6,c7,c8,c9⟩:=h.cells;have hb:=cA c1;have HP:=aA h;have fz:=vA h.blk;clear h;go_enter func63,ntmps63;go_wp2
 all_goals
  go_ret;go_light;unfold dA.setStall
  first
  | (rw [if_pos om];exact ⟨rfl,HP.out,fA.refl _ _⟩)
  | (rw [if_neg om];exact ⟨rfl,HP.out.set 8 _ sp rfl,(fA.refl _ _).setCell (Or.inl (Or.inl rfl)) _⟩)
theorem leave_any {pb mb:Nat} {p:dA} {w:World} (h:yA w pb mb p):
  Calls prog 61 #[.pointer (some ⟨pb,0,none⟩)] w (Did pb mb w p.leave.1 (.tuple #[vi p.leave.2.1,aC p.leave.2.2])):=by
 obtain ⟨c0,c1,c2,c3,c4,c5,c6,c7,c8,c9⟩:=h.cells;have hb:=cA c1;have HP:=aA h;have fz:=vA h.blk;clear h;cases hd:p.door
 ·rw [hd] at c3
  have HL:Hid (p.leave=(p,0,7)):=by unfold Hid dA.leave;rw [if_pos (Or.inl hd)]
  clear hd;go_enter func61,ntmps61;go_wp2
  go_ret2
  rw [HL.out];exact ⟨rfl,HP.out,fA.refl _ _⟩
 ·rw [hd] at c3
  by_cases hy:p.bay=0
  ·have e1:(p.bay==0)=true:=by simpa using hy
   have HL:Hid (p.leave=(p,0,7)):=by unfold Hid dA.leave;rw [if_pos (Or.inr hy)]
   clear hd hy;go_enter func61,ntmps61;go_wp2
   go_ret2
   rw [HL.out];exact ⟨rfl,HP.out,fA.refl _ _⟩
  ·have e1:(p.bay==0)=false:=by simpa using hy
   have HL:Hid (p.leave=({ p with bay:=0 },p.bay,0)):=by unfold Hid dA.leave;rw [if_neg (by simp [hd,hy])]
   clear hd hy;go_enter func61,ntmps61;go_wp2
   go_ret2
   rw [HL.out];exact ⟨rfl,HP.out.set 6 _ sp rfl,(fA.refl _ _).setCell (Or.inl (Or.inl rfl)) _⟩
theorem walk_any {pb mb:Nat} {p:dA} {w:World} (h:yA w pb mb p) (hp:p.WF) (n:Int):
  Calls prog 58 #[.pointer (some ⟨pb,0,none⟩),vi n] w (Did pb mb w (p.walk n).1 (aC (p.walk n).2)):=by
 obtain ⟨c0,c1,c2,c3,c4,c5,c6,c7,c8,c9⟩:=h.cells;have hb:=cA c1;have HP:=aA h;have fz:=vA h.blk;have h1:=hp.pe1;have h2:=hp.pe2;clear h
 by_cases hr:n < -9\/9<n
 ·have HL:Hid (p.walk n=(p,1)):=by unfold Hid dA.walk;rw [if_pos hr]
  have HR:=aA hr;clear hr;go_enter func58,ntmps58;go_wp2
  all_goals
   first
   | (exfalso;have:=HR.out;omega)
   | (go_ret;rw [HL.out];exact ⟨rfl,HP.out,fA.refl _ _⟩)
 ·have r1:-9<=n:=om
  have r2:n<=9:=om
  cases hd:p.door
  ·rw [hd] at c3
   have HL:Hid (p.walk n=(p,7)):=by unfold Hid dA.walk;rw [if_neg hr,if_pos hd]
   clear hr hd;go_enter func58,ntmps58;go_wp2;go_ret;rw [HL.out];exact ⟨rfl,HP.out,fA.refl _ _⟩
  ·rw [hd] at c3
   have HL:Hid (p.walk n=({ p with people:=oJ (p.people+n) 9 },0)):=by unfold Hid dA.walk;rw [if_neg hr,if_neg (by simp [hd])]
   have i1:IntKind.i64.wrap (p.people+n)=p.people+n:=IntWalk.i64_in _ om;clear hr hd;go_enter func58,ntmps58;go_wp2
   all_goals
    go_ret;rw [HL.out];exact ⟨rfl,HP.out.set 4 _ (by first|(simp [oJ];done)|(simp [oJ];omega)) rfl,(fA.refl _ _).setCell (Or.inl (Or.inl rfl)) _⟩
theorem arrive_any {pb mb:Nat} {p:dA} {w:World} (h:yA w pb mb p) (hp:p.WF) (n:Int):
  Calls prog 34 #[.pointer (some ⟨pb,0,none⟩),vi n] w (Did pb mb w (p.arrive n).1 (aC (p.arrive n).2)):=by
 obtain ⟨c0,c1,c2,c3,c4,c5,c6,c7,c8,c9⟩:=h.cells;have hb:=cA c1;have HP:=aA h;have fz:=vA h.blk;clear h
 by_cases hr:n<1\/999<n
 ·have HL:Hid (p.arrive n=(p,1)):=by unfold Hid dA.arrive;rw [if_pos hr]
  have HR:=aA hr;clear hr;go_enter func34,ntmps34;go_wp2_with fail
  all_goals
   first
   | (exfalso;have:=HR.out;omega)
   | (go_ret;rw [HL.out];exact ⟨rfl,HP.out,fA.refl _ _⟩)
 ·have r1:1<=n:=om
  have r2:n<=999:=om
  by_cases hd:p.door=false\/p.bay≠0
  ·have HL:Hid (p.arrive n=(p,7)):=by unfold Hid dA.arrive;rw [if_neg hr,if_pos hd]
   cases hd1:p.door
   ·rw [hd1] at c3
    clear hr hd hd1;go_enter func34,ntmps34;go_wp2_with fail
    all_goals
     first
     | (exfalso;omega)
     | (go_ret;rw [HL.out];exact ⟨rfl,HP.out,fA.refl _ _⟩)
   ·have hd2:(p.bay != 0)=true:=by simpa [hd1] using hd
    rw [hd1] at c3;clear hr hd hd1;go_enter func34,ntmps34;go_wp2_with fail
    all_goals
     first
     | (exfalso;omega)
     | (go_ret;rw [HL.out];exact ⟨rfl,HP.out,fA.refl _ _⟩)
  ·have hd1:p.door=true:=by
    cases hd1:p.door
    ·exact absurd (Or.inl hd1) hd
    ·rfl
   have hd2:(p.bay != 0)=false:=by
    cases hd2:(p.bay != 0)
    ·rfl
    ·exact absurd (Or.inr (by simpa using hd2)) hd
   rw [hd1] at c3;cases hh:p.has n
   ·have HL:Hid (p.arrive n=({ p with bay:=n },0)):=by unfold Hid dA.arrive;rw [if_neg hr,if_neg hd,if_neg (by simp [hh])]
    have HH:=aA hh;clear hr hd hd1 hh;go_enter func34,ntmps34;go_wp2_with ((go_at_call 82;(with_reducible refine (has_any HP.out hp n).mono ?_);rintro e w1 ⟨he,o1,n1,rfl⟩;rw [HH.out] at he;subst he))
    all_goals
     first
     | (exfalso;omega)
     | (go_ret;rw [HL.out];exact ⟨rfl,(HP.out.ext eX).set 6 _ sp rfl,(fA.of_ext eX).setCell (Or.inl (Or.inl rfl)) _⟩)
   ·have HL:Hid (p.arrive n=(p,6)):=by unfold Hid dA.arrive;rw [if_neg hr,if_neg hd,if_pos hh]
    have HH:=aA hh;clear hr hd hd1 hh;go_enter func34,ntmps34;go_wp2_with ((go_at_call 82;(with_reducible refine (has_any HP.out hp n).mono ?_);rintro e w1 ⟨he,o1,n1,rfl⟩;rw [HH.out] at he;subst he))
    all_goals
     first
     | (exfalso;omega)
     | (go_ret;rw [HL.out];exact ⟨rfl,HP.out.ext eX,fA.of_ext eX⟩)
def Made (w:World) (n:Int) (e:Ending) (w':World):Prop:=∃ pb mb,e = .returned (.tuple #[.pointer (some ⟨pb,0,none⟩),.nilIface])/\yA w' pb mb (dA.new n)/\Ext w w'/\w.heap.size<=pb/\w.heap.size<=mb
theorem new_any (n:Int) (w:World) (h1:1<=n) (h2:n<=4):Calls prog 8 #[vi n] w (Made w n):=by
 have hmm:=@run_makeMap prog;go_enter func8,ntmps8;go_wp2
 go_ret2
 refine ⟨w.heap.size+1,w.heap.size,rfl,⟨?_,[],0,?_⟩,eX,om,om⟩
 ·rw [pA _ _ _ sp]
  rfl
 ·exact (oI.made w).same ((MapKept.heap_alloc _ _).2 _ sp)
