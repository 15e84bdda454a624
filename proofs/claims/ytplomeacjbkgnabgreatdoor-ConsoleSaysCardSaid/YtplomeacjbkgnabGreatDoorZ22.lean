import Derived.Test.YtplomeacjbkgnabGreatDoorZ21
set_option linter.all false
set_option maxRecDepth 100000
set_option maxHeartbeats 16000000
namespace Go.Proofs.YtplomeacjbkgnabGreatDoor
open Go.RowKit Tryz Ch
theorem rise_eq {p:dA} {n h':Int} {b:Bool} (hb:(p.hurt || p.ext != 0 || p.openB)=b) (hh:oJ (p.height+n) (p.levels * 3)=h'):p.rise n={ p with hurt:=b,height:=h' }:=by
 subst hb hh;rfl
theorem vH {p:dA} {n t:Int} {b:Bool} (ht:p.ext+n=t) (hr:¬ (t < -2\/2<t)) (hb:(p.hurt || (t != 0&&(p.place t).isNone) || (p.lift != 0&&p.full t))=b):p.stretch n={ p with hurt:=b,ext:=t }:=by
 subst ht hb;unfold dA.stretch;rw [if_neg hr]
theorem swing_eq {p:dA} {o b:Bool} (hb:(p.hurt || (o&&(p.height != 0 || p.ext != 0)) || (!o&&decide (0<p.people)))=b):p.swing o={ p with hurt:=b,door:=o }:=by
 subst hb;rfl
theorem grab_all {p:dA} {x:pB} (h:p.place p.ext=some x) (hl:p.lift=0):p.grab={ p with lift:=p.slots x,slots:=sD p.slots x 0 }:=by
 by_cases hn:p.slots x=0
 ·rw [grab_not h (Or.inr hn),hn]
  have:sD p.slots x 0=p.slots:=by funext y;unfold sD;split <;> simp_all
  rw [this];obtain ⟨⟩:=p;dsimp only at hl;subst hl;rfl
 ·exact grab_yes h hl hn
theorem put_all {p:dA} {x:pB} (h:p.place p.ext=some x) (hn:p.slots x=0):p.put={ p with slots:=sD p.slots x p.lift,lift:=0 }:=by
 by_cases hl:p.lift=0
 ·rw [put_not h (Or.inl hl),hl]
  have:sD p.slots x 0=p.slots:=by funext y;unfold sD;split <;> simp_all
  rw [this];obtain ⟨⟩:=p;dsimp only at hl;subst hl;rfl
 ·exact put_yes h hl hn
theorem rstep_117 {rb:Nat} {p:dA} {w:World} (h:bB w rb p) (hp:p.WF) (hs:decide (0<p.stall)=false):
    Calls prog 57 #[.pointer (some ⟨rb,0,none⟩),vb 117] w (RDid rb w (p.rise 1) (.tuple #[])):=by
  obtain ⟨c0,c1,c2,c3,c4,c5,c6,c7,c8⟩:=h.cells;have hb:=cA c1;have HP:=aA h;have fz:=vA h.blk;have h1:=hp.ht1;have h2:=hp.ht2;have h3:=hp.lv1;have h4:=hp.lv2;have h5:=hp.ex1;have h6:=hp.ex2;have h7:=hp.st1;have h8:=hp.st2;clear h;have i1:IntKind.i64.wrap (p.height+1)=p.height+1:=IntWalk.i64_in _ om;have i2:IntKind.i64.wrap (p.height - 1)=p.height - 1:=IntWalk.i64_in _ om;have i3:IntKind.i64.wrap (3 * p.levels)=3 * p.levels:=IntWalk.i64_in _ om;go_enter func57,ntmps57
  go_upto_region 8 with fail
  all_goals
    first
    | (rw [show w.setCell ⟨rb,28,none⟩ (.bool true)=w.setCell ⟨rb,28,none⟩ (.bool true) from rfl];generalize hW:w.setCell ⟨rb,28,none⟩ (.bool true)=wq)
    | generalize hW:w=wq
    have P1:bB wq rb { p with hurt:=p.hurt || p.ext != 0 || p.openB }:=by
      rw [<-hW]
      first
      | exact HP.out.set 28 _ (by simp [dA.openB, *];done)
      | (have e:(p.hurt || p.ext != 0 || p.openB)=p.hurt:=by first|(simp [dA.openB, *];done)|(simp [dA.openB, *];intros;omega)
         rw [e];exact HP.out)
    have K1:fA (Is rb) w wq:=by
      rw [<-hW]
      first
      | exact (fA.refl _ _).put 28 _
      | exact fA.refl _ _
    clear hW;obtain ⟨d0,d1,d2,d3,d4,d5,d6,d7,d8⟩:=P1.cells;have hb':=cA d1;have fz':=vA P1.blk;have HP1:=aA P1;have HK1:=aA K1;clear P1 K1 c0 c1 c2 c3 c4 c5 c6 c7 c8
    (refine qF ?_;rintro _ ⟨oq,nq,rfl⟩)
    go_wp2
    all_goals
      go_end0
      go_light
      first
      | (rw [rise_eq (n:=1) (b:=p.hurt || p.ext != 0 || p.openB) (h':=p.height+1) rfl (by unfold oJ;omega)];exact ⟨rfl,(HP1.out.ext eX).set 1 _ sp,(HK1.out.ext eX).put 1 _⟩)
      | (rw [rise_eq (n:=1) (b:=p.hurt || p.ext != 0 || p.openB) (h':=p.height) rfl (by unfold oJ;omega)];exact ⟨rfl,HP1.out.ext eX,HK1.out.ext eX⟩)
theorem rstep_100 {rb:Nat} {p:dA} {w:World} (h:bB w rb p) (hp:p.WF) (hs:decide (0<p.stall)=false):
    Calls prog 57 #[.pointer (some ⟨rb,0,none⟩),vb 100] w (RDid rb w (p.rise (-1)) (.tuple #[])):=by
  obtain ⟨c0,c1,c2,c3,c4,c5,c6,c7,c8⟩:=h.cells;have hb:=cA c1;have HP:=aA h;have fz:=vA h.blk;have h1:=hp.ht1;have h2:=hp.ht2;have h3:=hp.lv1;have h4:=hp.lv2;have h5:=hp.ex1;have h6:=hp.ex2;have h7:=hp.st1;have h8:=hp.st2;clear h;have i1:IntKind.i64.wrap (p.height+1)=p.height+1:=IntWalk.i64_in _ om;have i2:IntKind.i64.wrap (p.height - 1)=p.height - 1:=IntWalk.i64_in _ om;have i3:IntKind.i64.wrap (3 * p.levels)=3 * p.levels:=IntWalk.i64_in _ om;go_enter func57,ntmps57
  go_upto_region 8 with fail
  all_goals
    first
    | (rw [show w.setCell ⟨rb,28,none⟩ (.bool true)=w.setCell ⟨rb,28,none⟩ (.bool true) from rfl];generalize hW:w.setCell ⟨rb,28,none⟩ (.bool true)=wq)
    | generalize hW:w=wq
    have P1:bB wq rb { p with hurt:=p.hurt || p.ext != 0 || p.openB }:=by
      rw [<-hW]
      first
      | exact HP.out.set 28 _ (by simp [dA.openB, *];done)
      | (have e:(p.hurt || p.ext != 0 || p.openB)=p.hurt:=by first|(simp [dA.openB, *];done)|(simp [dA.openB, *];intros;omega)
         rw [e];exact HP.out)
    have K1:fA (Is rb) w wq:=by
      rw [<-hW]
      first
      | exact (fA.refl _ _).put 28 _
      | exact fA.refl _ _
    clear hW;obtain ⟨d0,d1,d2,d3,d4,d5,d6,d7,d8⟩:=P1.cells;have hb':=cA d1;have fz':=vA P1.blk;have HP1:=aA P1;have HK1:=aA K1;clear P1 K1 c0 c1 c2 c3 c4 c5 c6 c7 c8
    (refine qF ?_;rintro _ ⟨oq,nq,rfl⟩)
    go_wp2
    all_goals
      go_end0
      go_light
      first
      | (rw [rise_eq (n:=(-1)) (b:=p.hurt || p.ext != 0 || p.openB) (h':=p.height - 1) rfl (by unfold oJ;omega)];exact ⟨rfl,(HP1.out.ext eX).set 1 _ sp,(HK1.out.ext eX).put 1 _⟩)
      | (rw [rise_eq (n:=(-1)) (b:=p.hurt || p.ext != 0 || p.openB) (h':=p.height) rfl (by unfold oJ;omega)];exact ⟨rfl,HP1.out.ext eX,HK1.out.ext eX⟩)
theorem rstep_111 {rb:Nat} {p:dA} {w:World} (h:bB w rb p) (hp:p.WF) (hs:decide (0<p.stall)=false):
  Calls prog 57 #[.pointer (some ⟨rb,0,none⟩),vb 111] w (RDid rb w (p.swing true) (.tuple #[])):=by
 obtain ⟨c0,c1,c2,c3,c4,c5,c6,c7,c8⟩:=h.cells;have hb:=cA c1;have HP:=aA h;have fz:=vA h.blk;have h1:=hp.ht1;have h2:=hp.ht2;have h3:=hp.lv1;have h4:=hp.lv2;have h5:=hp.ex1;have h6:=hp.ex2;have h7:=hp.st1;have h8:=hp.st2;clear h;go_enter func57,ntmps57;go_wp2
 all_goals
  go_end0
  go_light
  first
  | (rw [swing_eq (o:=true) (b:=true) (by first|(simp [dA.openB, *];done)|(simp [dA.openB, *];intros;omega))];exact ⟨rfl,(HP.out.set (q:={ p with hurt:=true }) 28 _ sp).set 3 _ sp,((fA.refl _ _).put 28 _).put 3 _⟩)
  | (rw [swing_eq (o:=true) (b:=p.hurt) (by first|(simp [dA.openB, *];done)|(simp [dA.openB, *];intros;omega))];exact ⟨rfl,HP.out.set 3 _ sp,(fA.refl _ _).put 3 _⟩)
theorem rstep_99 {rb:Nat} {p:dA} {w:World} (h:bB w rb p) (hp:p.WF) (hs:decide (0<p.stall)=false):
  Calls prog 57 #[.pointer (some ⟨rb,0,none⟩),vb 99] w (RDid rb w (p.swing false) (.tuple #[])):=by
 obtain ⟨c0,c1,c2,c3,c4,c5,c6,c7,c8⟩:=h.cells;have hb:=cA c1;have HP:=aA h;have fz:=vA h.blk;have h1:=hp.ht1;have h2:=hp.ht2;have h3:=hp.lv1;have h4:=hp.lv2;have h5:=hp.ex1;have h6:=hp.ex2;have h7:=hp.st1;have h8:=hp.st2;clear h;go_enter func57,ntmps57;go_wp2
 all_goals
  go_end0
  go_light
  first
  | (rw [swing_eq (o:=false) (b:=true) (by first|(simp [dA.openB, *];done)|(simp [dA.openB, *];intros;omega))];exact ⟨rfl,(HP.out.set (q:={ p with hurt:=true }) 28 _ sp).set 3 _ sp,((fA.refl _ _).put 28 _).put 3 _⟩)
  | (rw [swing_eq (o:=false) (b:=p.hurt) (by first|(simp [dA.openB, *];done)|(simp [dA.openB, *];intros;omega))];exact ⟨rfl,HP.out.set 3 _ sp,(fA.refl _ _).put 3 _⟩)
theorem rstep_110 {rb:Nat} {p:dA} {w:World} (h:bB w rb p) (hp:p.WF) (hs:decide (0<p.stall)=false):
  Calls prog 57 #[.pointer (some ⟨rb,0,none⟩),vb 110] w (RDid rb w (p.pass true) (.tuple #[])):=by
 obtain ⟨c0,c1,c2,c3,c4,c5,c6,c7,c8⟩:=h.cells;have hb:=cA c1;have HP:=aA h;have fz:=vA h.blk;have h1:=hp.ht1;have h2:=hp.ht2;have h3:=hp.lv1;have h4:=hp.lv2;have h5:=hp.ex1;have h6:=hp.ex2;have h7:=hp.st1;have h8:=hp.st2;clear h;go_enter func57,ntmps57;go_wp2
 all_goals
  go_end0
  go_light
  try simp only [bne_iff_ne,ne_eq,beq_iff_eq,beq_eq_false_iff_ne,bne_eq_false_iff_eq] at *
  first
  | (rw [eM om,(show (p.hurt || p.openB)=true by first|(simp [dA.openB, *];done)|(simp [dA.openB, *];intros;omega))];exact ⟨rfl,(HP.out.set (q:={ p with hurt:=true }) 28 _ sp),((fA.refl _ _).put 28 _)⟩)
  | (rw [pN om om,(show (p.hurt || p.openB)=true by first|(simp [dA.openB, *];done)|(simp [dA.openB, *];intros;omega))];exact ⟨rfl,(HP.out.set (q:={ p with hurt:=true }) 28 _ sp),((fA.refl _ _).put 28 _)⟩)
  | (rw [pass_in om om om,(show (p.hurt || p.openB)=true by first|(simp [dA.openB, *];done)|(simp [dA.openB, *];intros;omega))];exact ⟨rfl,(((HP.out.set (q:={ p with hurt:=true }) 28 _ sp)).set (q:={ p with hurt:=true,lift:=p.bay }) 5 _ sp).set 6 _ sp,(((fA.refl _ _).put 28 _).put 5 _).put 6 _⟩)
  | (rw [eM om,(show (p.hurt || p.openB)=p.hurt by first|(simp [dA.openB, *];done)|(simp [dA.openB, *];intros;omega))];exact ⟨rfl,HP.out,(fA.refl _ _)⟩)
  | (rw [pN om om,(show (p.hurt || p.openB)=p.hurt by first|(simp [dA.openB, *];done)|(simp [dA.openB, *];intros;omega))];exact ⟨rfl,HP.out,(fA.refl _ _)⟩)
  | (rw [pass_in om om om,(show (p.hurt || p.openB)=p.hurt by first|(simp [dA.openB, *];done)|(simp [dA.openB, *];intros;omega))];exact ⟨rfl,((HP.out).set (q:={ p with lift:=p.bay }) 5 _ sp).set 6 _ sp,((fA.refl _ _).put 5 _).put 6 _⟩)
theorem rstep_120 {rb:Nat} {p:dA} {w:World} (h:bB w rb p) (hp:p.WF) (hs:decide (0<p.stall)=false):
  Calls prog 57 #[.pointer (some ⟨rb,0,none⟩),vb 120] w (RDid rb w (p.pass false) (.tuple #[])):=by
 obtain ⟨c0,c1,c2,c3,c4,c5,c6,c7,c8⟩:=h.cells;have hb:=cA c1;have HP:=aA h;have fz:=vA h.blk;have h1:=hp.ht1;have h2:=hp.ht2;have h3:=hp.lv1;have h4:=hp.lv2;have h5:=hp.ex1;have h6:=hp.ex2;have h7:=hp.st1;have h8:=hp.st2;clear h;go_enter func57,ntmps57;go_wp2
 all_goals
  go_end0
  go_light
  try simp only [bne_iff_ne,ne_eq,beq_iff_eq,beq_eq_false_iff_ne,bne_eq_false_iff_eq] at *
  first
  | (rw [eM om,(show (p.hurt || p.openB)=true by first|(simp [dA.openB, *];done)|(simp [dA.openB, *];intros;omega))];exact ⟨rfl,(HP.out.set (q:={ p with hurt:=true }) 28 _ sp),((fA.refl _ _).put 28 _)⟩)
  | (rw [fM om om,(show (p.hurt || p.openB)=true by first|(simp [dA.openB, *];done)|(simp [dA.openB, *];intros;omega))];exact ⟨rfl,(HP.out.set (q:={ p with hurt:=true }) 28 _ sp),((fA.refl _ _).put 28 _)⟩)
  | (rw [pass_out om om om,(show (p.hurt || p.openB)=true by first|(simp [dA.openB, *];done)|(simp [dA.openB, *];intros;omega))];exact ⟨rfl,(((HP.out.set (q:={ p with hurt:=true }) 28 _ sp)).set (q:={ p with hurt:=true,bay:=p.lift }) 6 _ sp).set 5 _ sp,(((fA.refl _ _).put 28 _).put 6 _).put 5 _⟩)
  | (rw [eM om,(show (p.hurt || p.openB)=p.hurt by first|(simp [dA.openB, *];done)|(simp [dA.openB, *];intros;omega))];exact ⟨rfl,HP.out,(fA.refl _ _)⟩)
  | (rw [fM om om,(show (p.hurt || p.openB)=p.hurt by first|(simp [dA.openB, *];done)|(simp [dA.openB, *];intros;omega))];exact ⟨rfl,HP.out,(fA.refl _ _)⟩)
  | (rw [pass_out om om om,(show (p.hurt || p.openB)=p.hurt by first|(simp [dA.openB, *];done)|(simp [dA.openB, *];intros;omega))];exact ⟨rfl,((HP.out).set (q:={ p with bay:=p.lift }) 6 _ sp).set 5 _ sp,((fA.refl _ _).put 6 _).put 5 _⟩)
theorem rstep_108 {rb:Nat} {p:dA} {w:World} (h:bB w rb p) (hp:p.WF) (hs:decide (0<p.stall)=false):
  Calls prog 57 #[.pointer (some ⟨rb,0,none⟩),vb 108] w (RDid rb w (p.stretch (-1)) (.tuple #[])):=by
 obtain ⟨c0,c1,c2,c3,c4,c5,c6,c7,c8⟩:=h.cells;have hb:=cA c1;have HP:=aA h;have fz:=vA h.blk;have h1:=hp.ht1;have h2:=hp.ht2;have h3:=hp.lv1;have h4:=hp.lv2;have h5:=hp.ex1;have h6:=hp.ex2;have h7:=hp.st1;have h8:=hp.st2;clear h
 have h9:p.height<=12:=om
 obtain ⟨t,ht⟩:∃ t,p.ext - 1=t:=⟨_,rfl⟩
 have i5:IntKind.i64.wrap (p.ext - 1)=t:=by rw [<-ht];exact IntWalk.i64_in _ om
 by_cases hr:t < -2\/2<t
 ·have HR:=aA hr
  have HS:Hid (p.stretch (-1)=p):=by unfold Hid dA.stretch;rw [if_pos om]
  clear hr;go_enter func57,ntmps57;go_wp2_with fail
  all_goals
   first
   | (exfalso;have:=HR.out;omega)
   | (go_end0;rw [HS.out];exact ⟨rfl,HP.out.ext eX,fA.of_ext eX⟩)
 ·have r1:-2<=t:=om
  have r2:t<=2:=om
  have HRR:=aA hr;clear hr
  cases hx:bG p.height (t) with
  | none=>
   have HX:=aA hx
   have HN:Hid ((p.place (t)).isNone=true):=by unfold Hid;rw [uI,hx];rfl
   clear hx;go_enter func57,ntmps57;go_wp2_with (first|(go_at_call 110;with_reducible refine mo (wK _ _ _ _ (by assumption) om om om om HX.out) fun o1 n1=>?_)|(go_at_call 72;with_reducible refine mo (iK (HP.out.ext eX) hp _ om om) fun o1 n1=>?_))
   all_goals
    go_end0
    go_light;have hn':=HN.out;have hr':=HRR.out
    first
    | (rw [vH (n:=(-1)) (t:=t) (b:=true) om hr' (by first|(simp [*];done)|(simp [*];omega)|(rename_i hz;rcases hz with hz|hz <;> (simp [*];done)))];refine ⟨rfl,bB.set (bB.set (q:={ p with hurt:=true }) (HP.out.ext ?_) 28 _ sp) 2 _ (by simp [*]),fA.put (fA.put (fA.of_ext ?_) 28 _) 2 _⟩ <;> exact eX)
    | (rw [vH (n:=(-1)) (t:=t) (b:=p.hurt) om hr' (by first|(simp [*];done)|(simp [*];omega)|(rename_i hz;rcases hz with hz|hz <;> (simp [*];done)))];refine ⟨rfl,bB.set (HP.out.ext ?_) 2 _ (by simp [*]),fA.put (fA.of_ext ?_) 2 _⟩ <;> exact eX)
    | (trace_state;fail)
  | some x=>
   obtain ⟨a,b,c⟩:=x;have HX:=aA hx
   have HN:Hid ((p.place (t)).isNone=false):=by unfold Hid;rw [uI,hx];rfl
   clear hx;go_enter func57,ntmps57;go_wp2_with (first|(go_at_call 110;with_reducible refine mo (xH _ _ _ a b c _ (by assumption) om om om om HX.out) fun o1 n1=>?_)|(go_at_call 72;with_reducible refine mo (iK (HP.out.ext eX) hp _ om om) fun o1 n1=>?_))
   all_goals
    go_end0
    go_light;have hn':=HN.out;have hr':=HRR.out
    first
    | (rw [vH (n:=(-1)) (t:=t) (b:=true) om hr' (by first|(simp [*];done)|(simp [*];omega)|(rename_i hz;rcases hz with hz|hz <;> (simp [*];done)))];refine ⟨rfl,bB.set (bB.set (q:={ p with hurt:=true }) (HP.out.ext ?_) 28 _ sp) 2 _ (by simp [*]),fA.put (fA.put (fA.of_ext ?_) 28 _) 2 _⟩ <;> exact eX)
    | (rw [vH (n:=(-1)) (t:=t) (b:=p.hurt) om hr' (by first|(simp [*];done)|(simp [*];omega)|(rename_i hz;rcases hz with hz|hz <;> (simp [*];done)))];refine ⟨rfl,bB.set (HP.out.ext ?_) 2 _ (by simp [*]),fA.put (fA.of_ext ?_) 2 _⟩ <;> exact eX)
    | (trace_state;fail)
theorem rstep_114 {rb:Nat} {p:dA} {w:World} (h:bB w rb p) (hp:p.WF) (hs:decide (0<p.stall)=false):
  Calls prog 57 #[.pointer (some ⟨rb,0,none⟩),vb 114] w (RDid rb w (p.stretch 1) (.tuple #[])):=by
 obtain ⟨c0,c1,c2,c3,c4,c5,c6,c7,c8⟩:=h.cells;have hb:=cA c1;have HP:=aA h;have fz:=vA h.blk;have h1:=hp.ht1;have h2:=hp.ht2;have h3:=hp.lv1;have h4:=hp.lv2;have h5:=hp.ex1;have h6:=hp.ex2;have h7:=hp.st1;have h8:=hp.st2;clear h
 have h9:p.height<=12:=om
 obtain ⟨t,ht⟩:∃ t,p.ext+1=t:=⟨_,rfl⟩
 have i5:IntKind.i64.wrap (p.ext+1)=t:=by rw [<-ht];exact IntWalk.i64_in _ om
 by_cases hr:t < -2\/2<t
 ·have HR:=aA hr
  have HS:Hid (p.stretch 1=p):=by unfold Hid dA.stretch;rw [if_pos om]
  clear hr;go_enter func57,ntmps57;go_wp2_with fail
  all_goals
   first
   | (exfalso;have:=HR.out;omega)
   | (go_end0;rw [HS.out];exact ⟨rfl,HP.out.ext eX,fA.of_ext eX⟩)
 ·have r1:-2<=t:=om
  have r2:t<=2:=om
  have HRR:=aA hr;clear hr
  cases hx:bG p.height (t) with
  | none=>
   have HX:=aA hx
   have HN:Hid ((p.place (t)).isNone=true):=by unfold Hid;rw [uI,hx];rfl
   clear hx;go_enter func57,ntmps57;go_wp2_with (first|(go_at_call 110;with_reducible refine mo (wK _ _ _ _ (by assumption) om om om om HX.out) fun o1 n1=>?_)|(go_at_call 72;with_reducible refine mo (iK (HP.out.ext eX) hp _ om om) fun o1 n1=>?_))
   all_goals
    go_end0
    go_light;have hn':=HN.out;have hr':=HRR.out
    first
    | (rw [vH (n:=1) (t:=t) (b:=true) om hr' (by first|(simp [*];done)|(simp [*];omega)|(rename_i hz;rcases hz with hz|hz <;> (simp [*];done)))];refine ⟨rfl,bB.set (bB.set (q:={ p with hurt:=true }) (HP.out.ext ?_) 28 _ sp) 2 _ (by simp [*]),fA.put (fA.put (fA.of_ext ?_) 28 _) 2 _⟩ <;> exact eX)
    | (rw [vH (n:=1) (t:=t) (b:=p.hurt) om hr' (by first|(simp [*];done)|(simp [*];omega)|(rename_i hz;rcases hz with hz|hz <;> (simp [*];done)))];refine ⟨rfl,bB.set (HP.out.ext ?_) 2 _ (by simp [*]),fA.put (fA.of_ext ?_) 2 _⟩ <;> exact eX)
    | (trace_state;fail)
  | some x=>
   obtain ⟨a,b,c⟩:=x;have HX:=aA hx
   have HN:Hid ((p.place (t)).isNone=false):=by unfold Hid;rw [uI,hx];rfl
   clear hx;go_enter func57,ntmps57;go_wp2_with (first|(go_at_call 110;with_reducible refine mo (xH _ _ _ a b c _ (by assumption) om om om om HX.out) fun o1 n1=>?_)|(go_at_call 72;with_reducible refine mo (iK (HP.out.ext eX) hp _ om om) fun o1 n1=>?_))
   all_goals
    go_end0
    go_light;have hn':=HN.out;have hr':=HRR.out
    first
    | (rw [vH (n:=1) (t:=t) (b:=true) om hr' (by first|(simp [*];done)|(simp [*];omega)|(rename_i hz;rcases hz with hz|hz <;> (simp [*];done)))];refine ⟨rfl,bB.set (bB.set (q:={ p with hurt:=true }) (HP.out.ext ?_) 28 _ sp) 2 _ (by simp [*]),fA.put (fA.put (fA.of_ext ?_) 28 _) 2 _⟩ <;> exact eX)
    | (rw [vH (n:=1) (t:=t) (b:=p.hurt) om hr' (by first|(simp [*];done)|(simp [*];omega)|(rename_i hz;rcases hz with hz|hz <;> (simp [*];done)))];refine ⟨rfl,bB.set (HP.out.ext ?_) 2 _ (by simp [*]),fA.put (fA.of_ext ?_) 2 _⟩ <;> exact eX)
    | (trace_state;fail)
theorem rstep_103 {rb:Nat} {p:dA} {w:World} (h:bB w rb p) (hp:p.WF) (hs:decide (0<p.stall)=false):
    Calls prog 57 #[.pointer (some ⟨rb,0,none⟩),vb 103] w (RDid rb w (p.grab) (.tuple #[])):=by
  obtain ⟨c0,c1,c2,c3,c4,c5,c6,c7,c8⟩:=h.cells;have hb:=cA c1;have HP:=aA h;have fz:=vA h.blk;have h1:=hp.ht1;have h2:=hp.ht2;have h3:=hp.lv1;have h4:=hp.lv2;have h5:=hp.ex1;have h6:=hp.ex2;have h7:=hp.st1;have h8:=hp.st2;clear h
  have h9:p.height<=12:=om
  cases hx:bG p.height p.ext with
  | none=>
    have HX:=aA hx
    have HG:Hid (p.grab=p):=by unfold Hid;exact grab_none hx
    clear hx;go_enter func57,ntmps57;go_wp2_with (first|(go_at_call 110;with_reducible refine mo (wK _ _ _ _ (by assumption) om om om om HX.out) fun o1 n1=>?_))
    all_goals
      go_end0
      rw [HG.out];exact ⟨rfl,HP.out.ext eX,fA.of_ext eX⟩
  | some x=>
    have hk:=uC.1 (dA.place_ok hp hx);obtain ⟨a,b,c⟩:=x;dsimp only at hk
    obtain ⟨a,rfl⟩:∃ n:Nat,a=n:=⟨a.toNat,om⟩
    obtain ⟨b,rfl⟩:∃ n:Nat,b=n:=⟨b.toNat,om⟩
    obtain ⟨c,rfl⟩:∃ n:Nat,c=n:=⟨c.toNat,om⟩
    have a4:a<=4:=om
    have b1:b<=1:=om
    have cc1:c<=1:=om
    have hs':=slotNat w HP.out a4 b1 cc1
    have j0:(0:Int)<=(a:Int):=om
    have j1:(a:Int)<5:=om
    have j2:(0:Int)<=(b:Int):=om
    have j3:(b:Int)<2:=om
    have j4:(0:Int)<=(c:Int):=om
    have j5:(c:Int)<2:=om
    have HX:=aA hx;clear hk
    by_cases hl:p.lift=0
    · have e1:(p.lift==0)=true:=by simpa using hl
      have HG:Hid (p.grab={ p with lift:=p.slots ⟨(a:Int),(b:Int),(c:Int)⟩,slots:=sD p.slots ⟨(a:Int),(b:Int),(c:Int)⟩ 0 }):=by unfold Hid;exact grab_all hx hl
      clear hx hl;go_enter func57,ntmps57
      go_upto_region 27 with (first|(go_at_call 110;with_reducible refine mo (xH _ _ _ (a:Int) (b:Int) (c:Int) _ (by assumption) om om om om HX.out) fun o1 n1=>?_))
      all_goals
       (refine qF ?_;rintro _ ⟨oq,nq,rfl⟩)
       go_wp2
       go_end0
       rw [HG.out];exact ⟨rfl,((bB.set (q:={ p with lift:=p.slots ⟨(a:Int),(b:Int),(c:Int)⟩ }) (HP.out.ext eX) 5 _ sp).set (7+a * 4+b * 2+c) _ (slot_set { p with lift:=p.slots ⟨(a:Int),(b:Int),(c:Int)⟩ } a4 b1 cc1 0)),fA.put (fA.put (fA.of_ext eX) 5 _) _ _⟩
    · have e1:(p.lift==0)=false:=by simpa using hl
      have HG:Hid (p.grab=p):=by unfold Hid;exact grab_not HX.out (Or.inl hl)
      clear hx hl;go_enter func57,ntmps57
      go_upto_region 27 with (first|(go_at_call 110;with_reducible refine mo (xH _ _ _ (a:Int) (b:Int) (c:Int) _ (by assumption) om om om om HX.out) fun o1 n1=>?_))
      all_goals
       (refine qF ?_;rintro _ ⟨oq,nq,rfl⟩)
       go_wp2
       go_end0
       rw [HG.out];exact ⟨rfl,HP.out.ext eX,fA.of_ext eX⟩
theorem rstep_112 {rb:Nat} {p:dA} {w:World} (h:bB w rb p) (hp:p.WF) (hs:decide (0<p.stall)=false):
    Calls prog 57 #[.pointer (some ⟨rb,0,none⟩),vb 112] w (RDid rb w (p.put) (.tuple #[])):=by
  obtain ⟨c0,c1,c2,c3,c4,c5,c6,c7,c8⟩:=h.cells;have hb:=cA c1;have HP:=aA h;have fz:=vA h.blk;have h1:=hp.ht1;have h2:=hp.ht2;have h3:=hp.lv1;have h4:=hp.lv2;have h5:=hp.ex1;have h6:=hp.ex2;have h7:=hp.st1;have h8:=hp.st2;clear h
  have h9:p.height<=12:=om
  cases hx:bG p.height p.ext with
  | none=>
    have HX:=aA hx
    have HG:Hid (p.put=p):=by unfold Hid;exact put_none hx
    clear hx;go_enter func57,ntmps57;go_wp2_with (first|(go_at_call 110;with_reducible refine mo (wK _ _ _ _ (by assumption) om om om om HX.out) fun o1 n1=>?_))
    all_goals
      go_end0
      rw [HG.out];exact ⟨rfl,HP.out.ext eX,fA.of_ext eX⟩
  | some x=>
    have hk:=uC.1 (dA.place_ok hp hx);obtain ⟨a,b,c⟩:=x;dsimp only at hk
    obtain ⟨a,rfl⟩:∃ n:Nat,a=n:=⟨a.toNat,om⟩
    obtain ⟨b,rfl⟩:∃ n:Nat,b=n:=⟨b.toNat,om⟩
    obtain ⟨c,rfl⟩:∃ n:Nat,c=n:=⟨c.toNat,om⟩
    have a4:a<=4:=om
    have b1:b<=1:=om
    have cc1:c<=1:=om
    have hs':=slotNat w HP.out a4 b1 cc1
    have j0:(0:Int)<=(a:Int):=om
    have j1:(a:Int)<5:=om
    have j2:(0:Int)<=(b:Int):=om
    have j3:(b:Int)<2:=om
    have j4:(0:Int)<=(c:Int):=om
    have j5:(c:Int)<2:=om
    have HX:=aA hx;clear hk
    by_cases hl:p.slots ⟨(a:Int),(b:Int),(c:Int)⟩=0
    · have e1:(p.slots ⟨(a:Int),(b:Int),(c:Int)⟩==0)=true:=by simpa using hl
      have HG:Hid (p.put={ p with slots:=sD p.slots ⟨(a:Int),(b:Int),(c:Int)⟩ p.lift,lift:=0 }):=by unfold Hid;exact put_all hx hl
      clear hx hl;go_enter func57,ntmps57
      go_upto_region 27 with (first|(go_at_call 110;with_reducible refine mo (xH _ _ _ (a:Int) (b:Int) (c:Int) _ (by assumption) om om om om HX.out) fun o1 n1=>?_))
      all_goals
       (refine qF ?_;rintro _ ⟨oq,nq,rfl⟩)
       go_wp2
       go_end0
       rw [HG.out];exact ⟨rfl,((bB.set (q:={ p with slots:=sD p.slots ⟨(a:Int),(b:Int),(c:Int)⟩ p.lift }) (HP.out.ext eX) (7+a * 4+b * 2+c) _ (slot_set p a4 b1 cc1 p.lift)).set 5 _ sp),fA.put (fA.put (fA.of_ext eX) _ _) 5 _⟩
    · have e1:(p.slots ⟨(a:Int),(b:Int),(c:Int)⟩==0)=false:=by simpa using hl
      have HG:Hid (p.put=p):=by unfold Hid;exact put_not HX.out (Or.inr hl)
      clear hx hl;go_enter func57,ntmps57
      go_upto_region 27 with (first|(go_at_call 110;with_reducible refine mo (xH _ _ _ (a:Int) (b:Int) (c:Int) _ (by assumption) om om om om HX.out) fun o1 n1=>?_))
      all_goals
       (refine qF ?_;rintro _ ⟨oq,nq,rfl⟩)
       go_wp2
       go_end0
       rw [HG.out];exact ⟨rfl,HP.out.ext eX,fA.of_ext eX⟩
theorem rstep_none {rb:Nat} {p:dA} {w:World} (h:bB w rb p) (hp:p.WF) (hs:decide (0<p.stall)=false) (c:Int) (h117:(c==117)=false) (h100:(c==100)=false) (h108:(c==108)=false) (h114:(c==114)=false) (h103:(c==103)=false) (h112:(c==112)=false) (h111:(c==111)=false) (h99:(c==99)=false) (h110:(c==110)=false) (h120:(c==120)=false):
  Calls prog 57 #[.pointer (some ⟨rb,0,none⟩),vb c] w (RDid rb w p (.tuple #[])):=by
 obtain ⟨c0,c1,c2,c3,c4,c5,c6,c7,c8⟩:=h.cells;have hb:=cA c1;have HP:=aA h;have fz:=vA h.blk;have h1:=hp.ht1;have h2:=hp.ht2;have h3:=hp.lv1;have h4:=hp.lv2;have h5:=hp.ex1;have h6:=hp.ex2;have h7:=hp.st1;have h8:=hp.st2;clear h;go_enter func57,ntmps57;go_wp2
 all_goals
  go_end0
  exact ⟨rfl,HP.out,fA.refl _ _⟩
theorem rstep_rest {rb:Nat} {p:dA} {w:World} (h:bB w rb p) (hp:p.WF):
  Calls prog 57 #[.pointer (some ⟨rb,0,none⟩),vb 45] w (RDid rb w p (.tuple #[])):=by
 obtain ⟨c0,c1,c2,c3,c4,c5,c6,c7,c8⟩:=h.cells;have hb:=cA c1;have HP:=aA h;have fz:=vA h.blk;have h1:=hp.ht1;have h2:=hp.ht2;have h3:=hp.lv1;have h4:=hp.lv2;have h5:=hp.ex1;have h6:=hp.ex2;have h7:=hp.st1;have h8:=hp.st2;clear h;go_enter func57,ntmps57;go_wp2
 all_goals
  go_end0
  exact ⟨rfl,HP.out,fA.refl _ _⟩
theorem rstep_stalled {rb:Nat} {p:dA} {w:World} (h:bB w rb p) (hp:p.WF) (c:Int) (hs:0<p.stall) (hc:(c==45)=false):
  Calls prog 57 #[.pointer (some ⟨rb,0,none⟩),vb c] w (RDid rb w { p with stall:=p.stall - 1 } (.tuple #[])):=by
 obtain ⟨c0,c1,c2,c3,c4,c5,c6,c7,c8⟩:=h.cells;have hb:=cA c1;have HP:=aA h;have fz:=vA h.blk;have h1:=hp.ht1;have h2:=hp.ht2;have h3:=hp.lv1;have h4:=hp.lv2;have h5:=hp.ex1;have h6:=hp.ex2;have h7:=hp.st1;have h8:=hp.st2;clear h
 have hc':(c != 45)=true:=by simpa using hc
 have i1:IntKind.i64.wrap (p.stall - 1)=p.stall - 1:=IntWalk.i64_in _ om;go_enter func57,ntmps57;go_wp2
 go_end0
 exact ⟨rfl,HP.out.set 27 _ sp,(fA.refl _ _).put 27 _⟩
theorem rstep_any {rb:Nat} {p:dA} {w:World} (h:bB w rb p) (hp:p.WF) (c:Int):
  Calls prog 57 #[.pointer (some ⟨rb,0,none⟩),vb c] w (RDid rb w (p.step c) (.tuple #[])):=by
 by_cases h45:c=45
 ·subst h45
  have:p.step 45=p:=by unfold dA.step;rw [if_neg sp];rfl
  rw [this];exact rstep_rest h hp
 by_cases hs:0<p.stall
 ·have:p.step c={ p with stall:=p.stall - 1 }:=by unfold dA.step;rw [if_pos ⟨hs,h45⟩]
  rw [this];exact rstep_stalled h hp c hs (by simpa using h45)
 have hd:decide (0<p.stall)=false:=by simpa using hs
 have:p.step c=p.act c:=by unfold dA.step;rw [if_neg om]
 rw [this]
 by_cases h117:c=117
 ·subst h117;exact rstep_117 h hp hd
 by_cases h100:c=100
 ·subst h100;exact rstep_100 h hp hd
 by_cases h108:c=108
 ·subst h108;exact rstep_108 h hp hd
 by_cases h114:c=114
 ·subst h114;exact rstep_114 h hp hd
 by_cases h103:c=103
 ·subst h103;exact rstep_103 h hp hd
 by_cases h112:c=112
 ·subst h112;exact rstep_112 h hp hd
 by_cases h111:c=111
 ·subst h111;exact rstep_111 h hp hd
 by_cases h99:c=99
 ·subst h99;exact rstep_99 h hp hd
 by_cases h110:c=110
 ·subst h110;exact rstep_110 h hp hd
 by_cases h120:c=120
 ·subst h120;exact rstep_120 h hp hd
 have:p.act c=p:=by
  unfold dA.act;rw [if_neg h117,if_neg h100,if_neg h108,if_neg h114,if_neg h103,if_neg h112,if_neg h111,if_neg h99,if_neg h110,if_neg h120]
 rw [this];exact rstep_none h hp hd c (by simpa using h117) (by simpa using h100) (by simpa using h108) (by simpa using h114) (by simpa using h103) (by simpa using h112) (by simpa using h111) (by simpa using h99) (by simpa using h110) (by simpa using h120)
theorem rhas_at (hh:Bool) {rb:Nat} {p:dA} {w:World} (h:bB w rb p) (hp:p.WF) (id:Int) (he:Hid (p.has id=hh)):
  Calls prog 111 #[.pointer (some ⟨rb,0,none⟩),vi id] w fun e w'=>e = .returned (.bool hh)/\Ext w w':=by
 obtain ⟨c0,c1,c2,c3,c4,c5,c6,c7,c8⟩:=h.cells;have hb:=cA c1;have HP:=aA h;clear h
 obtain ⟨x0,x1,x2,bb,HV⟩:∃ x0 x1 x2 bb,Hid (qI (p.where_ id) = .tuple #[.agg #[vi x0,vi x1,vi x2],.bool bb]):=⟨_,_,_,_,rfl⟩
 have HB:Hid ((bb || p.lift==id || p.bay==id)=hh):=by
  have e:=HV.out;unfold qI at e;simp only [Value.tuple.injEq,Array.mk.injEq,List.cons.injEq,Value.bool.injEq] at e;unfold Hid;rw [<-he.out,has_where,e.2.1]
 cases bb
 all_goals
  go_enter func111,ntmps111;go_wp2_with (go_at_call 132;(with_reducible refine (rwhere_any (HP.out.ext eX) hp _).mono ?_);rintro e w1 ⟨he1,o1,n1,rfl⟩;rw [HV.out] at he1;subst he1)
  all_goals
   go_ret;go_light;exact ⟨by rw [<-HB.out];simp [*],eX⟩
theorem rarrive_any {rb:Nat} {p:dA} {w:World} (h:bB w rb p) (hp:p.WF) (n:Int):
  Calls prog 60 #[.pointer (some ⟨rb,0,none⟩),vi n] w (RDid rb w (p.arrive n).1 (vi (p.arrive n).2)):=by
 obtain ⟨c0,c1,c2,c3,c4,c5,c6,c7,c8⟩:=h.cells;have hb:=cA c1;have HP:=aA h;have fz:=vA h.blk;clear h
 by_cases hr:n<1\/999<n
 ·have HL:Hid (p.arrive n=(p,1)):=by unfold Hid dA.arrive;rw [if_pos hr]
  have HR:=aA hr;clear hr;go_enter func60,ntmps60;go_wp2
  all_goals
   first
   | (exfalso;have:=HR.out;omega)
   | (go_ret;rw [HL.out];exact ⟨rfl,HP.out,fA.refl _ _⟩)
 ·have r1:1<=n:=om
  have r2:n<=999:=om
  by_cases hd:p.door=false\/p.bay≠0
  ·have HL:Hid (p.arrive n=(p,7)):=by unfold Hid dA.arrive;rw [if_neg hr,if_pos hd]
   have HD:=aA hd;clear hr hd;go_enter func60,ntmps60;go_wp2_with fail
   all_goals
    first
    | (go_ret;rw [HL.out];exact ⟨rfl,HP.out,fA.refl _ _⟩)
    | (exfalso;have:=HD.out;simp_all;done)
  ·have hd1:p.door=true:=by cases hq:p.door;exact absurd (Or.inl hq) hd;rfl
   have hd2:(p.bay != 0)=false:=by simpa using (fun e=>hd (Or.inr e))
   rw [hd1] at c3;cases hh:p.has n
   ·have HL:Hid (p.arrive n=({ p with bay:=n },0)):=by unfold Hid dA.arrive;rw [if_neg hr,if_neg hd,if_neg (by rw [hh];simp)]
    have HH:=aA hh;clear hr hd hh hd1;go_enter func60,ntmps60;go_wp2_with (go_at_call 111;with_reducible refine mo (rhas_at false (HP.out.ext eX) hp _ HH) fun o1 n1=>?_);go_ret;rw [HL.out];exact ⟨rfl,(HP.out.ext eX).set 6 _ sp,fA.put (fA.of_ext eX) 6 _⟩
   ·have HL:Hid (p.arrive n=(p,6)):=by unfold Hid dA.arrive;rw [if_neg hr,if_neg hd,if_pos hh]
    have HH:=aA hh;clear hr hd hh hd1;go_enter func60,ntmps60;go_wp2_with (go_at_call 111;with_reducible refine mo (rhas_at true (HP.out.ext eX) hp _ HH) fun o1 n1=>?_);go_ret;rw [HL.out];exact ⟨rfl,HP.out.ext eX,fA.of_ext eX⟩
