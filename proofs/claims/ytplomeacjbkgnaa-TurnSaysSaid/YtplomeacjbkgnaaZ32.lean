import Derived.Test.YtplomeacjbkgnaaZ31
import Derived.Test.YtplomeacjbkgnaaZ23
import Derived.Test.YtplomeacjbkgnaaZ30
import Derived.Deep.DeepCutAuto
set_option linter.all false
set_option maxRecDepth 100000
set_option maxHeartbeats 16000000
namespace Go.Proofs.Ytplomeacjbkgnaa
open Go.RowKit
theorem rise_eq {p:Ch.Plant} {n h':Int} {b:Bool} (hb:(p.hurt || p.ext != 0 || p.openB)=b) (hh:Ch.clamp (p.height+n) (p.levels * 3)=h'):p.rise n={ p with hurt:=b,height:=h' }:=by
 subst hb hh;rfl
theorem stretch_eq {p:Ch.Plant} {n t:Int} {b:Bool} (ht:p.ext+n=t) (hr:¬ (t < -2∨2<t)) (hb:(p.hurt || (t != 0&&(p.place t).isNone) || (p.lift != 0&&p.full t))=b):p.stretch n={ p with hurt:=b,ext:=t }:=by
 subst ht hb;unfold Ch.Plant.stretch;rw [if_neg hr]
theorem swing_eq {p:Ch.Plant} {o b:Bool} (hb:(p.hurt || (o&&(p.height != 0 || p.ext != 0)) || (!o&&decide (0<p.people)))=b):p.swing o={ p with hurt:=b,door:=o }:=by
 subst hb;rfl
theorem grab_all {p:Ch.Plant} {x:Ch.Place} (h:p.place p.ext=some x) (hl:p.lift=0):p.grab={ p with lift:=p.slots x,slots:=Ch.setSlot p.slots x 0 }:=by
 by_cases hn:p.slots x=0
 ·rw [grab_not h (Or.inr hn),hn]
  have:Ch.setSlot p.slots x 0=p.slots:=by funext y;unfold Ch.setSlot;split <;> simp_all
  rw [this];obtain ⟨⟩:=p;dsimp only at hl;subst hl;rfl
 ·exact grab_yes h hl hn
theorem put_all {p:Ch.Plant} {x:Ch.Place} (h:p.place p.ext=some x) (hn:p.slots x=0):p.put={ p with slots:=Ch.setSlot p.slots x p.lift,lift:=0 }:=by
 by_cases hl:p.lift=0
 ·rw [put_not h (Or.inl hl),hl]
  have:Ch.setSlot p.slots x 0=p.slots:=by funext y;unfold Ch.setSlot;split <;> simp_all
  rw [this];obtain ⟨⟩:=p;dsimp only at hl;subst hl;rfl
 ·exact put_yes h hl hn
theorem rstep_117 {rb:Nat} {p:Ch.Plant} {w:World} (h:RPlantAt w rb p) (hp:p.WF) (hs:decide (0<p.stall)=false):
    Calls Try.prog 118 #[.pointer (some ⟨rb,0,none⟩),vb 117] w (RDid rb w (p.rise 1) (.tuple #[])):=by
  obtain ⟨c0,c1,c2,c3,c4,c5,c6,c7,c8⟩:=h.cells;have hb:=cell_lt c1;have HP:=Lib.hid h;have fz:=block_free h.blk;have h1:=hp.ht1;have h2:=hp.ht2;have h3:=hp.lv1;have h4:=hp.lv2;have h5:=hp.ex1;have h6:=hp.ex2;have h7:=hp.st1;have h8:=hp.st2;clear h;have i1:IntKind.i64.wrap (p.height+1)=p.height+1:=IntWalk.i64_in _ (by omega);have i2:IntKind.i64.wrap (p.height - 1)=p.height - 1:=IntWalk.i64_in _ (by omega);have i3:IntKind.i64.wrap (3 * p.levels)=3 * p.levels:=IntWalk.i64_in _ (by omega);go_enter Try.func118,Try.ntmps118
  go_upto_region 8 with fail
  all_goals
    first
    | (rw [show w.setCell ⟨rb,28,none⟩ (.bool true)=w.setCell ⟨rb,28,none⟩ (.bool true) from rfl];generalize hW:w.setCell ⟨rb,28,none⟩ (.bool true)=wq)
    | generalize hW:w=wq
    have P1:RPlantAt wq rb { p with hurt:=p.hurt || p.ext != 0 || p.openB }:=by
      rw [←hW]
      first
      | exact HP.out.set 28 _ (by simp [Ch.Plant.openB, *];done)
      | (have e:(p.hurt || p.ext != 0 || p.openB)=p.hurt:=by first|(simp [Ch.Plant.openB, *];done)|(simp [Ch.Plant.openB, *];intros;omega)
         rw [e];exact HP.out)
    have K1:Kept (Is rb) w wq:=by
      rw [←hW]
      first
      | exact (Kept.refl _ _).put 28 _
      | exact Kept.refl _ _
    clear hW;obtain ⟨d0,d1,d2,d3,d4,d5,d6,d7,d8⟩:=P1.cells;have hb':=cell_lt d1;have fz':=block_free P1.blk;have HP1:=Lib.hid P1;have HK1:=Lib.hid K1;clear P1 K1 c0 c1 c2 c3 c4 c5 c6 c7 c8
    (refine wp_region_ext (by kernel_rfl) (by kernel_rfl) ?_;(repeat (first|go_big_quiet_step (fail)|quiet_step (fail)));refine wpQuiet_nil ?_;intro _ hw';obtain ⟨oq,nq,hw''⟩:=hw';subst hw'')
    go_wp2
    all_goals
      go_end0
      go_light
      first
      | (rw [rise_eq (n:=1) (b:=p.hurt || p.ext != 0 || p.openB) (h':=p.height+1) rfl (by unfold Ch.clamp;omega)];exact ⟨rfl,(HP1.out.ext (by simp (maxDischargeDepth:=60))).set 1 _ (by simp),(HK1.out.ext (by simp (maxDischargeDepth:=60))).put 1 _⟩)
      | (rw [rise_eq (n:=1) (b:=p.hurt || p.ext != 0 || p.openB) (h':=p.height) rfl (by unfold Ch.clamp;omega)];exact ⟨rfl,HP1.out.ext (by simp (maxDischargeDepth:=60)),HK1.out.ext (by simp (maxDischargeDepth:=60))⟩)
theorem rstep_100 {rb:Nat} {p:Ch.Plant} {w:World} (h:RPlantAt w rb p) (hp:p.WF) (hs:decide (0<p.stall)=false):
    Calls Try.prog 118 #[.pointer (some ⟨rb,0,none⟩),vb 100] w (RDid rb w (p.rise (-1)) (.tuple #[])):=by
  obtain ⟨c0,c1,c2,c3,c4,c5,c6,c7,c8⟩:=h.cells;have hb:=cell_lt c1;have HP:=Lib.hid h;have fz:=block_free h.blk;have h1:=hp.ht1;have h2:=hp.ht2;have h3:=hp.lv1;have h4:=hp.lv2;have h5:=hp.ex1;have h6:=hp.ex2;have h7:=hp.st1;have h8:=hp.st2;clear h;have i1:IntKind.i64.wrap (p.height+1)=p.height+1:=IntWalk.i64_in _ (by omega);have i2:IntKind.i64.wrap (p.height - 1)=p.height - 1:=IntWalk.i64_in _ (by omega);have i3:IntKind.i64.wrap (3 * p.levels)=3 * p.levels:=IntWalk.i64_in _ (by omega);go_enter Try.func118,Try.ntmps118
  go_upto_region 8 with fail
  all_goals
    first
    | (rw [show w.setCell ⟨rb,28,none⟩ (.bool true)=w.setCell ⟨rb,28,none⟩ (.bool true) from rfl];generalize hW:w.setCell ⟨rb,28,none⟩ (.bool true)=wq)
    | generalize hW:w=wq
    have P1:RPlantAt wq rb { p with hurt:=p.hurt || p.ext != 0 || p.openB }:=by
      rw [←hW]
      first
      | exact HP.out.set 28 _ (by simp [Ch.Plant.openB, *];done)
      | (have e:(p.hurt || p.ext != 0 || p.openB)=p.hurt:=by first|(simp [Ch.Plant.openB, *];done)|(simp [Ch.Plant.openB, *];intros;omega)
         rw [e];exact HP.out)
    have K1:Kept (Is rb) w wq:=by
      rw [←hW]
      first
      | exact (Kept.refl _ _).put 28 _
      | exact Kept.refl _ _
    clear hW;obtain ⟨d0,d1,d2,d3,d4,d5,d6,d7,d8⟩:=P1.cells;have hb':=cell_lt d1;have fz':=block_free P1.blk;have HP1:=Lib.hid P1;have HK1:=Lib.hid K1;clear P1 K1 c0 c1 c2 c3 c4 c5 c6 c7 c8
    (refine wp_region_ext (by kernel_rfl) (by kernel_rfl) ?_;(repeat (first|go_big_quiet_step (fail)|quiet_step (fail)));refine wpQuiet_nil ?_;intro _ hw';obtain ⟨oq,nq,hw''⟩:=hw';subst hw'')
    go_wp2
    all_goals
      go_end0
      go_light
      first
      | (rw [rise_eq (n:=(-1)) (b:=p.hurt || p.ext != 0 || p.openB) (h':=p.height - 1) rfl (by unfold Ch.clamp;omega)];exact ⟨rfl,(HP1.out.ext (by simp (maxDischargeDepth:=60))).set 1 _ (by simp),(HK1.out.ext (by simp (maxDischargeDepth:=60))).put 1 _⟩)
      | (rw [rise_eq (n:=(-1)) (b:=p.hurt || p.ext != 0 || p.openB) (h':=p.height) rfl (by unfold Ch.clamp;omega)];exact ⟨rfl,HP1.out.ext (by simp (maxDischargeDepth:=60)),HK1.out.ext (by simp (maxDischargeDepth:=60))⟩)
theorem rstep_111 {rb:Nat} {p:Ch.Plant} {w:World} (h:RPlantAt w rb p) (hp:p.WF) (hs:decide (0<p.stall)=false):
  Calls Try.prog 118 #[.pointer (some ⟨rb,0,none⟩),vb 111] w (RDid rb w (p.swing true) (.tuple #[])):=by
 obtain ⟨c0,c1,c2,c3,c4,c5,c6,c7,c8⟩:=h.cells;have hb:=cell_lt c1;have HP:=Lib.hid h;have fz:=block_free h.blk;have h1:=hp.ht1;have h2:=hp.ht2;have h3:=hp.lv1;have h4:=hp.lv2;have h5:=hp.ex1;have h6:=hp.ex2;have h7:=hp.st1;have h8:=hp.st2;clear h;go_enter Try.func118,Try.ntmps118;go_wp2
 all_goals
  go_end0
  go_light
  first
  | (rw [swing_eq (o:=true) (b:=true) (by first|(simp [Ch.Plant.openB, *];done)|(simp [Ch.Plant.openB, *];intros;omega))];exact ⟨rfl,(HP.out.set (q:={ p with hurt:=true }) 28 _ (by simp)).set 3 _ (by simp),((Kept.refl _ _).put 28 _).put 3 _⟩)
  | (rw [swing_eq (o:=true) (b:=p.hurt) (by first|(simp [Ch.Plant.openB, *];done)|(simp [Ch.Plant.openB, *];intros;omega))];exact ⟨rfl,HP.out.set 3 _ (by simp),(Kept.refl _ _).put 3 _⟩)
theorem rstep_99 {rb:Nat} {p:Ch.Plant} {w:World} (h:RPlantAt w rb p) (hp:p.WF) (hs:decide (0<p.stall)=false):
  Calls Try.prog 118 #[.pointer (some ⟨rb,0,none⟩),vb 99] w (RDid rb w (p.swing false) (.tuple #[])):=by
 obtain ⟨c0,c1,c2,c3,c4,c5,c6,c7,c8⟩:=h.cells;have hb:=cell_lt c1;have HP:=Lib.hid h;have fz:=block_free h.blk;have h1:=hp.ht1;have h2:=hp.ht2;have h3:=hp.lv1;have h4:=hp.lv2;have h5:=hp.ex1;have h6:=hp.ex2;have h7:=hp.st1;have h8:=hp.st2;clear h;go_enter Try.func118,Try.ntmps118;go_wp2
 all_goals
  go_end0
  go_light
  first
  | (rw [swing_eq (o:=false) (b:=true) (by first|(simp [Ch.Plant.openB, *];done)|(simp [Ch.Plant.openB, *];intros;omega))];exact ⟨rfl,(HP.out.set (q:={ p with hurt:=true }) 28 _ (by simp)).set 3 _ (by simp),((Kept.refl _ _).put 28 _).put 3 _⟩)
  | (rw [swing_eq (o:=false) (b:=p.hurt) (by first|(simp [Ch.Plant.openB, *];done)|(simp [Ch.Plant.openB, *];intros;omega))];exact ⟨rfl,HP.out.set 3 _ (by simp),(Kept.refl _ _).put 3 _⟩)
theorem rstep_110 {rb:Nat} {p:Ch.Plant} {w:World} (h:RPlantAt w rb p) (hp:p.WF) (hs:decide (0<p.stall)=false):
  Calls Try.prog 118 #[.pointer (some ⟨rb,0,none⟩),vb 110] w (RDid rb w (p.pass true) (.tuple #[])):=by
 obtain ⟨c0,c1,c2,c3,c4,c5,c6,c7,c8⟩:=h.cells;have hb:=cell_lt c1;have HP:=Lib.hid h;have fz:=block_free h.blk;have h1:=hp.ht1;have h2:=hp.ht2;have h3:=hp.lv1;have h4:=hp.lv2;have h5:=hp.ex1;have h6:=hp.ex2;have h7:=hp.st1;have h8:=hp.st2;clear h;go_enter Try.func118,Try.ntmps118;go_wp2
 all_goals
  go_end0
  go_light
  try simp only [bne_iff_ne,ne_eq,beq_iff_eq,beq_eq_false_iff_ne,bne_eq_false_iff_eq] at *
  first
  | (rw [pass_moved (by omega),(show (p.hurt || p.openB)=true by first|(simp [Ch.Plant.openB, *];done)|(simp [Ch.Plant.openB, *];intros;omega))];exact ⟨rfl,(HP.out.set (q:={ p with hurt:=true }) 28 _ (by simp)),((Kept.refl _ _).put 28 _)⟩)
  | (rw [pass_keeps_in (by omega) (by omega),(show (p.hurt || p.openB)=true by first|(simp [Ch.Plant.openB, *];done)|(simp [Ch.Plant.openB, *];intros;omega))];exact ⟨rfl,(HP.out.set (q:={ p with hurt:=true }) 28 _ (by simp)),((Kept.refl _ _).put 28 _)⟩)
  | (rw [pass_in (by omega) (by omega) (by omega),(show (p.hurt || p.openB)=true by first|(simp [Ch.Plant.openB, *];done)|(simp [Ch.Plant.openB, *];intros;omega))];exact ⟨rfl,(((HP.out.set (q:={ p with hurt:=true }) 28 _ (by simp))).set (q:={ p with hurt:=true,lift:=p.bay }) 5 _ (by simp)).set 6 _ (by simp),(((Kept.refl _ _).put 28 _).put 5 _).put 6 _⟩)
  | (rw [pass_moved (by omega),(show (p.hurt || p.openB)=p.hurt by first|(simp [Ch.Plant.openB, *];done)|(simp [Ch.Plant.openB, *];intros;omega))];exact ⟨rfl,HP.out,(Kept.refl _ _)⟩)
  | (rw [pass_keeps_in (by omega) (by omega),(show (p.hurt || p.openB)=p.hurt by first|(simp [Ch.Plant.openB, *];done)|(simp [Ch.Plant.openB, *];intros;omega))];exact ⟨rfl,HP.out,(Kept.refl _ _)⟩)
  | (rw [pass_in (by omega) (by omega) (by omega),(show (p.hurt || p.openB)=p.hurt by first|(simp [Ch.Plant.openB, *];done)|(simp [Ch.Plant.openB, *];intros;omega))];exact ⟨rfl,((HP.out).set (q:={ p with lift:=p.bay }) 5 _ (by simp)).set 6 _ (by simp),((Kept.refl _ _).put 5 _).put 6 _⟩)
theorem rstep_120 {rb:Nat} {p:Ch.Plant} {w:World} (h:RPlantAt w rb p) (hp:p.WF) (hs:decide (0<p.stall)=false):
  Calls Try.prog 118 #[.pointer (some ⟨rb,0,none⟩),vb 120] w (RDid rb w (p.pass false) (.tuple #[])):=by
 obtain ⟨c0,c1,c2,c3,c4,c5,c6,c7,c8⟩:=h.cells;have hb:=cell_lt c1;have HP:=Lib.hid h;have fz:=block_free h.blk;have h1:=hp.ht1;have h2:=hp.ht2;have h3:=hp.lv1;have h4:=hp.lv2;have h5:=hp.ex1;have h6:=hp.ex2;have h7:=hp.st1;have h8:=hp.st2;clear h;go_enter Try.func118,Try.ntmps118;go_wp2
 all_goals
  go_end0
  go_light
  try simp only [bne_iff_ne,ne_eq,beq_iff_eq,beq_eq_false_iff_ne,bne_eq_false_iff_eq] at *
  first
  | (rw [pass_moved (by omega),(show (p.hurt || p.openB)=true by first|(simp [Ch.Plant.openB, *];done)|(simp [Ch.Plant.openB, *];intros;omega))];exact ⟨rfl,(HP.out.set (q:={ p with hurt:=true }) 28 _ (by simp)),((Kept.refl _ _).put 28 _)⟩)
  | (rw [pass_keeps_out (by omega) (by omega),(show (p.hurt || p.openB)=true by first|(simp [Ch.Plant.openB, *];done)|(simp [Ch.Plant.openB, *];intros;omega))];exact ⟨rfl,(HP.out.set (q:={ p with hurt:=true }) 28 _ (by simp)),((Kept.refl _ _).put 28 _)⟩)
  | (rw [pass_out (by omega) (by omega) (by omega),(show (p.hurt || p.openB)=true by first|(simp [Ch.Plant.openB, *];done)|(simp [Ch.Plant.openB, *];intros;omega))];exact ⟨rfl,(((HP.out.set (q:={ p with hurt:=true }) 28 _ (by simp))).set (q:={ p with hurt:=true,bay:=p.lift }) 6 _ (by simp)).set 5 _ (by simp),(((Kept.refl _ _).put 28 _).put 6 _).put 5 _⟩)
  | (rw [pass_moved (by omega),(show (p.hurt || p.openB)=p.hurt by first|(simp [Ch.Plant.openB, *];done)|(simp [Ch.Plant.openB, *];intros;omega))];exact ⟨rfl,HP.out,(Kept.refl _ _)⟩)
  | (rw [pass_keeps_out (by omega) (by omega),(show (p.hurt || p.openB)=p.hurt by first|(simp [Ch.Plant.openB, *];done)|(simp [Ch.Plant.openB, *];intros;omega))];exact ⟨rfl,HP.out,(Kept.refl _ _)⟩)
  | (rw [pass_out (by omega) (by omega) (by omega),(show (p.hurt || p.openB)=p.hurt by first|(simp [Ch.Plant.openB, *];done)|(simp [Ch.Plant.openB, *];intros;omega))];exact ⟨rfl,((HP.out).set (q:={ p with bay:=p.lift }) 6 _ (by simp)).set 5 _ (by simp),((Kept.refl _ _).put 6 _).put 5 _⟩)
theorem rstep_108 {rb:Nat} {p:Ch.Plant} {w:World} (h:RPlantAt w rb p) (hp:p.WF) (hs:decide (0<p.stall)=false):
  Calls Try.prog 118 #[.pointer (some ⟨rb,0,none⟩),vb 108] w (RDid rb w (p.stretch (-1)) (.tuple #[])):=by
 obtain ⟨c0,c1,c2,c3,c4,c5,c6,c7,c8⟩:=h.cells;have hb:=cell_lt c1;have HP:=Lib.hid h;have fz:=block_free h.blk;have h1:=hp.ht1;have h2:=hp.ht2;have h3:=hp.lv1;have h4:=hp.lv2;have h5:=hp.ex1;have h6:=hp.ex2;have h7:=hp.st1;have h8:=hp.st2;clear h
 have h9:p.height≤12:=by omega
 obtain ⟨t,ht⟩:∃ t,p.ext - 1=t:=⟨_,rfl⟩
 have i5:IntKind.i64.wrap (p.ext - 1)=t:=by rw [←ht];exact IntWalk.i64_in _ (by omega)
 by_cases hr:t < -2∨2<t
 ·have HR:=Lib.hid hr
  have HS:Hid (p.stretch (-1)=p):=by unfold Hid Ch.Plant.stretch;rw [if_pos (by omega)]
  clear hr;go_enter Try.func118,Try.ntmps118;go_wp2_with fail
  all_goals
   first
   | (exfalso;have:=HR.out;omega)
   | (go_end0;rw [HS.out];exact ⟨rfl,HP.out.ext (by simp (maxDischargeDepth:=60)),Kept.of_ext (by simp (maxDischargeDepth:=60))⟩)
 ·have r1:-2≤t:=by omega
  have r2:t≤2:=by omega
  have HRR:=Lib.hid hr;clear hr
  cases hx:placeAt p.height (t) with
  | none=>
   have HX:=Lib.hid hx
   have HN:Hid ((p.place (t)).isNone=true):=by unfold Hid;rw [place_at,hx];rfl
   clear hx;go_enter Try.func118,Try.ntmps118;go_wp2_with (first|(go_at_call 151;(with_reducible refine (rplace_none _ _ _ _ (by assumption) (by omega) (by omega) (by omega) (by omega) HX.out).mono ?_);rintro e w1 ⟨rfl,o1,n1,rfl⟩)|(go_at_call 152;(with_reducible refine (rfull_any (HP.out.ext (by simp (maxDischargeDepth:=60))) hp _ (by omega) (by omega)).mono ?_);rintro e w1 ⟨rfl,o1,n1,rfl⟩))
   all_goals
    go_end0
    go_light;have hn':=HN.out;have hr':=HRR.out
    first
    | (rw [stretch_eq (n:=(-1)) (t:=t) (b:=true) (by omega) hr' (by first|(simp [*];done)|(simp [*];omega)|(rename_i hz;rcases hz with hz|hz <;> (simp [*];done)))];refine ⟨rfl,RPlantAt.set (RPlantAt.set (q:={ p with hurt:=true }) (HP.out.ext ?_) 28 _ (by simp)) 2 _ (by simp [*]),Kept.put (Kept.put (Kept.of_ext ?_) 28 _) 2 _⟩ <;> exact (by simp (maxDischargeDepth:=60)))
    | (rw [stretch_eq (n:=(-1)) (t:=t) (b:=p.hurt) (by omega) hr' (by first|(simp [*];done)|(simp [*];omega)|(rename_i hz;rcases hz with hz|hz <;> (simp [*];done)))];refine ⟨rfl,RPlantAt.set (HP.out.ext ?_) 2 _ (by simp [*]),Kept.put (Kept.of_ext ?_) 2 _⟩ <;> exact (by simp (maxDischargeDepth:=60)))
    | (trace_state;fail)
  | some x=>
   obtain ⟨a,b,c⟩:=x;have HX:=Lib.hid hx
   have HN:Hid ((p.place (t)).isNone=false):=by unfold Hid;rw [place_at,hx];rfl
   clear hx;go_enter Try.func118,Try.ntmps118;go_wp2_with (first|(go_at_call 151;(with_reducible refine (rplace_some _ _ _ a b c _ (by assumption) (by omega) (by omega) (by omega) (by omega) HX.out).mono ?_);rintro e w1 ⟨rfl,o1,n1,rfl⟩)|(go_at_call 152;(with_reducible refine (rfull_any (HP.out.ext (by simp (maxDischargeDepth:=60))) hp _ (by omega) (by omega)).mono ?_);rintro e w1 ⟨rfl,o1,n1,rfl⟩))
   all_goals
    go_end0
    go_light;have hn':=HN.out;have hr':=HRR.out
    first
    | (rw [stretch_eq (n:=(-1)) (t:=t) (b:=true) (by omega) hr' (by first|(simp [*];done)|(simp [*];omega)|(rename_i hz;rcases hz with hz|hz <;> (simp [*];done)))];refine ⟨rfl,RPlantAt.set (RPlantAt.set (q:={ p with hurt:=true }) (HP.out.ext ?_) 28 _ (by simp)) 2 _ (by simp [*]),Kept.put (Kept.put (Kept.of_ext ?_) 28 _) 2 _⟩ <;> exact (by simp (maxDischargeDepth:=60)))
    | (rw [stretch_eq (n:=(-1)) (t:=t) (b:=p.hurt) (by omega) hr' (by first|(simp [*];done)|(simp [*];omega)|(rename_i hz;rcases hz with hz|hz <;> (simp [*];done)))];refine ⟨rfl,RPlantAt.set (HP.out.ext ?_) 2 _ (by simp [*]),Kept.put (Kept.of_ext ?_) 2 _⟩ <;> exact (by simp (maxDischargeDepth:=60)))
    | (trace_state;fail)
theorem rstep_114 {rb:Nat} {p:Ch.Plant} {w:World} (h:RPlantAt w rb p) (hp:p.WF) (hs:decide (0<p.stall)=false):
  Calls Try.prog 118 #[.pointer (some ⟨rb,0,none⟩),vb 114] w (RDid rb w (p.stretch 1) (.tuple #[])):=by
 obtain ⟨c0,c1,c2,c3,c4,c5,c6,c7,c8⟩:=h.cells;have hb:=cell_lt c1;have HP:=Lib.hid h;have fz:=block_free h.blk;have h1:=hp.ht1;have h2:=hp.ht2;have h3:=hp.lv1;have h4:=hp.lv2;have h5:=hp.ex1;have h6:=hp.ex2;have h7:=hp.st1;have h8:=hp.st2;clear h
 have h9:p.height≤12:=by omega
 obtain ⟨t,ht⟩:∃ t,p.ext+1=t:=⟨_,rfl⟩
 have i5:IntKind.i64.wrap (p.ext+1)=t:=by rw [←ht];exact IntWalk.i64_in _ (by omega)
 by_cases hr:t < -2∨2<t
 ·have HR:=Lib.hid hr
  have HS:Hid (p.stretch 1=p):=by unfold Hid Ch.Plant.stretch;rw [if_pos (by omega)]
  clear hr;go_enter Try.func118,Try.ntmps118;go_wp2_with fail
  all_goals
   first
   | (exfalso;have:=HR.out;omega)
   | (go_end0;rw [HS.out];exact ⟨rfl,HP.out.ext (by simp (maxDischargeDepth:=60)),Kept.of_ext (by simp (maxDischargeDepth:=60))⟩)
 ·have r1:-2≤t:=by omega
  have r2:t≤2:=by omega
  have HRR:=Lib.hid hr;clear hr
  cases hx:placeAt p.height (t) with
  | none=>
   have HX:=Lib.hid hx
   have HN:Hid ((p.place (t)).isNone=true):=by unfold Hid;rw [place_at,hx];rfl
   clear hx;go_enter Try.func118,Try.ntmps118;go_wp2_with (first|(go_at_call 151;(with_reducible refine (rplace_none _ _ _ _ (by assumption) (by omega) (by omega) (by omega) (by omega) HX.out).mono ?_);rintro e w1 ⟨rfl,o1,n1,rfl⟩)|(go_at_call 152;(with_reducible refine (rfull_any (HP.out.ext (by simp (maxDischargeDepth:=60))) hp _ (by omega) (by omega)).mono ?_);rintro e w1 ⟨rfl,o1,n1,rfl⟩))
   all_goals
    go_end0
    go_light;have hn':=HN.out;have hr':=HRR.out
    first
    | (rw [stretch_eq (n:=1) (t:=t) (b:=true) (by omega) hr' (by first|(simp [*];done)|(simp [*];omega)|(rename_i hz;rcases hz with hz|hz <;> (simp [*];done)))];refine ⟨rfl,RPlantAt.set (RPlantAt.set (q:={ p with hurt:=true }) (HP.out.ext ?_) 28 _ (by simp)) 2 _ (by simp [*]),Kept.put (Kept.put (Kept.of_ext ?_) 28 _) 2 _⟩ <;> exact (by simp (maxDischargeDepth:=60)))
    | (rw [stretch_eq (n:=1) (t:=t) (b:=p.hurt) (by omega) hr' (by first|(simp [*];done)|(simp [*];omega)|(rename_i hz;rcases hz with hz|hz <;> (simp [*];done)))];refine ⟨rfl,RPlantAt.set (HP.out.ext ?_) 2 _ (by simp [*]),Kept.put (Kept.of_ext ?_) 2 _⟩ <;> exact (by simp (maxDischargeDepth:=60)))
    | (trace_state;fail)
  | some x=>
   obtain ⟨a,b,c⟩:=x;have HX:=Lib.hid hx
   have HN:Hid ((p.place (t)).isNone=false):=by unfold Hid;rw [place_at,hx];rfl
   clear hx;go_enter Try.func118,Try.ntmps118;go_wp2_with (first|(go_at_call 151;(with_reducible refine (rplace_some _ _ _ a b c _ (by assumption) (by omega) (by omega) (by omega) (by omega) HX.out).mono ?_);rintro e w1 ⟨rfl,o1,n1,rfl⟩)|(go_at_call 152;(with_reducible refine (rfull_any (HP.out.ext (by simp (maxDischargeDepth:=60))) hp _ (by omega) (by omega)).mono ?_);rintro e w1 ⟨rfl,o1,n1,rfl⟩))
   all_goals
    go_end0
    go_light;have hn':=HN.out;have hr':=HRR.out
    first
    | (rw [stretch_eq (n:=1) (t:=t) (b:=true) (by omega) hr' (by first|(simp [*];done)|(simp [*];omega)|(rename_i hz;rcases hz with hz|hz <;> (simp [*];done)))];refine ⟨rfl,RPlantAt.set (RPlantAt.set (q:={ p with hurt:=true }) (HP.out.ext ?_) 28 _ (by simp)) 2 _ (by simp [*]),Kept.put (Kept.put (Kept.of_ext ?_) 28 _) 2 _⟩ <;> exact (by simp (maxDischargeDepth:=60)))
    | (rw [stretch_eq (n:=1) (t:=t) (b:=p.hurt) (by omega) hr' (by first|(simp [*];done)|(simp [*];omega)|(rename_i hz;rcases hz with hz|hz <;> (simp [*];done)))];refine ⟨rfl,RPlantAt.set (HP.out.ext ?_) 2 _ (by simp [*]),Kept.put (Kept.of_ext ?_) 2 _⟩ <;> exact (by simp (maxDischargeDepth:=60)))
    | (trace_state;fail)
theorem rstep_103 {rb:Nat} {p:Ch.Plant} {w:World} (h:RPlantAt w rb p) (hp:p.WF) (hs:decide (0<p.stall)=false):
    Calls Try.prog 118 #[.pointer (some ⟨rb,0,none⟩),vb 103] w (RDid rb w (p.grab) (.tuple #[])):=by
  obtain ⟨c0,c1,c2,c3,c4,c5,c6,c7,c8⟩:=h.cells;have hb:=cell_lt c1;have HP:=Lib.hid h;have fz:=block_free h.blk;have h1:=hp.ht1;have h2:=hp.ht2;have h3:=hp.lv1;have h4:=hp.lv2;have h5:=hp.ex1;have h6:=hp.ex2;have h7:=hp.st1;have h8:=hp.st2;clear h
  have h9:p.height≤12:=by omega
  cases hx:placeAt p.height p.ext with
  | none=>
    have HX:=Lib.hid hx
    have HG:Hid (p.grab=p):=by unfold Hid;exact grab_none hx
    clear hx;go_enter Try.func118,Try.ntmps118;go_wp2_with (first|(go_at_call 151;(with_reducible refine (rplace_none _ _ _ _ (by assumption) (by omega) (by omega) (by omega) (by omega) HX.out).mono ?_);rintro e w1 ⟨rfl,o1,n1,rfl⟩))
    all_goals
      go_end0
      rw [HG.out];exact ⟨rfl,HP.out.ext (by simp (maxDischargeDepth:=60)),Kept.of_ext (by simp (maxDischargeDepth:=60))⟩
  | some x=>
    have hk:=Ch.placeFault_iff.1 (Ch.Plant.place_ok hp hx);obtain ⟨a,b,c⟩:=x;dsimp only at hk
    obtain ⟨a,rfl⟩:∃ n:Nat,a=n:=⟨a.toNat,by omega⟩
    obtain ⟨b,rfl⟩:∃ n:Nat,b=n:=⟨b.toNat,by omega⟩
    obtain ⟨c,rfl⟩:∃ n:Nat,c=n:=⟨c.toNat,by omega⟩
    have a4:a≤4:=by omega
    have b1:b≤1:=by omega
    have cc1:c≤1:=by omega
    have hs':=slotNat w HP.out a4 b1 cc1
    have j0:(0:Int)≤(a:Int):=by omega
    have j1:(a:Int)<5:=by omega
    have j2:(0:Int)≤(b:Int):=by omega
    have j3:(b:Int)<2:=by omega
    have j4:(0:Int)≤(c:Int):=by omega
    have j5:(c:Int)<2:=by omega
    have HX:=Lib.hid hx;clear hk
    by_cases hl:p.lift=0
    · have e1:(p.lift==0)=true:=by simpa using hl
      have HG:Hid (p.grab={ p with lift:=p.slots ⟨(a:Int),(b:Int),(c:Int)⟩,slots:=Ch.setSlot p.slots ⟨(a:Int),(b:Int),(c:Int)⟩ 0 }):=by unfold Hid;exact grab_all hx hl
      clear hx hl;go_enter Try.func118,Try.ntmps118
      go_upto_region 27 with (first|(go_at_call 151;(with_reducible refine (rplace_some _ _ _ (a:Int) (b:Int) (c:Int) _ (by assumption) (by omega) (by omega) (by omega) (by omega) HX.out).mono ?_);rintro e w1 ⟨rfl,o1,n1,rfl⟩))
      all_goals
       (refine wp_region_ext (by kernel_rfl) (by kernel_rfl) ?_;(repeat (first|go_big_quiet_step (fail)|quiet_step (fail)));refine wpQuiet_nil ?_;intro _ hw';obtain ⟨oq,nq,hw''⟩:=hw';subst hw'')
       go_wp2
       go_end0
       rw [HG.out];exact ⟨rfl,((RPlantAt.set (q:={ p with lift:=p.slots ⟨(a:Int),(b:Int),(c:Int)⟩ }) (HP.out.ext (by simp (maxDischargeDepth:=60))) 5 _ (by simp)).set (7+a * 4+b * 2+c) _ (slot_set { p with lift:=p.slots ⟨(a:Int),(b:Int),(c:Int)⟩ } a4 b1 cc1 0)),Kept.put (Kept.put (Kept.of_ext (by simp (maxDischargeDepth:=60))) 5 _) _ _⟩
    · have e1:(p.lift==0)=false:=by simpa using hl
      have HG:Hid (p.grab=p):=by unfold Hid;exact grab_not HX.out (Or.inl hl)
      clear hx hl;go_enter Try.func118,Try.ntmps118
      go_upto_region 27 with (first|(go_at_call 151;(with_reducible refine (rplace_some _ _ _ (a:Int) (b:Int) (c:Int) _ (by assumption) (by omega) (by omega) (by omega) (by omega) HX.out).mono ?_);rintro e w1 ⟨rfl,o1,n1,rfl⟩))
      all_goals
       (refine wp_region_ext (by kernel_rfl) (by kernel_rfl) ?_;(repeat (first|go_big_quiet_step (fail)|quiet_step (fail)));refine wpQuiet_nil ?_;intro _ hw';obtain ⟨oq,nq,hw''⟩:=hw';subst hw'')
       go_wp2
       go_end0
       rw [HG.out];exact ⟨rfl,HP.out.ext (by simp (maxDischargeDepth:=60)),Kept.of_ext (by simp (maxDischargeDepth:=60))⟩
theorem rstep_112 {rb:Nat} {p:Ch.Plant} {w:World} (h:RPlantAt w rb p) (hp:p.WF) (hs:decide (0<p.stall)=false):
    Calls Try.prog 118 #[.pointer (some ⟨rb,0,none⟩),vb 112] w (RDid rb w (p.put) (.tuple #[])):=by
  obtain ⟨c0,c1,c2,c3,c4,c5,c6,c7,c8⟩:=h.cells;have hb:=cell_lt c1;have HP:=Lib.hid h;have fz:=block_free h.blk;have h1:=hp.ht1;have h2:=hp.ht2;have h3:=hp.lv1;have h4:=hp.lv2;have h5:=hp.ex1;have h6:=hp.ex2;have h7:=hp.st1;have h8:=hp.st2;clear h
  have h9:p.height≤12:=by omega
  cases hx:placeAt p.height p.ext with
  | none=>
    have HX:=Lib.hid hx
    have HG:Hid (p.put=p):=by unfold Hid;exact put_none hx
    clear hx;go_enter Try.func118,Try.ntmps118;go_wp2_with (first|(go_at_call 151;(with_reducible refine (rplace_none _ _ _ _ (by assumption) (by omega) (by omega) (by omega) (by omega) HX.out).mono ?_);rintro e w1 ⟨rfl,o1,n1,rfl⟩))
    all_goals
      go_end0
      rw [HG.out];exact ⟨rfl,HP.out.ext (by simp (maxDischargeDepth:=60)),Kept.of_ext (by simp (maxDischargeDepth:=60))⟩
  | some x=>
    have hk:=Ch.placeFault_iff.1 (Ch.Plant.place_ok hp hx);obtain ⟨a,b,c⟩:=x;dsimp only at hk
    obtain ⟨a,rfl⟩:∃ n:Nat,a=n:=⟨a.toNat,by omega⟩
    obtain ⟨b,rfl⟩:∃ n:Nat,b=n:=⟨b.toNat,by omega⟩
    obtain ⟨c,rfl⟩:∃ n:Nat,c=n:=⟨c.toNat,by omega⟩
    have a4:a≤4:=by omega
    have b1:b≤1:=by omega
    have cc1:c≤1:=by omega
    have hs':=slotNat w HP.out a4 b1 cc1
    have j0:(0:Int)≤(a:Int):=by omega
    have j1:(a:Int)<5:=by omega
    have j2:(0:Int)≤(b:Int):=by omega
    have j3:(b:Int)<2:=by omega
    have j4:(0:Int)≤(c:Int):=by omega
    have j5:(c:Int)<2:=by omega
    have HX:=Lib.hid hx;clear hk
    by_cases hl:p.slots ⟨(a:Int),(b:Int),(c:Int)⟩=0
    · have e1:(p.slots ⟨(a:Int),(b:Int),(c:Int)⟩==0)=true:=by simpa using hl
      have HG:Hid (p.put={ p with slots:=Ch.setSlot p.slots ⟨(a:Int),(b:Int),(c:Int)⟩ p.lift,lift:=0 }):=by unfold Hid;exact put_all hx hl
      clear hx hl;go_enter Try.func118,Try.ntmps118
      go_upto_region 27 with (first|(go_at_call 151;(with_reducible refine (rplace_some _ _ _ (a:Int) (b:Int) (c:Int) _ (by assumption) (by omega) (by omega) (by omega) (by omega) HX.out).mono ?_);rintro e w1 ⟨rfl,o1,n1,rfl⟩))
      all_goals
       (refine wp_region_ext (by kernel_rfl) (by kernel_rfl) ?_;(repeat (first|go_big_quiet_step (fail)|quiet_step (fail)));refine wpQuiet_nil ?_;intro _ hw';obtain ⟨oq,nq,hw''⟩:=hw';subst hw'')
       go_wp2
       go_end0
       rw [HG.out];exact ⟨rfl,((RPlantAt.set (q:={ p with slots:=Ch.setSlot p.slots ⟨(a:Int),(b:Int),(c:Int)⟩ p.lift }) (HP.out.ext (by simp (maxDischargeDepth:=60))) (7+a * 4+b * 2+c) _ (slot_set p a4 b1 cc1 p.lift)).set 5 _ (by simp)),Kept.put (Kept.put (Kept.of_ext (by simp (maxDischargeDepth:=60))) _ _) 5 _⟩
    · have e1:(p.slots ⟨(a:Int),(b:Int),(c:Int)⟩==0)=false:=by simpa using hl
      have HG:Hid (p.put=p):=by unfold Hid;exact put_not HX.out (Or.inr hl)
      clear hx hl;go_enter Try.func118,Try.ntmps118
      go_upto_region 27 with (first|(go_at_call 151;(with_reducible refine (rplace_some _ _ _ (a:Int) (b:Int) (c:Int) _ (by assumption) (by omega) (by omega) (by omega) (by omega) HX.out).mono ?_);rintro e w1 ⟨rfl,o1,n1,rfl⟩))
      all_goals
       (refine wp_region_ext (by kernel_rfl) (by kernel_rfl) ?_;(repeat (first|go_big_quiet_step (fail)|quiet_step (fail)));refine wpQuiet_nil ?_;intro _ hw';obtain ⟨oq,nq,hw''⟩:=hw';subst hw'')
       go_wp2
       go_end0
       rw [HG.out];exact ⟨rfl,HP.out.ext (by simp (maxDischargeDepth:=60)),Kept.of_ext (by simp (maxDischargeDepth:=60))⟩
theorem rstep_none {rb:Nat} {p:Ch.Plant} {w:World} (h:RPlantAt w rb p) (hp:p.WF) (hs:decide (0<p.stall)=false) (c:Int) (h117:(c==117)=false) (h100:(c==100)=false) (h108:(c==108)=false) (h114:(c==114)=false) (h103:(c==103)=false) (h112:(c==112)=false) (h111:(c==111)=false) (h99:(c==99)=false) (h110:(c==110)=false) (h120:(c==120)=false):
  Calls Try.prog 118 #[.pointer (some ⟨rb,0,none⟩),vb c] w (RDid rb w p (.tuple #[])):=by
 obtain ⟨c0,c1,c2,c3,c4,c5,c6,c7,c8⟩:=h.cells;have hb:=cell_lt c1;have HP:=Lib.hid h;have fz:=block_free h.blk;have h1:=hp.ht1;have h2:=hp.ht2;have h3:=hp.lv1;have h4:=hp.lv2;have h5:=hp.ex1;have h6:=hp.ex2;have h7:=hp.st1;have h8:=hp.st2;clear h;go_enter Try.func118,Try.ntmps118;go_wp2
 all_goals
  go_end0
  exact ⟨rfl,HP.out,Kept.refl _ _⟩
theorem rstep_rest {rb:Nat} {p:Ch.Plant} {w:World} (h:RPlantAt w rb p) (hp:p.WF):
  Calls Try.prog 118 #[.pointer (some ⟨rb,0,none⟩),vb 45] w (RDid rb w p (.tuple #[])):=by
 obtain ⟨c0,c1,c2,c3,c4,c5,c6,c7,c8⟩:=h.cells;have hb:=cell_lt c1;have HP:=Lib.hid h;have fz:=block_free h.blk;have h1:=hp.ht1;have h2:=hp.ht2;have h3:=hp.lv1;have h4:=hp.lv2;have h5:=hp.ex1;have h6:=hp.ex2;have h7:=hp.st1;have h8:=hp.st2;clear h;go_enter Try.func118,Try.ntmps118;go_wp2
 all_goals
  go_end0
  exact ⟨rfl,HP.out,Kept.refl _ _⟩
theorem rstep_stalled {rb:Nat} {p:Ch.Plant} {w:World} (h:RPlantAt w rb p) (hp:p.WF) (c:Int) (hs:0<p.stall) (hc:(c==45)=false):
  Calls Try.prog 118 #[.pointer (some ⟨rb,0,none⟩),vb c] w (RDid rb w { p with stall:=p.stall - 1 } (.tuple #[])):=by
 obtain ⟨c0,c1,c2,c3,c4,c5,c6,c7,c8⟩:=h.cells;have hb:=cell_lt c1;have HP:=Lib.hid h;have fz:=block_free h.blk;have h1:=hp.ht1;have h2:=hp.ht2;have h3:=hp.lv1;have h4:=hp.lv2;have h5:=hp.ex1;have h6:=hp.ex2;have h7:=hp.st1;have h8:=hp.st2;clear h
 have hc':(c != 45)=true:=by simpa using hc
 have i1:IntKind.i64.wrap (p.stall - 1)=p.stall - 1:=IntWalk.i64_in _ (by omega);go_enter Try.func118,Try.ntmps118;go_wp2
 go_end0
 exact ⟨rfl,HP.out.set 27 _ (by simp),(Kept.refl _ _).put 27 _⟩
theorem rstep_any {rb:Nat} {p:Ch.Plant} {w:World} (h:RPlantAt w rb p) (hp:p.WF) (c:Int):
  Calls Try.prog 118 #[.pointer (some ⟨rb,0,none⟩),vb c] w (RDid rb w (p.step c) (.tuple #[])):=by
 by_cases h45:c=45
 ·subst h45
  have:p.step 45=p:=by unfold Ch.Plant.step;rw [if_neg (by simp)];rfl
  rw [this];exact rstep_rest h hp
 by_cases hs:0<p.stall
 ·have:p.step c={ p with stall:=p.stall - 1 }:=by unfold Ch.Plant.step;rw [if_pos ⟨hs,h45⟩]
  rw [this];exact rstep_stalled h hp c hs (by simpa using h45)
 have hd:decide (0<p.stall)=false:=by simpa using hs
 have:p.step c=p.act c:=by unfold Ch.Plant.step;rw [if_neg (by omega)]
 rw [this]
 by_cases h117:c=117
 ·subst h117;exact rstep_117 h hp hd
 by_cases h100:c=100
 ·subst h100;exact rstep_100 h hp hd
 by_cases h108:c=108
 ·subst h108;exact rstep_108 h hp hd
 by_cases h114:c=114
 ·subst h114;exact rstep_114 h hp hd
 by_cases h103:c=103
 ·subst h103;exact rstep_103 h hp hd
 by_cases h112:c=112
 ·subst h112;exact rstep_112 h hp hd
 by_cases h111:c=111
 ·subst h111;exact rstep_111 h hp hd
 by_cases h99:c=99
 ·subst h99;exact rstep_99 h hp hd
 by_cases h110:c=110
 ·subst h110;exact rstep_110 h hp hd
 by_cases h120:c=120
 ·subst h120;exact rstep_120 h hp hd
 have:p.act c=p:=by
  unfold Ch.Plant.act;rw [if_neg h117,if_neg h100,if_neg h108,if_neg h114,if_neg h103,if_neg h112,if_neg h111,if_neg h99,if_neg h110,if_neg h120]
 rw [this];exact rstep_none h hp hd c (by simpa using h117) (by simpa using h100) (by simpa using h108) (by simpa using h114) (by simpa using h103) (by simpa using h112) (by simpa using h111) (by simpa using h99) (by simpa using h110) (by simpa using h120)
theorem rhas_at (hh:Bool) {rb:Nat} {p:Ch.Plant} {w:World} (h:RPlantAt w rb p) (hp:p.WF) (id:Int) (he:Hid (p.has id=hh)):
  Calls Try.prog 83 #[.pointer (some ⟨rb,0,none⟩),vi id] w fun e w'=>e = .returned (.bool hh)∧Ext w w':=by
 obtain ⟨c0,c1,c2,c3,c4,c5,c6,c7,c8⟩:=h.cells;have hb:=cell_lt c1;have HP:=Lib.hid h;clear h
 obtain ⟨x0,x1,x2,bb,HV⟩:∃ x0 x1 x2 bb,Hid (whereV (p.where_ id) = .tuple #[.agg #[vi x0,vi x1,vi x2],.bool bb]):=⟨_,_,_,_,rfl⟩
 have HB:Hid ((bb || p.lift==id || p.bay==id)=hh):=by
  have e:=HV.out;unfold whereV at e;simp only [Value.tuple.injEq,Array.mk.injEq,List.cons.injEq,Value.bool.injEq] at e;unfold Hid;rw [←he.out,Ch.has_where,e.2.1]
 cases bb
 all_goals
  go_enter Try.func83,Try.ntmps83;go_wp2_with (go_at_call 81;(with_reducible refine (rwhere_any (HP.out.ext (by simp (maxDischargeDepth:=60))) hp _).mono ?_);rintro e w1 ⟨he1,o1,n1,rfl⟩;rw [HV.out] at he1;subst he1)
  all_goals
   go_ret;go_light;exact ⟨by rw [←HB.out];simp [*],(by simp (maxDischargeDepth:=60))⟩
theorem rarrive_any {rb:Nat} {p:Ch.Plant} {w:World} (h:RPlantAt w rb p) (hp:p.WF) (n:Int):
  Calls Try.prog 121 #[.pointer (some ⟨rb,0,none⟩),vi n] w (RDid rb w (p.arrive n).1 (vi (p.arrive n).2)):=by
 obtain ⟨c0,c1,c2,c3,c4,c5,c6,c7,c8⟩:=h.cells;have hb:=cell_lt c1;have HP:=Lib.hid h;have fz:=block_free h.blk;clear h
 by_cases hr:n<1∨999<n
 ·have HL:Hid (p.arrive n=(p,1)):=by unfold Hid Ch.Plant.arrive;rw [if_pos hr]
  have HR:=Lib.hid hr;clear hr;go_enter Try.func121,Try.ntmps121;go_wp2
  all_goals
   first
   | (exfalso;have:=HR.out;omega)
   | (go_ret;rw [HL.out];exact ⟨rfl,HP.out,Kept.refl _ _⟩)
 ·have r1:1≤n:=by omega
  have r2:n≤999:=by omega
  by_cases hd:p.door=false∨p.bay≠0
  ·have HL:Hid (p.arrive n=(p,7)):=by unfold Hid Ch.Plant.arrive;rw [if_neg hr,if_pos hd]
   have HD:=Lib.hid hd;clear hr hd;go_enter Try.func121,Try.ntmps121;go_wp2_with fail
   all_goals
    first
    | (go_ret;rw [HL.out];exact ⟨rfl,HP.out,Kept.refl _ _⟩)
    | (exfalso;have:=HD.out;simp_all;done)
  ·have hd1:p.door=true:=by cases hq:p.door;exact absurd (Or.inl hq) hd;rfl
   have hd2:(p.bay != 0)=false:=by simpa using (fun e=>hd (Or.inr e))
   rw [hd1] at c3;cases hh:p.has n
   ·have HL:Hid (p.arrive n=({ p with bay:=n },0)):=by unfold Hid Ch.Plant.arrive;rw [if_neg hr,if_neg hd,if_neg (by rw [hh];simp)]
    have HH:=Lib.hid hh;clear hr hd hh hd1;go_enter Try.func121,Try.ntmps121;go_wp2_with (go_at_call 83;(with_reducible refine (rhas_at false (HP.out.ext (by simp (maxDischargeDepth:=60))) hp _ HH).mono ?_);rintro e w1 ⟨rfl,o1,n1,rfl⟩);go_ret;rw [HL.out];exact ⟨rfl,(HP.out.ext (by simp (maxDischargeDepth:=60))).set 6 _ (by simp),Kept.put (Kept.of_ext (by simp (maxDischargeDepth:=60))) 6 _⟩
   ·have HL:Hid (p.arrive n=(p,6)):=by unfold Hid Ch.Plant.arrive;rw [if_neg hr,if_neg hd,if_pos hh]
    have HH:=Lib.hid hh;clear hr hd hh hd1;go_enter Try.func121,Try.ntmps121;go_wp2_with (go_at_call 83;(with_reducible refine (rhas_at true (HP.out.ext (by simp (maxDischargeDepth:=60))) hp _ HH).mono ?_);rintro e w1 ⟨rfl,o1,n1,rfl⟩);go_ret;rw [HL.out];exact ⟨rfl,HP.out.ext (by simp (maxDischargeDepth:=60)),Kept.of_ext (by simp (maxDischargeDepth:=60))⟩
theorem find_car {c:Int} {l:List Ch.Stay} (h0:∀ s∈l,s.ticket≠0):l.find? (stayOfP 0 c)=l.find? (fun s=>s.car.id==c):=by
 induction l with
 | nil=>rfl
 | cons x l ih=>
  rw [List.find?_cons,List.find?_cons,ih (fun s hs=>h0 s (by simp [hs]))]
  have:stayOfP 0 c x=(x.car.id==c):=by
   unfold stayOfP;have h1:=h0 x (by simp)
   have:(x.ticket==0)=false:=by simpa using h1
   rw [this];simp
  rw [this]
theorem refCar_none (last c:Int) (a1:Option Addr) (m1 c1:Nat) (a2:Option Addr) (m2 c2:Nat) (l:List Ch.Stay) (js:List Ch.Job) (w:World) (h:Sl w 8 stayCells l a1 m1 c1) (h0:Hid (∀ s∈l,s.ticket≠0)) (ho:Hid ((⟨last,l,js⟩:Ch.Book).of c=none)):
  Calls Try.prog 107 #[bookA last a1 m1 c1 a2 m2 c2,vi 0,vi c] w fun e w'=>e = .returned (.tuple #[.agg #[vi 0,vi 0,vi 0,vi 0,vi 0,vi 0,vi 0,vi 0],.bool false])∧Ext w w':=by
 have:=stayOf_any last 0 c a1 m1 c1 a2 m2 c2 l w h;have e:l.find? (fun s=>s.car.id==c)=none:=ho.out;rw [find_car h0.out,e] at this;exact this
theorem refCar_some (xt xi x1 x2 x3 u1 u2 u3:Int) (last c:Int) (a1:Option Addr) (m1 c1:Nat) (a2:Option Addr) (m2 c2:Nat) (l:List Ch.Stay) (js:List Ch.Job) (w:World) (h:Sl w 8 stayCells l a1 m1 c1) (h0:Hid (∀ s∈l,s.ticket≠0)) (ho:Hid ((⟨last,l,js⟩:Ch.Book).of c=some ⟨xt,⟨xi,⟨x1,x2,x3⟩⟩,⟨u1,u2,u3⟩⟩)):
  Calls Try.prog 107 #[bookA last a1 m1 c1 a2 m2 c2,vi 0,vi c] w fun e w'=>e = .returned (.tuple #[.agg #[vi xt,vi xi,vi x1,vi x2,vi x3,vi u1,vi u2,vi u3],.bool true])∧Ext w w':=by
 have:=stayOf_any last 0 c a1 m1 c1 a2 m2 c2 l w h;have e:l.find? (fun s=>s.car.id==c)=_:=ho.out;rw [find_car h0.out,e] at this;exact this
theorem rthere_f (a b c k:Int) (w:World) (h0:0≤c) (h1:c≤1) (h2:1≤a) (h3:a≤4):Calls Try.prog 22 #[.agg #[vi a,vi b,vi c],vi k] w (NewGoals w (Ch.there ⟨a,b,c⟩ k)):=rthere_any ⟨a,b,c⟩ k w h0 h1 h2 h3
theorem rdone_val (B:Ch.Book) (last jt:Int) (jf gone:Bool) (a1:Option Addr) (m1 c1:Nat) (a2:Option Addr) (m2 c2:Nat) (l:List Ch.Stay) (js:List Ch.Job) (w:World)
  (h:Sl w 8 stayCells l a1 m1 c1) (h2:Sl w 2 jobCells js a2 m2 c2) (hm1:m1≤100) (hm2:m2≤100) (hv:Hid (Ch.doneWith ⟨last,l,js⟩ ⟨jt,jf⟩ gone=B)):
  Calls Try.prog 74 #[bookA last a1 m1 c1 a2 m2 c2,.agg #[vi jt,.bool jf],.bool gone] w (NewBook w B (fun b=>b)):=by
 have:=rdone_any last jt jf gone a1 m1 c1 a2 m2 c2 l js w h h2 hm1 hm2;rw [hv.out] at this;exact this
theorem rwhere_val (V:Value) {rb:Nat} {p:Ch.Plant} {w:World} (h:RPlantAt w rb p) (hp:p.WF) (id:Int) (hv:Hid (whereV (p.where_ id)=V)):
  Calls Try.prog 81 #[.pointer (some ⟨rb,0,none⟩),vi id] w fun e w'=>e = .returned V∧Ext w w':=by
 have:=rwhere_any h hp id;rw [hv.out] at this;exact this
theorem rplace_ok {a b c L:Int} (h:Ch.placeFault ⟨a,b,c⟩ L=0) (hL:L≤4):1≤a∧a≤4∧0≤b∧b≤1∧0≤c∧c≤1:=by
 unfold Ch.placeFault at h;dsimp only at h
 split at h
 ·cases h
 ·omega
theorem rturn_lift {b:Ch.Book} {n:Int} {p:Ch.Plant} (h:¬ p.lift=0):Ch.turnOf b n p=(Ch.loaded b n p,none):=by
 unfold Ch.turnOf;rw [if_pos h]
theorem rfirst_mem {last jt ba:Int} {jf is:Bool} {l:List Ch.Stay} {js:List Ch.Job} (hj:Hid (∀ j∈js,∃ s∈l,s.ticket=j.ticket)) (hf:firstT (Ch.firstJob ⟨last,l,js⟩ ba)=(jt,jf,is)):is=true→∃ s∈l,s.ticket=jt:=by
 intro hi
 cases hfj:Ch.firstJob ⟨last,l,js⟩ ba with
 | none=>rw [hfj] at hf;simp only [firstT,Prod.mk.injEq] at hf;rw [hi] at hf;simp at hf
 | some j=>
  rw [hfj] at hf;simp only [firstT,Prod.mk.injEq] at hf;rw [←hf.1];exact hj.out j (Ch.first_mem hfj).1
theorem rloaded_is {last n jt li ba sv:Int} {jf is g V:Bool} {l:List Ch.Stay} {js:List Ch.Job} {p:Ch.Plant} {x:Ch.Stay} (hl:p.lift=li) (hb:p.bay=ba) (ho:(⟨last,l,js⟩:Ch.Book).of li=some x)
  (hf:firstT (Ch.firstJob ⟨last,l,js⟩ ba)=(jt,jf,is)) (hg:(is&&jf&&jt==x.ticket&&ba==0)=g) (hs:p.slots ⟨x.home.level,x.home.side,0⟩=sv) (hv:Ch.blocks ⟨last,l,js⟩ p x ⟨jt,jf⟩=V):
  Ch.loaded ⟨last,l,js⟩ n p=if g then Ch.giveOut else if (x.home.depth==1&&sv != 0) || (is&&V) then Ch.there ⟨n,1,0⟩ 4 else Ch.there x.home 4:=by
 have hs':p.slots (Ch.front x.home)=sv:=hs;unfold Ch.loaded;rw [hl,ho];dsimp only;rw [hb,hs']
 cases hj:Ch.firstJob ⟨last,l,js⟩ ba with
 | none=>
  rw [hj] at hf;simp only [firstT,Prod.mk.injEq] at hf;obtain ⟨rfl,rfl,rfl⟩:=hf;subst hg;simp [Ch.bring,Ch.spare]
 | some j=>
  rw [hj] at hf;simp only [firstT,Prod.mk.injEq] at hf;obtain ⟨rfl,rfl,rfl⟩:=hf;dsimp only;rw [hv];simp only [Bool.true_and] at hg;rw [hg];simp [Ch.bring,Ch.spare]
end Go.Proofs.Ytplomeacjbkgnaa
