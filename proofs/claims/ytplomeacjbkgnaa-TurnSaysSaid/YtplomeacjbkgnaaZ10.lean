import Derived.Test.YtplomeacjbkgnaaZ09
set_option linter.all false
set_option maxRecDepth 100000
set_option maxHeartbeats 16000000
namespace Go.Proofs.Ytplomeacjbkgnaa
open Go.RowKit
theorem put3 {w a:World} {R:Nat} {x y z x' y' z':Value} (hx:Ext w a) (hR:w.heap.size≤R) (c0:a.cell? ⟨R,0,none⟩=some x') (c1:a.cell? ⟨R,1,none⟩=some y') (c2:a.cell? ⟨R,2,none⟩=some z'):
  (((a.setCell ⟨R,0,none⟩ x).setCell ⟨R,1,none⟩ y).setCell ⟨R,2,none⟩ z).cell? ⟨R,0,none⟩=some x∧(((a.setCell ⟨R,0,none⟩ x).setCell ⟨R,1,none⟩ y).setCell ⟨R,2,none⟩ z).cell? ⟨R,1,none⟩=some y ∧
  (((a.setCell ⟨R,0,none⟩ x).setCell ⟨R,1,none⟩ y).setCell ⟨R,2,none⟩ z).cell? ⟨R,2,none⟩=some z∧Ext w (((a.setCell ⟨R,0,none⟩ x).setCell ⟨R,1,none⟩ y).setCell ⟨R,2,none⟩ z):=by
 have n01:(⟨R,0,none⟩:Addr)≠⟨R,1,none⟩:=by intro e;cases e
 have n02:(⟨R,0,none⟩:Addr)≠⟨R,2,none⟩:=by intro e;cases e
 have n12:(⟨R,1,none⟩:Addr)≠⟨R,2,none⟩:=by intro e;cases e
 refine ⟨?_,?_,?_,?_⟩
 ·rw [World.cell?_setCell_other (h:=n02.symm),World.cell?_setCell_other (h:=n01.symm),World.cell?_setCell_same (h:=c0)]
 ·rw [World.cell?_setCell_other (h:=n12.symm),World.cell?_setCell_same (h:=(show (a.setCell ⟨R,0,none⟩ x).cell? ⟨R,1,none⟩=some y' by rw [World.cell?_setCell_other (h:=n01)];exact c1))]
 ·rw [World.cell?_setCell_same (h:=(show ((a.setCell ⟨R,0,none⟩ x).setCell ⟨R,1,none⟩ y).cell? ⟨R,2,none⟩=some z' by rw [World.cell?_setCell_other (h:=n12),World.cell?_setCell_other (h:=n02)];exact c2))]
 ·exact Ext.of_below (below_kept (S:=fun i=>w.heap.size≤i) (Ext.refl w).below (Nat.le_refl _) ((((Kept.of_ext hx).setCell (Or.inl hR) _).setCell (Or.inl hR) _).setCell (Or.inl hR) _) (fun _ h=>h))
end Go.Proofs.Ytplomeacjbkgnaa
