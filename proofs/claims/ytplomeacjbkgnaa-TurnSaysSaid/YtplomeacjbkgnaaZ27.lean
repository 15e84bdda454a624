import Derived.Test.YtplomeacjbkgnaaZ26
import Derived.Test.YtplomeacjbkgnaaZ05
set_option linter.all false
set_option maxRecDepth 100000
set_option maxHeartbeats 16000000
namespace Go.Proofs.Ytplomeacjbkgnaa
open Go.RowKit
variable {H:Type} {enc:TypeId×Value→H} {w:World}
theorem rd_book {cs:List Value} (h:Rd enc Try.prog w 76 cs):∃ last a1 n1 c1 a2 n2 c2 l js,cs=[vi last,.slice a1 n1 c1,.slice a2 n2 c2]∧Sl w 8 stayCells l a1 n1 c1∧Sl w 2 jobCells js a2 n2 c2∧I64 last∧(∀ s∈l,I64Y s)∧∀ j∈js,I64J j:=by
 obtain ⟨hl,hf⟩:=rd_struct [(3,0,1),(73,1,1),(74,2,1)] 3 (by kernel_rfl) (by kernel_rfl) (by kernel_rfl) h;obtain ⟨last,h0,g0⟩:=rd_int Try.underlying3 (hf (3,0,1) (by simp));obtain ⟨l,a1,n1,c1,h1,s1,g1⟩:=rd_list (c:=8) stayCells I64Y (by decide) (fun _=>rfl) Try.underlying73 (by kernel_rfl) (fun ecs h=>rd_stay h) (hf (73,1,1) (by simp));obtain ⟨js,a2,n2,c2,h2,s2,g2⟩:=rd_list (c:=2) jobCells I64J (by decide) (fun _=>rfl) Try.underlying74 (by kernel_rfl) (fun ecs h=>rd_job h) (hf (74,2,1) (by simp));refine ⟨last,a1,n1,c1,a2,n2,c2,l,js,?_,s1,s2,g0,g1,g2⟩
 match cs,hl with
 | [x0,x1,x2],_=>simp at h0 h1 h2;simp [h0,h1,h2]
end Go.Proofs.Ytplomeacjbkgnaa
namespace Go.Proofs.Ytplomeacjbkgnaa
open Go.RowKit
theorem sameBook_yes (last:Int) (a1:Option Addr) (n1 c1:Nat) (a2:Option Addr) (n2 c2:Nat) (b1:Option Addr) (d1:Nat) (b2:Option Addr) (d2:Nat) (l:List Ch.Stay) (js:List Ch.Job) (w:World)
  (h1:Sl w 8 stayCells l a1 n1 c1) (h2:Sl w 2 jobCells js a2 n2 c2) (h3:Sl w 8 stayCells l b1 n1 d1) (h4:Sl w 2 jobCells js b2 n2 d2):
  Calls Try.prog 70 #[bookA last a1 n1 c1 a2 n2 c2,bookA last b1 n1 d1 b2 n2 d2] w fun e w'=>e = .returned (.bool true)∧Ext w w':=by
 have q1:=h1.bound;have q2:=h2.bound;have q3:=h3.bound;have q4:=h4.bound;have F1:=Lib.hid h1;have F2:=Lib.hid h2;have F3:=Lib.hid h3;have F4:=Lib.hid h4;clear h1 h2 h3 h4;go_enter Try.func70,Try.ntmps70
 go_upto_region 3 with fail
 generalize hW:World.alloc _ _=w0
 have k0:w0.cell? ⟨w.heap.size,0,none⟩=some (vi last):=by rw [←hW];simp [go_sem]
 have k1:w0.cell? ⟨w.heap.size,1,none⟩=some (.slice a1 n1 c1):=by rw [←hW];simp [go_sem]
 have k2:w0.cell? ⟨w.heap.size,2,none⟩=some (.slice a2 n2 c2):=by rw [←hW];simp [go_sem]
 have m0:w0.cell? ⟨w.heap.size+1,0,none⟩=some (vi last):=by rw [←hW];simp [go_sem]
 have m1:w0.cell? ⟨w.heap.size+1,1,none⟩=some (.slice b1 n1 d1):=by rw [←hW];simp [go_sem]
 have m2:w0.cell? ⟨w.heap.size+1,2,none⟩=some (.slice b2 n2 d2):=by rw [←hW];simp [go_sem]
 have hx:Ext w w0:=by rw [←hW];exact (by simp (maxDischargeDepth:=60))
 have HX:=Lib.hid hx;have G1:=Lib.hid (Sl.below F1.out hx.below);have G2:=Lib.hid (Sl.below F2.out hx.below);have G3:=Lib.hid (Sl.below F3.out hx.below);have G4:=Lib.hid (Sl.below F4.out hx.below);have z1:=cell_lt k0;have z2:=cell_lt m0;clear hW hx F1 F2 F3 F4;go_wp2
 go_loopw [5] (fun i wr=>∃ k:Nat,k≤n1∧i = .int .i64 k∧Ext w0 wr) (fun i _=>n1 - (intOf i).toNat)
 case atStart=>exact ⟨0,by omega,rfl,(by simp (maxDischargeDepth:=60))⟩
 case round=>
  obtain ⟨k,hk,rfl,o,m,rfl⟩:=hrel
  by_cases hlt:k<n1
  ·obtain ⟨p1,o1,u1,rfl,x1,g1⟩:=G1.out.get hlt
   obtain ⟨p2,o2,u2,rfl,x2,g2⟩:=G3.out.get hlt;obtain rfl:u1=u2:=Option.some.inj (x1.symm.trans x2);have d1:=at8 g1;have d2:=at8 g2;have y1:=cell_lt d1.1;have y2:=cell_lt d2.1;obtain ⟨t,⟨ci,⟨cx,cy,cz⟩⟩,⟨h0,h1,h2⟩⟩:=u1;dsimp only at d1 d2
   have hq:∀ w,(Go.binOp .neq 149 (.agg #[vi t,vi ci,vi cx,vi cy,vi cz,vi h0,vi h1,vi h2]) (.agg #[vi t,vi ci,vi cx,vi cy,vi cz,vi h0,vi h1,vi h2])).run Try.prog w = .ok (.bool false) w:=fun w=>by
    rw [neqStruct w (eqStay w 9996 ⟨t,⟨ci,⟨cx,cy,cz⟩⟩,⟨h0,h1,h2⟩⟩ ⟨t,⟨ci,⟨cx,cy,cz⟩⟩,⟨h0,h1,h2⟩⟩)];simp
   have hkj:(k:Int)<(n1:Int):=by omega
   clear g1 g2 x1 x2
   go_upto_region 6 with fail
   (refine wp_region_ext (by kernel_rfl) (by kernel_rfl) ?_;(repeat (first|go_big_quiet_step (fail)|quiet_step (fail)));refine wpQuiet_nil ?_;intro _ hw';obtain ⟨oq,nq,hw''⟩:=hw';subst hw'')
   go_wp2;go_roundw
   case rel=>exact ⟨k+1,by omega,by go_num,(by simp (maxDischargeDepth:=60))⟩
   case measure=>simp [intOf];omega
  ·have hkn:k=n1:=by omega
   subst hkn;go_wp2
   go_loopw [6] (fun i wr=>∃ k:Nat,k≤n2∧i = .int .i64 k∧Ext w0 wr) (fun i _=>n2 - (intOf i).toNat)
   case atStart=>exact ⟨0,by omega,rfl,(by simp (maxDischargeDepth:=60))⟩
   case round=>
    obtain ⟨j,hj,rfl,o',m',rfl⟩:=hrel
    by_cases hlt:j<n2
    ·obtain ⟨p1,o1,u1,rfl,x1,g1⟩:=G2.out.get hlt
     obtain ⟨p2,o2,u2,rfl,x2,g2⟩:=G4.out.get hlt;obtain rfl:u1=u2:=Option.some.inj (x1.symm.trans x2);have d1:=at2 g1;have d2:=at2 g2;have y1:=cell_lt d1.1;have y2:=cell_lt d2.1;obtain ⟨t,f⟩:=u1;dsimp only at d1 d2
     have hq:∀ w,(Go.binOp .neq 94 (.agg #[vi t,.bool f]) (.agg #[vi t,.bool f])).run Try.prog w = .ok (.bool false) w:=fun w=>by
      rw [neqStruct w (eqJob w 9998 ⟨t,f⟩ ⟨t,f⟩)];simp
     have hkj:(j:Int)<(n2:Int):=by omega
     clear g1 g2 x1 x2
     go_upto_region 11 with fail
     (refine wp_region_ext (by kernel_rfl) (by kernel_rfl) ?_;(repeat (first|go_big_quiet_step (fail)|quiet_step (fail)));refine wpQuiet_nil ?_;intro _ hw';obtain ⟨oq,nq,hw''⟩:=hw';subst hw'')
     go_wp2;go_roundw
     case rel=>exact ⟨j+1,by omega,by go_num,(by simp (maxDischargeDepth:=60))⟩
     case measure=>simp [intOf];omega
    ·have hjn:j=n2:=by omega
     subst hjn;go_wp2;go_ret;exact ⟨rfl,HX.out.trans (by simp (maxDischargeDepth:=60))⟩
end Go.Proofs.Ytplomeacjbkgnaa
