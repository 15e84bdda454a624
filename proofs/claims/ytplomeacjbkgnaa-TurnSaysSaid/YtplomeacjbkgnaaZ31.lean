import Derived.Test.YtplomeacjbkgnaaZ28
import Derived.Test.YtplomeacjbkgnaaZ19
set_option linter.all false
set_option maxRecDepth 100000
set_option maxHeartbeats 16000000
namespace Go.Proofs.Ytplomeacjbkgnaa
open Go.RowKit
theorem RPlantAt.set {w:World} {rb:Nat} {p q:Ch.Plant} (h:RPlantAt w rb p) (i:Nat) (v:Value) (hq:(rCells p).setIfInBounds i v=rCells q):RPlantAt (w.setCell ⟨rb,i,none⟩ v) rb q:=
 ⟨by rw [setCell_block h.blk,hq]⟩
theorem slot_set (p:Ch.Plant) {a b c:Nat} (a4:a≤4) (hb:b≤1) (hc:c≤1) (v:Int):
  (rCells p).setIfInBounds (7+a * 4+b * 2+c) (vi v)=rCells { p with slots:=Ch.setSlot p.slots ⟨(a:Int),(b:Int),(c:Int)⟩ v }:=by
 have ha:a=0∨a=1∨a=2∨a=3∨a=4:=by omega
 have hb:b=0∨b=1:=by omega
 have hc:c=0∨c=1:=by omega
 rcases ha with rfl|rfl|rfl|rfl|rfl <;> rcases hb with rfl|rfl <;> rcases hc with rfl|rfl <;> rfl
def RDid (rb:Nat) (w:World) (p':Ch.Plant) (r:Value) (e:Ending) (w':World):Prop:=e = .returned r∧RPlantAt w' rb p'∧Kept (Is rb) w w'
theorem rstall_any {rb:Nat} {p:Ch.Plant} {w:World} (h:RPlantAt w rb p) (n:Int):
  Calls Try.prog 125 #[.pointer (some ⟨rb,0,none⟩),vi n] w (RDid rb w (p.setStall n).1 (vi (p.setStall n).2)):=by
 obtain ⟨c0,c1,c2,c3,c4,c5,c6,c7,c8⟩:=h.cells;have hb:=cell_lt c1;have HP:=Lib.hid h;have fz:=block_free h.blk;clear h;go_enter Try.func125,Try.ntmps125;go_wp2
 all_goals
  go_ret;go_light;unfold Ch.Plant.setStall
  first
  | (rw [if_pos (by omega)];exact ⟨rfl,HP.out,Kept.refl _ _⟩)
  | (rw [if_neg (by omega)];exact ⟨rfl,HP.out.set 27 _ (by simp),(Kept.refl _ _).put 27 _⟩)
theorem rleave_any {rb:Nat} {p:Ch.Plant} {w:World} (h:RPlantAt w rb p):
  Calls Try.prog 123 #[.pointer (some ⟨rb,0,none⟩)] w (RDid rb w p.leave.1 (.tuple #[vi p.leave.2.1,vi p.leave.2.2])):=by
 obtain ⟨c0,c1,c2,c3,c4,c5,c6,c7,c8⟩:=h.cells;have hb:=cell_lt c1;have HP:=Lib.hid h;have fz:=block_free h.blk;clear h;cases hd:p.door
 ·rw [hd] at c3
  have HL:Hid (p.leave=(p,0,7)):=by unfold Hid Ch.Plant.leave;rw [if_pos (Or.inl hd)]
  clear hd;go_enter Try.func123,Try.ntmps123;go_wp2
  go_ret2
  rw [HL.out];exact ⟨rfl,HP.out,Kept.refl _ _⟩
 ·rw [hd] at c3
  by_cases hy:p.bay=0
  ·have e1:(p.bay==0)=true:=by simpa using hy
   have HL:Hid (p.leave=(p,0,7)):=by unfold Hid Ch.Plant.leave;rw [if_pos (Or.inr hy)]
   clear hd hy;go_enter Try.func123,Try.ntmps123;go_wp2
   go_ret2
   rw [HL.out];exact ⟨rfl,HP.out,Kept.refl _ _⟩
  ·have e1:(p.bay==0)=false:=by simpa using hy
   have HL:Hid (p.leave=({ p with bay:=0 },p.bay,0)):=by unfold Hid Ch.Plant.leave;rw [if_neg (by simp [hd,hy])]
   clear hd hy;go_enter Try.func123,Try.ntmps123;go_wp2
   go_ret2
   rw [HL.out];exact ⟨rfl,HP.out.set 6 _ (by simp),(Kept.refl _ _).put 6 _⟩
theorem rwalk_any {rb:Nat} {p:Ch.Plant} {w:World} (h:RPlantAt w rb p) (hp:p.WF) (n:Int):
  Calls Try.prog 120 #[.pointer (some ⟨rb,0,none⟩),vi n] w (RDid rb w (p.walk n).1 (vi (p.walk n).2)):=by
 obtain ⟨c0,c1,c2,c3,c4,c5,c6,c7,c8⟩:=h.cells;have hb:=cell_lt c1;have HP:=Lib.hid h;have fz:=block_free h.blk;have h1:=hp.pe1;have h2:=hp.pe2;clear h
 by_cases hr:n < -9∨9<n
 ·have HL:Hid (p.walk n=(p,1)):=by unfold Hid Ch.Plant.walk;rw [if_pos hr]
  have HR:=Lib.hid hr;clear hr;go_enter Try.func120,Try.ntmps120;go_wp2
  all_goals
   first
   | (exfalso;have:=HR.out;omega)
   | (go_ret;rw [HL.out];exact ⟨rfl,HP.out,Kept.refl _ _⟩)
 ·have r1:-9≤n:=by omega
  have r2:n≤9:=by omega
  cases hd:p.door
  ·rw [hd] at c3
   have HL:Hid (p.walk n=(p,7)):=by unfold Hid Ch.Plant.walk;rw [if_neg hr,if_pos hd]
   clear hr hd;go_enter Try.func120,Try.ntmps120;go_wp2;go_ret;rw [HL.out];exact ⟨rfl,HP.out,Kept.refl _ _⟩
  ·rw [hd] at c3
   have HL:Hid (p.walk n=({ p with people:=Ch.clamp (p.people+n) 9 },0)):=by unfold Hid Ch.Plant.walk;rw [if_neg hr,if_neg (by simp [hd])]
   have i1:IntKind.i64.wrap (p.people+n)=p.people+n:=IntWalk.i64_in _ (by omega);clear hr hd;go_enter Try.func120,Try.ntmps120;go_wp2
   all_goals
    go_ret;rw [HL.out];refine ⟨rfl,?_,?_⟩
    case refine_1=>
     first
     | exact HP.out.set 4 _ (by first|(simp [Ch.clamp];done)|(simp [Ch.clamp];omega))
     | exact (HP.out.set (q:={ p with people:=p.people+n }) 4 _ (by simp)).set 4 _ (by first|(simp [Ch.clamp];done)|(simp [Ch.clamp];omega))
    case refine_2=>
     first
     | exact (Kept.refl _ _).put 4 _
     | exact ((Kept.refl _ _).put 4 _).put 4 _
def RMade (w:World) (n:Int) (e:Ending) (w':World):Prop:=∃ rb,e = .returned (.tuple #[.pointer (some ⟨rb,0,none⟩),vi 0])∧RPlantAt w' rb (Ch.Plant.new n)∧Ext w w'∧w.heap.size≤rb
theorem rnew_any (n:Int) (w:World) (h1:1≤n) (h2:n≤4):Calls Try.prog 77 #[vi n] w (RMade w n):=by
 go_enter Try.func77,Try.ntmps77;go_wp2
 go_ret2
 refine ⟨w.heap.size,rfl,⟨?_⟩,(by simp (maxDischargeDepth:=60)),by omega⟩;rw [alloc_at _ _ _ (by simp)];rfl
theorem rwhere_any {rb:Nat} {p:Ch.Plant} {w:World} (h:RPlantAt w rb p) (hp:p.WF) (id:Int):
  Calls Try.prog 81 #[.pointer (some ⟨rb,0,none⟩),vi id] w fun e w'=>e = .returned (whereV (p.where_ id))∧Ext w w':=by
 have HP0:=Lib.hid h;have hb:=h.lt;have hbw:=h.lt
 have h4:(4:Int)≤4:=by decide
 have h41:(1:Int)≤4:=by decide
 have HW:Hid (p.where_ id=whereLeft p id 4 0):=Ch.where_find4 hp id;clear h;go_enter Try.func81,Try.ntmps81
 go_upto_region 1 with fail
 generalize hW:World.alloc _ _=w0
 have r0:w0.cell? ⟨w.heap.size,0,none⟩=some (vi 0):=by rw [←hW];simp [go_sem]
 have r1:w0.cell? ⟨w.heap.size,1,none⟩=some (vi 0):=by rw [←hW];simp [go_sem]
 have r2:w0.cell? ⟨w.heap.size,2,none⟩=some (vi 0):=by rw [←hW];simp [go_sem]
 have fz:∀ i,w0.frozen? ⟨w.heap.size,i,none⟩=false:=by intro i;rw [←hW];simp [go_sem]
 have hx:Ext w w0:=by rw [←hW];exact (by simp (maxDischargeDepth:=60))
 have HX:=Lib.hid hx;have HP:=Lib.hid (HP0.out.ext hx);have FZ:=Lib.hid fz;have hlev0:=HP.out.cells.1;have zlev:=cell_lt hlev0;clear hW hx HP0 fz hb;go_wp2
 go_loopw [6] (fun i wr=>∃ a:Nat,1≤a∧(a:Int)≤4+1∧i = .int .i64 (a:Int)∧Hid (p.where_ id=whereLeft p id 4 (4 * (a - 1)))∧Ext w0 wr) (fun i _=>(5 - intOf i).toNat)
 case atStart=>exact ⟨1,by omega,by omega,rfl,HW,(by simp (maxDischargeDepth:=60))⟩
 case round=>
  obtain ⟨a,ha,han',rfl,HR1,hxr⟩:=hrel;have HXR:=Lib.hid hxr;have hlev:=xcell hxr hlev0;have zl:=cell_lt hlev;clear hxr
  by_cases han:(a:Int)≤4
  ·go_wp2
   go_loopw [7] (fun i wr=>∃ s:Nat,s≤2∧i = .int .i64 (s:Int)∧Hid (p.where_ id=whereLeft p id 4 (4 * (a - 1)+2 * s))∧Ext w0 wr) (fun i _=>(2 - intOf i).toNat)
   case atStart=>exact ⟨0,by omega,rfl,HR1,HXR.out.trans (by simp (maxDischargeDepth:=60))⟩
   case round=>
    obtain ⟨s,hs,rfl,HR2,hxr⟩:=hrel;have HXR:=Lib.hid hxr;clear hxr
    by_cases hs2:s<2
    ·have js:(s:Int)<2:=by omega
     go_wp2
     go_loopw [8] (fun i wr=>∃ d:Nat,d≤2∧i = .int .i64 (d:Int)∧Hid (p.where_ id=whereLeft p id 4 (4 * (a - 1)+2 * s+d))∧Ext w0 wr) (fun i _=>(2 - intOf i).toNat)
     case atStart=>exact ⟨0,by omega,rfl,HR2,HXR.out.trans (by simp (maxDischargeDepth:=60))⟩
     case round=>
      obtain ⟨d,hd,rfl,HR3,hxr⟩:=hrel;have HXR:=Lib.hid hxr;clear hxr;have hR:w.heap.size<w0.heap.size:=cell_lt r0
      by_cases hlt:d<2
      ·have hcell:=slotNat _ (HP.out.ext HXR.out) (a:=a) (b:=s) (c:=d) (by omega) (by omega) (by omega)
       have j0:(0:Int)≤(a:Int):=by omega
       have j1:(a:Int)<5:=by omega
       have j2:(0:Int)≤(s:Int):=by omega
       have j3:(s:Int)<2:=by omega
       have j4:(0:Int)≤(d:Int):=by omega
       have j5:(d:Int)<2:=by omega
       have hbr:=(HP.out.ext HXR.out).lt
       cases e0:(id != 0)
       ·have HNO:Hid (Ch.whereP p id ⟨(a:Int),(s:Int),(d:Int)⟩=false):=by unfold Hid Ch.whereP;rw [e0];rfl
        go_wp2;go_roundw
        case rel=>first|exact ⟨d+1,by omega,by go_num,by unfold Hid;rw [HR3.out];exact where_no h4 ha han hs2 hlt HNO.out,HXR.out.trans (by simp (maxDischargeDepth:=60))⟩|(repeat apply Exists.intro;refine ⟨?_,rfl⟩;exact ⟨d+1,by omega,by go_num,by unfold Hid;rw [HR3.out];exact where_no h4 ha han hs2 hlt HNO.out,HXR.out.trans (by simp (maxDischargeDepth:=60))⟩)
        case measure=>simp [intOf];omega
       ·cases e1:(p.slots ⟨(a:Int),(s:Int),(d:Int)⟩==id)
        ·have HNO:Hid (Ch.whereP p id ⟨(a:Int),(s:Int),(d:Int)⟩=false):=by unfold Hid Ch.whereP;rw [e0,e1];rfl
         go_wp2;go_roundw
         case rel=>first|exact ⟨d+1,by omega,by go_num,by unfold Hid;rw [HR3.out];exact where_no h4 ha han hs2 hlt HNO.out,HXR.out.trans (by simp (maxDischargeDepth:=60))⟩|(repeat apply Exists.intro;refine ⟨?_,rfl⟩;exact ⟨d+1,by omega,by go_num,by unfold Hid;rw [HR3.out];exact where_no h4 ha han hs2 hlt HNO.out,HXR.out.trans (by simp (maxDischargeDepth:=60))⟩)
         case measure=>simp [intOf];omega
        ·have HYES:Hid (p.where_ id=some ⟨(a:Int),(s:Int),(d:Int)⟩):=by unfold Hid;rw [HR3.out];exact where_yes h4 ha han hs2 hlt (by unfold Ch.whereP;rw [e0,e1];rfl)
         go_upto_region 11 with fail
         have y0:=xfree HXR.out hR (FZ.out 0);have y1:=xfree HXR.out hR (FZ.out 1);have y2:=xfree HXR.out hR (FZ.out 2);have t0:=xcell HXR.out r0;have t1:=xcell HXR.out r1;have t2:=xcell HXR.out r2;go_wp2;obtain ⟨p0,p1,p2,px⟩:=put3w (w:=w) (a:=wr) (R:=w.heap.size) (x:=vi (a:Int)) (y:=vi (s:Int)) (z:=vi (d:Int)) (HX.out.trans HXR.out) (Nat.le_refl _) t0 t1 t2;exact bodyPost_ret (v:=.tuple #[.agg #[vi (a:Int),vi (s:Int),vi (d:Int)],.bool true]) (by simp [results,Try.results81,go_sem,p0,p1,p2]) rfl ⟨by rw [HYES.out];rfl,px⟩
      ·have hd2:d=2:=by omega
       subst hd2;go_wp2;go_roundw
       case rel=>first|exact ⟨s+1,by omega,by go_num,by unfold Hid;rw [HR3.out];exact congrArg _ (by omega),HXR.out.trans (by simp (maxDischargeDepth:=60))⟩|(repeat apply Exists.intro;refine ⟨?_,rfl⟩;exact ⟨s+1,by omega,by go_num,by unfold Hid;rw [HR3.out];exact congrArg _ (by omega),HXR.out.trans (by simp (maxDischargeDepth:=60))⟩)
       case measure=>simp [intOf];omega
    ·have hs3:s=2:=by omega
     subst hs3;go_wp2;go_roundw
     case rel=>first|exact ⟨a+1,by omega,by omega,by go_num,by unfold Hid;rw [HR2.out];exact congrArg _ (by omega),HXR.out.trans (by simp (maxDischargeDepth:=60))⟩|(repeat apply Exists.intro;refine ⟨?_,rfl⟩;exact ⟨a+1,by omega,by omega,by go_num,by unfold Hid;rw [HR2.out];exact congrArg _ (by omega),HXR.out.trans (by simp (maxDischargeDepth:=60))⟩)
     case measure=>simp [intOf];omega
  ·have hend:Hid (p.where_ id=none):=by
    unfold Hid;rw [HR1.out];unfold whereLeft;rw [List.drop_of_length_le (by rw [Ch.all_len (by omega) h4];omega)];rfl
   have y0:=xfree HXR.out (cell_lt r0) (FZ.out 0);have y1:=xfree HXR.out (cell_lt r0) (FZ.out 1);have y2:=xfree HXR.out (cell_lt r0) (FZ.out 2);have t0:=xcell HXR.out r0;have t1:=xcell HXR.out r1;have t2:=xcell HXR.out r2;go_wp2;obtain ⟨p0,p1,p2,px⟩:=put3w (w:=w) (a:=wr) (R:=w.heap.size) (x:=vi 0) (y:=vi 0) (z:=vi 0) (HX.out.trans HXR.out) (Nat.le_refl _) t0 t1 t2;exact bodyPost_ret (v:=.tuple #[.agg #[vi 0,vi 0,vi 0],.bool false]) (by simp [results,Try.results81,go_sem,p0,p1,p2]) rfl ⟨by rw [hend.out];rfl,px⟩
end Go.Proofs.Ytplomeacjbkgnaa
