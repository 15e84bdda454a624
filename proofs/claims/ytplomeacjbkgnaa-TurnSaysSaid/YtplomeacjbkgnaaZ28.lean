import Derived.Test.YtplomeacjbkgnaaZ05
import Derived.Test.YtplomeacjbkgnaaZ14
import Derived.Deep.RegionHeld3
set_option linter.all false
set_option maxRecDepth 100000
set_option maxHeartbeats 16000000
namespace Go.Proofs.Ytplomeacjbkgnaa
open Go.RowKit
def stayOfP (ticket car:Int) (s:Ch.Stay):Bool:=s.ticket==ticket || (ticket==0&&s.car.id==car)
def stayV (o:Option Ch.Stay):Value:=.tuple #[stayA (o.getD ⟨0,⟨0,⟨0,0,0⟩⟩,⟨0,0,0⟩⟩),.bool o.isSome]
theorem rext_setCells {w a:World} {R:Nat} (hR:w.heap.size≤R):∀ (vs:List Value) (o:Nat) (a:World),Ext w a→Ext w (a.setCells R o vs)
 | [],_,_,h=>h
 | v :: r,o,a,h=>by
  rw [World.setCells];exact rext_setCells (a:=a) hR r (o+1) _ (Ext.setCell h hR v)
theorem rput8 {w a:World} {R:Nat} {x0 x1 x2 x3 x4 x5 x6 x7:Value} (hx:Ext w a) (hR:w.heap.size≤R) (hc:∀ j,j<8→(a.cell? ⟨R,j,none⟩).isSome=true):
  let W:=(((((((a.setCell ⟨R,0,none⟩ x0).setCell ⟨R,1,none⟩ x1).setCell ⟨R,2,none⟩ x2).setCell ⟨R,3,none⟩ x3).setCell ⟨R,4,none⟩ x4).setCell ⟨R,5,none⟩ x5).setCell ⟨R,6,none⟩ x6).setCell ⟨R,7,none⟩ x7
  W.cell? ⟨R,0,none⟩=some x0∧W.cell? ⟨R,1,none⟩=some x1∧W.cell? ⟨R,2,none⟩=some x2∧W.cell? ⟨R,3,none⟩=some x3∧W.cell? ⟨R,4,none⟩=some x4∧W.cell? ⟨R,5,none⟩=some x5∧W.cell? ⟨R,6,none⟩=some x6∧W.cell? ⟨R,7,none⟩=some x7∧Ext w W:=by
 intro W;have e:W=a.setCells R 0 [x0,x1,x2,x3,x4,x5,x6,x7]:=rfl;have h:=World.cell?_setCells_in R [x0,x1,x2,x3,x4,x5,x6,x7] 0 a (by intro j hj;simpa using hc j (by simpa using hj));rw [e];refine ⟨?_,?_,?_,?_,?_,?_,?_,?_,rext_setCells (a:=a) hR _ _ _ hx⟩
 ·simpa using h 0 (by simp)
 ·simpa using h 1 (by simp)
 ·simpa using h 2 (by simp)
 ·simpa using h 3 (by simp)
 ·simpa using h 4 (by simp)
 ·simpa using h 5 (by simp)
 ·simpa using h 6 (by simp)
 ·simpa using h 7 (by simp)
theorem find_next {α:Type} {P:α→Bool} {l:List α} {k:Nat} {x:α} (hx:l[k]? = some x):(l.drop k).find? P=if P x then some x else (l.drop (k+1)).find? P:=by
 have hk:k<l.length:=by
  rcases Nat.lt_or_ge k l.length with h1|h1
  ·exact h1
  ·rw [List.getElem?_eq_none h1] at hx;cases hx
 rw [List.drop_eq_getElem_cons hk,List.find?_cons];rw [List.getElem?_eq_getElem hk] at hx;cases hx
 cases P l[k] <;> rfl
theorem stayOf_any (last ticket car:Int) (a1:Option Addr) (m1 c1:Nat) (a2:Option Addr) (m2 c2:Nat) (l:List Ch.Stay) (w:World) (h:Sl w 8 stayCells l a1 m1 c1):
  Calls Try.prog 107 #[bookA last a1 m1 c1 a2 m2 c2,vi ticket,vi car] w fun e w'=>e = .returned (stayV (l.find? (stayOfP ticket car)))∧Ext w w':=by
 have b1:=h.bound;have HF:=Lib.hid h;have E1:=Lib.hid h.len;clear h;go_enter Try.func107,Try.ntmps107
 go_upto_region 1 with fail
 generalize hW:World.alloc _ _=w0
 have k0:w0.cell? ⟨w.heap.size,0,none⟩=some (vi last):=by rw [←hW];simp [go_sem]
 have k1:w0.cell? ⟨w.heap.size,1,none⟩=some (.slice a1 m1 c1):=by rw [←hW];simp [go_sem]
 have k2:w0.cell? ⟨w.heap.size,2,none⟩=some (.slice a2 m2 c2):=by rw [←hW];simp [go_sem]
 have r0:∀ j,j<8→w0.cell? ⟨w.heap.size+1,j,none⟩=some (vi 0):=by
  intro j hj
  have:j=0∨j=1∨j=2∨j=3∨j=4∨j=5∨j=6∨j=7:=by omega
  rcases this with rfl|rfl|rfl|rfl|rfl|rfl|rfl|rfl <;> (rw [←hW];simp [go_sem])
 have fz:∀ i,w0.frozen? ⟨w.heap.size+1,i,none⟩=false:=by intro i;rw [←hW];simp [go_sem]
 have hx:Ext w w0:=by rw [←hW];exact (by simp (maxDischargeDepth:=60))
 have HX:=Lib.hid hx;have HS:=Lib.hid (Sl.below HF.out hx.below);have z1:=cell_lt k0;have z2:=cell_lt (r0 0 (by decide));have R0:=Lib.hid r0;have FZ:=Lib.hid fz;clear hW hx HF r0 fz;go_wp2
 go_loopw [8] (fun i wr=>∃ k:Nat,k≤m1∧i = .int .i64 k∧Hid (l.find? (stayOfP ticket car)=(l.drop k).find? (stayOfP ticket car))∧Ext w0 wr) (fun i _=>m1 - (intOf i).toNat)
 case atStart=>exact ⟨0,by omega,rfl,by simp [Hid],(by simp (maxDischargeDepth:=60))⟩
 case round=>
  obtain ⟨k,hk,rfl,HT,o,m,rfl⟩:=hrel
  by_cases hlt:k<m1
  ·obtain ⟨b,q,s,rfl,hs,ds⟩:=HS.out.get hlt
   have HN:=Lib.hid (find_next (P:=stayOfP ticket car) hs);obtain ⟨t,⟨ci,⟨cx,cy,cz⟩⟩,⟨h0,h1,h2⟩⟩:=s;have ds:=at8 ds;dsimp only at ds;have hq:=cell_lt ds.1
   have hkj:(k:Int)<(m1:Int):=by omega
   have f0:=FZ.out 0;have f1:=FZ.out 1;have f2:=FZ.out 2;have f3:=FZ.out 3;have f4:=FZ.out 4;have f5:=FZ.out 5;have f6:=FZ.out 6;have f7:=FZ.out 7;have r0:=R0.out 0 (by decide);have r1:=R0.out 1 (by decide);have r2:=R0.out 2 (by decide);have r3:=R0.out 3 (by decide);have r4:=R0.out 4 (by decide);have r5:=R0.out 5 (by decide);have r6:=R0.out 6 (by decide);have r7:=R0.out 7 (by decide);clear hs
   cases e1:(t==ticket)
   ·cases e2:(ticket==0)
    ·have HR:Hid (stayOfP ticket car ⟨t,⟨ci,⟨cx,cy,cz⟩⟩,⟨h0,h1,h2⟩⟩=false):=by unfold Hid stayOfP;dsimp only;rw [e1,e2];rfl
     go_wp2;go_roundw
     case rel=>first|exact ⟨k+1,by omega,by go_num,by unfold Hid;rw [HT.out,HN.out,HR.out];rfl,(by simp (maxDischargeDepth:=60))⟩|(repeat apply Exists.intro;refine ⟨?_,rfl⟩;exact ⟨k+1,by omega,by go_num,by unfold Hid;rw [HT.out,HN.out,HR.out];rfl,(by simp (maxDischargeDepth:=60))⟩)
     case measure=>simp [intOf];omega
    ·obtain rfl:ticket=0:=by simpa using e2
     have hz:((0:Int)==0)=true:=rfl;clear e2
     cases e3:(ci==car)
     ·have HR:Hid (stayOfP 0 car ⟨t,⟨ci,⟨cx,cy,cz⟩⟩,⟨h0,h1,h2⟩⟩=false):=by unfold Hid stayOfP;dsimp only;rw [e1,e3];rfl
      go_wp2;go_roundw
      case rel=>first|exact ⟨k+1,by omega,by go_num,by unfold Hid;rw [HT.out,HN.out,HR.out];rfl,(by simp (maxDischargeDepth:=60))⟩|(repeat apply Exists.intro;refine ⟨?_,rfl⟩;exact ⟨k+1,by omega,by go_num,by unfold Hid;rw [HT.out,HN.out,HR.out];rfl,(by simp (maxDischargeDepth:=60))⟩)
      case measure=>simp [intOf];omega
     ·have HR:Hid (stayOfP 0 car ⟨t,⟨ci,⟨cx,cy,cz⟩⟩,⟨h0,h1,h2⟩⟩=true):=by unfold Hid stayOfP;dsimp only;rw [e1,e3];rfl
      obtain rfl:ci=car:=by simpa using e3
      clear e3
      go_upto_region 6 with fail
      generalize hW:World.alloc _ _=wq;generalize hD:w0.heap.size+o.size=D
      have hxq:Ext w0 wq:=by rw [←hW];exact (by simp (maxDischargeDepth:=60))
      have d0:wq.cell? ⟨D,0,none⟩=some (vi t):=by rw [←hW,←hD];simp [go_sem]
      have d1:wq.cell? ⟨D,1,none⟩=some (vi ci):=by rw [←hW,←hD];simp [go_sem]
      have d2:wq.cell? ⟨D,2,none⟩=some (vi cx):=by rw [←hW,←hD];simp [go_sem]
      have d3:wq.cell? ⟨D,3,none⟩=some (vi cy):=by rw [←hW,←hD];simp [go_sem]
      have d4:wq.cell? ⟨D,4,none⟩=some (vi cz):=by rw [←hW,←hD];simp [go_sem]
      have d5:wq.cell? ⟨D,5,none⟩=some (vi h0):=by rw [←hW,←hD];simp [go_sem]
      have d6:wq.cell? ⟨D,6,none⟩=some (vi h1):=by rw [←hW,←hD];simp [go_sem]
      have d7:wq.cell? ⟨D,7,none⟩=some (vi h2):=by rw [←hW,←hD];simp [go_sem]
      have g0:=ext_cell hxq r0;have g1:=ext_cell hxq r1;have g2:=ext_cell hxq r2;have g3:=ext_cell hxq r3;have g4:=ext_cell hxq r4;have g5:=ext_cell hxq r5;have g6:=ext_cell hxq r6;have g7:=ext_cell hxq r7;have y0:=xfree hxq z2 f0;have y1:=xfree hxq z2 f1;have y2:=xfree hxq z2 f2;have y3:=xfree hxq z2 f3;have y4:=xfree hxq z2 f4;have y5:=xfree hxq z2 f5;have y6:=xfree hxq z2 f6;have y7:=xfree hxq z2 f7
      have hRc:∀ j,j<8→(wq.cell? ⟨w.heap.size+1,j,none⟩).isSome=true:=fun j hj=>by rw [ext_cell hxq (R0.out j hj)];rfl
      have HQ:=Lib.hid hRc;have HXQ:=Lib.hid (HX.out.trans hxq);clear hW hD hxq hRc k0 k1 k2 r0 r1 r2 r3 r4 r5 r6 r7 f0 f1 f2 f3 f4 f5 f6 f7 ds hq z1 z2;go_wp2;obtain ⟨p0,p1,p2,p3,p4,p5,p6,p7,px⟩:=rput8 (w:=w) (a:=wq) (R:=w.heap.size+1) (x0:=vi t) (x1:=vi ci) (x2:=vi cx) (x3:=vi cy) (x4:=vi cz) (x5:=vi h0) (x6:=vi h1) (x7:=vi h2) HXQ.out (by omega) HQ.out;exact bodyPost_ret (v:=.tuple #[.agg #[vi t,vi ci,vi cx,vi cy,vi cz,vi h0,vi h1,vi h2],.bool true]) (by simp [results,Try.results107,go_sem,p0,p1,p2,p3,p4,p5,p6,p7]) rfl ⟨by rw [HT.out,HN.out,HR.out];rfl,px⟩
   ·have HR:Hid (stayOfP ticket car ⟨t,⟨ci,⟨cx,cy,cz⟩⟩,⟨h0,h1,h2⟩⟩=true):=by unfold Hid stayOfP;dsimp only;rw [e1];rfl
    obtain rfl:t=ticket:=by simpa using e1
    clear e1
    go_upto_region 6 with fail
    generalize hW:World.alloc _ _=wq;generalize hD:w0.heap.size+o.size=D
    have hxq:Ext w0 wq:=by rw [←hW];exact (by simp (maxDischargeDepth:=60))
    have d0:wq.cell? ⟨D,0,none⟩=some (vi t):=by rw [←hW,←hD];simp [go_sem]
    have d1:wq.cell? ⟨D,1,none⟩=some (vi ci):=by rw [←hW,←hD];simp [go_sem]
    have d2:wq.cell? ⟨D,2,none⟩=some (vi cx):=by rw [←hW,←hD];simp [go_sem]
    have d3:wq.cell? ⟨D,3,none⟩=some (vi cy):=by rw [←hW,←hD];simp [go_sem]
    have d4:wq.cell? ⟨D,4,none⟩=some (vi cz):=by rw [←hW,←hD];simp [go_sem]
    have d5:wq.cell? ⟨D,5,none⟩=some (vi h0):=by rw [←hW,←hD];simp [go_sem]
    have d6:wq.cell? ⟨D,6,none⟩=some (vi h1):=by rw [←hW,←hD];simp [go_sem]
    have d7:wq.cell? ⟨D,7,none⟩=some (vi h2):=by rw [←hW,←hD];simp [go_sem]
    have g0:=ext_cell hxq r0;have g1:=ext_cell hxq r1;have g2:=ext_cell hxq r2;have g3:=ext_cell hxq r3;have g4:=ext_cell hxq r4;have g5:=ext_cell hxq r5;have g6:=ext_cell hxq r6;have g7:=ext_cell hxq r7;have y0:=xfree hxq z2 f0;have y1:=xfree hxq z2 f1;have y2:=xfree hxq z2 f2;have y3:=xfree hxq z2 f3;have y4:=xfree hxq z2 f4;have y5:=xfree hxq z2 f5;have y6:=xfree hxq z2 f6;have y7:=xfree hxq z2 f7
    have hRc:∀ j,j<8→(wq.cell? ⟨w.heap.size+1,j,none⟩).isSome=true:=fun j hj=>by rw [ext_cell hxq (R0.out j hj)];rfl
    have HQ:=Lib.hid hRc;have HXQ:=Lib.hid (HX.out.trans hxq);clear hW hD hxq hRc k0 k1 k2 r0 r1 r2 r3 r4 r5 r6 r7 f0 f1 f2 f3 f4 f5 f6 f7 ds hq z1 z2;go_wp2;obtain ⟨p0,p1,p2,p3,p4,p5,p6,p7,px⟩:=rput8 (w:=w) (a:=wq) (R:=w.heap.size+1) (x0:=vi t) (x1:=vi ci) (x2:=vi cx) (x3:=vi cy) (x4:=vi cz) (x5:=vi h0) (x6:=vi h1) (x7:=vi h2) HXQ.out (by omega) HQ.out;exact bodyPost_ret (v:=.tuple #[.agg #[vi t,vi ci,vi cx,vi cy,vi cz,vi h0,vi h1,vi h2],.bool true]) (by simp [results,Try.results107,go_sem,p0,p1,p2,p3,p4,p5,p6,p7]) rfl ⟨by rw [HT.out,HN.out,HR.out];rfl,px⟩
  ·have hkm:k=m1:=by omega
   subst hkm;have f0:=FZ.out 0;have f1:=FZ.out 1;have f2:=FZ.out 2;have f3:=FZ.out 3;have f4:=FZ.out 4;have f5:=FZ.out 5;have f6:=FZ.out 6;have f7:=FZ.out 7;have r0:=R0.out 0 (by decide);have r1:=R0.out 1 (by decide);have r2:=R0.out 2 (by decide);have r3:=R0.out 3 (by decide);have r4:=R0.out 4 (by decide);have r5:=R0.out 5 (by decide);have r6:=R0.out 6 (by decide);have r7:=R0.out 7 (by decide);go_wp2;obtain ⟨p0,p1,p2,p3,p4,p5,p6,p7,px⟩:=rput8 (w:=w) (a:=w0.plus o m) (R:=w.heap.size+1) (x0:=vi 0) (x1:=vi 0) (x2:=vi 0) (x3:=vi 0) (x4:=vi 0) (x5:=vi 0) (x6:=vi 0) (x7:=vi 0) (HX.out.trans (by simp (maxDischargeDepth:=60))) (by omega) (fun j hj=>by rw [ext_cell (w:=w0) (by simp (maxDischargeDepth:=60)) (R0.out j hj)];rfl);exact bodyPost_ret (v:=.tuple #[.agg #[vi 0,vi 0,vi 0,vi 0,vi 0,vi 0,vi 0,vi 0],.bool false]) (by simp [results,Try.results107,go_sem,p0,p1,p2,p3,p4,p5,p6,p7]) rfl ⟨by rw [HT.out,List.drop_of_length_le (by have:=E1.out;omega)];rfl,px⟩
abbrev rCells (p:Ch.Plant):Array Value:=#[vi p.levels,vi p.height,vi p.ext,.bool p.door,vi p.people,vi p.lift,vi p.bay,
 vi (p.slots ⟨0,0,0⟩),vi (p.slots ⟨0,0,1⟩),vi (p.slots ⟨0,1,0⟩),vi (p.slots ⟨0,1,1⟩),
 vi (p.slots ⟨1,0,0⟩),vi (p.slots ⟨1,0,1⟩),vi (p.slots ⟨1,1,0⟩),vi (p.slots ⟨1,1,1⟩),
 vi (p.slots ⟨2,0,0⟩),vi (p.slots ⟨2,0,1⟩),vi (p.slots ⟨2,1,0⟩),vi (p.slots ⟨2,1,1⟩),
 vi (p.slots ⟨3,0,0⟩),vi (p.slots ⟨3,0,1⟩),vi (p.slots ⟨3,1,0⟩),vi (p.slots ⟨3,1,1⟩),
 vi (p.slots ⟨4,0,0⟩),vi (p.slots ⟨4,0,1⟩),vi (p.slots ⟨4,1,0⟩),vi (p.slots ⟨4,1,1⟩),
 vi p.stall,.bool p.hurt]
structure RPlantAt (w:World) (rb:Nat) (p:Ch.Plant):Prop where
 blk:w.heap[rb]? = some (.cells (rCells p) 170 (0,0))
theorem RPlantAt.lt {w:World} {rb:Nat} {p:Ch.Plant} (h:RPlantAt w rb p):rb<w.heap.size:=by
 by_cases hb:rb<w.heap.size
 ·exact hb
 ·have:=h.blk
  rw [Array.getElem?_eq_none (Nat.le_of_not_lt hb)] at this;cases this
theorem RPlantAt.same {w w':World} {rb:Nat} {p:Ch.Plant} (h:RPlantAt w rb p) (h1:w'.heap[rb]? = w.heap[rb]?):RPlantAt w' rb p:=⟨h1.trans h.blk⟩
theorem RPlantAt.ext {w w':World} {rb:Nat} {p:Ch.Plant} (h:RPlantAt w rb p) (e:Ext w w'):RPlantAt w' rb p:=by
 obtain ⟨o,n,rfl⟩:=e;exact h.same (plus_heap w o n rb h.lt)
theorem RPlantAt.kept {S:Nat→Prop} {w w':World} {rb:Nat} {p:Ch.Plant} (h:RPlantAt w rb p) (k:Kept S w w') (hn:¬ S rb):RPlantAt w' rb p:=h.same (k.block rb h.lt hn)
theorem RPlantAt.cells {w:World} {rb:Nat} {p:Ch.Plant} (h:RPlantAt w rb p):
  w.cell? ⟨rb,0,none⟩=some (vi p.levels)∧w.cell? ⟨rb,1,none⟩=some (vi p.height)∧w.cell? ⟨rb,2,none⟩=some (vi p.ext)∧w.cell? ⟨rb,3,none⟩=some (.bool p.door) ∧
  w.cell? ⟨rb,4,none⟩=some (vi p.people)∧w.cell? ⟨rb,5,none⟩=some (vi p.lift)∧w.cell? ⟨rb,6,none⟩=some (vi p.bay) ∧
  w.cell? ⟨rb,27,none⟩=some (vi p.stall)∧w.cell? ⟨rb,28,none⟩=some (.bool p.hurt):=
 ⟨block_cell h.blk rfl,block_cell h.blk rfl,block_cell h.blk rfl,block_cell h.blk rfl,block_cell h.blk rfl,block_cell h.blk rfl,block_cell h.blk rfl,block_cell h.blk rfl,block_cell h.blk rfl⟩
def slotOff (a b c:Int):Nat:=7+a.toNat * 4+b.toNat * 2+c.toNat
theorem slot_cell (p:Ch.Plant) {a b c:Int} (a0:0≤a) (a1:a≤4) (b0:0≤b) (b1:b≤1) (c0:0≤c) (c1:c≤1):(rCells p)[slotOff a b c]? = some (vi (p.slots ⟨a,b,c⟩)):=by
 have ha:a=0∨a=1∨a=2∨a=3∨a=4:=by omega
 have hb:b=0∨b=1:=by omega
 have hc:c=0∨c=1:=by omega
 rcases ha with rfl|rfl|rfl|rfl|rfl <;> rcases hb with rfl|rfl <;> rcases hc with rfl|rfl <;> rfl
theorem RPlantAt.slot {w:World} {rb:Nat} {p:Ch.Plant} (h:RPlantAt w rb p) {a b c:Int} (a0:0≤a) (a1:a≤4) (b0:0≤b) (b1:b≤1) (c0:0≤c) (c1:c≤1):
  w.cell? ⟨rb,slotOff a b c,none⟩=some (vi (p.slots ⟨a,b,c⟩)):=block_cell h.blk (slot_cell p a0 a1 b0 b1 c0 c1)
theorem slotNat (w:World) {rb:Nat} {p:Ch.Plant} (h:RPlantAt w rb p) {a b c:Nat} (ha:a≤4) (hb:b≤1) (hc:c≤1):w.cell? ⟨rb,7+a * 4+b * 2+c,none⟩=some (vi (p.slots ⟨(a:Int),(b:Int),(c:Int)⟩)):=by
 have:=h.slot (a:=(a:Int)) (b:=(b:Int)) (c:=(c:Int)) (by omega) (by omega) (by omega) (by omega) (by omega) (by omega)
 simpa [slotOff] using this
theorem rplace_none (rb:Nat) (h e:Int) (w:World) (hc:w.cell? ⟨rb,1,none⟩=some (vi h)) (h0:0≤h) (h1:h≤12) (e0:-3≤e) (e1:e≤3) (hx:placeAt h e=none):
  Calls Try.prog 151 #[.pointer (some ⟨rb,0,none⟩),vi e] w fun r w'=>r = .returned (.tuple #[.agg #[vi 0,vi 0,vi 0],.bool false])∧Ext w w':=by
 have hb:=cell_lt hc;have HX:=placeAt_none hx;clear hx;go_enter Try.func151,Try.ntmps151;go_wp2
 all_goals
  first
  | (exfalso;go_light;(try simp only [beq_iff_eq] at *);omega)
  | exact bodyPost_ret (v:=.tuple #[.agg #[vi 0,vi 0,vi 0],.bool false]) (by simp [results,Try.results151,go_sem]) rfl ⟨rfl,(by simp (maxDischargeDepth:=60))⟩
theorem rplace_some (rb:Nat) (h e:Int) (a b c:Int) (w:World) (hc:w.cell? ⟨rb,1,none⟩=some (vi h)) (h0:0≤h) (h1:h≤12) (e0:-3≤e) (e1:e≤3) (hx:placeAt h e=some ⟨a,b,c⟩):
    Calls Try.prog 151 #[.pointer (some ⟨rb,0,none⟩),vi e] w fun r w'=>r = .returned (.tuple #[.agg #[vi a,vi b,vi c],.bool true])∧Ext w w':=by
  have hb:=cell_lt hc;have HX:=placeAt_some hx;simp only [Ch.Place.mk.injEq] at HX
  have he:e=-2∨e=-1∨e=1∨e=2:=by omega
  clear hx
  rcases he with rfl|rfl|rfl|rfl
  all_goals
    have HX:=Lib.hid HX
    obtain ⟨k1,k2⟩:h % 3=0∧¬ h=0:=⟨HX.out.1,HX.out.2.1⟩
    go_enter Try.func151,Try.ntmps151;go_wp2
    all_goals
      have HX:=HX.out
      first
      | (exfalso;go_light;(try simp only [beq_iff_eq] at *);omega)
      | (obtain ⟨_,_,_,_,_,⟨hl,rfl,rfl,rfl⟩|⟨hl,rfl,rfl,rfl⟩⟩:=HX
         · first
           | (exfalso;go_light;omega)
           | exact bodyPost_ret (by first|(simp [results,Try.results151,go_sem];done)|(simp [results,Try.results151,go_sem];rfl)) rfl ⟨rfl,(by simp (maxDischargeDepth:=60))⟩
         · first
           | (exfalso;go_light;omega)
           | exact bodyPost_ret (by first|(simp [results,Try.results151,go_sem];done)|(simp [results,Try.results151,go_sem];rfl)) rfl ⟨rfl,(by simp (maxDischargeDepth:=60))⟩)
theorem rat_in {rb:Nat} {p:Ch.Plant} {w:World} (h:RPlantAt w rb p) (a b c:Nat) (a1:1≤a) (a4:a≤4) (hb:b≤1) (hc:c≤1):
  Calls Try.prog 128 #[.pointer (some ⟨rb,0,none⟩),.agg #[vi (a:Int),vi (b:Int),vi (c:Int)]] w fun r w'=>r = .returned (vi (p.slots ⟨(a:Int),(b:Int),(c:Int)⟩))∧Ext w w':=by
 have hs:=slotNat w h a4 hb hc;have hlt:=h.lt;have hf:Hid (Ch.placeFault ⟨(a:Int),(b:Int),(c:Int)⟩ 4=0):=Ch.placeFault_iff.2 ⟨by dsimp only;omega,by dsimp only;omega,by dsimp only;omega,by dsimp only;omega,by dsimp only;omega,by dsimp only;omega⟩
 have j0:(0:Int)≤(a:Int):=by omega
 have j1:(a:Int)<5:=by omega
 have j2:(0:Int)≤(b:Int):=by omega
 have j3:(b:Int)<2:=by omega
 have j4:(0:Int)≤(c:Int):=by omega
 have j5:(c:Int)<2:=by omega
 clear h;go_enter Try.func128,Try.ntmps128
 go_upto_region 3 with (go_at_call 20;refine (rplaceFault_f _ _ _ _ _).mono ?_;rintro e w1 ⟨he,o1,n1,rfl⟩;rw [hf.out] at he;subst he)
 (refine wp_region_ext (by kernel_rfl) (by kernel_rfl) ?_;(repeat (first|go_big_quiet_step (fail)|quiet_step (fail)));refine wpQuiet_nil ?_;intro _ hw';obtain ⟨oq,nq,hw''⟩:=hw';subst hw'')
 go_wp2;go_ret;exact ⟨rfl,(by simp (maxDischargeDepth:=60))⟩
theorem rat_out {rb:Nat} {p:Ch.Plant} {w:World} (a b c:Int) (hx:¬ Ch.placeFault ⟨a,b,c⟩ 4=0):
  Calls Try.prog 128 #[.pointer (some ⟨rb,0,none⟩),.agg #[vi a,vi b,vi c]] w fun r w'=>r = .returned (vi 0)∧Ext w w':=by
 have hf:Hid (Ch.placeFault ⟨a,b,c⟩ 4=1):=by
  unfold Hid
  unfold Ch.placeFault at hx ⊢
  split <;> simp_all
 clear hx;go_enter Try.func128,Try.ntmps128;go_wp2_with (go_at_call 20;refine (rplaceFault_f _ _ _ _ _).mono ?_;rintro e w1 ⟨he,o1,n1,rfl⟩;rw [hf.out] at he;subst he);go_ret;exact ⟨rfl,(by simp (maxDischargeDepth:=60))⟩
theorem slot_out {p:Ch.Plant} (hp:p.WF) {x:Ch.Place} (hx:¬ Ch.placeFault x 4=0):p.slots x=0:=by
 by_cases hz:p.slots x=0
 ·exact hz
 ·have h:=Ch.placeFault_iff.1 (hp.sl x hz)
  have h2:=hp.lv2;exact absurd (Ch.placeFault_iff.2 ⟨h.1,by omega,h.2.2.1,h.2.2.2.1,h.2.2.2.2.1,h.2.2.2.2.2⟩) hx
theorem rat_any {rb:Nat} {p:Ch.Plant} {w:World} (h:RPlantAt w rb p) (hp:p.WF) (a b c:Int):
  Calls Try.prog 128 #[.pointer (some ⟨rb,0,none⟩),.agg #[vi a,vi b,vi c]] w fun r w'=>r = .returned (vi (p.slots ⟨a,b,c⟩))∧Ext w w':=by
 by_cases hf:Ch.placeFault ⟨a,b,c⟩ 4=0
 ·have h6:=Ch.placeFault_iff.1 hf
  dsimp only at h6
  obtain ⟨a',rfl⟩:∃ n:Nat,a=n:=⟨a.toNat,by omega⟩
  obtain ⟨b',rfl⟩:∃ n:Nat,b=n:=⟨b.toNat,by omega⟩
  obtain ⟨c',rfl⟩:∃ n:Nat,c=n:=⟨c.toNat,by omega⟩
  exact rat_in h a' b' c' (by omega) (by omega) (by omega) (by omega)
 ·rw [slot_out hp hf]
  exact rat_out (p:=p) a b c hf
theorem rfull_any {rb:Nat} {p:Ch.Plant} {w:World} (h:RPlantAt w rb p) (hp:p.WF) (e:Int) (e0:-3≤e) (e1:e≤3):
  Calls Try.prog 152 #[.pointer (some ⟨rb,0,none⟩),vi e] w fun r w'=>r = .returned (.bool (p.full e))∧Ext w w':=by
 obtain ⟨c0,c1,c2,c3,c4,c5,c6,c7,c8⟩:=h.cells;have hb:=cell_lt c1;have h0:=hp.ht1
 have h1:p.height≤12:=by have:=hp.ht2;have:=hp.lv2;omega
 cases hx:placeAt p.height e with
 | none=>
  have HF:Hid (p.full e=false):=by unfold Hid Ch.Plant.full;rw [place_at,hx]
  have HX:=Lib.hid hx;clear hx h;go_enter Try.func152,Try.ntmps152;go_wp2_with (first|(go_at_call 151;(with_reducible refine (rplace_none _ _ _ _ (by assumption) (by omega) (by omega) (by omega) (by omega) HX.out).mono ?_);rintro e w1 ⟨rfl,o1,n1,rfl⟩)|(go_at_call 128;(with_reducible refine (rat_out (p:=p) 0 0 0 (by decide)).mono ?_);rintro e w1 ⟨rfl,o1,n1,rfl⟩));exact bodyPost_ret (v:=.bool false) (by simp [results,Try.results152,go_sem]) rfl ⟨by rw [HF.out],(by simp (maxDischargeDepth:=60))⟩
 | some x=>
  obtain ⟨a,b,c⟩:=x
  have HF:Hid (p.full e=(p.slots ⟨a,b,c⟩ != 0)):=by unfold Hid Ch.Plant.full;rw [place_at,hx]
  have HX:=Lib.hid hx;have HP:=Lib.hid h;clear hx h;go_enter Try.func152,Try.ntmps152;go_wp2_with (first|(go_at_call 151;(with_reducible refine (rplace_some _ _ _ a b c _ (by assumption) (by omega) (by omega) (by omega) (by omega) HX.out).mono ?_);rintro e w1 ⟨rfl,o1,n1,rfl⟩)|(go_at_call 128;(with_reducible refine (rat_any (HP.out.ext (by simp (maxDischargeDepth:=60))) hp a b c).mono ?_);rintro e w1 ⟨rfl,o1,n1,rfl⟩))
  all_goals
   exact bodyPost_ret (v:=.bool (p.slots ⟨a,b,c⟩ != 0)) (by simp [results,Try.results152,go_sem]) rfl ⟨by rw [HF.out],(by simp (maxDischargeDepth:=60))⟩
theorem block_ext {w w':World} {b:Nat} {o:Obj} (h:w.heap[b]? = some o) (x:Ext w w'):w'.heap[b]? = some o:=by
 have hb:b<w.heap.size:=by
  by_cases hb:b<w.heap.size
  ·exact hb
  ·rw [Array.getElem?_eq_none (Nat.le_of_not_lt hb)] at h;cases h
 obtain ⟨o',n,rfl⟩:=x;rw [plus_heap w o' n b hb];exact h
end Go.Proofs.Ytplomeacjbkgnaa
