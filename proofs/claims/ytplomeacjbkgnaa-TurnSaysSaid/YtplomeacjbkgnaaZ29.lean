import Derived.Test.YtplomeacjbkgnaaZ20
import Derived.Test.YtplomeacjbkgnaaZ28
set_option linter.all false
set_option maxRecDepth 100000
set_option maxHeartbeats 16000000
namespace Go.Proofs.Ytplomeacjbkgnaa
open Go.RowKit
abbrev rhCells (lv:Value) (rb:Nat) (last:Int) (a1:Option Addr) (m1 c1:Nat) (a2:Option Addr) (m2 c2:Nat) (gv:Value):Array Value:=#[lv,.pointer (some ⟨rb,0,none⟩),vi last,.slice a1 m1 c1,.slice a2 m2 c2,gv]
structure RHAt (w:World) (hb rb:Nat) (lv:Value) (last:Int) (a1:Option Addr) (m1 c1:Nat) (a2:Option Addr) (m2 c2:Nat) (gv:Value) (l:List Ch.Stay) (js:List Ch.Job) (p:Ch.Plant):Prop where
 blk:w.heap[hb]? = some (.cells (rhCells lv rb last a1 m1 c1 a2 m2 c2 gv) 124 (0,0))
 st:Sl w 8 stayCells l a1 m1 c1
 jb:Sl w 2 jobCells js a2 m2 c2
 pl:RPlantAt w rb p
theorem RHAt.ext {w w':World} {hb rb:Nat} {lv:Value} {last:Int} {a1:Option Addr} {m1 c1:Nat} {a2:Option Addr} {m2 c2:Nat} {gv:Value} {l:List Ch.Stay} {js:List Ch.Job} {p:Ch.Plant} (h:RHAt w hb rb lv last a1 m1 c1 a2 m2 c2 gv l js p) (x:Ext w w'):RHAt w' hb rb lv last a1 m1 c1 a2 m2 c2 gv l js p:=
 ⟨block_ext h.blk x,Sl.below h.st x.below,Sl.below h.jb x.below,h.pl.ext x⟩
theorem RHAt.cells {w:World} {hb rb:Nat} {lv:Value} {last:Int} {a1:Option Addr} {m1 c1:Nat} {a2:Option Addr} {m2 c2:Nat} {gv:Value} {l:List Ch.Stay} {js:List Ch.Job} {p:Ch.Plant} (h:RHAt w hb rb lv last a1 m1 c1 a2 m2 c2 gv l js p):
  w.cell? ⟨hb,0,none⟩=some lv∧w.cell? ⟨hb,1,none⟩=some (.pointer (some ⟨rb,0,none⟩))∧w.cell? ⟨hb,2,none⟩=some (vi last)∧w.cell? ⟨hb,3,none⟩=some (.slice a1 m1 c1)∧w.cell? ⟨hb,4,none⟩=some (.slice a2 m2 c2)∧w.cell? ⟨hb,5,none⟩=some gv:=
 ⟨block_cell h.blk rfl,block_cell h.blk rfl,block_cell h.blk rfl,block_cell h.blk rfl,block_cell h.blk rfl,block_cell h.blk rfl⟩
theorem find_ticket {last t:Int} {l:List Ch.Stay} {js:List Ch.Job} {s:Ch.Stay} (ht:t≠0) (hm:∃ x∈l,x.ticket=t) (hs:(⟨last,l,js⟩:Ch.Book).stay t=s):l.find? (stayOfP t 0)=some s:=by
 obtain ⟨i,s',-,hl,h1,h2⟩:=stay_at (last:=last) (js:=js) hm
 have e:l.find? (stayOfP t 0)=l.find? (fun s=>s.ticket==t):=by
  congr 1
  funext x
  unfold stayOfP
  have:(t==0)=false:=by simpa using ht
  rw [this];simp
 rw [e];unfold Ch.Book.stay Ch.Book.find at hs;dsimp only at hs
 cases hf:l.find? (fun s=>s.ticket==t) with
 | none=>
  obtain ⟨x,hx,hxt⟩:=hm;have:=List.find?_eq_none.1 hf x hx;simp [hxt] at this
 | some y=>rw [hf] at hs;exact congrArg some hs
theorem refStay (st si x1 x2 x3 u1 u2 u3:Int) (last t:Int) (a1:Option Addr) (m1 c1:Nat) (a2:Option Addr) (m2 c2:Nat) (l:List Ch.Stay) (js:List Ch.Job) (w:World) (h:Sl w 8 stayCells l a1 m1 c1) (ht:Hid (t≠0)) (hm:Hid (∃ x∈l,x.ticket=t))
  (hs:Hid ((⟨last,l,js⟩:Ch.Book).stay t=⟨st,⟨si,⟨x1,x2,x3⟩⟩,⟨u1,u2,u3⟩⟩)):
  Calls Try.prog 107 #[bookA last a1 m1 c1 a2 m2 c2,vi t,vi 0] w fun e w'=>e = .returned (.tuple #[.agg #[vi st,vi si,vi x1,vi x2,vi x3,vi u1,vi u2,vi u3],.bool true])∧Ext w w':=by
 have:=stayOf_any last t 0 a1 m1 c1 a2 m2 c2 l w h;rw [find_ticket ht.out hm.out hs.out] at this;exact this
theorem rfirst_any (jt:Int) (jf is:Bool) {w:World} {hb rb:Nat} {lv:Value} {last:Int} {a1:Option Addr} {m1 c1:Nat} {a2:Option Addr} {m2 c2:Nat} {gv:Value} {l:List Ch.Stay} {js:List Ch.Job} {p:Ch.Plant} (hh:RHAt w hb rb lv last a1 m1 c1 a2 m2 c2 gv l js p)
  (hj:Hid (∀ j∈js,∃ s∈l,s.ticket=j.ticket)) (h0:Hid (∀ s∈l,s.ticket≠0)) (ba:Int) (hba:Hid (p.bay=ba)) (hv:Hid (firstT (Ch.firstJob ⟨last,l,js⟩ ba)=(jt,jf,is))):
  Calls Try.prog 133 #[.pointer (some ⟨hb,0,none⟩)] w fun e w'=>e = .returned (.tuple #[.agg #[vi jt,.bool jf],.bool is])∧Ext w w':=by
 obtain ⟨c0,q1',q2',q3',q4',q5'⟩:=hh.cells;have b1:=hh.st.bound;have b2:=hh.jb.bound;have hbl:=cell_lt q2';have E1:=Lib.hid hh.st.len;have E2:=Lib.hid hh.jb.len;have HH:=Lib.hid hh;have pb6:=hh.pl.cells.2.2.2.2.2.2.1;clear hh c0 q5';rw [hba.out] at pb6;go_enter Try.func133,Try.ntmps133
 go_upto_region 2 with fail
 generalize hW:World.alloc _ _=w0
 have hx:Ext w w0:=by rw [←hW];exact (by simp (maxDischargeDepth:=60))
 have k1:=xcell hx q1';have k2:=xcell hx q2';have k3:=xcell hx q3';have k4:=xcell hx q4';have k6:=xcell hx pb6
 have r0:w0.cell? ⟨w.heap.size,0,none⟩=some (vi 0):=by rw [←hW];simp [go_sem]
 have r1:w0.cell? ⟨w.heap.size,1,none⟩=some (.bool false):=by rw [←hW];simp [go_sem]
 have fz:∀ i,w0.frozen? ⟨w.heap.size,i,none⟩=false:=by intro i;rw [←hW];simp [go_sem]
 have FZ:=Lib.hid fz;have HS:=Lib.hid (Sl.below HH.out.st hx.below);have HK:=Lib.hid (Sl.below HH.out.jb hx.below);have HX:=Lib.hid hx;have z1:=cell_lt k1;have z2:=cell_lt r0;have z3:=cell_lt k6;clear hW hx HH fz q1' q2' q3' q4' pb6
 go_loopw [4] (fun i wr=>∃ k:Nat,k≤m2∧i = .int .i64 k∧Hid (js.find? (puts ⟨last,l,js⟩ ba)=(js.drop k).find? (puts ⟨last,l,js⟩ ba))∧Ext w0 wr) (fun i _=>m2 - (intOf i).toNat)
 case atStart=>exact ⟨0,by omega,rfl,by simp [Hid],(by simp (maxDischargeDepth:=60))⟩
 case round=>
  obtain ⟨k,hk,rfl,HT,o,m,rfl⟩:=hrel
  by_cases hlt:k<m2
  ·obtain ⟨b,q,j,rfl,hj',dj⟩:=HK.out.get hlt
   have dj:=at2 dj;have hq:=cell_lt dj.1;obtain ⟨t,f⟩:=j;dsimp only at dj
   have hk0:(0:Int)≤(k:Int):=by omega
   have hk1:(k:Int)≤(m2:Int):=by omega
   have hk2:(k:Int)≤(c2:Int):=by omega
   have HT2:=find_drop (P:=puts ⟨last,l,js⟩ ba) hj';have HTM:Hid (∃ s∈l,s.ticket=t):=hj.out _ (List.mem_of_getElem? hj')
   have HT0:Hid (t≠0):=by
    obtain ⟨s,hs,e⟩:=HTM.out;rw [←e];exact h0.out s hs
   obtain ⟨⟨st,⟨sid,⟨sl1,sl2,sl3⟩⟩,⟨sp1,sp2,sp3⟩⟩,HST⟩:∃ s,Hid ((⟨last,l,js⟩:Ch.Book).stay t=s):=⟨_,rfl⟩
   cases f
   ·cases hb':decide (sid=ba)
    ·have hbb:¬ sid=ba:=of_decide_eq_false hb'
     have HR:Hid (js.find? (puts ⟨last,l,js⟩ ba)=(js.drop (k+1)).find? (puts ⟨last,l,js⟩ ba)):=by
      unfold Hid;rw [HT.out,HT2,if_neg];simp [puts,HST.out,hbb]
     clear HT2 hj' HT;clear hb'
     go_upto_region 5 with fail
     generalize hW:World.alloc _ _=w3;generalize hJ:w0.heap.size+o.size=J
     have f0':w3.cell? ⟨J,0,none⟩=some (vi t):=by rw [←hW,←hJ];simp [go_sem]
     have f1':w3.cell? ⟨J,1,none⟩=some (.bool false):=by rw [←hW,←hJ];simp [go_sem]
     have hx3:Ext w0 w3:=by rw [←hW];exact (by simp (maxDischargeDepth:=60))
     have HX3:=Lib.hid hx3;have g1:=xcell hx3 k1;have g2:=xcell hx3 k2;have g3:=xcell hx3 k3;have g4:=xcell hx3 k4;have g6:=xcell hx3 k6;have y0:=xcell hx3 r0;have y1:=xcell hx3 r1;have fy0:=xfree hx3 (cell_lt r0) (FZ.out 0);have fy1:=xfree hx3 (cell_lt r0) (FZ.out 1);have gz:=cell_lt f0';have gz0:=cell_lt g1;have gz1:=cell_lt y0;have gz3:=cell_lt g6;clear hW hJ hx3
     go_region_held3 (fun w'=>w'.cell? ⟨hb,2,none⟩=some (vi last)∧w'.cell? ⟨hb,3,none⟩=some (.slice a1 m1 c1)∧w'.cell? ⟨hb,4,none⟩=some (.slice (some ⟨b,q,none⟩) m2 c2)∧w'.cell? ⟨J,0,none⟩=some (vi t)) (first|((try dsimp only);(repeat' apply And.intro) <;> (refine xcell (w:=w3) ?_ (by assumption);simp (maxDischargeDepth:=60);done))) (first|(go_at_call 107;(with_reducible refine (refStay st sid sl1 sl2 sl3 sp1 sp2 sp3 _ _ _ _ _ _ _ _ l js _ (Sl.below HS.out (HX3.out.trans (by simp (maxDischargeDepth:=60))).below) HT0 HTM HST).mono ?_);rintro e w1 ⟨rfl,o1,n1,rfl⟩))
     ·generalize hW:World.alloc _ _=w5
      generalize hA:w3.heap.size+_=A
      have hx5:Ext w3 w5:=by rw [←hW];exact (by simp (maxDischargeDepth:=60))
      have s1:w5.cell? ⟨A,1,none⟩=some (vi sid):=by rw [←hW,←hA];simp [go_sem]
      clear hW hA;have HX5:=Lib.hid hx5;have v1:=xcell hx5 g1;have v6:=xcell hx5 g6;have vf0:=xcell hx5 f0';have vf1:=xcell hx5 f1';have vy0:=xcell hx5 y0;have vy1:=xcell hx5 y1;have vz0:=xfree hx5 gz1 fy0;have vz1:=xfree hx5 gz1 fy1;have vl1:=cell_lt v1;have vl6:=cell_lt v6;have vlf:=cell_lt vf0;have vly:=cell_lt vy0;have vls:=cell_lt s1;clear hx5 g1 g2 g3 g4 g6 f0' f1' y0 y1 fy0 fy1 gz gz0 gz1 gz3
      go_upto_region 6 with fail
      (refine wp_region_ext (by kernel_rfl) (by kernel_rfl) ?_;(repeat (first|go_big_quiet_step (fail)|quiet_step (fail)));refine wpQuiet_nil ?_;intro _ hw';obtain ⟨oq,nq,hw''⟩:=hw';subst hw'')
      go_wp2;go_roundw
      case rel=>first|exact ⟨k+1,by omega,by go_num,by unfold Hid;rw [HR.out],HX3.out.trans (HX5.out.trans (by simp (maxDischargeDepth:=60)))⟩|(repeat apply Exists.intro;refine ⟨?_,rfl⟩;exact ⟨k+1,by omega,by go_num,by unfold Hid;rw [HR.out],HX3.out.trans (HX5.out.trans (by simp (maxDischargeDepth:=60)))⟩)
      case measure=>simp [intOf];omega
     ·generalize hW:World.setCell _ _ _=w5
      obtain ⟨-,s1,-,-,-,-,-,-,hx5⟩:=put8 (w:=w3) hW (by simp (maxDischargeDepth:=60)) (by simp) (by rw [plus_heap _ _ _ _ (by simp)];exact alloc_at _ _ _ (by simp)) rfl;clear hW;have HX5:=Lib.hid hx5;have v1:=xcell hx5 g1;have v6:=xcell hx5 g6;have vf0:=xcell hx5 f0';have vf1:=xcell hx5 f1';have vy0:=xcell hx5 y0;have vy1:=xcell hx5 y1;have vz0:=xfree hx5 gz1 fy0;have vz1:=xfree hx5 gz1 fy1;have vl1:=cell_lt v1;have vl6:=cell_lt v6;have vlf:=cell_lt vf0;have vly:=cell_lt vy0;have vls:=cell_lt s1;clear hx5 g1 g2 g3 g4 g6 f0' f1' y0 y1 fy0 fy1 gz gz0 gz1 gz3
      go_upto_region 6 with fail
      (refine wp_region_ext (by kernel_rfl) (by kernel_rfl) ?_;(repeat (first|go_big_quiet_step (fail)|quiet_step (fail)));refine wpQuiet_nil ?_;intro _ hw';obtain ⟨oq,nq,hw''⟩:=hw';subst hw'')
      go_wp2;go_roundw
      case rel=>first|exact ⟨k+1,by omega,by go_num,by unfold Hid;rw [HR.out],HX3.out.trans (HX5.out.trans (by simp (maxDischargeDepth:=60)))⟩|(repeat apply Exists.intro;refine ⟨?_,rfl⟩;exact ⟨k+1,by omega,by go_num,by unfold Hid;rw [HR.out],HX3.out.trans (HX5.out.trans (by simp (maxDischargeDepth:=60)))⟩)
      case measure=>simp [intOf];omega
    ·have hbb:sid=ba:=of_decide_eq_true hb'
     have hF:=hv.out;rw [first_hit (j:=⟨t,false⟩) (by rw [HT.out,HT2,if_pos];simp [puts,HST.out,hbb])] at hF;simp only [firstT,Prod.mk.injEq] at hF;obtain ⟨rfl,rfl,rfl⟩:=hF;subst hbb;clear hb' HT2 hj' HT
     go_upto_region 5 with fail
     generalize hW:World.alloc _ _=w3;generalize hJ:w0.heap.size+o.size=J
     have f0':w3.cell? ⟨J,0,none⟩=some (vi t):=by rw [←hW,←hJ];simp [go_sem]
     have f1':w3.cell? ⟨J,1,none⟩=some (.bool false):=by rw [←hW,←hJ];simp [go_sem]
     have hx3:Ext w0 w3:=by rw [←hW];exact (by simp (maxDischargeDepth:=60))
     have HX3:=Lib.hid hx3;have g1:=xcell hx3 k1;have g2:=xcell hx3 k2;have g3:=xcell hx3 k3;have g4:=xcell hx3 k4;have g6:=xcell hx3 k6;have y0:=xcell hx3 r0;have y1:=xcell hx3 r1;have fy0:=xfree hx3 (cell_lt r0) (FZ.out 0);have fy1:=xfree hx3 (cell_lt r0) (FZ.out 1);have gz:=cell_lt f0';have gz0:=cell_lt g1;have gz1:=cell_lt y0;have gz3:=cell_lt g6;clear hW hJ hx3
     go_region_held3 (fun w'=>w'.cell? ⟨hb,2,none⟩=some (vi last)∧w'.cell? ⟨hb,3,none⟩=some (.slice a1 m1 c1)∧w'.cell? ⟨hb,4,none⟩=some (.slice (some ⟨b,q,none⟩) m2 c2)∧w'.cell? ⟨J,0,none⟩=some (vi t)) (first|((try dsimp only);(repeat' apply And.intro) <;> (refine xcell (w:=w3) ?_ (by assumption);simp (maxDischargeDepth:=60);done))) (first|(go_at_call 107;(with_reducible refine (refStay st sid sl1 sl2 sl3 sp1 sp2 sp3 _ _ _ _ _ _ _ _ l js _ (Sl.below HS.out (HX3.out.trans (by simp (maxDischargeDepth:=60))).below) HT0 HTM HST).mono ?_);rintro e w1 ⟨rfl,o1,n1,rfl⟩))
     ·generalize hW:World.alloc _ _=w5
      generalize hA:w3.heap.size+_=A
      have hx5:Ext w3 w5:=by rw [←hW];exact (by simp (maxDischargeDepth:=60))
      have s1:w5.cell? ⟨A,1,none⟩=some (vi sid):=by rw [←hW,←hA];simp [go_sem]
      clear hW hA;have HX5:=Lib.hid hx5;have v1:=xcell hx5 g1;have v6:=xcell hx5 g6;have vf0:=xcell hx5 f0';have vf1:=xcell hx5 f1';have vy0:=xcell hx5 y0;have vy1:=xcell hx5 y1;have vz0:=xfree hx5 gz1 fy0;have vz1:=xfree hx5 gz1 fy1;have vl1:=cell_lt v1;have vl6:=cell_lt v6;have vlf:=cell_lt vf0;have vly:=cell_lt vy0;have vls:=cell_lt s1;clear hx5 g1 g2 g3 g4 g6 f0' f1' y0 y1 fy0 fy1 gz gz0 gz1 gz3
      go_upto_region 6 with fail
      (refine wp_region_ext (by kernel_rfl) (by kernel_rfl) ?_;(repeat (first|go_big_quiet_step (fail)|quiet_step (fail)));refine wpQuiet_nil ?_;intro _ hw';obtain ⟨oq,nq,hw''⟩:=hw';subst hw'')
      go_wp2;obtain ⟨p0,p1,px⟩:=put2 (w:=w) (x:=vi t) (y:=.bool false) (HX.out.trans (HX3.out.trans (HX5.out.trans (show Ext w5 (w5.plus oq nq) from (by simp (maxDischargeDepth:=60)))))) (Nat.le_refl _) (xcell (show Ext w5 (w5.plus oq nq) from (by simp (maxDischargeDepth:=60))) vy0) (xcell (show Ext w5 (w5.plus oq nq) from (by simp (maxDischargeDepth:=60))) vy1);refine bodyPost_ret (v:=.tuple #[.agg #[vi t,.bool false],.bool true]) (by simp [results,Try.results133,go_sem,p0,p1]) rfl ⟨rfl,px⟩
     ·generalize hW:World.setCell _ _ _=w5
      obtain ⟨-,s1,-,-,-,-,-,-,hx5⟩:=put8 (w:=w3) hW (by simp (maxDischargeDepth:=60)) (by simp) (by rw [plus_heap _ _ _ _ (by simp)];exact alloc_at _ _ _ (by simp)) rfl;clear hW;have HX5:=Lib.hid hx5;have v1:=xcell hx5 g1;have v6:=xcell hx5 g6;have vf0:=xcell hx5 f0';have vf1:=xcell hx5 f1';have vy0:=xcell hx5 y0;have vy1:=xcell hx5 y1;have vz0:=xfree hx5 gz1 fy0;have vz1:=xfree hx5 gz1 fy1;have vl1:=cell_lt v1;have vl6:=cell_lt v6;have vlf:=cell_lt vf0;have vly:=cell_lt vy0;have vls:=cell_lt s1;clear hx5 g1 g2 g3 g4 g6 f0' f1' y0 y1 fy0 fy1 gz gz0 gz1 gz3
      go_upto_region 6 with fail
      (refine wp_region_ext (by kernel_rfl) (by kernel_rfl) ?_;(repeat (first|go_big_quiet_step (fail)|quiet_step (fail)));refine wpQuiet_nil ?_;intro _ hw';obtain ⟨oq,nq,hw''⟩:=hw';subst hw'')
      go_wp2;obtain ⟨p0,p1,px⟩:=put2 (w:=w) (x:=vi t) (y:=.bool false) (HX.out.trans (HX3.out.trans (HX5.out.trans (show Ext w5 (w5.plus oq nq) from (by simp (maxDischargeDepth:=60)))))) (Nat.le_refl _) (xcell (show Ext w5 (w5.plus oq nq) from (by simp (maxDischargeDepth:=60))) vy0) (xcell (show Ext w5 (w5.plus oq nq) from (by simp (maxDischargeDepth:=60))) vy1);refine bodyPost_ret (v:=.tuple #[.agg #[vi t,.bool false],.bool true]) (by simp [results,Try.results133,go_sem,p0,p1]) rfl ⟨rfl,px⟩
   ·have HR:Hid (js.find? (puts ⟨last,l,js⟩ ba)=(js.drop (k+1)).find? (puts ⟨last,l,js⟩ ba)):=by
     unfold Hid;rw [HT.out,HT2,if_neg];simp [puts]
    clear HT2 hj' HT
    go_upto_region 5 with fail
    generalize hW:World.alloc _ _=w3;generalize hJ:w0.heap.size+o.size=J
    have f0':w3.cell? ⟨J,0,none⟩=some (vi t):=by rw [←hW,←hJ];simp [go_sem]
    have f1':w3.cell? ⟨J,1,none⟩=some (.bool true):=by rw [←hW,←hJ];simp [go_sem]
    have hx3:Ext w0 w3:=by rw [←hW];exact (by simp (maxDischargeDepth:=60))
    have HX3:=Lib.hid hx3;have g1:=xcell hx3 k1;have g2:=xcell hx3 k2;have g3:=xcell hx3 k3;have g4:=xcell hx3 k4;have g6:=xcell hx3 k6;have y0:=xcell hx3 r0;have y1:=xcell hx3 r1;have fy0:=xfree hx3 (cell_lt r0) (FZ.out 0);have fy1:=xfree hx3 (cell_lt r0) (FZ.out 1);have gz:=cell_lt f0';have gz0:=cell_lt g1;have gz1:=cell_lt y0;have gz3:=cell_lt g6;clear hW hJ hx3
    go_region_held3 (fun w'=>w'.cell? ⟨hb,2,none⟩=some (vi last)∧w'.cell? ⟨hb,3,none⟩=some (.slice a1 m1 c1)∧w'.cell? ⟨hb,4,none⟩=some (.slice (some ⟨b,q,none⟩) m2 c2)∧w'.cell? ⟨J,0,none⟩=some (vi t)) (first|((try dsimp only);(repeat' apply And.intro) <;> (refine xcell (w:=w3) ?_ (by assumption);simp (maxDischargeDepth:=60);done))) (first|(go_at_call 107;(with_reducible refine (refStay st sid sl1 sl2 sl3 sp1 sp2 sp3 _ _ _ _ _ _ _ _ l js _ (Sl.below HS.out (HX3.out.trans (by simp (maxDischargeDepth:=60))).below) HT0 HTM HST).mono ?_);rintro e w1 ⟨rfl,o1,n1,rfl⟩))
    ·generalize hW:World.alloc _ _=w5
     generalize hA:w3.heap.size+_=A
     have hx5:Ext w3 w5:=by rw [←hW];exact (by simp (maxDischargeDepth:=60))
     have s1:w5.cell? ⟨A,1,none⟩=some (vi sid):=by rw [←hW,←hA];simp [go_sem]
     clear hW hA;have HX5:=Lib.hid hx5;have v1:=xcell hx5 g1;have v6:=xcell hx5 g6;have vf0:=xcell hx5 f0';have vf1:=xcell hx5 f1';have vy0:=xcell hx5 y0;have vy1:=xcell hx5 y1;have vz0:=xfree hx5 gz1 fy0;have vz1:=xfree hx5 gz1 fy1;have vl1:=cell_lt v1;have vl6:=cell_lt v6;have vlf:=cell_lt vf0;have vly:=cell_lt vy0;have vls:=cell_lt s1;clear hx5 g1 g2 g3 g4 g6 f0' f1' y0 y1 fy0 fy1 gz gz0 gz1 gz3
     go_upto_region 6 with fail
     (refine wp_region_ext (by kernel_rfl) (by kernel_rfl) ?_;(repeat (first|go_big_quiet_step (fail)|quiet_step (fail)));refine wpQuiet_nil ?_;intro _ hw';obtain ⟨oq,nq,hw''⟩:=hw';subst hw'')
     go_wp2;go_roundw
     case rel=>first|exact ⟨k+1,by omega,by go_num,by unfold Hid;rw [HR.out],HX3.out.trans (HX5.out.trans (by simp (maxDischargeDepth:=60)))⟩|(repeat apply Exists.intro;refine ⟨?_,rfl⟩;exact ⟨k+1,by omega,by go_num,by unfold Hid;rw [HR.out],HX3.out.trans (HX5.out.trans (by simp (maxDischargeDepth:=60)))⟩)
     case measure=>simp [intOf];omega
    ·generalize hW:World.setCell _ _ _=w5
     obtain ⟨-,s1,-,-,-,-,-,-,hx5⟩:=put8 (w:=w3) hW (by simp (maxDischargeDepth:=60)) (by simp) (by rw [plus_heap _ _ _ _ (by simp)];exact alloc_at _ _ _ (by simp)) rfl;clear hW;have HX5:=Lib.hid hx5;have v1:=xcell hx5 g1;have v6:=xcell hx5 g6;have vf0:=xcell hx5 f0';have vf1:=xcell hx5 f1';have vy0:=xcell hx5 y0;have vy1:=xcell hx5 y1;have vz0:=xfree hx5 gz1 fy0;have vz1:=xfree hx5 gz1 fy1;have vl1:=cell_lt v1;have vl6:=cell_lt v6;have vlf:=cell_lt vf0;have vly:=cell_lt vy0;have vls:=cell_lt s1;clear hx5 g1 g2 g3 g4 g6 f0' f1' y0 y1 fy0 fy1 gz gz0 gz1 gz3
     go_upto_region 6 with fail
     (refine wp_region_ext (by kernel_rfl) (by kernel_rfl) ?_;(repeat (first|go_big_quiet_step (fail)|quiet_step (fail)));refine wpQuiet_nil ?_;intro _ hw';obtain ⟨oq,nq,hw''⟩:=hw';subst hw'')
     go_wp2;go_roundw
     case rel=>first|exact ⟨k+1,by omega,by go_num,by unfold Hid;rw [HR.out],HX3.out.trans (HX5.out.trans (by simp (maxDischargeDepth:=60)))⟩|(repeat apply Exists.intro;refine ⟨?_,rfl⟩;exact ⟨k+1,by omega,by go_num,by unfold Hid;rw [HR.out],HX3.out.trans (HX5.out.trans (by simp (maxDischargeDepth:=60)))⟩)
     case measure=>simp [intOf];omega
  ·have y0:=FZ.out 0
   have y1:=FZ.out 1
   have hk':k=m2:=by omega
   have hF:=hv.out;rw [first_miss (by rw [HT.out,List.drop_of_length_le (by have:=E2.out;omega)];rfl)] at hF;clear HT
   cases js with
   | nil=>
    have hm0:m2=0:=by have:=E2.out;simpa using this.symm
    simp only [List.head?_nil,firstT,Prod.mk.injEq] at hF;obtain ⟨rfl,rfl,rfl⟩:=hF;subst hm0;go_wp2;obtain ⟨p0,p1,px⟩:=put2 (w:=w) (x:=vi 0) (y:=.bool false) (HX.out.trans (show Ext w0 (w0.plus o m) from (by simp (maxDischargeDepth:=60)))) (Nat.le_refl _) (xcell (show Ext w0 (w0.plus o m) from (by simp (maxDischargeDepth:=60))) r0) (xcell (show Ext w0 (w0.plus o m) from (by simp (maxDischargeDepth:=60))) r1);refine bodyPost_ret (v:=.tuple #[.agg #[vi 0,.bool false],.bool false]) (by simp [results,Try.results133,go_sem,p0,p1]) rfl ⟨rfl,px⟩
   | cons j js=>
    have hm0:0<m2:=by have:=E2.out;simp at this;omega
    simp only [List.head?_cons,firstT,Prod.mk.injEq] at hF;obtain ⟨b,q,j',rfl,hj',dj⟩:=HK.out.get hm0;simp only [List.getElem?_cons_zero,Option.some.injEq] at hj';subst hj';obtain ⟨t,f⟩:=j;dsimp only at hF;obtain ⟨rfl,rfl,rfl⟩:=hF;have dj:=at2 dj;have hq:=cell_lt dj.1
    have hmi:(0:Int)<(m2:Int):=by omega
    have hmn:¬ (m2:Int)=0:=by omega
    have hmc:(m2:Int)≤(c2:Int):=by omega
    simp only [Nat.zero_mul,Nat.add_zero] at dj;go_wp2;obtain ⟨p0,p1,px⟩:=put2 (w:=w) (x:=vi t) (y:=.bool f) (HX.out.trans (show Ext w0 (w0.plus o m) from (by simp (maxDischargeDepth:=60)))) (Nat.le_refl _) (xcell (show Ext w0 (w0.plus o m) from (by simp (maxDischargeDepth:=60))) r0) (xcell (show Ext w0 (w0.plus o m) from (by simp (maxDischargeDepth:=60))) r1);refine bodyPost_ret (v:=.tuple #[.agg #[vi t,.bool f],.bool true]) (by simp [results,Try.results133,go_sem,p0,p1]) rfl ⟨rfl,px⟩
theorem rat_val {rb:Nat} {p:Ch.Plant} {w:World} (h:RPlantAt w rb p) (hp:p.WF) (a b c v:Int) (hv:Hid (p.slots ⟨a,b,c⟩=v)):
  Calls Try.prog 128 #[.pointer (some ⟨rb,0,none⟩),.agg #[vi a,vi b,vi c]] w fun r w'=>r = .returned (vi v)∧Ext w w':=by
 have:=rat_any h hp a b c;rw [hv.out] at this;exact this
theorem rblocks_any (V:Bool) (xt xi x1 x2 x3 u1 u2 u3 jt:Int) (jf:Bool) {w:World} {hb rb:Nat} {lv:Value} {last:Int} {a1:Option Addr} {m1 c1:Nat} {a2:Option Addr} {m2 c2:Nat} {gv:Value} {l:List Ch.Stay} {js:List Ch.Job} {p:Ch.Plant} (hh:RHAt w hb rb lv last a1 m1 c1 a2 m2 c2 gv l js p) (hwf:p.WF)
  (hj:Hid (∃ s∈l,s.ticket=jt)) (h0:Hid (jt≠0)) (hv:Hid (Ch.blocks ⟨last,l,js⟩ p ⟨xt,⟨xi,⟨x1,x2,x3⟩⟩,⟨u1,u2,u3⟩⟩ ⟨jt,jf⟩=V)):
  Calls Try.prog 134 #[.pointer (some ⟨hb,0,none⟩),.agg #[vi xt,vi xi,vi x1,vi x2,vi x3,vi u1,vi u2,vi u3],.agg #[vi jt,.bool jf]] w fun e w'=>e = .returned (.bool V)∧Ext w w':=by
 obtain ⟨c0,q1',q2',q3',q4',q5'⟩:=hh.cells;have b1:=hh.st.bound;have HH:=Lib.hid hh
 obtain ⟨⟨yt,⟨yi,⟨y1,y2,y3⟩⟩,⟨v1,v2,v3⟩⟩,HST⟩:∃ s,Hid ((⟨last,l,js⟩:Ch.Book).stay jt=s):=⟨_,rfl⟩
 have HV:Hid ((jf&&v3==1&&decide ((⟨v1,v2,0⟩:Ch.Place)=⟨u1,u2,u3⟩)&&p.slots ⟨v1,v2,v3⟩==yi)=V):=by
  unfold Hid;rw [←hv.out];unfold Ch.blocks Ch.front;rw [HST.out];rfl
 clear hh c0 q5' hv;go_enter Try.func134,Try.ntmps134
 go_upto_region 1 with fail
 generalize hW:World.alloc _ _=w0
 have xx0:w0.cell? ⟨w.heap.size,0,none⟩=some (vi xt):=by rw [←hW];simp [go_sem]
 have xx1:w0.cell? ⟨w.heap.size,1,none⟩=some (vi xi):=by rw [←hW];simp [go_sem]
 have xx2:w0.cell? ⟨w.heap.size,2,none⟩=some (vi x1):=by rw [←hW];simp [go_sem]
 have xx3:w0.cell? ⟨w.heap.size,3,none⟩=some (vi x2):=by rw [←hW];simp [go_sem]
 have xx4:w0.cell? ⟨w.heap.size,4,none⟩=some (vi x3):=by rw [←hW];simp [go_sem]
 have xx5:w0.cell? ⟨w.heap.size,5,none⟩=some (vi u1):=by rw [←hW];simp [go_sem]
 have xx6:w0.cell? ⟨w.heap.size,6,none⟩=some (vi u2):=by rw [←hW];simp [go_sem]
 have xx7:w0.cell? ⟨w.heap.size,7,none⟩=some (vi u3):=by rw [←hW];simp [go_sem]
 have jj0:w0.cell? ⟨w.heap.size+1,0,none⟩=some (vi jt):=by rw [←hW];simp [go_sem]
 have jj1:w0.cell? ⟨w.heap.size+1,1,none⟩=some (.bool jf):=by rw [←hW];simp [go_sem]
 have hx:Ext w w0:=by rw [←hW];exact (by simp (maxDischargeDepth:=60))
 have k1:=xcell hx q1';have k2:=xcell hx q2';have k3:=xcell hx q3';have k4:=xcell hx q4';have HS:=Lib.hid (Sl.below HH.out.st hx.below);have HP1:=Lib.hid (HH.out.pl.ext hx);have HX:=Lib.hid hx;have z1:=cell_lt k1;have z2:=cell_lt xx0;have z3:=cell_lt jj0;clear hW hx HH q1' q2' q3' q4'
 go_region_held3 (fun w'=>w'.cell? ⟨hb,2,none⟩=some (vi last)∧w'.cell? ⟨hb,3,none⟩=some (.slice a1 m1 c1)∧w'.cell? ⟨hb,4,none⟩=some (.slice a2 m2 c2)∧w'.cell? ⟨w.heap.size+1,0,none⟩=some (vi jt)) (first|((try dsimp only);(repeat' apply And.intro) <;> (refine xcell (w:=w0) ?_ (by assumption);simp (maxDischargeDepth:=60);done))) (first|(go_at_call 107;(with_reducible refine (refStay yt yi y1 y2 y3 v1 v2 v3 _ _ _ _ _ _ _ _ l js _ (Sl.below HS.out (Ext.below (by simp (maxDischargeDepth:=60)))) h0 hj HST).mono ?_);rintro e w1 ⟨rfl,o1,n1,rfl⟩))
 ·generalize hW:World.alloc _ _=w2
  generalize hA:w0.heap.size+_=A
  have hx2:Ext w0 w2:=by rw [←hW];exact (by simp (maxDischargeDepth:=60))
  have yy0:w2.cell? ⟨A,0,none⟩=some (vi yt):=by rw [←hW,←hA];simp [go_sem]
  have yy1:w2.cell? ⟨A,1,none⟩=some (vi yi):=by rw [←hW,←hA];simp [go_sem]
  have yy2:w2.cell? ⟨A,2,none⟩=some (vi y1):=by rw [←hW,←hA];simp [go_sem]
  have yy3:w2.cell? ⟨A,3,none⟩=some (vi y2):=by rw [←hW,←hA];simp [go_sem]
  have yy4:w2.cell? ⟨A,4,none⟩=some (vi y3):=by rw [←hW,←hA];simp [go_sem]
  have yy5:w2.cell? ⟨A,5,none⟩=some (vi v1):=by rw [←hW,←hA];simp [go_sem]
  have yy6:w2.cell? ⟨A,6,none⟩=some (vi v2):=by rw [←hW,←hA];simp [go_sem]
  have yy7:w2.cell? ⟨A,7,none⟩=some (vi v3):=by rw [←hW,←hA];simp [go_sem]
  clear hW hA;have r1:=xcell hx2 k1;have rx5:=xcell hx2 xx5;have rx6:=xcell hx2 xx6;have rx7:=xcell hx2 xx7;have rj0:=xcell hx2 jj0;have rj1:=xcell hx2 jj1;have HX2:=Lib.hid (HX.out.trans hx2);have HP2:=Lib.hid (HP1.out.ext hx2);clear hx2 HS HP1 HX k1 k2 k3 k4 xx0 xx1 xx2 xx3 xx4 xx5 xx6 xx7 jj0 jj1 z1 z2 z3;have w1:=cell_lt r1;have w2':=cell_lt rx5;have w3:=cell_lt rj0;have w4:=cell_lt yy0
  go_upto_region 3 with fail
  generalize hW:World.alloc _ _=w5;generalize hF:w2.heap.size=F
  have hx5:Ext w2 w5:=by rw [←hW];exact (by simp (maxDischargeDepth:=60))
  have ff0:w5.cell? ⟨F,0,none⟩=some (vi v1):=by rw [←hW,←hF];simp [go_sem]
  have ff1:w5.cell? ⟨F,1,none⟩=some (vi v2):=by rw [←hW,←hF];simp [go_sem]
  have ff2:w5.cell? ⟨F,2,none⟩=some (vi v3):=by rw [←hW,←hF];simp [go_sem]
  have fff:w5.frozen? ⟨F,2,none⟩=false:=by rw [←hW,←hF];simp [go_sem]
  have hFl:w2.heap.size≤F:=by omega
  clear hW hF
  go_upto_region 4 with fail
  generalize hW:World.setCell _ _ _=w6
  have n20:(⟨F,2,none⟩:Addr)≠⟨F,0,none⟩:=by intro e;cases e
  have n21:(⟨F,2,none⟩:Addr)≠⟨F,1,none⟩:=by intro e;cases e
  have gf0:w6.cell? ⟨F,0,none⟩=some (vi v1):=by rw [←hW,World.cell?_setCell_other (h:=n20)];exact ff0
  have gf1:w6.cell? ⟨F,1,none⟩=some (vi v2):=by rw [←hW,World.cell?_setCell_other (h:=n21)];exact ff1
  have gf2:w6.cell? ⟨F,2,none⟩=some (vi 0):=by rw [←hW,World.cell?_setCell_same (h:=ff2)]
  have hx6:Ext w2 w6:=by rw [←hW];exact Ext.setCell hx5 hFl _
  clear hW ff0 ff1 ff2 fff hx5 n20 n21;have t1:=xcell hx6 r1;have tx5:=xcell hx6 rx5;have tx6:=xcell hx6 rx6;have tx7:=xcell hx6 rx7;have tj1:=xcell hx6 rj1;have ty1:=xcell hx6 yy1;have ty5:=xcell hx6 yy5;have ty6:=xcell hx6 yy6;have ty7:=xcell hx6 yy7;have HX6:=Lib.hid (HX2.out.trans hx6);have HP6:=Lib.hid (HP2.out.ext hx6);have l1:=cell_lt t1;have l2:=cell_lt tx5;have l3:=cell_lt tj1;have l4:=cell_lt ty1;have l5:=cell_lt gf0;clear hx6 r1 rx5 rx6 rx7 rj0 rj1 yy0 yy1 yy2 yy3 yy4 yy5 yy6 yy7 w1 w2' w3 w4 HP2 HX2;cases jf
  ·(refine wp_region_ext (by kernel_rfl) (by kernel_rfl) ?_;(repeat (first|go_big_quiet_step (fail)|quiet_step (fail)));refine wpQuiet_nil ?_;intro _ hw';obtain ⟨oq,nq,hw''⟩:=hw';subst hw'')
   go_wp2;go_ret;exact ⟨by rw [←HV.out];simp,HX6.out.trans (by simp (maxDischargeDepth:=60))⟩
  ·by_cases h3:v3=1
   ·subst h3
    cases hc:decide ((⟨v1,v2,0⟩:Ch.Place)=⟨u1,u2,u3⟩)
    ·have hq:∀ w,(Go.binOp .eql 23 (.agg #[vi v1,vi v2,vi 0]) (.agg #[vi u1,vi u2,vi u3])).run Try.prog w = .ok (.bool false) w:=fun w=>by rw [eqlStruct w (eqPlace w 9998 ⟨v1,v2,0⟩ ⟨u1,u2,u3⟩),hc]
     (refine wp_region_ext (by kernel_rfl) (by kernel_rfl) ?_;(repeat (first|go_big_quiet_step (fail)|quiet_step (fail)));refine wpQuiet_nil ?_;intro _ hw';obtain ⟨oq,nq,hw''⟩:=hw';subst hw'')
     go_wp2;go_ret;exact ⟨by rw [←HV.out,hc];simp,HX6.out.trans (by simp (maxDischargeDepth:=60))⟩
    ·have hq:∀ w,(Go.binOp .eql 23 (.agg #[vi v1,vi v2,vi 0]) (.agg #[vi u1,vi u2,vi u3])).run Try.prog w = .ok (.bool true) w:=fun w=>by rw [eqlStruct w (eqPlace w 9998 ⟨v1,v2,0⟩ ⟨u1,u2,u3⟩),hc]
     obtain ⟨sv,HSV⟩:∃ sv,Hid (p.slots ⟨v1,v2,1⟩=sv):=⟨_,rfl⟩
     by_cases hy:sv=yi
     ·subst hy
      (refine wp_region_ext (by kernel_rfl) (by kernel_rfl) ?_;(repeat (first|go_big_quiet_step ((first|(intro _;go_at_call 128;exact ext_callG (rat_val (HP6.out.ext (by simp (maxDischargeDepth:=60))) hwf _ _ _ sv HSV) (by rintro w' ⟨o',n',rfl⟩;exact ⟨_,n',by first|(simp only [plus_plus];rfl)|(simp only [plus_plus,Array.append_assoc];rfl)|rfl⟩))))|quiet_step ((first|(intro _;go_at_call 128;exact ext_callG (rat_val (HP6.out.ext (by simp (maxDischargeDepth:=60))) hwf _ _ _ sv HSV) (by rintro w' ⟨o',n',rfl⟩;exact ⟨_,n',by first|(simp only [plus_plus];rfl)|(simp only [plus_plus,Array.append_assoc];rfl)|rfl⟩))))));refine wpQuiet_nil ?_;intro _ hw';obtain ⟨oq,nq,hw''⟩:=hw';subst hw'')
      go_wp2;go_ret;exact ⟨by rw [←HV.out,hc,HSV.out];simp,HX6.out.trans (by simp (maxDischargeDepth:=60))⟩
     ·(refine wp_region_ext (by kernel_rfl) (by kernel_rfl) ?_;(repeat (first|go_big_quiet_step ((first|(intro _;go_at_call 128;exact ext_callG (rat_val (HP6.out.ext (by simp (maxDischargeDepth:=60))) hwf _ _ _ sv HSV) (by rintro w' ⟨o',n',rfl⟩;exact ⟨_,n',by first|(simp only [plus_plus];rfl)|(simp only [plus_plus,Array.append_assoc];rfl)|rfl⟩))))|quiet_step ((first|(intro _;go_at_call 128;exact ext_callG (rat_val (HP6.out.ext (by simp (maxDischargeDepth:=60))) hwf _ _ _ sv HSV) (by rintro w' ⟨o',n',rfl⟩;exact ⟨_,n',by first|(simp only [plus_plus];rfl)|(simp only [plus_plus,Array.append_assoc];rfl)|rfl⟩))))));refine wpQuiet_nil ?_;intro _ hw';obtain ⟨oq,nq,hw''⟩:=hw';subst hw'')
      go_wp2;go_ret;exact ⟨by rw [←HV.out,hc,HSV.out];simp [hy],HX6.out.trans (by simp (maxDischargeDepth:=60))⟩
   ·(refine wp_region_ext (by kernel_rfl) (by kernel_rfl) ?_;(repeat (first|go_big_quiet_step (fail)|quiet_step (fail)));refine wpQuiet_nil ?_;intro _ hw';obtain ⟨oq,nq,hw''⟩:=hw';subst hw'')
    go_wp2;go_ret;exact ⟨by rw [←HV.out];simp [h3],HX6.out.trans (by simp (maxDischargeDepth:=60))⟩
 ·generalize hW:World.setCell _ _ _=w2
  obtain ⟨yy0,yy1,yy2,yy3,yy4,yy5,yy6,yy7,hx2⟩:=put8 (w:=w0) hW (by simp (maxDischargeDepth:=60)) (Nat.le_refl _) (by rw [plus_heap _ _ _ _ (by simp)];exact alloc_at _ _ _ rfl) rfl;clear hW;have r1:=xcell hx2 k1;have rx5:=xcell hx2 xx5;have rx6:=xcell hx2 xx6;have rx7:=xcell hx2 xx7;have rj0:=xcell hx2 jj0;have rj1:=xcell hx2 jj1;have HX2:=Lib.hid (HX.out.trans hx2);have HP2:=Lib.hid (HP1.out.ext hx2);clear hx2 HS HP1 HX k1 k2 k3 k4 xx0 xx1 xx2 xx3 xx4 xx5 xx6 xx7 jj0 jj1 z1 z2 z3;have w1:=cell_lt r1;have w2':=cell_lt rx5;have w3:=cell_lt rj0;have w4:=cell_lt yy0
  go_upto_region 3 with fail
  generalize hW:World.alloc _ _=w5;generalize hF:w2.heap.size=F
  have hx5:Ext w2 w5:=by rw [←hW];exact (by simp (maxDischargeDepth:=60))
  have ff0:w5.cell? ⟨F,0,none⟩=some (vi v1):=by rw [←hW,←hF];simp [go_sem]
  have ff1:w5.cell? ⟨F,1,none⟩=some (vi v2):=by rw [←hW,←hF];simp [go_sem]
  have ff2:w5.cell? ⟨F,2,none⟩=some (vi v3):=by rw [←hW,←hF];simp [go_sem]
  have fff:w5.frozen? ⟨F,2,none⟩=false:=by rw [←hW,←hF];simp [go_sem]
  have hFl:w2.heap.size≤F:=by omega
  clear hW hF
  go_upto_region 4 with fail
  generalize hW:World.setCell _ _ _=w6
  have n20:(⟨F,2,none⟩:Addr)≠⟨F,0,none⟩:=by intro e;cases e
  have n21:(⟨F,2,none⟩:Addr)≠⟨F,1,none⟩:=by intro e;cases e
  have gf0:w6.cell? ⟨F,0,none⟩=some (vi v1):=by rw [←hW,World.cell?_setCell_other (h:=n20)];exact ff0
  have gf1:w6.cell? ⟨F,1,none⟩=some (vi v2):=by rw [←hW,World.cell?_setCell_other (h:=n21)];exact ff1
  have gf2:w6.cell? ⟨F,2,none⟩=some (vi 0):=by rw [←hW,World.cell?_setCell_same (h:=ff2)]
  have hx6:Ext w2 w6:=by rw [←hW];exact Ext.setCell hx5 hFl _
  clear hW ff0 ff1 ff2 fff hx5 n20 n21;have t1:=xcell hx6 r1;have tx5:=xcell hx6 rx5;have tx6:=xcell hx6 rx6;have tx7:=xcell hx6 rx7;have tj1:=xcell hx6 rj1;have ty1:=xcell hx6 yy1;have ty5:=xcell hx6 yy5;have ty6:=xcell hx6 yy6;have ty7:=xcell hx6 yy7;have HX6:=Lib.hid (HX2.out.trans hx6);have HP6:=Lib.hid (HP2.out.ext hx6);have l1:=cell_lt t1;have l2:=cell_lt tx5;have l3:=cell_lt tj1;have l4:=cell_lt ty1;have l5:=cell_lt gf0;clear hx6 r1 rx5 rx6 rx7 rj0 rj1 yy0 yy1 yy2 yy3 yy4 yy5 yy6 yy7 w1 w2' w3 w4 HP2 HX2;cases jf
  ·(refine wp_region_ext (by kernel_rfl) (by kernel_rfl) ?_;(repeat (first|go_big_quiet_step (fail)|quiet_step (fail)));refine wpQuiet_nil ?_;intro _ hw';obtain ⟨oq,nq,hw''⟩:=hw';subst hw'')
   go_wp2;go_ret;exact ⟨by rw [←HV.out];simp,HX6.out.trans (by simp (maxDischargeDepth:=60))⟩
  ·by_cases h3:v3=1
   ·subst h3
    cases hc:decide ((⟨v1,v2,0⟩:Ch.Place)=⟨u1,u2,u3⟩)
    ·have hq:∀ w,(Go.binOp .eql 23 (.agg #[vi v1,vi v2,vi 0]) (.agg #[vi u1,vi u2,vi u3])).run Try.prog w = .ok (.bool false) w:=fun w=>by rw [eqlStruct w (eqPlace w 9998 ⟨v1,v2,0⟩ ⟨u1,u2,u3⟩),hc]
     (refine wp_region_ext (by kernel_rfl) (by kernel_rfl) ?_;(repeat (first|go_big_quiet_step (fail)|quiet_step (fail)));refine wpQuiet_nil ?_;intro _ hw';obtain ⟨oq,nq,hw''⟩:=hw';subst hw'')
     go_wp2;go_ret;exact ⟨by rw [←HV.out,hc];simp,HX6.out.trans (by simp (maxDischargeDepth:=60))⟩
    ·have hq:∀ w,(Go.binOp .eql 23 (.agg #[vi v1,vi v2,vi 0]) (.agg #[vi u1,vi u2,vi u3])).run Try.prog w = .ok (.bool true) w:=fun w=>by rw [eqlStruct w (eqPlace w 9998 ⟨v1,v2,0⟩ ⟨u1,u2,u3⟩),hc]
     obtain ⟨sv,HSV⟩:∃ sv,Hid (p.slots ⟨v1,v2,1⟩=sv):=⟨_,rfl⟩
     by_cases hy:sv=yi
     ·subst hy
      (refine wp_region_ext (by kernel_rfl) (by kernel_rfl) ?_;(repeat (first|go_big_quiet_step ((first|(intro _;go_at_call 128;exact ext_callG (rat_val (HP6.out.ext (by simp (maxDischargeDepth:=60))) hwf _ _ _ sv HSV) (by rintro w' ⟨o',n',rfl⟩;exact ⟨_,n',by first|(simp only [plus_plus];rfl)|(simp only [plus_plus,Array.append_assoc];rfl)|rfl⟩))))|quiet_step ((first|(intro _;go_at_call 128;exact ext_callG (rat_val (HP6.out.ext (by simp (maxDischargeDepth:=60))) hwf _ _ _ sv HSV) (by rintro w' ⟨o',n',rfl⟩;exact ⟨_,n',by first|(simp only [plus_plus];rfl)|(simp only [plus_plus,Array.append_assoc];rfl)|rfl⟩))))));refine wpQuiet_nil ?_;intro _ hw';obtain ⟨oq,nq,hw''⟩:=hw';subst hw'')
      go_wp2;go_ret;exact ⟨by rw [←HV.out,hc,HSV.out];simp,HX6.out.trans (by simp (maxDischargeDepth:=60))⟩
     ·(refine wp_region_ext (by kernel_rfl) (by kernel_rfl) ?_;(repeat (first|go_big_quiet_step ((first|(intro _;go_at_call 128;exact ext_callG (rat_val (HP6.out.ext (by simp (maxDischargeDepth:=60))) hwf _ _ _ sv HSV) (by rintro w' ⟨o',n',rfl⟩;exact ⟨_,n',by first|(simp only [plus_plus];rfl)|(simp only [plus_plus,Array.append_assoc];rfl)|rfl⟩))))|quiet_step ((first|(intro _;go_at_call 128;exact ext_callG (rat_val (HP6.out.ext (by simp (maxDischargeDepth:=60))) hwf _ _ _ sv HSV) (by rintro w' ⟨o',n',rfl⟩;exact ⟨_,n',by first|(simp only [plus_plus];rfl)|(simp only [plus_plus,Array.append_assoc];rfl)|rfl⟩))))));refine wpQuiet_nil ?_;intro _ hw';obtain ⟨oq,nq,hw''⟩:=hw';subst hw'')
      go_wp2;go_ret;exact ⟨by rw [←HV.out,hc,HSV.out];simp [hy],HX6.out.trans (by simp (maxDischargeDepth:=60))⟩
   ·(refine wp_region_ext (by kernel_rfl) (by kernel_rfl) ?_;(repeat (first|go_big_quiet_step (fail)|quiet_step (fail)));refine wpQuiet_nil ?_;intro _ hw';obtain ⟨oq,nq,hw''⟩:=hw';subst hw'')
    go_wp2;go_ret;exact ⟨by rw [←HV.out];simp [h3],HX6.out.trans (by simp (maxDischargeDepth:=60))⟩
end Go.Proofs.Ytplomeacjbkgnaa
namespace Ch
def staysKept (j:Job) (gone:Bool) (s:Stay):Bool:=!((j.fetch || gone)&&s.ticket==j.ticket)
def jobsKept (j:Job) (gone:Bool) (x:Job):Bool:=!(x==j || ((j.fetch || gone)&&x.ticket==j.ticket))
theorem done_stays (b:Book) (j:Job) (gone:Bool):(doneWith b j gone).stays=b.stays.filter (staysKept j gone):=by
 unfold doneWith staysKept;cases (j.fetch || gone)
 ·simp only [Bool.false_and,Bool.not_false,Bool.false_eq_true,if_false]
  exact (List.filter_eq_self.2 (fun _ _=>rfl)).symm
 ·simp
theorem done_jobs (b:Book) (j:Job) (gone:Bool):(doneWith b j gone).jobs=b.jobs.filter (jobsKept j gone):=rfl
/-! ### two lists of jobs, side by side -/
end Ch
