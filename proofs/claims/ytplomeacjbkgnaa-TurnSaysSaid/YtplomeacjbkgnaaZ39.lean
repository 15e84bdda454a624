import Derived.Test.YtplomeacjbkgnaaZ38
import Derived.Test.YtplomeacjbkgnaaZ33
import Derived.Test.YtplomeacjbkgnaaZ34
import Derived.Test.YtplomeacjbkgnaaZ35
import Derived.Test.YtplomeacjbkgnaaZ24
set_option linter.all false
set_option maxRecDepth 100000
set_option maxHeartbeats 16000000
namespace Go.Proofs.Ytplomeacjbkgnaa
open Go.RowKit
theorem rnext_jfC {w:World} {hb rb:Nat} {la:Option Addr} {ln lc:Nat} {last:Int} {a1:Option Addr} {m1 c1:Nat} {a2:Option Addr} {m2 c2:Nat} {gv:Value} {l:List Ch.Stay} {js:List Ch.Job} {p:Ch.Plant} (hh:RHAt w hb rb (.slice la ln lc) last a1 m1 c1 a2 m2 c2 gv l js p)
  (hwf:p.WF) (hj:Hid (∀ j∈js,∃ s∈l,s.ticket=j.ticket)) (h0:Hid (∀ s∈l,s.ticket≠0)) (hpl:Hid (∀ s∈l,Ch.placeFault s.home (ln:Int)=0)) (l1:1≤ln) (l4:ln≤4) (hlc:ln≤lc) (hlm:lc≤maxLen) (hm1:m1≤100) (hm2:m2≤100)
  (jt li ba:Int) (jf is dd:Bool) (hba:Hid (p.bay=ba)) (hli:Hid (p.lift=li)) (hdd:Hid (p.door=dd)) (HFJ:Hid (firstT (Ch.firstJob ⟨last,l,js⟩ ba)=(jt,jf,is))) (hl:li=0) (c:Int) (HC:Hid (p.slots ⟨(ln:Int),1,0⟩=c)) (hgo:Hid (c=0∨∃ xt xi x1 x2 x3 u1 u2 u3,(⟨last,l,js⟩:Ch.Book).of c=some ⟨xt,⟨xi,⟨x1,x2,x3⟩⟩,⟨u1,u2,u3⟩⟩∧Ch.blocks ⟨last,l,js⟩ p ⟨xt,⟨xi,⟨x1,x2,x3⟩⟩,⟨u1,u2,u3⟩⟩ ⟨jt,jf⟩=true)) (hi:is=true) (hjf:jf=true) (hno:Hid (¬ (p.bay=((⟨last,l,js⟩:Ch.Book).stay jt).car.id∨p.has ((⟨last,l,js⟩:Ch.Book).stay jt).car.id=false))) (hb0:ba=0) (hd:dd=false):
  Calls Try.prog 86 #[.pointer (some ⟨hb,0,none⟩)] w (TurnR w (Ch.turnOf ⟨last,l,js⟩ (ln:Int) p).1 (Ch.turnOf ⟨last,l,js⟩ (ln:Int) p).2):=by
 subst hl;subst hi;subst hjf;subst hb0;subst hd;have b1:=hh.st.bound;have b2:=hh.jb.bound;have HH:=Lib.hid hh;have hlt0:=cell_lt hh.cells.1;unfold maxLen at hlm;have e0':=hh.cells.1;have e1':=hh.cells.2.1
 have L1:(1:Int)≤(ln:Int):=by omega
 have L4:(ln:Int)≤4:=by omega
 clear hh;go_enter Try.func86,Try.ntmps86
 go_upto_region 2 with fail
 generalize hW:World.alloc _ _=w0
 have hx0:Ext w w0:=by rw [←hW];exact (by simp (maxDischargeDepth:=60))
 have r0:w0.cell? ⟨w.heap.size,0,none⟩=some (vi 0):=by rw [←hW];simp [go_sem]
 have r1:w0.cell? ⟨w.heap.size,1,none⟩=some (.slice none 0 0):=by rw [←hW];simp [go_sem]
 have r2:w0.cell? ⟨w.heap.size,2,none⟩=some (.slice none 0 0):=by rw [←hW];simp [go_sem]
 have fz:∀ i,w0.frozen? ⟨w.heap.size,i,none⟩=false:=by intro i;rw [←hW];simp [go_sem]
 have FZ:=Lib.hid fz;have k0:=xcell hx0 e0';have k1:=xcell hx0 e1';have HX0:=Lib.hid hx0;clear hW hx0 fz e0' e1' hlt0
 go_upto_region 3 with (go_at_call 42;(with_reducible refine (rspare_f _ _).mono ?_);rintro e w1 ⟨rfl,o1,n1,rfl⟩)
 generalize hW:World.alloc _ _=w1;generalize hA:w0.heap.size+_=SP
 have hx1:Ext w0 w1:=by rw [←hW];exact (by simp (maxDischargeDepth:=60))
 have s0:w1.cell? ⟨SP,0,none⟩=some (vi (ln:Int)):=by rw [←hW,←hA];simp [go_sem]
 have s1:w1.cell? ⟨SP,1,none⟩=some (vi 1):=by rw [←hW,←hA];simp [go_sem]
 have s2:w1.cell? ⟨SP,2,none⟩=some (vi 0):=by rw [←hW,←hA];simp [go_sem]
 have HX1:=Lib.hid (HX0.out.trans hx1);have m0:=xcell hx1 k0;have m1':=xcell hx1 k1;have v0:=xcell hx1 r0;have v1:=xcell hx1 r1;have v2:=xcell hx1 r2
 have fz1:∀ i,w1.frozen? ⟨w.heap.size,i,none⟩=false:=fun i=>xfree hx1 (cell_lt r0) (FZ.out i)
 have FZ1:=Lib.hid fz1;clear hW hA hx1 k0 k1 r0 r1 r2 FZ fz1 HX0
 go_upto_region 4 with (go_at_call 133;(with_reducible refine (rfirst_any jt true true (HH.out.ext (HX1.out.trans (by simp (maxDischargeDepth:=60)))) hj h0 0 hba HFJ).mono ?_);rintro e w1 ⟨rfl,o1,n1,rfl⟩)
 generalize hW:World.alloc _ _=w2;generalize hA:w1.heap.size+_=JB
 have hx2:Ext w1 w2:=by rw [←hW];exact (by simp (maxDischargeDepth:=60))
 have j0:w2.cell? ⟨JB,0,none⟩=some (vi jt):=by rw [←hW,←hA];simp [go_sem]
 have j1:w2.cell? ⟨JB,1,none⟩=some (.bool true):=by rw [←hW,←hA];simp [go_sem]
 have HX2:=Lib.hid (HX1.out.trans hx2);have t0:=xcell hx2 s0;have t1:=xcell hx2 s1;have t2:=xcell hx2 s2;have q0:=xcell hx2 v0;have q1:=xcell hx2 v1;have q2:=xcell hx2 v2
 have fz2:∀ i,w2.frozen? ⟨w.heap.size,i,none⟩=false:=fun i=>xfree hx2 (cell_lt v0) (FZ1.out i)
 have FZ2:=Lib.hid fz2;have H2:=Lib.hid (HH.out.ext HX2.out);have g1:=H2.out.cells.2.1;have g2:=H2.out.cells.2.2.1;have g3:=H2.out.cells.2.2.2.1;have g4:=H2.out.cells.2.2.2.2.1;have pd:=H2.out.pl.cells.2.2.2.1;have pl:=H2.out.pl.cells.2.2.2.2.2.1;have pb:=H2.out.pl.cells.2.2.2.2.2.2.1;rw [hdd.out] at pd;rw [hli.out] at pl;rw [hba.out] at pb;have z1:=cell_lt q0;have z2:=cell_lt t0;have z3:=cell_lt j0;have z4:=cell_lt g1;have z5:=cell_lt pl;have hRw:w.heap.size≤w.heap.size:=Nat.le_refl _;clear hW hA hx2 m0 m1' v0 v1 v2 s0 s1 s2 FZ1 fz2 HX1 HH;have HJX:Hid (∃ s∈l,s.ticket=jt):=rfirst_mem hj HFJ.out rfl
 have HJ1:Hid (jt≠0):=by unfold Hid;obtain ⟨s,hs,e⟩:=HJX.out;rw [←e];exact h0.out s hs
 go_upto_region 17 with fail
 have hxs:Ext w2 w2:=Ext.refl _;replace q0:=xcell hxs q0;replace q1:=xcell hxs q1;replace q2:=xcell hxs q2;replace t0:=xcell hxs t0;replace t1:=xcell hxs t1;replace t2:=xcell hxs t2;replace j0:=xcell hxs j0;replace j1:=xcell hxs j1;replace g1:=xcell hxs g1;replace pd:=xcell hxs pd;replace pl:=xcell hxs pl;replace pb:=xcell hxs pb;replace g2:=xcell hxs g2;replace g3:=xcell hxs g3;replace g4:=xcell hxs g4
 have FQ:Hid (∀ i,w2.frozen? ⟨w.heap.size,i,none⟩=false):=fun i=>xfree hxs z1 (FZ2.out i)
 have HXB:=Lib.hid (HX2.out.trans hxs);have HB:=Lib.hid (H2.out.ext hxs);clear hxs z1 z2 z3 z4 z5 FZ2 HX2 H2;have z1:=cell_lt q0;have z2:=cell_lt t0;have z3:=cell_lt j0;have z4:=cell_lt g1;have z5:=cell_lt pl
 go_upto_if 112 with (go_at_call 128;(with_reducible refine (rat_val (HB.out.pl.ext (by simp (maxDischargeDepth:=60))) hwf _ _ _ c HC).mono ?_);rintro e w1 ⟨rfl,o1,n1,rfl⟩)
 generalize hWq:World.plus _ _ _=wq
 have hxq:Ext w2 wq:=by rw [←hWq];exact (by simp (maxDischargeDepth:=60))
 clear hWq;replace q0:=xcell hxq q0;replace q1:=xcell hxq q1;replace q2:=xcell hxq q2;replace t0:=xcell hxq t0;replace t1:=xcell hxq t1;replace t2:=xcell hxq t2;replace j0:=xcell hxq j0;replace j1:=xcell hxq j1;replace g1:=xcell hxq g1;replace pd:=xcell hxq pd;replace pl:=xcell hxq pl;replace pb:=xcell hxq pb;replace g2:=xcell hxq g2;replace g3:=xcell hxq g3;replace g4:=xcell hxq g4
 replace FQ:Hid (∀ i,wq.frozen? ⟨w.heap.size,i,none⟩=false):=fun i=>xfree hxq z1 (FQ.out i)
 replace HXB:=Lib.hid (HXB.out.trans hxq);replace HB:=Lib.hid (HB.out.ext hxq);clear hxq z1 z2 z3 z4 z5;have z1:=cell_lt q0;have z2:=cell_lt t0;have z3:=cell_lt j0;have z4:=cell_lt g1;have z5:=cell_lt pl
 go_cut [] (fun wx=>Ext wq wx)
 case first=>
  rcases hgo.out with hc0|⟨xt,xi,x1,x2,x3,u1,u2,u3,ho,hbv⟩
  ·subst hc0
   go_wp2_with fail;go_meet;exact Ext.refl _
  ·have HO:=Lib.hid ho
   have HBV:=Lib.hid hbv;clear ho hbv
   by_cases hc:c=0
   ·subst hc
    go_wp2_with fail;go_meet;exact Ext.refl _
   ·go_upto_region 18 with fail
    go_region_held3 (fun w'=>w'.cell? ⟨hb,2,none⟩=some (vi last)∧w'.cell? ⟨hb,3,none⟩=some (.slice a1 m1 c1)∧w'.cell? ⟨hb,4,none⟩=some (.slice a2 m2 c2)∧w'.cell? ⟨SP,0,none⟩=some (vi (ln:Int))∧w'.cell? ⟨SP,1,none⟩=some (vi 1)∧w'.cell? ⟨SP,2,none⟩=some (vi 0)) (first|((try dsimp only);(repeat' apply And.intro) <;> (refine xcell (w:=wq) ?_ (by assumption);simp (maxDischargeDepth:=60);done))) (first|(go_at_call 128;(with_reducible refine (rat_val (HB.out.pl.ext (by simp (maxDischargeDepth:=60))) hwf _ _ _ c HC).mono ?_);rintro e w1 ⟨rfl,o1,n1,rfl⟩)|(go_at_call 107;(with_reducible refine (refCar_some xt xi x1 x2 x3 u1 u2 u3 _ _ _ _ _ _ _ _ l js _ (Sl.below HB.out.st (Ext.below (by simp (maxDischargeDepth:=60)))) h0 HO).mono ?_);rintro e w1 ⟨rfl,o1,n1,rfl⟩))
    ·generalize hW:World.alloc _ _=w5
     generalize hA:wq.heap.size+_=A5
     have hx5:Ext wq w5:=by rw [←hW];exact (by simp (maxDischargeDepth:=60))
     have xx0:w5.cell? ⟨A5,0,none⟩=some (vi xt):=by rw [←hW,←hA];simp [go_sem]
     have xx1:w5.cell? ⟨A5,1,none⟩=some (vi xi):=by rw [←hW,←hA];simp [go_sem]
     have xx2:w5.cell? ⟨A5,2,none⟩=some (vi x1):=by rw [←hW,←hA];simp [go_sem]
     have xx3:w5.cell? ⟨A5,3,none⟩=some (vi x2):=by rw [←hW,←hA];simp [go_sem]
     have xx4:w5.cell? ⟨A5,4,none⟩=some (vi x3):=by rw [←hW,←hA];simp [go_sem]
     have xx5:w5.cell? ⟨A5,5,none⟩=some (vi u1):=by rw [←hW,←hA];simp [go_sem]
     have xx6:w5.cell? ⟨A5,6,none⟩=some (vi u2):=by rw [←hW,←hA];simp [go_sem]
     have xx7:w5.cell? ⟨A5,7,none⟩=some (vi u3):=by rw [←hW,←hA];simp [go_sem]
     clear hW hA;have y0:=xcell hx5 j0;have y1:=xcell hx5 j1;have yl:=cell_lt y0;have xl:=cell_lt xx0;go_wp2_with (go_at_call 134;(with_reducible refine (rblocks_any true xt xi x1 x2 x3 u1 u2 u3 jt true (HB.out.ext (hx5.trans (by simp (maxDischargeDepth:=60)))) hwf HJX HJ1 HBV).mono ?_);rintro e w1 ⟨rfl,o1,n1,rfl⟩);go_meet;exact hx5.trans (by simp (maxDischargeDepth:=60))
    ·generalize hW:World.setCell _ _ _=w5
     obtain ⟨xx0,xx1,xx2,xx3,xx4,xx5,xx6,xx7,hx5⟩:=put8 (w:=wq) hW (by simp (maxDischargeDepth:=60)) (by first|exact Nat.le_refl _|(simp;done)|(simp;omega)) (by rw [plus_heap _ _ _ _ (by simp)];exact alloc_at _ _ _ (by first|rfl|simp)) rfl;clear hW;have y0:=xcell hx5 j0;have y1:=xcell hx5 j1;have yl:=cell_lt y0;have xl:=cell_lt xx0;go_wp2_with (go_at_call 134;(with_reducible refine (rblocks_any true xt xi x1 x2 x3 u1 u2 u3 jt true (HB.out.ext (hx5.trans (by simp (maxDischargeDepth:=60)))) hwf HJX HJ1 HBV).mono ?_);rintro e w1 ⟨rfl,o1,n1,rfl⟩);go_meet;exact hx5.trans (by simp (maxDischargeDepth:=60))
    ·generalize hW:World.setCell _ _ _=w5
     obtain ⟨xx0,xx1,xx2,xx3,xx4,xx5,xx6,xx7,hx5⟩:=put8 (w:=wq) hW (by simp (maxDischargeDepth:=60)) (by first|exact Nat.le_refl _|(simp;done)|(simp;omega)) (by rw [plus_heap _ _ _ _ (by simp)];exact alloc_at _ _ _ (by first|rfl|simp)) rfl;clear hW;have y0:=xcell hx5 j0;have y1:=xcell hx5 j1;have yl:=cell_lt y0;have xl:=cell_lt xx0;go_wp2_with (go_at_call 134;(with_reducible refine (rblocks_any true xt xi x1 x2 x3 u1 u2 u3 jt true (HB.out.ext (hx5.trans (by simp (maxDischargeDepth:=60)))) hwf HJX HJ1 HBV).mono ?_);rintro e w1 ⟨rfl,o1,n1,rfl⟩);go_meet;exact hx5.trans (by simp (maxDischargeDepth:=60))
 case rest=>
  replace q0:=xcell hcut q0;replace q1:=xcell hcut q1;replace q2:=xcell hcut q2;replace t0:=xcell hcut t0;replace t1:=xcell hcut t1;replace t2:=xcell hcut t2;replace j0:=xcell hcut j0;replace j1:=xcell hcut j1;replace g1:=xcell hcut g1;replace pd:=xcell hcut pd;replace pl:=xcell hcut pl;replace pb:=xcell hcut pb;replace g2:=xcell hcut g2;replace g3:=xcell hcut g3;replace g4:=xcell hcut g4
  replace FQ:Hid (∀ i,wc.frozen? ⟨w.heap.size,i,none⟩=false):=fun i=>xfree hcut z1 (FQ.out i)
  replace HXB:=Lib.hid (HXB.out.trans hcut);replace HB:=Lib.hid (HB.out.ext hcut);clear hcut z1 z2 z3 z4 z5;have z1:=cell_lt q0;have z2:=cell_lt t0;have z3:=cell_lt j0;have z4:=cell_lt g1;have z5:=cell_lt pl
  obtain ⟨⟨xt,⟨xi,⟨x1,x2,x3⟩⟩,⟨u1,u2,u3⟩⟩,HST⟩:∃ x,Hid ((⟨last,l,js⟩:Ch.Book).stay jt=x):=⟨_,rfl⟩
  obtain ⟨hv,HHV⟩:∃ x,Hid (p.has xi=x):=⟨_,rfl⟩
  obtain ⟨sv,HSV⟩:∃ x,Hid (p.slots ⟨u1,u2,u3⟩=x):=⟨_,rfl⟩
  have HT:Hid (Ch.turnOf ⟨last,l,js⟩ (ln:Int) p=Ch.jobOf ⟨last,l,js⟩ p ⟨jt,true⟩):=rturn_job hli.out hba.out HC.out HFJ.out hgo.out
  go_upto_region 28 with fail
  go_cut [16,17] (fun s16 s17 wx=>∃ A5:Nat,s16 = .pointer (some ⟨A5,0,none⟩)∧s17 = .bool true∧Ext wc wx  ∧ wx.cell? ⟨A5,0,none⟩=some (vi xt)∧wx.cell? ⟨A5,1,none⟩=some (vi xi)∧wx.cell? ⟨A5,2,none⟩=some (vi x1)∧wx.cell? ⟨A5,3,none⟩=some (vi x2)∧wx.cell? ⟨A5,4,none⟩=some (vi x3)∧wx.cell? ⟨A5,5,none⟩=some (vi u1)∧wx.cell? ⟨A5,6,none⟩=some (vi u2)∧wx.cell? ⟨A5,7,none⟩=some (vi u3))
  case first=>
   go_region_held3 (fun w'=>w'.cell? ⟨hb,2,none⟩=some (vi last)∧w'.cell? ⟨hb,3,none⟩=some (.slice a1 m1 c1)∧w'.cell? ⟨hb,4,none⟩=some (.slice a2 m2 c2)∧w'.cell? ⟨JB,0,none⟩=some (vi jt)) (first|((try dsimp only);(repeat' apply And.intro) <;> (refine xcell (w:=wc) ?_ (by assumption);simp (maxDischargeDepth:=60);done))) (first|(go_at_call 107;(with_reducible refine (refStay xt xi x1 x2 x3 u1 u2 u3 _ _ _ _ _ _ _ _ l js _ (Sl.below HB.out.st (Ext.below (by simp (maxDischargeDepth:=60)))) HJ1 HJX HST).mono ?_);rintro e w1 ⟨rfl,o1,n1,rfl⟩))
   ·generalize hW:World.alloc _ _=w5
    generalize hA:wc.heap.size+_=A5
    have hx5:Ext wc w5:=by rw [←hW];exact (by simp (maxDischargeDepth:=60))
    have xx0:w5.cell? ⟨A5,0,none⟩=some (vi xt):=by rw [←hW,←hA];simp [go_sem]
    have xx1:w5.cell? ⟨A5,1,none⟩=some (vi xi):=by rw [←hW,←hA];simp [go_sem]
    have xx2:w5.cell? ⟨A5,2,none⟩=some (vi x1):=by rw [←hW,←hA];simp [go_sem]
    have xx3:w5.cell? ⟨A5,3,none⟩=some (vi x2):=by rw [←hW,←hA];simp [go_sem]
    have xx4:w5.cell? ⟨A5,4,none⟩=some (vi x3):=by rw [←hW,←hA];simp [go_sem]
    have xx5:w5.cell? ⟨A5,5,none⟩=some (vi u1):=by rw [←hW,←hA];simp [go_sem]
    have xx6:w5.cell? ⟨A5,6,none⟩=some (vi u2):=by rw [←hW,←hA];simp [go_sem]
    have xx7:w5.cell? ⟨A5,7,none⟩=some (vi u3):=by rw [←hW,←hA];simp [go_sem]
    clear hW hA;go_wp2_with fail;go_meet;exact ⟨A5,rfl,rfl,hx5,xx0,xx1,xx2,xx3,xx4,xx5,xx6,xx7⟩
   ·generalize hW:World.setCell _ _ _=w5
    obtain ⟨xx0,xx1,xx2,xx3,xx4,xx5,xx6,xx7,hx5⟩:=put8 (w:=wc) hW (by simp (maxDischargeDepth:=60)) (by first|exact Nat.le_refl _|(simp;done)|(simp;omega)) (by rw [plus_heap _ _ _ _ (by simp)];exact alloc_at _ _ _ (by first|rfl|simp)) rfl;clear hW;go_wp2_with fail;go_meet;exact ⟨_,rfl,rfl,hx5,xx0,xx1,xx2,xx3,xx4,xx5,xx6,xx7⟩
  case rest=>
   obtain ⟨A5,rfl,rfl,hx5,c0',c1',c2',c3',c4',c5',c6',c7'⟩:=hcut;replace q0:=xcell hx5 q0;replace q1:=xcell hx5 q1;replace q2:=xcell hx5 q2;replace t0:=xcell hx5 t0;replace t1:=xcell hx5 t1;replace t2:=xcell hx5 t2;replace j0:=xcell hx5 j0;replace j1:=xcell hx5 j1;replace g1:=xcell hx5 g1;replace pd:=xcell hx5 pd;replace pl:=xcell hx5 pl;replace pb:=xcell hx5 pb;replace g2:=xcell hx5 g2;replace g3:=xcell hx5 g3;replace g4:=xcell hx5 g4
   replace FQ:Hid (∀ i,wc.frozen? ⟨w.heap.size,i,none⟩=false):=fun i=>xfree hx5 z1 (FQ.out i)
   replace HXB:=Lib.hid (HXB.out.trans hx5);replace HB:=Lib.hid (HB.out.ext hx5);clear hx5 z1 z2 z3 z4 z5;have z1:=cell_lt q0;have z2:=cell_lt t0;have z3:=cell_lt j0;have z4:=cell_lt g1;have z5:=cell_lt pl;have z6:=cell_lt c0'
   go_upto_region 31 with (go_at_call 83;(with_reducible refine (rhas_at hv (HB.out.pl.ext (by simp (maxDischargeDepth:=60))) hwf _ HHV).mono ?_);rintro e w1 ⟨rfl,o1,n1,rfl⟩)
   generalize hWq:World.plus _ _ _=we
   have hxq:Ext wc we:=by rw [←hWq];exact (by simp (maxDischargeDepth:=60))
   clear hWq;replace c0':=xcell hxq c0';replace c1':=xcell hxq c1';replace c2':=xcell hxq c2';replace c3':=xcell hxq c3';replace c4':=xcell hxq c4';replace c5':=xcell hxq c5';replace c6':=xcell hxq c6';replace c7':=xcell hxq c7';replace q0:=xcell hxq q0;replace q1:=xcell hxq q1;replace q2:=xcell hxq q2;replace t0:=xcell hxq t0;replace t1:=xcell hxq t1;replace t2:=xcell hxq t2;replace j0:=xcell hxq j0;replace j1:=xcell hxq j1;replace g1:=xcell hxq g1;replace pd:=xcell hxq pd;replace pl:=xcell hxq pl;replace pb:=xcell hxq pb;replace g2:=xcell hxq g2;replace g3:=xcell hxq g3;replace g4:=xcell hxq g4
   replace FQ:Hid (∀ i,we.frozen? ⟨w.heap.size,i,none⟩=false):=fun i=>xfree hxq z1 (FQ.out i)
   replace HXB:=Lib.hid (HXB.out.trans hxq);replace HB:=Lib.hid (HB.out.ext hxq);clear hxq z1 z2 z3 z4 z5;have z1:=cell_lt q0;have z2:=cell_lt t0;have z3:=cell_lt j0;have z4:=cell_lt g1;have z5:=cell_lt pl;have z6:=cell_lt c0';have ho:=hno.out;rw [HST.out] at ho;dsimp only at ho;rw [hba.out,HHV.out] at ho
   have h1:¬ 0=xi:=fun e=>ho (Or.inl e)
   have hv1:hv=true:=by
    cases hv
    ·exact absurd (Or.inr rfl) ho
    ·rfl
   clear ho;subst hv1
   have HN1:Hid (¬ p.bay=xi):=by unfold Hid;rw [hba.out];exact h1
   have HB0:Hid (p.bay=0):=hba
   cases hw:p.where_ xi with
   | none=>
    have HWV:Hid (whereV (p.where_ xi) = .tuple #[.agg #[vi 0,vi 0,vi 0],.bool false]):=by unfold Hid;rw [hw];rfl
    have HW0:=Lib.hid hw;clear hw
    go_upto_region 48 with (go_at_call 81;(with_reducible refine (rwhere_lit 0 0 0 false (HB.out.pl.ext (by simp (maxDischargeDepth:=60))) hwf _ HWV).mono ?_);rintro e w1 ⟨rfl,o1,n1,rfl⟩)
    generalize hW:World.alloc _ _=w7
    have hx7:Ext we w7:=by rw [←hW];exact (by simp (maxDischargeDepth:=60))
    clear hW;replace c0':=xcell hx7 c0';replace c1':=xcell hx7 c1';replace c2':=xcell hx7 c2';replace c3':=xcell hx7 c3';replace c4':=xcell hx7 c4';replace c5':=xcell hx7 c5';replace c6':=xcell hx7 c6';replace c7':=xcell hx7 c7';replace q0:=xcell hx7 q0;replace q1:=xcell hx7 q1;replace q2:=xcell hx7 q2;replace t0:=xcell hx7 t0;replace t1:=xcell hx7 t1;replace t2:=xcell hx7 t2;replace j0:=xcell hx7 j0;replace j1:=xcell hx7 j1;replace g1:=xcell hx7 g1;replace pd:=xcell hx7 pd;replace pl:=xcell hx7 pl;replace pb:=xcell hx7 pb;replace g2:=xcell hx7 g2;replace g3:=xcell hx7 g3;replace g4:=xcell hx7 g4
    replace FQ:Hid (∀ i,w7.frozen? ⟨w.heap.size,i,none⟩=false):=fun i=>xfree hx7 z1 (FQ.out i)
    replace HXB:=Lib.hid (HXB.out.trans hx7);replace HB:=Lib.hid (HB.out.ext hx7);clear hx7 z1 z2 z3 z4 z5;have z1:=cell_lt q0;have z2:=cell_lt t0;have z3:=cell_lt j0;have z4:=cell_lt g1;have z5:=cell_lt pl;have z6:=cell_lt c0';have fq0:=FQ.out 0;have fq1:=FQ.out 1;have fq2:=FQ.out 2
    go_upto_region 49 with fail
    repeat (first|(go_big_may;fail)|go_values|go_skip|go_guarded|go_step|go_upon|simp only [])
    have HE:Ch.turnOf ⟨last,l,js⟩ (ln:Int) p=([],none):=by rw [HT.out,rf4 HST.out HN1.out HHV.out HB0.out hdd.out HW0.out]
    obtain ⟨o0,o1,o2,ox⟩:=put3k (w:=w) (x:=vi 0) (y:=.slice none 0 0) (z:=.slice none 0 0) HXB.out (Nat.le_refl _) q0 q1 q2;refine bodyPost_ret (v:=.tuple #[.slice none 0 0,.agg #[vi 0,.slice none 0 0,.slice none 0 0],.bool false]) (by simp [results,Try.results86,go_sem,o0,o1,o2]) rfl ?_;rw [HE];exact ⟨_,_,_,rfl,owns_nilG _ _ _ _,own_zero _ _,ox⟩
   | some y=>
    obtain ⟨qa,qb,qc⟩:=y;have hwo:=Ch.where_ok hw;obtain ⟨up1,up2,-,-,up5,up6⟩:=rplace_ok hwo hwf.lv2;clear hwo
    obtain ⟨fv,HFV⟩:∃ v,Hid (p.slots ⟨qa,qb,0⟩=v):=⟨_,rfl⟩
    by_cases h3:qc=1
    ·subst h3
     have HWV:Hid (whereV (p.where_ xi) = .tuple #[.agg #[vi qa,vi qb,vi 1],.bool true]):=by unfold Hid;rw [hw];rfl
     have HW0:=Lib.hid hw;clear hw
     go_upto_region 48 with (go_at_call 81;(with_reducible refine (rwhere_lit qa qb 1 true (HB.out.pl.ext (by simp (maxDischargeDepth:=60))) hwf _ HWV).mono ?_);rintro e w1 ⟨rfl,o1,n1,rfl⟩)
     generalize hW:World.alloc _ _=w7;generalize hA:we.heap.size+_=A7
     have hx7:Ext we w7:=by rw [←hW];exact (by simp (maxDischargeDepth:=60))
     have ka0:w7.cell? ⟨A7,0,none⟩=some (vi qa):=by rw [←hW,←hA];simp [go_sem]
     have ka1:w7.cell? ⟨A7,1,none⟩=some (vi qb):=by rw [←hW,←hA];simp [go_sem]
     have ka2:w7.cell? ⟨A7,2,none⟩=some (vi 1):=by rw [←hW,←hA];simp [go_sem]
     have afz:∀ i,w7.frozen? ⟨A7,i,none⟩=false:=by intro i;rw [←hW,←hA];simp [go_sem]
     have hA7:we.heap.size≤A7:=by omega
     clear hW hA
     go_upto_region 51 with fail
     generalize hW:World.alloc _ _=w8;generalize hF:w7.heap.size=F
     have hx8:Ext w7 w8:=by rw [←hW];exact (by simp (maxDischargeDepth:=60))
     have ff0:w8.cell? ⟨F,0,none⟩=some (vi qa):=by rw [←hW,←hF];simp [go_sem]
     have ff1:w8.cell? ⟨F,1,none⟩=some (vi qb):=by rw [←hW,←hF];simp [go_sem]
     have ff2:w8.cell? ⟨F,2,none⟩=some (vi 1):=by rw [←hW,←hF];simp [go_sem]
     have fff:w8.frozen? ⟨F,2,none⟩=false:=by rw [←hW,←hF];simp [go_sem]
     have hFl:w7.heap.size≤F:=by omega
     have zF:=cell_lt ff0;clear hW hF
     go_upto_region 52 with fail
     generalize hW:World.setCell _ _ _=w9
     have n20:(⟨F,2,none⟩:Addr)≠⟨F,0,none⟩:=by intro e;cases e
     have n21:(⟨F,2,none⟩:Addr)≠⟨F,1,none⟩:=by intro e;cases e
     have gf0:w9.cell? ⟨F,0,none⟩=some (vi qa):=by rw [←hW,World.cell?_setCell_other (h:=n20)];exact ff0
     have gf1:w9.cell? ⟨F,1,none⟩=some (vi qb):=by rw [←hW,World.cell?_setCell_other (h:=n21)];exact ff1
     have gf2:w9.cell? ⟨F,2,none⟩=some (vi 0):=by rw [←hW,World.cell?_setCell_same (h:=ff2)]
     have hx79:Ext w7 w9:=by rw [←hW];exact Ext.setCell hx8 hFl _
     have afz9:∀ i,w9.frozen? ⟨A7,i,none⟩=false:=fun i=>xfree hx79 (cell_lt ka0) (afz i)
     replace ka0:=xcell hx79 ka0;replace ka1:=xcell hx79 ka1;replace ka2:=xcell hx79 ka2;have hx9:Ext we w9:=hx7.trans hx79;have zA:=cell_lt ka0;replace zF:=cell_lt gf0;have af0:=afz9 0;have af1:=afz9 1;have af2:=afz9 2;clear hW ff0 ff1 ff2 fff hx8 n20 n21 hx7 hx79 afz afz9 hFl
     by_cases h4:fv=0
     ·subst h4
      go_upto_region 54 with (go_at_call 128;(with_reducible refine (rat_val (HB.out.pl.ext (hx9.trans (by simp (maxDischargeDepth:=60)))) hwf _ _ _ 0 HFV).mono ?_);rintro e w1 ⟨rfl,o1,n1,rfl⟩)
      repeat (first|(go_big_may;(go_at_call 22;(with_reducible refine (rthere_f _ _ _ _ _ (by decide) (by decide) up1 up2).mono ?_);rintro e wv ⟨v1,rfl,hown,hxv⟩;have hxz:Ext we wv:=hx9.trans (Ext.trans (by simp (maxDischargeDepth:=60)) hxv);have fq0:=xfree hxz (cell_lt q0) (FQ.out 0);have fq1:=xfree hxz (cell_lt q0) (FQ.out 1);have fq2:=xfree hxz (cell_lt q0) (FQ.out 2);have pq0:=xcell hxz q0;have pq1:=xcell hxz q1;have pq2:=xcell hxz q2))|go_values|go_skip|go_guarded|go_step|go_upon|simp only [])
      have HE:Ch.turnOf ⟨last,l,js⟩ (ln:Int) p=(Ch.there ⟨qa,qb,1⟩ 3,none):=by rw [HT.out,rf6 HST.out HN1.out HHV.out HB0.out hdd.out HW0.out (fun e=>e.2 HFV.out)]
      obtain ⟨o0,o1,o2,ox⟩:=put3k (w:=w) (x:=vi 0) (y:=.slice none 0 0) (z:=.slice none 0 0) (HXB.out.trans hxz) (Nat.le_refl _) pq0 pq1 pq2;refine bodyPost_ret (v:=.tuple #[v1,.agg #[vi 0,.slice none 0 0,.slice none 0 0],.bool false]) (by simp [results,Try.results86,go_sem,o0,o1,o2]) rfl ?_;rw [HE];exact ⟨v1,_,_,rfl,owns_base (owns_put3 hown (by have:=cell_lt q0;first|omega|(simp;omega))) (by have:=HXB.out.below.size;first|omega|(simp;omega)),own_zero _ _,ox⟩
     ·have HN4:Hid (¬ p.slots ⟨qa,qb,0⟩=0):=by unfold Hid;rw [HFV.out];exact h4
      go_upto_region 53 with (go_at_call 128;(with_reducible refine (rat_val (HB.out.pl.ext (hx9.trans (by simp (maxDischargeDepth:=60)))) hwf _ _ _ fv HFV).mono ?_);rintro e w1 ⟨rfl,o1,n1,rfl⟩)
      generalize hWp:World.plus _ _ _=wp
      have hxp:Ext w9 wp:=by rw [←hWp];exact (by simp (maxDischargeDepth:=60))
      clear hWp;replace ka0:=xcell hxp ka0;replace ka1:=xcell hxp ka1;replace ka2:=xcell hxp ka2;replace gf0:=xcell hxp gf0;replace gf1:=xcell hxp gf1;replace gf2:=xcell hxp gf2;replace af0:=xfree hxp zA af0;replace af1:=xfree hxp zA af1;replace af2:=xfree hxp zA af2;replace zA:=cell_lt ka0;replace zF:=cell_lt gf0;have hx11:=hx9.trans hxp;clear hxp
      go_upto_region 54 with fail
      generalize hW:World.setCell _ _ _=w10
      obtain ⟨b0,b1,b2,hx10⟩:w10.cell? ⟨A7,0,none⟩=some (vi qa)∧w10.cell? ⟨A7,1,none⟩=some (vi qb)∧w10.cell? ⟨A7,2,none⟩=some (vi 0)∧Ext we w10:=by
       rw [←hW];exact put3k hx11 hA7 ka0 ka1 ka2
      have zB:=cell_lt b0;clear hW ka0 ka1 ka2 af0 af1 af2 hx11
      repeat (first|(go_big_may;(go_at_call 22;(with_reducible refine (rthere_f _ _ _ _ _ (by decide) (by decide) up1 up2).mono ?_);rintro e wv ⟨v1,rfl,hown,hxv⟩;have hxz:Ext we wv:=hx10.trans (Ext.trans (by simp (maxDischargeDepth:=60)) hxv);have fq0:=xfree hxz (cell_lt q0) (FQ.out 0);have fq1:=xfree hxz (cell_lt q0) (FQ.out 1);have fq2:=xfree hxz (cell_lt q0) (FQ.out 2);have pq0:=xcell hxz q0;have pq1:=xcell hxz q1;have pq2:=xcell hxz q2))|go_values|go_skip|go_guarded|go_step|go_upon|simp only [])
      have HE:Ch.turnOf ⟨last,l,js⟩ (ln:Int) p=(Ch.there ⟨qa,qb,0⟩ 3,none):=by rw [HT.out,rf5 HST.out HN1.out HHV.out HB0.out hdd.out HW0.out HN4.out]
      obtain ⟨o0,o1,o2,ox⟩:=put3k (w:=w) (x:=vi 0) (y:=.slice none 0 0) (z:=.slice none 0 0) (HXB.out.trans hxz) (Nat.le_refl _) pq0 pq1 pq2;refine bodyPost_ret (v:=.tuple #[v1,.agg #[vi 0,.slice none 0 0,.slice none 0 0],.bool false]) (by simp [results,Try.results86,go_sem,o0,o1,o2]) rfl ?_;rw [HE];exact ⟨v1,_,_,rfl,owns_base (owns_put3 hown (by have:=cell_lt q0;first|omega|(simp;omega))) (by have:=HXB.out.below.size;first|omega|(simp;omega)),own_zero _ _,ox⟩
    ·have HWV:Hid (whereV (p.where_ xi) = .tuple #[.agg #[vi qa,vi qb,vi qc],.bool true]):=by unfold Hid;rw [hw];rfl
     have HW0:=Lib.hid hw;clear hw
     go_upto_region 48 with (go_at_call 81;(with_reducible refine (rwhere_lit qa qb qc true (HB.out.pl.ext (by simp (maxDischargeDepth:=60))) hwf _ HWV).mono ?_);rintro e w1 ⟨rfl,o1,n1,rfl⟩)
     generalize hW:World.alloc _ _=w7;generalize hA:we.heap.size+_=A7
     have hx7:Ext we w7:=by rw [←hW];exact (by simp (maxDischargeDepth:=60))
     have ka0:w7.cell? ⟨A7,0,none⟩=some (vi qa):=by rw [←hW,←hA];simp [go_sem]
     have ka1:w7.cell? ⟨A7,1,none⟩=some (vi qb):=by rw [←hW,←hA];simp [go_sem]
     have ka2:w7.cell? ⟨A7,2,none⟩=some (vi qc):=by rw [←hW,←hA];simp [go_sem]
     have afz:∀ i,w7.frozen? ⟨A7,i,none⟩=false:=by intro i;rw [←hW,←hA];simp [go_sem]
     have hA7:we.heap.size≤A7:=by omega
     clear hW hA
     go_upto_region 51 with fail
     generalize hW:World.alloc _ _=w8;generalize hF:w7.heap.size=F
     have hx8:Ext w7 w8:=by rw [←hW];exact (by simp (maxDischargeDepth:=60))
     have ff0:w8.cell? ⟨F,0,none⟩=some (vi qa):=by rw [←hW,←hF];simp [go_sem]
     have ff1:w8.cell? ⟨F,1,none⟩=some (vi qb):=by rw [←hW,←hF];simp [go_sem]
     have ff2:w8.cell? ⟨F,2,none⟩=some (vi qc):=by rw [←hW,←hF];simp [go_sem]
     have fff:w8.frozen? ⟨F,2,none⟩=false:=by rw [←hW,←hF];simp [go_sem]
     have hFl:w7.heap.size≤F:=by omega
     have zF:=cell_lt ff0;clear hW hF
     go_upto_region 52 with fail
     generalize hW:World.setCell _ _ _=w9
     have n20:(⟨F,2,none⟩:Addr)≠⟨F,0,none⟩:=by intro e;cases e
     have n21:(⟨F,2,none⟩:Addr)≠⟨F,1,none⟩:=by intro e;cases e
     have gf0:w9.cell? ⟨F,0,none⟩=some (vi qa):=by rw [←hW,World.cell?_setCell_other (h:=n20)];exact ff0
     have gf1:w9.cell? ⟨F,1,none⟩=some (vi qb):=by rw [←hW,World.cell?_setCell_other (h:=n21)];exact ff1
     have gf2:w9.cell? ⟨F,2,none⟩=some (vi 0):=by rw [←hW,World.cell?_setCell_same (h:=ff2)]
     have hx79:Ext w7 w9:=by rw [←hW];exact Ext.setCell hx8 hFl _
     have afz9:∀ i,w9.frozen? ⟨A7,i,none⟩=false:=fun i=>xfree hx79 (cell_lt ka0) (afz i)
     replace ka0:=xcell hx79 ka0;replace ka1:=xcell hx79 ka1;replace ka2:=xcell hx79 ka2;have hx9:Ext we w9:=hx7.trans hx79;have zA:=cell_lt ka0;replace zF:=cell_lt gf0;have af0:=afz9 0;have af1:=afz9 1;have af2:=afz9 2;clear hW ff0 ff1 ff2 fff hx8 n20 n21 hx7 hx79 afz afz9 hFl
     go_upto_region 54 with fail
     repeat (first|(go_big_may;(go_at_call 22;(with_reducible refine (rthere_f _ _ _ _ _ up5 up6 up1 up2).mono ?_);rintro e wv ⟨v1,rfl,hown,hxv⟩;have hxz:Ext we wv:=hx9.trans (Ext.trans (by simp (maxDischargeDepth:=60)) hxv);have fq0:=xfree hxz (cell_lt q0) (FQ.out 0);have fq1:=xfree hxz (cell_lt q0) (FQ.out 1);have fq2:=xfree hxz (cell_lt q0) (FQ.out 2);have pq0:=xcell hxz q0;have pq1:=xcell hxz q1;have pq2:=xcell hxz q2))|go_values|go_skip|go_guarded|go_step|go_upon|simp only [])
     have HE:Ch.turnOf ⟨last,l,js⟩ (ln:Int) p=(Ch.there ⟨qa,qb,qc⟩ 3,none):=by rw [HT.out,rf6 HST.out HN1.out HHV.out HB0.out hdd.out HW0.out (fun e=>h3 e.1)]
     obtain ⟨o0,o1,o2,ox⟩:=put3k (w:=w) (x:=vi 0) (y:=.slice none 0 0) (z:=.slice none 0 0) (HXB.out.trans hxz) (Nat.le_refl _) pq0 pq1 pq2;refine bodyPost_ret (v:=.tuple #[v1,.agg #[vi 0,.slice none 0 0,.slice none 0 0],.bool false]) (by simp [results,Try.results86,go_sem,o0,o1,o2]) rfl ?_;rw [HE];exact ⟨v1,_,_,rfl,owns_base (owns_put3 hown (by have:=cell_lt q0;first|omega|(simp;omega))) (by have:=HXB.out.below.size;first|omega|(simp;omega)),own_zero _ _,ox⟩
theorem rnext_jf {w:World} {hb rb:Nat} {la:Option Addr} {ln lc:Nat} {last:Int} {a1:Option Addr} {m1 c1:Nat} {a2:Option Addr} {m2 c2:Nat} {gv:Value} {l:List Ch.Stay} {js:List Ch.Job} {p:Ch.Plant} (hh:RHAt w hb rb (.slice la ln lc) last a1 m1 c1 a2 m2 c2 gv l js p)
  (hwf:p.WF) (hj:Hid (∀ j∈js,∃ s∈l,s.ticket=j.ticket)) (h0:Hid (∀ s∈l,s.ticket≠0)) (hpl:Hid (∀ s∈l,Ch.placeFault s.home (ln:Int)=0)) (l1:1≤ln) (l4:ln≤4) (hlc:ln≤lc) (hlm:lc≤maxLen) (hm1:m1≤100) (hm2:m2≤100) (jt:Int) (HFJ:Hid (firstT (Ch.firstJob ⟨last,l,js⟩ p.bay)=(jt,true,true))) (hl:p.lift=0)
  (hgo:Hid (p.slots ⟨(ln:Int),1,0⟩=0∨∃ xt xi x1 x2 x3 u1 u2 u3,(⟨last,l,js⟩:Ch.Book).of (p.slots ⟨(ln:Int),1,0⟩)=some ⟨xt,⟨xi,⟨x1,x2,x3⟩⟩,⟨u1,u2,u3⟩⟩∧Ch.blocks ⟨last,l,js⟩ p ⟨xt,⟨xi,⟨x1,x2,x3⟩⟩,⟨u1,u2,u3⟩⟩ ⟨jt,true⟩=true)):
  Calls Try.prog 86 #[.pointer (some ⟨hb,0,none⟩)] w (TurnR w (Ch.turnOf ⟨last,l,js⟩ (ln:Int) p).1 (Ch.turnOf ⟨last,l,js⟩ (ln:Int) p).2):=by
 by_cases hov:p.bay=((⟨last,l,js⟩:Ch.Book).stay jt).car.id∨p.has ((⟨last,l,js⟩:Ch.Book).stay jt).car.id=false
 ·exact rnext_jfA hh hwf hj h0 hpl l1 l4 hlc hlm hm1 hm2 jt _ _ true true _ rfl rfl rfl HFJ hl _ rfl hgo rfl rfl hov
 ·by_cases hB:¬ p.bay=0∨p.door=true
  ·exact rnext_jfB hh hwf hj h0 hpl l1 l4 hlc hlm hm1 hm2 jt _ _ true true _ rfl rfl rfl HFJ hl _ rfl hgo rfl rfl hov hB
  ·exact rnext_jfC hh hwf hj h0 hpl l1 l4 hlc hlm hm1 hm2 jt _ _ true true _ rfl rfl rfl HFJ hl _ rfl hgo rfl rfl hov (Classical.byContradiction fun h=>hB (Or.inl h)) (by cases h:p.door;rfl;exact absurd (Or.inr h) hB)
theorem rnext_any {w:World} {hb rb:Nat} {la:Option Addr} {ln lc:Nat} {last:Int} {a1:Option Addr} {m1 c1:Nat} {a2:Option Addr} {m2 c2:Nat} {gv:Value} {l:List Ch.Stay} {js:List Ch.Job} {p:Ch.Plant} (hh:RHAt w hb rb (.slice la ln lc) last a1 m1 c1 a2 m2 c2 gv l js p)
  (hwf:p.WF) (hj:Hid (∀ j∈js,∃ s∈l,s.ticket=j.ticket)) (h0:Hid (∀ s∈l,s.ticket≠0)) (hpl:Hid (∀ s∈l,Ch.placeFault s.home (ln:Int)=0)) (l1:1≤ln) (l4:ln≤4) (hlc:ln≤lc) (hlm:lc≤maxLen) (hm1:m1≤100) (hm2:m2≤100):
  Calls Try.prog 86 #[.pointer (some ⟨hb,0,none⟩)] w (TurnR w (Ch.turnOf ⟨last,l,js⟩ (ln:Int) p).1 (Ch.turnOf ⟨last,l,js⟩ (ln:Int) p).2):=by
 obtain ⟨⟨jt,jf,is⟩,HFJ⟩:∃ r,Hid (firstT (Ch.firstJob ⟨last,l,js⟩ p.bay)=r):=⟨_,rfl⟩
 by_cases hl:p.lift=0
 ·by_cases hc:p.slots ⟨(ln:Int),1,0⟩=0
  ·cases is
   ·exact rnext_j0 hh hwf hj h0 hpl l1 l4 hlc hlm hm1 hm2 jt _ _ jf false _ rfl rfl rfl HFJ hl _ rfl hc rfl
   ·cases jf
    ·exact rnext_js hh hwf hj h0 hpl l1 l4 hlc hlm hm1 hm2 jt _ _ false true _ rfl rfl rfl HFJ hl _ rfl hc rfl rfl
    ·exact rnext_jf hh hwf hj h0 hpl l1 l4 hlc hlm hm1 hm2 jt HFJ hl (Or.inl hc)
  ·cases ho:(⟨last,l,js⟩:Ch.Book).of (p.slots ⟨(ln:Int),1,0⟩) with
   | none=>exact rnext_s1 hh hwf hj h0 hpl l1 l4 hlc hlm hm1 hm2 jt _ _ jf is _ rfl rfl rfl HFJ hl _ rfl hc ho
   | some x=>
    obtain ⟨xt,⟨xi,⟨x1,x2,x3⟩⟩,⟨u1,u2,u3⟩⟩:=x;cases is
    ·exact rnext_s2 hh hwf hj h0 hpl l1 l4 hlc hlm hm1 hm2 jt _ _ jf false _ rfl rfl rfl HFJ xt xi x1 x2 x3 u1 u2 u3 hl _ rfl hc ho rfl
    ·cases hb':Ch.blocks ⟨last,l,js⟩ p ⟨xt,⟨xi,⟨x1,x2,x3⟩⟩,⟨u1,u2,u3⟩⟩ ⟨jt,jf⟩
     ·exact rnext_s3 hh hwf hj h0 hpl l1 l4 hlc hlm hm1 hm2 jt _ _ jf true _ rfl rfl rfl HFJ xt xi x1 x2 x3 u1 u2 u3 hl _ rfl hc ho rfl hb'
     ·cases jf
      ·simp [Ch.blocks] at hb'
      ·exact rnext_jf hh hwf hj h0 hpl l1 l4 hlc hlm hm1 hm2 jt HFJ hl (Or.inr ⟨xt,xi,x1,x2,x3,u1,u2,u3,ho,hb'⟩)
 ·cases ho:(⟨last,l,js⟩:Ch.Book).of p.lift with
  | none=>exact rnext_l1 hh hwf hj h0 hpl l1 l4 hlc hlm hm1 hm2 jt _ _ jf is _ rfl rfl rfl HFJ hl ho
  | some x=>
   obtain ⟨xt,⟨xi,⟨x1,x2,x3⟩⟩,⟨u1,u2,u3⟩⟩:=x
   cases hg:(is&&jf&&jt==xt&&p.bay==0)
   ·by_cases h3:u3=1
    ·by_cases hs:p.slots ⟨u1,u2,0⟩=0
     ·cases is
      ·exact rnext_l4 hh hwf hj h0 hpl l1 l4 hlc hlm hm1 hm2 jt _ _ jf false _ rfl rfl rfl HFJ xt xi x1 x2 x3 u1 u2 u3 hl ho hg h3 hs rfl
      ·exact rnext_l5 hh hwf hj h0 hpl l1 l4 hlc hlm hm1 hm2 jt _ _ jf true _ rfl rfl rfl HFJ xt xi x1 x2 x3 u1 u2 u3 hl ho hg h3 hs rfl
     ·exact rnext_l3 hh hwf hj h0 hpl l1 l4 hlc hlm hm1 hm2 jt _ _ jf is _ rfl rfl rfl HFJ xt xi x1 x2 x3 u1 u2 u3 hl ho hg h3 hs
    ·cases is
     ·exact rnext_l6 hh hwf hj h0 hpl l1 l4 hlc hlm hm1 hm2 jt _ _ jf false _ rfl rfl rfl HFJ xt xi x1 x2 x3 u1 u2 u3 hl ho hg h3 rfl
     ·exact rnext_l7 hh hwf hj h0 hpl l1 l4 hlc hlm hm1 hm2 jt _ _ jf true _ rfl rfl rfl HFJ xt xi x1 x2 x3 u1 u2 u3 hl ho hg h3 rfl
   ·exact rnext_l2 hh hwf hj h0 hpl l1 l4 hlc hlm hm1 hm2 jt _ _ jf is _ rfl rfl rfl HFJ xt xi x1 x2 x3 u1 u2 u3 hl ho hg
def TurnV (w:World) (gl:List Ch.Goal) (bl:Int) (bs:List Ch.Stay) (bj:List Ch.Job) (oc:Bool) (e:Ending) (w':World):Prop:=
 ∃ g gc i1 i1' i2 i2',e = .returned (.tuple #[.slice g gl.length gc,.agg #[vi bl,.slice i1 bs.length i1',.slice i2 bj.length i2'],.bool oc])∧Sl w' 2 goalCells gl g gl.length gc∧Sl w' 8 stayCells bs i1 bs.length i1'∧Sl w' 2 jobCells bj i2 bj.length i2'∧Ext w w'
theorem TurnR.val {w:World} {gl gl':List Ch.Goal} {ob ob':Option Ch.Book} {bl:Int} {bs:List Ch.Stay} {bj:List Ch.Job} {oc:Bool} {e:Ending} {w':World} (h:TurnR w gl' ob' e w') (h1:(gl',ob')=(gl,ob)) (h2:ob.getD ⟨0,[],[]⟩=⟨bl,bs,bj⟩) (h3:ob.isSome=oc):TurnV w gl bl bs bj oc e w':=by
 obtain ⟨rfl,rfl⟩:=Prod.mk.inj h1;obtain ⟨v,v1,v2,he,hg,hob,hx⟩:=h;rw [h2] at he hob;rw [h3] at he;obtain ⟨g,gc,rfl,hs⟩:=Sl.of_owns (c:=2) (enc:=goalCells) hg (by decide) (fun _=>rfl);obtain ⟨i1,i1',rfl,hs1⟩:=Sl.of_owns (c:=8) (enc:=stayCells) hob.stays (by decide) (fun _=>rfl);obtain ⟨i2,i2',rfl,hs2⟩:=Sl.of_owns (c:=2) (enc:=jobCells) hob.jobs (by decide) (fun _=>rfl);exact ⟨g,gc,i1,i1',i2,i2',he,hs,hs1,hs2,hx⟩
theorem turn_named (gl:List Ch.Goal) (ob:Option Ch.Book) (bl:Int) (bs:List Ch.Stay) (bj:List Ch.Job) (oc:Bool) (last:Int) (a1:Option Addr) (m1 c1:Nat) (a2:Option Addr) (m2 c2:Nat) (lv:Int) (pb mb:Nat) (l:List Ch.Stay) (js:List Ch.Job) (p:Ch.Plant) (w:World)
  (h:Sl w 8 stayCells l a1 m1 c1) (h2:Sl w 2 jobCells js a2 m2 c2) (hp:PlantAt w pb mb p) (hwf:p.WF) (hj:Hid (∀ j∈js,∃ s∈l,s.ticket=j.ticket)) (hpl:Hid (∀ s∈l,Ch.placeFault s.home lv=0)) (l1:1≤lv) (l4:lv≤4) (hm1:m1≤100) (hm2:m2≤100)
  (hT:Hid (Ch.turnOf ⟨last,l,js⟩ lv p=(gl,ob))) (hB:Hid (ob.getD ⟨0,[],[]⟩=⟨bl,bs,bj⟩)) (hO:Hid (ob.isSome=oc)):
  Calls Try.prog 85 #[bookA last a1 m1 c1 a2 m2 c2,vi lv,.pointer (some ⟨pb,0,none⟩)] w (TurnV w gl bl bs bj oc):=
 (turnNext_any last a1 m1 c1 a2 m2 c2 lv pb mb l js p w h h2 hp hwf hj hpl l1 l4 hwf.lv2 hm1 hm2).mono fun _ _ t=>t.val hT.out hB.out hO.out
theorem rnext_named (gl:List Ch.Goal) (ob:Option Ch.Book) (bl:Int) (bs:List Ch.Stay) (bj:List Ch.Job) (oc:Bool) {w:World} {hb rb:Nat} {la:Option Addr} {ln lc:Nat} {last:Int} {a1:Option Addr} {m1 c1:Nat} {a2:Option Addr} {m2 c2:Nat} {gv:Value} {l:List Ch.Stay} {js:List Ch.Job} {p:Ch.Plant} (hh:RHAt w hb rb (.slice la ln lc) last a1 m1 c1 a2 m2 c2 gv l js p)
  (hwf:p.WF) (hj:Hid (∀ j∈js,∃ s∈l,s.ticket=j.ticket)) (h0:Hid (∀ s∈l,s.ticket≠0)) (hpl:Hid (∀ s∈l,Ch.placeFault s.home (ln:Int)=0)) (l1:1≤ln) (l4:ln≤4) (hlc:ln≤lc) (hlm:lc≤maxLen) (hm1:m1≤100) (hm2:m2≤100)
  (hT:Hid (Ch.turnOf ⟨last,l,js⟩ (ln:Int) p=(gl,ob))) (hB:Hid (ob.getD ⟨0,[],[]⟩=⟨bl,bs,bj⟩)) (hO:Hid (ob.isSome=oc)):
  Calls Try.prog 86 #[.pointer (some ⟨hb,0,none⟩)] w (TurnV w gl bl bs bj oc):=
 (rnext_any hh hwf hj h0 hpl l1 l4 hlc hlm hm1 hm2).mono fun _ _ t=>t.val hT.out hB.out hO.out
end Go.Proofs.Ytplomeacjbkgnaa
