import Derived.Test.YtplomeacjbkgnaaZ32
set_option linter.all false
set_option maxRecDepth 100000
set_option maxHeartbeats 16000000
namespace Go.Proofs.Ytplomeacjbkgnaa
open Go.RowKit
theorem rnext_l1 {w:World} {hb rb:Nat} {la:Option Addr} {ln lc:Nat} {last:Int} {a1:Option Addr} {m1 c1:Nat} {a2:Option Addr} {m2 c2:Nat} {gv:Value} {l:List Ch.Stay} {js:List Ch.Job} {p:Ch.Plant} (hh:RHAt w hb rb (.slice la ln lc) last a1 m1 c1 a2 m2 c2 gv l js p)
  (hwf:p.WF) (hj:Hid (∀ j∈js,∃ s∈l,s.ticket=j.ticket)) (h0:Hid (∀ s∈l,s.ticket≠0)) (hpl:Hid (∀ s∈l,Ch.placeFault s.home (ln:Int)=0)) (l1:1≤ln) (l4:ln≤4) (hlc:ln≤lc) (hlm:lc≤maxLen) (hm1:m1≤100) (hm2:m2≤100)
  (jt li ba:Int) (jf is dd:Bool) (hba:Hid (p.bay=ba)) (hli:Hid (p.lift=li)) (hdd:Hid (p.door=dd)) (HFJ:Hid (firstT (Ch.firstJob ⟨last,l,js⟩ ba)=(jt,jf,is))) (hl:¬ li=0) (HO:Hid ((⟨last,l,js⟩:Ch.Book).of li=none)):
  Calls Try.prog 86 #[.pointer (some ⟨hb,0,none⟩)] w (TurnR w (Ch.turnOf ⟨last,l,js⟩ (ln:Int) p).1 (Ch.turnOf ⟨last,l,js⟩ (ln:Int) p).2):=by
 have b1:=hh.st.bound;have b2:=hh.jb.bound;have HH:=Lib.hid hh;have hlt0:=cell_lt hh.cells.1;unfold maxLen at hlm;have e0':=hh.cells.1;have e1':=hh.cells.2.1
 have L1:(1:Int)≤(ln:Int):=by omega
 have L4:(ln:Int)≤4:=by omega
 clear hh;go_enter Try.func86,Try.ntmps86
 go_upto_region 2 with fail
 generalize hW:World.alloc _ _=w0
 have hx0:Ext w w0:=by rw [←hW];exact (by simp (maxDischargeDepth:=60))
 have r0:w0.cell? ⟨w.heap.size,0,none⟩=some (vi 0):=by rw [←hW];simp [go_sem]
 have r1:w0.cell? ⟨w.heap.size,1,none⟩=some (.slice none 0 0):=by rw [←hW];simp [go_sem]
 have r2:w0.cell? ⟨w.heap.size,2,none⟩=some (.slice none 0 0):=by rw [←hW];simp [go_sem]
 have fz:∀ i,w0.frozen? ⟨w.heap.size,i,none⟩=false:=by intro i;rw [←hW];simp [go_sem]
 have FZ:=Lib.hid fz;have k0:=xcell hx0 e0';have k1:=xcell hx0 e1';have HX0:=Lib.hid hx0;clear hW hx0 fz e0' e1' hlt0
 go_upto_region 3 with (go_at_call 42;(with_reducible refine (rspare_f _ _).mono ?_);rintro e w1 ⟨rfl,o1,n1,rfl⟩)
 generalize hW:World.alloc _ _=w1;generalize hA:w0.heap.size+_=SP
 have hx1:Ext w0 w1:=by rw [←hW];exact (by simp (maxDischargeDepth:=60))
 have s0:w1.cell? ⟨SP,0,none⟩=some (vi (ln:Int)):=by rw [←hW,←hA];simp [go_sem]
 have s1:w1.cell? ⟨SP,1,none⟩=some (vi 1):=by rw [←hW,←hA];simp [go_sem]
 have s2:w1.cell? ⟨SP,2,none⟩=some (vi 0):=by rw [←hW,←hA];simp [go_sem]
 have HX1:=Lib.hid (HX0.out.trans hx1);have m0:=xcell hx1 k0;have m1':=xcell hx1 k1;have v0:=xcell hx1 r0;have v1:=xcell hx1 r1;have v2:=xcell hx1 r2
 have fz1:∀ i,w1.frozen? ⟨w.heap.size,i,none⟩=false:=fun i=>xfree hx1 (cell_lt r0) (FZ.out i)
 have FZ1:=Lib.hid fz1;clear hW hA hx1 k0 k1 r0 r1 r2 FZ fz1 HX0
 go_upto_region 4 with (go_at_call 133;(with_reducible refine (rfirst_any jt jf is (HH.out.ext (HX1.out.trans (by simp (maxDischargeDepth:=60)))) hj h0 ba hba HFJ).mono ?_);rintro e w1 ⟨rfl,o1,n1,rfl⟩)
 generalize hW:World.alloc _ _=w2;generalize hA:w1.heap.size+_=JB
 have hx2:Ext w1 w2:=by rw [←hW];exact (by simp (maxDischargeDepth:=60))
 have j0:w2.cell? ⟨JB,0,none⟩=some (vi jt):=by rw [←hW,←hA];simp [go_sem]
 have j1:w2.cell? ⟨JB,1,none⟩=some (.bool jf):=by rw [←hW,←hA];simp [go_sem]
 have HX2:=Lib.hid (HX1.out.trans hx2);have t0:=xcell hx2 s0;have t1:=xcell hx2 s1;have t2:=xcell hx2 s2;have q0:=xcell hx2 v0;have q1:=xcell hx2 v1;have q2:=xcell hx2 v2
 have fz2:∀ i,w2.frozen? ⟨w.heap.size,i,none⟩=false:=fun i=>xfree hx2 (cell_lt v0) (FZ1.out i)
 have FZ2:=Lib.hid fz2;have H2:=Lib.hid (HH.out.ext HX2.out);have g1:=H2.out.cells.2.1;have g2:=H2.out.cells.2.2.1;have g3:=H2.out.cells.2.2.2.1;have g4:=H2.out.cells.2.2.2.2.1;have pd:=H2.out.pl.cells.2.2.2.1;have pl:=H2.out.pl.cells.2.2.2.2.2.1;have pb:=H2.out.pl.cells.2.2.2.2.2.2.1;rw [hdd.out] at pd;rw [hli.out] at pl;rw [hba.out] at pb;have z1:=cell_lt q0;have z2:=cell_lt t0;have z3:=cell_lt j0;have z4:=cell_lt g1;have z5:=cell_lt pl;have hRw:w.heap.size≤w.heap.size:=Nat.le_refl _;clear hW hA hx2 m0 m1' v0 v1 v2 s0 s1 s2 FZ1 fz2 HX1 HH;have HT:Hid (Ch.turnOf ⟨last,l,js⟩ (ln:Int) p=(Ch.loaded ⟨last,l,js⟩ (ln:Int) p,none)):=rturn_lift (by rw [hli.out];exact hl)
 have HLD:Hid (Ch.loaded ⟨last,l,js⟩ (ln:Int) p=Ch.giveOut):=by
  unfold Hid Ch.loaded;rw [hli.out,HO.out]
 go_upto_region 5 with fail
 go_cut [9,10] (fun s9 s10 wx=>∃ A5:Nat,s9 = .pointer (some ⟨A5,0,none⟩)∧s10 = .bool false∧Ext w2 wx)
 case first=>
  go_region_held3 (fun w'=>w'.cell? ⟨hb,2,none⟩=some (vi last)∧w'.cell? ⟨hb,3,none⟩=some (.slice a1 m1 c1)∧w'.cell? ⟨hb,4,none⟩=some (.slice a2 m2 c2)∧w'.cell? ⟨rb,5,none⟩=some (vi li)) (first|((try dsimp only);(repeat' apply And.intro) <;> (refine xcell (w:=w2) ?_ (by assumption);simp (maxDischargeDepth:=60);done))) (first|(go_at_call 107;(with_reducible refine (refCar_none _ _ _ _ _ _ _ _ l js _ (Sl.below H2.out.st (Ext.below (by simp (maxDischargeDepth:=60)))) h0 HO).mono ?_);rintro e w1 ⟨rfl,o1,n1,rfl⟩))
  ·generalize hW:World.alloc _ _=w5
   generalize hA:w2.heap.size+_=A5
   have hx5:Ext w2 w5:=by rw [←hW];exact (by simp (maxDischargeDepth:=60))
   have x0:w5.cell? ⟨A5,0,none⟩=some (vi 0):=by rw [←hW,←hA];simp [go_sem]
   have x1:w5.cell? ⟨A5,1,none⟩=some (vi 0):=by rw [←hW,←hA];simp [go_sem]
   have x2:w5.cell? ⟨A5,2,none⟩=some (vi 0):=by rw [←hW,←hA];simp [go_sem]
   have x3:w5.cell? ⟨A5,3,none⟩=some (vi 0):=by rw [←hW,←hA];simp [go_sem]
   have x4:w5.cell? ⟨A5,4,none⟩=some (vi 0):=by rw [←hW,←hA];simp [go_sem]
   have x5:w5.cell? ⟨A5,5,none⟩=some (vi 0):=by rw [←hW,←hA];simp [go_sem]
   have x6:w5.cell? ⟨A5,6,none⟩=some (vi 0):=by rw [←hW,←hA];simp [go_sem]
   have x7:w5.cell? ⟨A5,7,none⟩=some (vi 0):=by rw [←hW,←hA];simp [go_sem]
   clear hW hA;go_wp2_with fail;go_meet;exact ⟨A5,rfl,rfl,hx5⟩
  ·generalize hW:World.setCell _ _ _=w5
   obtain ⟨x0,x1,x2,x3,x4,x5,x6,x7,hx5⟩:=put8 (w:=w2) hW (by simp (maxDischargeDepth:=60)) (Nat.le_refl _) (by rw [plus_heap _ _ _ _ (by simp)];exact alloc_at _ _ _ rfl) rfl;clear hW;go_wp2_with fail;go_meet;exact ⟨_,rfl,rfl,hx5⟩
 case rest=>
  obtain ⟨A5,rfl,rfl,hx5⟩:=hcut;replace q0:=xcell hx5 q0;replace q1:=xcell hx5 q1;replace q2:=xcell hx5 q2;replace t0:=xcell hx5 t0;replace t1:=xcell hx5 t1;replace t2:=xcell hx5 t2;replace j0:=xcell hx5 j0;replace j1:=xcell hx5 j1;replace g1:=xcell hx5 g1;replace pd:=xcell hx5 pd;replace pl:=xcell hx5 pl;replace pb:=xcell hx5 pb
  have FQ:Hid (∀ i,wc.frozen? ⟨w.heap.size,i,none⟩=false):=fun i=>xfree hx5 z1 (FZ2.out i)
  have HXB:=Lib.hid (HX2.out.trans hx5);have HB:=Lib.hid (H2.out.ext hx5);clear hx5 g2 g3 g4 z1 z2 z3 z4 z5 FZ2 HX2 H2;have z1:=cell_lt q0;have z2:=cell_lt t0;have z3:=cell_lt j0;have z4:=cell_lt g1;have z5:=cell_lt pl
  go_upto_region 7 with fail
  repeat (first|(go_big_may;(go_at_call 17;(with_reducible refine (rGiveOut_any _).mono ?_);rintro e wv ⟨v1,rfl,hown,hxv⟩;have hxz:Ext wc wv:=Ext.trans (by simp (maxDischargeDepth:=60)) hxv;have fq0:=xfree hxz (cell_lt q0) (FQ.out 0);have fq1:=xfree hxz (cell_lt q0) (FQ.out 1);have fq2:=xfree hxz (cell_lt q0) (FQ.out 2);have pq0:=xcell hxz q0;have pq1:=xcell hxz q1;have pq2:=xcell hxz q2))|go_values|go_skip|go_guarded|go_step|go_upon|simp only [])
  have HE:Ch.turnOf ⟨last,l,js⟩ (ln:Int) p=(Ch.giveOut,none):=by rw [HT.out,HLD.out]
  obtain ⟨o0,o1,o2,ox⟩:=put3k (w:=w) (x:=vi 0) (y:=.slice none 0 0) (z:=.slice none 0 0) (HXB.out.trans hxz) (Nat.le_refl _) pq0 pq1 pq2;refine bodyPost_ret (v:=.tuple #[v1,.agg #[vi 0,.slice none 0 0,.slice none 0 0],.bool false]) (by simp [results,Try.results86,go_sem,o0,o1,o2]) rfl ?_;rw [HE];exact ⟨v1,_,_,rfl,owns_base (owns_put3 hown (by have:=cell_lt q0;first|omega|(simp;omega))) (by have:=HXB.out.below.size;first|omega|(simp;omega)),own_zero _ _,ox⟩
theorem rnext_l2 {w:World} {hb rb:Nat} {la:Option Addr} {ln lc:Nat} {last:Int} {a1:Option Addr} {m1 c1:Nat} {a2:Option Addr} {m2 c2:Nat} {gv:Value} {l:List Ch.Stay} {js:List Ch.Job} {p:Ch.Plant} (hh:RHAt w hb rb (.slice la ln lc) last a1 m1 c1 a2 m2 c2 gv l js p)
  (hwf:p.WF) (hj:Hid (∀ j∈js,∃ s∈l,s.ticket=j.ticket)) (h0:Hid (∀ s∈l,s.ticket≠0)) (hpl:Hid (∀ s∈l,Ch.placeFault s.home (ln:Int)=0)) (l1:1≤ln) (l4:ln≤4) (hlc:ln≤lc) (hlm:lc≤maxLen) (hm1:m1≤100) (hm2:m2≤100)
  (jt li ba:Int) (jf is dd:Bool) (hba:Hid (p.bay=ba)) (hli:Hid (p.lift=li)) (hdd:Hid (p.door=dd)) (HFJ:Hid (firstT (Ch.firstJob ⟨last,l,js⟩ ba)=(jt,jf,is))) (xt xi x1 x2 x3 u1 u2 u3:Int) (hl:¬ li=0) (HO:Hid ((⟨last,l,js⟩:Ch.Book).of li=some ⟨xt,⟨xi,⟨x1,x2,x3⟩⟩,⟨u1,u2,u3⟩⟩)) (HG:Hid ((is&&jf&&jt==xt&&ba==0)=true)):
  Calls Try.prog 86 #[.pointer (some ⟨hb,0,none⟩)] w (TurnR w (Ch.turnOf ⟨last,l,js⟩ (ln:Int) p).1 (Ch.turnOf ⟨last,l,js⟩ (ln:Int) p).2):=by
 have b1:=hh.st.bound;have b2:=hh.jb.bound;have HH:=Lib.hid hh;have hlt0:=cell_lt hh.cells.1;unfold maxLen at hlm;have e0':=hh.cells.1;have e1':=hh.cells.2.1
 have L1:(1:Int)≤(ln:Int):=by omega
 have L4:(ln:Int)≤4:=by omega
 clear hh;go_enter Try.func86,Try.ntmps86
 go_upto_region 2 with fail
 generalize hW:World.alloc _ _=w0
 have hx0:Ext w w0:=by rw [←hW];exact (by simp (maxDischargeDepth:=60))
 have r0:w0.cell? ⟨w.heap.size,0,none⟩=some (vi 0):=by rw [←hW];simp [go_sem]
 have r1:w0.cell? ⟨w.heap.size,1,none⟩=some (.slice none 0 0):=by rw [←hW];simp [go_sem]
 have r2:w0.cell? ⟨w.heap.size,2,none⟩=some (.slice none 0 0):=by rw [←hW];simp [go_sem]
 have fz:∀ i,w0.frozen? ⟨w.heap.size,i,none⟩=false:=by intro i;rw [←hW];simp [go_sem]
 have FZ:=Lib.hid fz;have k0:=xcell hx0 e0';have k1:=xcell hx0 e1';have HX0:=Lib.hid hx0;clear hW hx0 fz e0' e1' hlt0
 go_upto_region 3 with (go_at_call 42;(with_reducible refine (rspare_f _ _).mono ?_);rintro e w1 ⟨rfl,o1,n1,rfl⟩)
 generalize hW:World.alloc _ _=w1;generalize hA:w0.heap.size+_=SP
 have hx1:Ext w0 w1:=by rw [←hW];exact (by simp (maxDischargeDepth:=60))
 have s0:w1.cell? ⟨SP,0,none⟩=some (vi (ln:Int)):=by rw [←hW,←hA];simp [go_sem]
 have s1:w1.cell? ⟨SP,1,none⟩=some (vi 1):=by rw [←hW,←hA];simp [go_sem]
 have s2:w1.cell? ⟨SP,2,none⟩=some (vi 0):=by rw [←hW,←hA];simp [go_sem]
 have HX1:=Lib.hid (HX0.out.trans hx1);have m0:=xcell hx1 k0;have m1':=xcell hx1 k1;have v0:=xcell hx1 r0;have v1:=xcell hx1 r1;have v2:=xcell hx1 r2
 have fz1:∀ i,w1.frozen? ⟨w.heap.size,i,none⟩=false:=fun i=>xfree hx1 (cell_lt r0) (FZ.out i)
 have FZ1:=Lib.hid fz1;clear hW hA hx1 k0 k1 r0 r1 r2 FZ fz1 HX0
 go_upto_region 4 with (go_at_call 133;(with_reducible refine (rfirst_any jt jf is (HH.out.ext (HX1.out.trans (by simp (maxDischargeDepth:=60)))) hj h0 ba hba HFJ).mono ?_);rintro e w1 ⟨rfl,o1,n1,rfl⟩)
 generalize hW:World.alloc _ _=w2;generalize hA:w1.heap.size+_=JB
 have hx2:Ext w1 w2:=by rw [←hW];exact (by simp (maxDischargeDepth:=60))
 have j0:w2.cell? ⟨JB,0,none⟩=some (vi jt):=by rw [←hW,←hA];simp [go_sem]
 have j1:w2.cell? ⟨JB,1,none⟩=some (.bool jf):=by rw [←hW,←hA];simp [go_sem]
 have HX2:=Lib.hid (HX1.out.trans hx2);have t0:=xcell hx2 s0;have t1:=xcell hx2 s1;have t2:=xcell hx2 s2;have q0:=xcell hx2 v0;have q1:=xcell hx2 v1;have q2:=xcell hx2 v2
 have fz2:∀ i,w2.frozen? ⟨w.heap.size,i,none⟩=false:=fun i=>xfree hx2 (cell_lt v0) (FZ1.out i)
 have FZ2:=Lib.hid fz2;have H2:=Lib.hid (HH.out.ext HX2.out);have g1:=H2.out.cells.2.1;have g2:=H2.out.cells.2.2.1;have g3:=H2.out.cells.2.2.2.1;have g4:=H2.out.cells.2.2.2.2.1;have pd:=H2.out.pl.cells.2.2.2.1;have pl:=H2.out.pl.cells.2.2.2.2.2.1;have pb:=H2.out.pl.cells.2.2.2.2.2.2.1;rw [hdd.out] at pd;rw [hli.out] at pl;rw [hba.out] at pb;have z1:=cell_lt q0;have z2:=cell_lt t0;have z3:=cell_lt j0;have z4:=cell_lt g1;have z5:=cell_lt pl;have hRw:w.heap.size≤w.heap.size:=Nat.le_refl _;clear hW hA hx2 m0 m1' v0 v1 v2 s0 s1 s2 FZ1 fz2 HX1 HH;have HT:Hid (Ch.turnOf ⟨last,l,js⟩ (ln:Int) p=(Ch.loaded ⟨last,l,js⟩ (ln:Int) p,none)):=rturn_lift (by rw [hli.out];exact hl);have hxm:(⟨xt,⟨xi,⟨x1,x2,x3⟩⟩,⟨u1,u2,u3⟩⟩:Ch.Stay)∈l:=(Ch.of_some (b:=⟨last,l,js⟩) HO.out).1;obtain ⟨up1,up2,up3,up4,up5,up6⟩:=rplace_ok (hpl.out _ hxm) L4;clear hxm
 obtain ⟨sv,HSV⟩:∃ sv,Hid (p.slots ⟨u1,u2,0⟩=sv):=⟨_,rfl⟩
 obtain ⟨V,HBV⟩:∃ V,Hid (Ch.blocks ⟨last,l,js⟩ p ⟨xt,⟨xi,⟨x1,x2,x3⟩⟩,⟨u1,u2,u3⟩⟩ ⟨jt,jf⟩=V):=⟨_,rfl⟩
 have HLD:Hid (Ch.loaded ⟨last,l,js⟩ (ln:Int) p=if true then Ch.giveOut else if (u3==1&&sv != 0) || (is&&V) then Ch.there ⟨(ln:Int),1,0⟩ 4 else Ch.there ⟨u1,u2,u3⟩ 4):=rloaded_is hli.out hba.out HO.out HFJ.out HG.out HSV.out HBV.out
 go_upto_region 5 with fail
 go_cut [9,10] (fun s9 s10 wx=>∃ A5:Nat,s9 = .pointer (some ⟨A5,0,none⟩)∧s10 = .bool true∧Ext w2 wx∧wx.cell? ⟨A5,0,none⟩=some (vi xt)∧wx.cell? ⟨A5,1,none⟩=some (vi xi)∧wx.cell? ⟨A5,2,none⟩=some (vi x1)∧wx.cell? ⟨A5,3,none⟩=some (vi x2)∧wx.cell? ⟨A5,4,none⟩=some (vi x3)∧wx.cell? ⟨A5,5,none⟩=some (vi u1)∧wx.cell? ⟨A5,6,none⟩=some (vi u2)∧wx.cell? ⟨A5,7,none⟩=some (vi u3))
 case first=>
  go_region_held3 (fun w'=>w'.cell? ⟨hb,2,none⟩=some (vi last)∧w'.cell? ⟨hb,3,none⟩=some (.slice a1 m1 c1)∧w'.cell? ⟨hb,4,none⟩=some (.slice a2 m2 c2)∧w'.cell? ⟨rb,5,none⟩=some (vi li)) (first|((try dsimp only);(repeat' apply And.intro) <;> (refine xcell (w:=w2) ?_ (by assumption);simp (maxDischargeDepth:=60);done))) (first|(go_at_call 107;(with_reducible refine (refCar_some xt xi x1 x2 x3 u1 u2 u3 _ _ _ _ _ _ _ _ l js _ (Sl.below H2.out.st (Ext.below (by simp (maxDischargeDepth:=60)))) h0 HO).mono ?_);rintro e w1 ⟨rfl,o1,n1,rfl⟩))
  ·generalize hW:World.alloc _ _=w5
   generalize hA:w2.heap.size+_=A5
   have hx5:Ext w2 w5:=by rw [←hW];exact (by simp (maxDischargeDepth:=60))
   have xx0:w5.cell? ⟨A5,0,none⟩=some (vi xt):=by rw [←hW,←hA];simp [go_sem]
   have xx1:w5.cell? ⟨A5,1,none⟩=some (vi xi):=by rw [←hW,←hA];simp [go_sem]
   have xx2:w5.cell? ⟨A5,2,none⟩=some (vi x1):=by rw [←hW,←hA];simp [go_sem]
   have xx3:w5.cell? ⟨A5,3,none⟩=some (vi x2):=by rw [←hW,←hA];simp [go_sem]
   have xx4:w5.cell? ⟨A5,4,none⟩=some (vi x3):=by rw [←hW,←hA];simp [go_sem]
   have xx5:w5.cell? ⟨A5,5,none⟩=some (vi u1):=by rw [←hW,←hA];simp [go_sem]
   have xx6:w5.cell? ⟨A5,6,none⟩=some (vi u2):=by rw [←hW,←hA];simp [go_sem]
   have xx7:w5.cell? ⟨A5,7,none⟩=some (vi u3):=by rw [←hW,←hA];simp [go_sem]
   clear hW hA;go_wp2_with fail;go_meet;exact ⟨A5,rfl,rfl,hx5,xx0,xx1,xx2,xx3,xx4,xx5,xx6,xx7⟩
  ·generalize hW:World.setCell _ _ _=w5
   obtain ⟨xx0,xx1,xx2,xx3,xx4,xx5,xx6,xx7,hx5⟩:=put8 (w:=w2) hW (by simp (maxDischargeDepth:=60)) (Nat.le_refl _) (by rw [plus_heap _ _ _ _ (by simp)];exact alloc_at _ _ _ rfl) rfl;clear hW;go_wp2_with fail;go_meet;exact ⟨_,rfl,rfl,hx5,xx0,xx1,xx2,xx3,xx4,xx5,xx6,xx7⟩
 case rest=>
  obtain ⟨A5,rfl,rfl,hx5,c0',c1',c2',c3',c4',c5',c6',c7'⟩:=hcut;replace q0:=xcell hx5 q0;replace q1:=xcell hx5 q1;replace q2:=xcell hx5 q2;replace t0:=xcell hx5 t0;replace t1:=xcell hx5 t1;replace t2:=xcell hx5 t2;replace j0:=xcell hx5 j0;replace j1:=xcell hx5 j1;replace g1:=xcell hx5 g1;replace pd:=xcell hx5 pd;replace pl:=xcell hx5 pl;replace pb:=xcell hx5 pb
  have FQ:Hid (∀ i,wc.frozen? ⟨w.heap.size,i,none⟩=false):=fun i=>xfree hx5 z1 (FZ2.out i)
  have HXB:=Lib.hid (HX2.out.trans hx5);have HB:=Lib.hid (H2.out.ext hx5);clear hx5 g2 g3 g4 z1 z2 z3 z4 z5 FZ2 HX2 H2;have z1:=cell_lt q0;have z2:=cell_lt t0;have z3:=cell_lt j0;have z4:=cell_lt g1;have z5:=cell_lt pl;have z6:=cell_lt c0';have hg:=HG.out;cases is
  ·simp at hg
  cases jf
  ·simp at hg
  obtain ⟨h1,h2⟩:jt=xt∧ba=0:=by simpa using hg
  subst h1;subst h2;clear hg
  go_upto_region 7 with fail
  repeat (first|(go_big_may;(go_at_call 17;(with_reducible refine (rGiveOut_any _).mono ?_);rintro e wv ⟨v1,rfl,hown,hxv⟩;have hxz:Ext wc wv:=Ext.trans (by simp (maxDischargeDepth:=60)) hxv;have fq0:=xfree hxz (cell_lt q0) (FQ.out 0);have fq1:=xfree hxz (cell_lt q0) (FQ.out 1);have fq2:=xfree hxz (cell_lt q0) (FQ.out 2);have pq0:=xcell hxz q0;have pq1:=xcell hxz q1;have pq2:=xcell hxz q2))|go_values|go_skip|go_guarded|go_step|go_upon|simp only [])
  have HE:Ch.turnOf ⟨last,l,js⟩ (ln:Int) p=(Ch.giveOut,none):=by rw [HT.out,HLD.out];rfl
  obtain ⟨o0,o1,o2,ox⟩:=put3k (w:=w) (x:=vi 0) (y:=.slice none 0 0) (z:=.slice none 0 0) (HXB.out.trans hxz) (Nat.le_refl _) pq0 pq1 pq2;refine bodyPost_ret (v:=.tuple #[v1,.agg #[vi 0,.slice none 0 0,.slice none 0 0],.bool false]) (by simp [results,Try.results86,go_sem,o0,o1,o2]) rfl ?_;rw [HE];exact ⟨v1,_,_,rfl,owns_base (owns_put3 hown (by have:=cell_lt q0;first|omega|(simp;omega))) (by have:=HXB.out.below.size;first|omega|(simp;omega)),own_zero _ _,ox⟩
theorem rnext_l3 {w:World} {hb rb:Nat} {la:Option Addr} {ln lc:Nat} {last:Int} {a1:Option Addr} {m1 c1:Nat} {a2:Option Addr} {m2 c2:Nat} {gv:Value} {l:List Ch.Stay} {js:List Ch.Job} {p:Ch.Plant} (hh:RHAt w hb rb (.slice la ln lc) last a1 m1 c1 a2 m2 c2 gv l js p)
  (hwf:p.WF) (hj:Hid (∀ j∈js,∃ s∈l,s.ticket=j.ticket)) (h0:Hid (∀ s∈l,s.ticket≠0)) (hpl:Hid (∀ s∈l,Ch.placeFault s.home (ln:Int)=0)) (l1:1≤ln) (l4:ln≤4) (hlc:ln≤lc) (hlm:lc≤maxLen) (hm1:m1≤100) (hm2:m2≤100)
  (jt li ba:Int) (jf is dd:Bool) (hba:Hid (p.bay=ba)) (hli:Hid (p.lift=li)) (hdd:Hid (p.door=dd)) (HFJ:Hid (firstT (Ch.firstJob ⟨last,l,js⟩ ba)=(jt,jf,is))) (xt xi x1 x2 x3 u1 u2 u3:Int) (hl:¬ li=0) (HO:Hid ((⟨last,l,js⟩:Ch.Book).of li=some ⟨xt,⟨xi,⟨x1,x2,x3⟩⟩,⟨u1,u2,u3⟩⟩)) (HG:Hid ((is&&jf&&jt==xt&&ba==0)=false)) (h3:u3=1) (hs:¬ p.slots ⟨u1,u2,0⟩=0):
  Calls Try.prog 86 #[.pointer (some ⟨hb,0,none⟩)] w (TurnR w (Ch.turnOf ⟨last,l,js⟩ (ln:Int) p).1 (Ch.turnOf ⟨last,l,js⟩ (ln:Int) p).2):=by
 subst h3;have b1:=hh.st.bound;have b2:=hh.jb.bound;have HH:=Lib.hid hh;have hlt0:=cell_lt hh.cells.1;unfold maxLen at hlm;have e0':=hh.cells.1;have e1':=hh.cells.2.1
 have L1:(1:Int)≤(ln:Int):=by omega
 have L4:(ln:Int)≤4:=by omega
 clear hh;go_enter Try.func86,Try.ntmps86
 go_upto_region 2 with fail
 generalize hW:World.alloc _ _=w0
 have hx0:Ext w w0:=by rw [←hW];exact (by simp (maxDischargeDepth:=60))
 have r0:w0.cell? ⟨w.heap.size,0,none⟩=some (vi 0):=by rw [←hW];simp [go_sem]
 have r1:w0.cell? ⟨w.heap.size,1,none⟩=some (.slice none 0 0):=by rw [←hW];simp [go_sem]
 have r2:w0.cell? ⟨w.heap.size,2,none⟩=some (.slice none 0 0):=by rw [←hW];simp [go_sem]
 have fz:∀ i,w0.frozen? ⟨w.heap.size,i,none⟩=false:=by intro i;rw [←hW];simp [go_sem]
 have FZ:=Lib.hid fz;have k0:=xcell hx0 e0';have k1:=xcell hx0 e1';have HX0:=Lib.hid hx0;clear hW hx0 fz e0' e1' hlt0
 go_upto_region 3 with (go_at_call 42;(with_reducible refine (rspare_f _ _).mono ?_);rintro e w1 ⟨rfl,o1,n1,rfl⟩)
 generalize hW:World.alloc _ _=w1;generalize hA:w0.heap.size+_=SP
 have hx1:Ext w0 w1:=by rw [←hW];exact (by simp (maxDischargeDepth:=60))
 have s0:w1.cell? ⟨SP,0,none⟩=some (vi (ln:Int)):=by rw [←hW,←hA];simp [go_sem]
 have s1:w1.cell? ⟨SP,1,none⟩=some (vi 1):=by rw [←hW,←hA];simp [go_sem]
 have s2:w1.cell? ⟨SP,2,none⟩=some (vi 0):=by rw [←hW,←hA];simp [go_sem]
 have HX1:=Lib.hid (HX0.out.trans hx1);have m0:=xcell hx1 k0;have m1':=xcell hx1 k1;have v0:=xcell hx1 r0;have v1:=xcell hx1 r1;have v2:=xcell hx1 r2
 have fz1:∀ i,w1.frozen? ⟨w.heap.size,i,none⟩=false:=fun i=>xfree hx1 (cell_lt r0) (FZ.out i)
 have FZ1:=Lib.hid fz1;clear hW hA hx1 k0 k1 r0 r1 r2 FZ fz1 HX0
 go_upto_region 4 with (go_at_call 133;(with_reducible refine (rfirst_any jt jf is (HH.out.ext (HX1.out.trans (by simp (maxDischargeDepth:=60)))) hj h0 ba hba HFJ).mono ?_);rintro e w1 ⟨rfl,o1,n1,rfl⟩)
 generalize hW:World.alloc _ _=w2;generalize hA:w1.heap.size+_=JB
 have hx2:Ext w1 w2:=by rw [←hW];exact (by simp (maxDischargeDepth:=60))
 have j0:w2.cell? ⟨JB,0,none⟩=some (vi jt):=by rw [←hW,←hA];simp [go_sem]
 have j1:w2.cell? ⟨JB,1,none⟩=some (.bool jf):=by rw [←hW,←hA];simp [go_sem]
 have HX2:=Lib.hid (HX1.out.trans hx2);have t0:=xcell hx2 s0;have t1:=xcell hx2 s1;have t2:=xcell hx2 s2;have q0:=xcell hx2 v0;have q1:=xcell hx2 v1;have q2:=xcell hx2 v2
 have fz2:∀ i,w2.frozen? ⟨w.heap.size,i,none⟩=false:=fun i=>xfree hx2 (cell_lt v0) (FZ1.out i)
 have FZ2:=Lib.hid fz2;have H2:=Lib.hid (HH.out.ext HX2.out);have g1:=H2.out.cells.2.1;have g2:=H2.out.cells.2.2.1;have g3:=H2.out.cells.2.2.2.1;have g4:=H2.out.cells.2.2.2.2.1;have pd:=H2.out.pl.cells.2.2.2.1;have pl:=H2.out.pl.cells.2.2.2.2.2.1;have pb:=H2.out.pl.cells.2.2.2.2.2.2.1;rw [hdd.out] at pd;rw [hli.out] at pl;rw [hba.out] at pb;have z1:=cell_lt q0;have z2:=cell_lt t0;have z3:=cell_lt j0;have z4:=cell_lt g1;have z5:=cell_lt pl;have hRw:w.heap.size≤w.heap.size:=Nat.le_refl _;clear hW hA hx2 m0 m1' v0 v1 v2 s0 s1 s2 FZ1 fz2 HX1 HH;have HT:Hid (Ch.turnOf ⟨last,l,js⟩ (ln:Int) p=(Ch.loaded ⟨last,l,js⟩ (ln:Int) p,none)):=rturn_lift (by rw [hli.out];exact hl);have hxm:(⟨xt,⟨xi,⟨x1,x2,x3⟩⟩,⟨u1,u2,1⟩⟩:Ch.Stay)∈l:=(Ch.of_some (b:=⟨last,l,js⟩) HO.out).1;obtain ⟨up1,up2,up3,up4,up5,up6⟩:=rplace_ok (hpl.out _ hxm) L4;clear hxm
 obtain ⟨sv,HSV⟩:∃ sv,Hid (p.slots ⟨u1,u2,0⟩=sv):=⟨_,rfl⟩
 obtain ⟨V,HBV⟩:∃ V,Hid (Ch.blocks ⟨last,l,js⟩ p ⟨xt,⟨xi,⟨x1,x2,x3⟩⟩,⟨u1,u2,1⟩⟩ ⟨jt,jf⟩=V):=⟨_,rfl⟩
 have HLD:Hid (Ch.loaded ⟨last,l,js⟩ (ln:Int) p=if false then Ch.giveOut else if (1==1&&sv != 0) || (is&&V) then Ch.there ⟨(ln:Int),1,0⟩ 4 else Ch.there ⟨u1,u2,1⟩ 4):=rloaded_is hli.out hba.out HO.out HFJ.out HG.out HSV.out HBV.out
 go_upto_region 5 with fail
 go_cut [9,10] (fun s9 s10 wx=>∃ A5:Nat,s9 = .pointer (some ⟨A5,0,none⟩)∧s10 = .bool true∧Ext w2 wx∧wx.cell? ⟨A5,0,none⟩=some (vi xt)∧wx.cell? ⟨A5,1,none⟩=some (vi xi)∧wx.cell? ⟨A5,2,none⟩=some (vi x1)∧wx.cell? ⟨A5,3,none⟩=some (vi x2)∧wx.cell? ⟨A5,4,none⟩=some (vi x3)∧wx.cell? ⟨A5,5,none⟩=some (vi u1)∧wx.cell? ⟨A5,6,none⟩=some (vi u2)∧wx.cell? ⟨A5,7,none⟩=some (vi 1))
 case first=>
  go_region_held3 (fun w'=>w'.cell? ⟨hb,2,none⟩=some (vi last)∧w'.cell? ⟨hb,3,none⟩=some (.slice a1 m1 c1)∧w'.cell? ⟨hb,4,none⟩=some (.slice a2 m2 c2)∧w'.cell? ⟨rb,5,none⟩=some (vi li)) (first|((try dsimp only);(repeat' apply And.intro) <;> (refine xcell (w:=w2) ?_ (by assumption);simp (maxDischargeDepth:=60);done))) (first|(go_at_call 107;(with_reducible refine (refCar_some xt xi x1 x2 x3 u1 u2 1 _ _ _ _ _ _ _ _ l js _ (Sl.below H2.out.st (Ext.below (by simp (maxDischargeDepth:=60)))) h0 HO).mono ?_);rintro e w1 ⟨rfl,o1,n1,rfl⟩))
  ·generalize hW:World.alloc _ _=w5
   generalize hA:w2.heap.size+_=A5
   have hx5:Ext w2 w5:=by rw [←hW];exact (by simp (maxDischargeDepth:=60))
   have xx0:w5.cell? ⟨A5,0,none⟩=some (vi xt):=by rw [←hW,←hA];simp [go_sem]
   have xx1:w5.cell? ⟨A5,1,none⟩=some (vi xi):=by rw [←hW,←hA];simp [go_sem]
   have xx2:w5.cell? ⟨A5,2,none⟩=some (vi x1):=by rw [←hW,←hA];simp [go_sem]
   have xx3:w5.cell? ⟨A5,3,none⟩=some (vi x2):=by rw [←hW,←hA];simp [go_sem]
   have xx4:w5.cell? ⟨A5,4,none⟩=some (vi x3):=by rw [←hW,←hA];simp [go_sem]
   have xx5:w5.cell? ⟨A5,5,none⟩=some (vi u1):=by rw [←hW,←hA];simp [go_sem]
   have xx6:w5.cell? ⟨A5,6,none⟩=some (vi u2):=by rw [←hW,←hA];simp [go_sem]
   have xx7:w5.cell? ⟨A5,7,none⟩=some (vi 1):=by rw [←hW,←hA];simp [go_sem]
   clear hW hA;go_wp2_with fail;go_meet;exact ⟨A5,rfl,rfl,hx5,xx0,xx1,xx2,xx3,xx4,xx5,xx6,xx7⟩
  ·generalize hW:World.setCell _ _ _=w5
   obtain ⟨xx0,xx1,xx2,xx3,xx4,xx5,xx6,xx7,hx5⟩:=put8 (w:=w2) hW (by simp (maxDischargeDepth:=60)) (Nat.le_refl _) (by rw [plus_heap _ _ _ _ (by simp)];exact alloc_at _ _ _ rfl) rfl;clear hW;go_wp2_with fail;go_meet;exact ⟨_,rfl,rfl,hx5,xx0,xx1,xx2,xx3,xx4,xx5,xx6,xx7⟩
 case rest=>
  obtain ⟨A5,rfl,rfl,hx5,c0',c1',c2',c3',c4',c5',c6',c7'⟩:=hcut;replace q0:=xcell hx5 q0;replace q1:=xcell hx5 q1;replace q2:=xcell hx5 q2;replace t0:=xcell hx5 t0;replace t1:=xcell hx5 t1;replace t2:=xcell hx5 t2;replace j0:=xcell hx5 j0;replace j1:=xcell hx5 j1;replace g1:=xcell hx5 g1;replace pd:=xcell hx5 pd;replace pl:=xcell hx5 pl;replace pb:=xcell hx5 pb
  have FQ:Hid (∀ i,wc.frozen? ⟨w.heap.size,i,none⟩=false):=fun i=>xfree hx5 z1 (FZ2.out i)
  have HXB:=Lib.hid (HX2.out.trans hx5);have HB:=Lib.hid (H2.out.ext hx5);clear hx5 g2 g3 g4 z1 z2 z3 z4 z5 FZ2 HX2 H2;have z1:=cell_lt q0;have z2:=cell_lt t0;have z3:=cell_lt j0;have z4:=cell_lt g1;have z5:=cell_lt pl;have z6:=cell_lt c0'
  go_upto_region 6 with fail
  go_cut [77] (fun s77 wx=>s77 = .bool false∧wx=wc)
  case first=>
   cases is
   ·go_wp2_with fail
    go_meet;exact ⟨rfl,rfl⟩
   ·have hg:=HG.out
    cases jf
    ·go_wp2_with fail
     go_meet;exact ⟨rfl,rfl⟩
    ·by_cases h1:jt=xt
     ·have h2:¬ ba=0:=by intro e;simp [h1,e] at hg
      go_wp2_with fail;go_meet;exact ⟨by simp [h1,h2],rfl⟩
     ·go_wp2_with fail
      go_meet;exact ⟨by simp [h1],rfl⟩
  case rest=>
   obtain ⟨rfl,rfl⟩:=hcut
   go_upto_region 9 with fail
   generalize hW:World.alloc _ _=wf;generalize hF:wc.heap.size=F
   have hx6:Ext wc wf:=by rw [←hW];exact (by simp (maxDischargeDepth:=60))
   have ff0:wf.cell? ⟨F,0,none⟩=some (vi u1):=by rw [←hW,←hF];simp [go_sem]
   have ff1:wf.cell? ⟨F,1,none⟩=some (vi u2):=by rw [←hW,←hF];simp [go_sem]
   have ff2:wf.cell? ⟨F,2,none⟩=some (vi 1):=by rw [←hW,←hF];simp [go_sem]
   have fff:wf.frozen? ⟨F,2,none⟩=false:=by rw [←hW,←hF];simp [go_sem]
   have hFl:wc.heap.size≤F:=by omega
   clear hW hF
   go_upto_region 10 with fail
   generalize hW:World.setCell _ _ _=wg
   have n20:(⟨F,2,none⟩:Addr)≠⟨F,0,none⟩:=by intro e;cases e
   have n21:(⟨F,2,none⟩:Addr)≠⟨F,1,none⟩:=by intro e;cases e
   have gf0:wg.cell? ⟨F,0,none⟩=some (vi u1):=by rw [←hW,World.cell?_setCell_other (h:=n20)];exact ff0
   have gf1:wg.cell? ⟨F,1,none⟩=some (vi u2):=by rw [←hW,World.cell?_setCell_other (h:=n21)];exact ff1
   have gf2:wg.cell? ⟨F,2,none⟩=some (vi 0):=by rw [←hW,World.cell?_setCell_same (h:=ff2)]
   have hx7:Ext wc wg:=by rw [←hW];exact Ext.setCell hx6 hFl _
   clear hW ff0 ff1 ff2 fff hx6 n20 n21;replace q0:=xcell hx7 q0;replace q1:=xcell hx7 q1;replace q2:=xcell hx7 q2;replace t0:=xcell hx7 t0;replace t1:=xcell hx7 t1;replace t2:=xcell hx7 t2;replace j0:=xcell hx7 j0;replace j1:=xcell hx7 j1;replace g1:=xcell hx7 g1;replace pd:=xcell hx7 pd;replace pl:=xcell hx7 pl;replace pb:=xcell hx7 pb;replace c0':=xcell hx7 c0';replace c1':=xcell hx7 c1';replace c2':=xcell hx7 c2';replace c3':=xcell hx7 c3';replace c4':=xcell hx7 c4';replace c5':=xcell hx7 c5';replace c6':=xcell hx7 c6';replace c7':=xcell hx7 c7'
   replace FQ:Hid (∀ i,wg.frozen? ⟨w.heap.size,i,none⟩=false):=fun i=>xfree hx7 z1 (FQ.out i)
   replace HXB:=Lib.hid (HXB.out.trans hx7);replace HB:=Lib.hid (HB.out.ext hx7);clear hx7 z1 z2 z3 z4 z5 z6;have z1:=cell_lt q0;have z2:=cell_lt t0;have z3:=cell_lt j0;have z4:=cell_lt g1;have z5:=cell_lt pl;have z6:=cell_lt c0';have z7:=cell_lt gf0
   have hsv:¬ sv=0:=by rw [←HSV.out];exact hs
   clear hs
   go_upto_region 11 with (go_at_call 128;(with_reducible refine (rat_val (HB.out.pl.ext (by simp (maxDischargeDepth:=60))) hwf _ _ _ sv HSV).mono ?_);rintro e w1 ⟨rfl,o1,n1,rfl⟩)
   repeat (first|(go_big_may;(go_at_call 22;(with_reducible refine (rthere_f _ _ _ _ _ (by decide) (by decide) L1 L4).mono ?_);rintro e wv ⟨v1,rfl,hown,hxv⟩;have hxz:Ext wg wv:=Ext.trans (by simp (maxDischargeDepth:=60)) hxv;have fq0:=xfree hxz (cell_lt q0) (FQ.out 0);have fq1:=xfree hxz (cell_lt q0) (FQ.out 1);have fq2:=xfree hxz (cell_lt q0) (FQ.out 2);have pq0:=xcell hxz q0;have pq1:=xcell hxz q1;have pq2:=xcell hxz q2))|go_values|go_skip|go_guarded|go_step|go_upon|simp only [])
   have HE:Ch.turnOf ⟨last,l,js⟩ (ln:Int) p=(Ch.there ⟨(ln:Int),1,0⟩ 4,none):=by rw [HT.out,HLD.out];simp [hsv]
   obtain ⟨o0,o1,o2,ox⟩:=put3k (w:=w) (x:=vi 0) (y:=.slice none 0 0) (z:=.slice none 0 0) (HXB.out.trans hxz) (Nat.le_refl _) pq0 pq1 pq2;refine bodyPost_ret (v:=.tuple #[v1,.agg #[vi 0,.slice none 0 0,.slice none 0 0],.bool false]) (by simp [results,Try.results86,go_sem,o0,o1,o2]) rfl ?_;rw [HE];exact ⟨v1,_,_,rfl,owns_base (owns_put3 hown (by have:=cell_lt q0;first|omega|(simp;omega))) (by have:=HXB.out.below.size;first|omega|(simp;omega)),own_zero _ _,ox⟩
end Go.Proofs.Ytplomeacjbkgnaa
