import Derived.Test.YtplomeacjbkgnabGreatDoorZ38
set_option linter.all false
set_option maxRecDepth 100000
set_option maxHeartbeats 16000000
namespace Go.Proofs.YtplomeacjbkgnabGreatDoor
open Go.RowKit
theorem rnext_l6 {w:World} {hb rb:Nat} {la:Option Addr} {ln lc:Nat} {last:Int} {a1:Option Addr} {m1 c1:Nat} {a2:Option Addr} {m2 c2:Nat} {gv:Value} {l:List Ch.Stay} {js:List Ch.Job} {p:Ch.Plant} (hh:cH w hb rb (.slice la ln lc) last a1 m1 c1 a2 m2 c2 gv l js p)
  (hwf:p.WF) (hj:Hid (∀ j∈js,∃ s∈l,s.ticket=j.ticket)) (h0:Hid (∀ s∈l,s.ticket≠0)) (hpl:Hid (∀ s∈l,Ch.placeFault s.home (ln:Int)=0)) (l1:1≤ln) (l4:ln≤4) (hlc:ln≤lc) (hlm:lc≤maxLen) (hm1:m1≤100) (hm2:m2≤100)
  (jt li ba:Int) (jf is dd:Bool) (hba:Hid (p.bay=ba)) (hli:Hid (p.lift=li)) (hdd:Hid (p.door=dd)) (HFJ:Hid (qB (Ch.firstJob ⟨last,l,js⟩ ba)=(jt,jf,is))) (xt xi x1 x2 x3 u1 u2 u3:Int) (hl:¬ li=0) (HO:Hid ((⟨last,l,js⟩:Ch.Book).of li=some ⟨xt,⟨xi,⟨x1,x2,x3⟩⟩,⟨u1,u2,u3⟩⟩)) (HG:Hid ((is&&jf&&jt==xt&&ba==0)=false)) (h3:¬ u3=1) (hi:is=false):
  Calls Tryz.prog 68 #[.pointer (some ⟨hb,0,none⟩)] w (rF w (Ch.turnOf ⟨last,l,js⟩ (ln:Int) p).1 (Ch.turnOf ⟨last,l,js⟩ (ln:Int) p).2):=by
 subst hi;have b1:=hh.st.bound;have b2:=hh.jb.bound;have HH:=aA hh;have hlt0:=dA hh.cells.1;unfold maxLen at hlm;have e0':=hh.cells.1;have e1':=hh.cells.2.1
 have L1:(1:Int)≤(ln:Int):=by omega
 have L4:(ln:Int)≤4:=by omega
 clear hh;go_enter Tryz.func68,Tryz.ntmps68
 go_upto_region 2 with fail
 generalize hW:World.alloc _ _=w0;have hx0:Ext w w0:=xQ hW;have r0:w0.cell? ⟨w.heap.size,0,none⟩=some (vi 0):=cQ hW;have r1:w0.cell? ⟨w.heap.size,1,none⟩=some (.slice none 0 0):=cQ hW;have r2:w0.cell? ⟨w.heap.size,2,none⟩=some (.slice none 0 0):=cQ hW
 have fz:∀ i,w0.frozen? ⟨w.heap.size,i,none⟩=false:=by intro i;rw [←hW];simp [go_sem]
 have FZ:=aA fz;have k0:=eA hx0 e0';have k1:=eA hx0 e1';have HX0:=aA hx0;clear hW hx0 fz e0' e1' hlt0
 go_upto_region 3 with (go_at_call 124;(with_reducible refine (lD _ _).mono ?_);rintro e w1 ⟨rfl,o1,n1,rfl⟩)
 generalize hW:World.alloc _ _=w1;generalize hA:w0.heap.size+_=SP;have hx1:Ext w0 w1:=xQ hW;have s0:w1.cell? ⟨SP,0,none⟩=some (vi (ln:Int)):=cR hW hA;have s1:w1.cell? ⟨SP,1,none⟩=some (vi 1):=cR hW hA;have s2:w1.cell? ⟨SP,2,none⟩=some (vi 0):=cR hW hA;have HX1:=aA (HX0.out.trans hx1);have m0:=eA hx1 k0;have m1':=eA hx1 k1;have v0:=eA hx1 r0;have v1:=eA hx1 r1;have v2:=eA hx1 r2
 have fz1:∀ i,w1.frozen? ⟨w.heap.size,i,none⟩=false:=fun i=>kA hx1 (dA r0) (FZ.out i)
 have FZ1:=aA fz1;clear hW hA hx1 k0 k1 r0 r1 r2 FZ fz1 HX0
 go_upto_region 4 with (go_at_call 125;(with_reducible refine (mC jt jf false (HH.out.ext (HX1.out.trans eX)) hj h0 ba hba HFJ).mono ?_);rintro e w1 ⟨rfl,o1,n1,rfl⟩)
 generalize hW:World.alloc _ _=w2;generalize hA:w1.heap.size+_=JB;have hx2:Ext w1 w2:=xQ hW;have j0:w2.cell? ⟨JB,0,none⟩=some (vi jt):=cR hW hA;have j1:w2.cell? ⟨JB,1,none⟩=some (.bool jf):=cR hW hA;have HX2:=aA (HX1.out.trans hx2);have t0:=eA hx2 s0;have t1:=eA hx2 s1;have t2:=eA hx2 s2;have q0:=eA hx2 v0;have q1:=eA hx2 v1;have q2:=eA hx2 v2
 have fz2:∀ i,w2.frozen? ⟨w.heap.size,i,none⟩=false:=fun i=>kA hx2 (dA v0) (FZ1.out i)
 have FZ2:=aA fz2;have H2:=aA (HH.out.ext HX2.out);have g1:=H2.out.cells.2.1;have g2:=H2.out.cells.2.2.1;have g3:=H2.out.cells.2.2.2.1;have g4:=H2.out.cells.2.2.2.2.1;have pd:=H2.out.pl.cells.2.2.2.1;have pl:=H2.out.pl.cells.2.2.2.2.2.1;have pb:=H2.out.pl.cells.2.2.2.2.2.2.1;rw [hdd.out] at pd;rw [hli.out] at pl;rw [hba.out] at pb;have z1:=dA q0;have z2:=dA t0;have z3:=dA j0;have z4:=dA g1;have z5:=dA pl;have hRw:w.heap.size≤w.heap.size:=Nat.le_refl _;clear hW hA hx2 m0 m1' v0 v1 v2 s0 s1 s2 FZ1 fz2 HX1 HH;have HT:Hid (Ch.turnOf ⟨last,l,js⟩ (ln:Int) p=(Ch.loaded ⟨last,l,js⟩ (ln:Int) p,none)):=uF (by rw [hli.out];exact hl);have hxm:(⟨xt,⟨xi,⟨x1,x2,x3⟩⟩,⟨u1,u2,u3⟩⟩:Ch.Stay)∈l:=(Ch.of_some (b:=⟨last,l,js⟩) HO.out).1;obtain ⟨up1,up2,up3,up4,up5,up6⟩:=kG (hpl.out _ hxm) L4;clear hxm
 obtain ⟨sv,HSV⟩:∃ sv,Hid (p.slots ⟨u1,u2,0⟩=sv):=⟨_,rfl⟩
 obtain ⟨V,HBV⟩:∃ V,Hid (Ch.blocks ⟨last,l,js⟩ p ⟨xt,⟨xi,⟨x1,x2,x3⟩⟩,⟨u1,u2,u3⟩⟩ ⟨jt,jf⟩=V):=⟨_,rfl⟩
 have HLD:Hid (Ch.loaded ⟨last,l,js⟩ (ln:Int) p=if false then Ch.giveOut else if (u3==1&&sv != 0) || (false&&V) then Ch.there ⟨(ln:Int),1,0⟩ 4 else Ch.there ⟨u1,u2,u3⟩ 4):=lG hli.out hba.out HO.out HFJ.out HG.out HSV.out HBV.out
 go_upto_region 5 with fail
 go_cut [9,10] (fun s9 s10 wx=>∃ A5:Nat,s9 = .pointer (some ⟨A5,0,none⟩)∧s10 = .bool true∧Ext w2 wx∧wx.cell? ⟨A5,0,none⟩=some (vi xt)∧wx.cell? ⟨A5,1,none⟩=some (vi xi)∧wx.cell? ⟨A5,2,none⟩=some (vi x1)∧wx.cell? ⟨A5,3,none⟩=some (vi x2)∧wx.cell? ⟨A5,4,none⟩=some (vi x3)∧wx.cell? ⟨A5,5,none⟩=some (vi u1)∧wx.cell? ⟨A5,6,none⟩=some (vi u2)∧wx.cell? ⟨A5,7,none⟩=some (vi u3))
 case first=>
  go_region_held3 (fun w'=>w'.cell? ⟨hb,2,none⟩=some (vi last)∧w'.cell? ⟨hb,3,none⟩=some (.slice a1 m1 c1)∧w'.cell? ⟨hb,4,none⟩=some (.slice a2 m2 c2)∧w'.cell? ⟨rb,5,none⟩=some (vi li)) (first|((try dsimp only);(repeat' apply And.intro) <;> exact xC (w:=w2))) (first|(go_at_call 100;(with_reducible refine (bD xt xi x1 x2 x3 u1 u2 u3 _ _ _ _ _ _ _ _ l js _ (Sl.below H2.out.st (Ext.below eX)) h0 HO).mono ?_);rintro e w1 ⟨rfl,o1,n1,rfl⟩))
  ·generalize hW:World.alloc _ _=w5
   generalize hA:w2.heap.size+_=A5;have hx5:Ext w2 w5:=xQ hW;have xx0:w5.cell? ⟨A5,0,none⟩=some (vi xt):=cR hW hA;have xx1:w5.cell? ⟨A5,1,none⟩=some (vi xi):=cR hW hA;have xx2:w5.cell? ⟨A5,2,none⟩=some (vi x1):=cR hW hA;have xx3:w5.cell? ⟨A5,3,none⟩=some (vi x2):=cR hW hA;have xx4:w5.cell? ⟨A5,4,none⟩=some (vi x3):=cR hW hA;have xx5:w5.cell? ⟨A5,5,none⟩=some (vi u1):=cR hW hA;have xx6:w5.cell? ⟨A5,6,none⟩=some (vi u2):=cR hW hA;have xx7:w5.cell? ⟨A5,7,none⟩=some (vi u3):=cR hW hA;clear hW hA;go_wp2_with fail;go_meet;exact ⟨A5,rfl,rfl,hx5,xx0,xx1,xx2,xx3,xx4,xx5,xx6,xx7⟩
  ·generalize hW:World.setCell _ _ _=w5
   obtain ⟨xx0,xx1,xx2,xx3,xx4,xx5,xx6,xx7,hx5⟩:=cG (w:=w2) hW eX (Nat.le_refl _) (by rw [bB _ _ _ _ (by simp)];exact sA _ _ _ rfl) rfl;clear hW;go_wp2_with fail;go_meet;exact ⟨_,rfl,rfl,hx5,xx0,xx1,xx2,xx3,xx4,xx5,xx6,xx7⟩
 case rest=>
  obtain ⟨A5,rfl,rfl,hx5,c0',c1',c2',c3',c4',c5',c6',c7'⟩:=hcut;replace q0:=eA hx5 q0;replace q1:=eA hx5 q1;replace q2:=eA hx5 q2;replace t0:=eA hx5 t0;replace t1:=eA hx5 t1;replace t2:=eA hx5 t2;replace j0:=eA hx5 j0;replace j1:=eA hx5 j1;replace g1:=eA hx5 g1;replace pd:=eA hx5 pd;replace pl:=eA hx5 pl;replace pb:=eA hx5 pb
  have FQ:Hid (∀ i,wc.frozen? ⟨w.heap.size,i,none⟩=false):=fun i=>kA hx5 z1 (FZ2.out i)
  have HXB:=aA (HX2.out.trans hx5);have HB:=aA (H2.out.ext hx5);clear hx5 g2 g3 g4 z1 z2 z3 z4 z5 FZ2 HX2 H2;have z1:=dA q0;have z2:=dA t0;have z3:=dA j0;have z4:=dA g1;have z5:=dA pl;have z6:=dA c0'
  go_upto_region 6 with fail
  go_cut [77] (fun s77 wx=>s77 = .bool false∧wx=wc)
  case first=>
   go_wp2_with fail;go_meet;exact ⟨rfl,rfl⟩
  case rest=>
   obtain ⟨rfl,rfl⟩:=hcut
   go_upto_region 9 with fail
   generalize hW:World.alloc _ _=wf;generalize hF:wc.heap.size=F;have hx6:Ext wc wf:=xQ hW;have ff0:wf.cell? ⟨F,0,none⟩=some (vi u1):=cR hW hF;have ff1:wf.cell? ⟨F,1,none⟩=some (vi u2):=cR hW hF;have ff2:wf.cell? ⟨F,2,none⟩=some (vi u3):=cR hW hF
   have fff:wf.frozen? ⟨F,2,none⟩=false:=by rw [←hW,←hF];simp [go_sem]
   have hFl:wc.heap.size≤F:=by omega
   clear hW hF
   go_upto_region 10 with fail
   generalize hW:World.setCell _ _ _=wg
   have n20:(⟨F,2,none⟩:Addr)≠⟨F,0,none⟩:=by intro e;cases e
   have n21:(⟨F,2,none⟩:Addr)≠⟨F,1,none⟩:=by intro e;cases e
   have gf0:wg.cell? ⟨F,0,none⟩=some (vi u1):=by rw [←hW,World.cell?_setCell_other (h:=n20)];exact ff0
   have gf1:wg.cell? ⟨F,1,none⟩=some (vi u2):=by rw [←hW,World.cell?_setCell_other (h:=n21)];exact ff1
   have gf2:wg.cell? ⟨F,2,none⟩=some (vi 0):=by rw [←hW,World.cell?_setCell_same (h:=ff2)]
   have hx7:Ext wc wg:=by rw [←hW];exact Ext.setCell hx6 hFl _
   clear hW ff0 ff1 ff2 fff hx6 n20 n21;replace q0:=eA hx7 q0;replace q1:=eA hx7 q1;replace q2:=eA hx7 q2;replace t0:=eA hx7 t0;replace t1:=eA hx7 t1;replace t2:=eA hx7 t2;replace j0:=eA hx7 j0;replace j1:=eA hx7 j1;replace g1:=eA hx7 g1;replace pd:=eA hx7 pd;replace pl:=eA hx7 pl;replace pb:=eA hx7 pb;replace c0':=eA hx7 c0';replace c1':=eA hx7 c1';replace c2':=eA hx7 c2';replace c3':=eA hx7 c3';replace c4':=eA hx7 c4';replace c5':=eA hx7 c5';replace c6':=eA hx7 c6';replace c7':=eA hx7 c7'
   replace FQ:Hid (∀ i,wg.frozen? ⟨w.heap.size,i,none⟩=false):=fun i=>kA hx7 z1 (FQ.out i)
   replace HXB:=aA (HXB.out.trans hx7);replace HB:=aA (HB.out.ext hx7);clear hx7 z1 z2 z3 z4 z5 z6;have z1:=dA q0;have z2:=dA t0;have z3:=dA j0;have z4:=dA g1;have z5:=dA pl;have z6:=dA c0';have z7:=dA gf0
   go_upto_region 16 with (first|fail)
   repeat (first|(go_big_may;(go_at_call 127;(with_reducible refine (rD _ _ _ _ _ up5 up6 up1 up2).mono ?_);rintro e wv ⟨v1,rfl,hown,hxv⟩;have hxz:Ext wg wv:=Ext.trans eX hxv;have fq0:=kA hxz (dA q0) (FQ.out 0);have fq1:=kA hxz (dA q0) (FQ.out 1);have fq2:=kA hxz (dA q0) (FQ.out 2);have pq0:=eA hxz q0;have pq1:=eA hxz q1;have pq2:=eA hxz q2))|go_values|go_skip|go_guarded|go_step|go_upon|simp only [])
   have HE:Ch.turnOf ⟨last,l,js⟩ (ln:Int) p=(Ch.there ⟨u1,u2,u3⟩ 4,none):=by rw [HT.out,HLD.out];simp [h3]
   obtain ⟨o0,o1,o2,ox⟩:=lC (w:=w) (x:=vi 0) (y:=.slice none 0 0) (z:=.slice none 0 0) (HXB.out.trans hxz) (Nat.le_refl _) pq0 pq1 pq2;refine bodyPost_ret (v:=.tuple #[v1,.agg #[vi 0,.slice none 0 0,.slice none 0 0],.bool false]) (by simp [results,Tryz.results68,go_sem,o0,o1,o2]) rfl ?_;rw [HE];exact ⟨v1,_,_,rfl,rA (jB hown (by have:=dA q0;first|omega|(simp;omega))) (by have:=HXB.out.below.size;first|omega|(simp;omega)),pB _ _,ox⟩
theorem rnext_l7 {w:World} {hb rb:Nat} {la:Option Addr} {ln lc:Nat} {last:Int} {a1:Option Addr} {m1 c1:Nat} {a2:Option Addr} {m2 c2:Nat} {gv:Value} {l:List Ch.Stay} {js:List Ch.Job} {p:Ch.Plant} (hh:cH w hb rb (.slice la ln lc) last a1 m1 c1 a2 m2 c2 gv l js p)
  (hwf:p.WF) (hj:Hid (∀ j∈js,∃ s∈l,s.ticket=j.ticket)) (h0:Hid (∀ s∈l,s.ticket≠0)) (hpl:Hid (∀ s∈l,Ch.placeFault s.home (ln:Int)=0)) (l1:1≤ln) (l4:ln≤4) (hlc:ln≤lc) (hlm:lc≤maxLen) (hm1:m1≤100) (hm2:m2≤100)
  (jt li ba:Int) (jf is dd:Bool) (hba:Hid (p.bay=ba)) (hli:Hid (p.lift=li)) (hdd:Hid (p.door=dd)) (HFJ:Hid (qB (Ch.firstJob ⟨last,l,js⟩ ba)=(jt,jf,is))) (xt xi x1 x2 x3 u1 u2 u3:Int) (hl:¬ li=0) (HO:Hid ((⟨last,l,js⟩:Ch.Book).of li=some ⟨xt,⟨xi,⟨x1,x2,x3⟩⟩,⟨u1,u2,u3⟩⟩)) (HG:Hid ((is&&jf&&jt==xt&&ba==0)=false)) (h3:¬ u3=1) (hi:is=true):
  Calls Tryz.prog 68 #[.pointer (some ⟨hb,0,none⟩)] w (rF w (Ch.turnOf ⟨last,l,js⟩ (ln:Int) p).1 (Ch.turnOf ⟨last,l,js⟩ (ln:Int) p).2):=by
 subst hi;have b1:=hh.st.bound;have b2:=hh.jb.bound;have HH:=aA hh;have hlt0:=dA hh.cells.1;unfold maxLen at hlm;have e0':=hh.cells.1;have e1':=hh.cells.2.1
 have L1:(1:Int)≤(ln:Int):=by omega
 have L4:(ln:Int)≤4:=by omega
 clear hh;go_enter Tryz.func68,Tryz.ntmps68
 go_upto_region 2 with fail
 generalize hW:World.alloc _ _=w0;have hx0:Ext w w0:=xQ hW;have r0:w0.cell? ⟨w.heap.size,0,none⟩=some (vi 0):=cQ hW;have r1:w0.cell? ⟨w.heap.size,1,none⟩=some (.slice none 0 0):=cQ hW;have r2:w0.cell? ⟨w.heap.size,2,none⟩=some (.slice none 0 0):=cQ hW
 have fz:∀ i,w0.frozen? ⟨w.heap.size,i,none⟩=false:=by intro i;rw [←hW];simp [go_sem]
 have FZ:=aA fz;have k0:=eA hx0 e0';have k1:=eA hx0 e1';have HX0:=aA hx0;clear hW hx0 fz e0' e1' hlt0
 go_upto_region 3 with (go_at_call 124;(with_reducible refine (lD _ _).mono ?_);rintro e w1 ⟨rfl,o1,n1,rfl⟩)
 generalize hW:World.alloc _ _=w1;generalize hA:w0.heap.size+_=SP;have hx1:Ext w0 w1:=xQ hW;have s0:w1.cell? ⟨SP,0,none⟩=some (vi (ln:Int)):=cR hW hA;have s1:w1.cell? ⟨SP,1,none⟩=some (vi 1):=cR hW hA;have s2:w1.cell? ⟨SP,2,none⟩=some (vi 0):=cR hW hA;have HX1:=aA (HX0.out.trans hx1);have m0:=eA hx1 k0;have m1':=eA hx1 k1;have v0:=eA hx1 r0;have v1:=eA hx1 r1;have v2:=eA hx1 r2
 have fz1:∀ i,w1.frozen? ⟨w.heap.size,i,none⟩=false:=fun i=>kA hx1 (dA r0) (FZ.out i)
 have FZ1:=aA fz1;clear hW hA hx1 k0 k1 r0 r1 r2 FZ fz1 HX0
 go_upto_region 4 with (go_at_call 125;(with_reducible refine (mC jt jf true (HH.out.ext (HX1.out.trans eX)) hj h0 ba hba HFJ).mono ?_);rintro e w1 ⟨rfl,o1,n1,rfl⟩)
 generalize hW:World.alloc _ _=w2;generalize hA:w1.heap.size+_=JB;have hx2:Ext w1 w2:=xQ hW;have j0:w2.cell? ⟨JB,0,none⟩=some (vi jt):=cR hW hA;have j1:w2.cell? ⟨JB,1,none⟩=some (.bool jf):=cR hW hA;have HX2:=aA (HX1.out.trans hx2);have t0:=eA hx2 s0;have t1:=eA hx2 s1;have t2:=eA hx2 s2;have q0:=eA hx2 v0;have q1:=eA hx2 v1;have q2:=eA hx2 v2
 have fz2:∀ i,w2.frozen? ⟨w.heap.size,i,none⟩=false:=fun i=>kA hx2 (dA v0) (FZ1.out i)
 have FZ2:=aA fz2;have H2:=aA (HH.out.ext HX2.out);have g1:=H2.out.cells.2.1;have g2:=H2.out.cells.2.2.1;have g3:=H2.out.cells.2.2.2.1;have g4:=H2.out.cells.2.2.2.2.1;have pd:=H2.out.pl.cells.2.2.2.1;have pl:=H2.out.pl.cells.2.2.2.2.2.1;have pb:=H2.out.pl.cells.2.2.2.2.2.2.1;rw [hdd.out] at pd;rw [hli.out] at pl;rw [hba.out] at pb;have z1:=dA q0;have z2:=dA t0;have z3:=dA j0;have z4:=dA g1;have z5:=dA pl;have hRw:w.heap.size≤w.heap.size:=Nat.le_refl _;clear hW hA hx2 m0 m1' v0 v1 v2 s0 s1 s2 FZ1 fz2 HX1 HH;have HT:Hid (Ch.turnOf ⟨last,l,js⟩ (ln:Int) p=(Ch.loaded ⟨last,l,js⟩ (ln:Int) p,none)):=uF (by rw [hli.out];exact hl);have hxm:(⟨xt,⟨xi,⟨x1,x2,x3⟩⟩,⟨u1,u2,u3⟩⟩:Ch.Stay)∈l:=(Ch.of_some (b:=⟨last,l,js⟩) HO.out).1;obtain ⟨up1,up2,up3,up4,up5,up6⟩:=kG (hpl.out _ hxm) L4;clear hxm
 obtain ⟨sv,HSV⟩:∃ sv,Hid (p.slots ⟨u1,u2,0⟩=sv):=⟨_,rfl⟩
 obtain ⟨V,HBV⟩:∃ V,Hid (Ch.blocks ⟨last,l,js⟩ p ⟨xt,⟨xi,⟨x1,x2,x3⟩⟩,⟨u1,u2,u3⟩⟩ ⟨jt,jf⟩=V):=⟨_,rfl⟩
 have HLD:Hid (Ch.loaded ⟨last,l,js⟩ (ln:Int) p=if false then Ch.giveOut else if (u3==1&&sv != 0) || (true&&V) then Ch.there ⟨(ln:Int),1,0⟩ 4 else Ch.there ⟨u1,u2,u3⟩ 4):=lG hli.out hba.out HO.out HFJ.out HG.out HSV.out HBV.out
 go_upto_region 5 with fail
 go_cut [9,10] (fun s9 s10 wx=>∃ A5:Nat,s9 = .pointer (some ⟨A5,0,none⟩)∧s10 = .bool true∧Ext w2 wx∧wx.cell? ⟨A5,0,none⟩=some (vi xt)∧wx.cell? ⟨A5,1,none⟩=some (vi xi)∧wx.cell? ⟨A5,2,none⟩=some (vi x1)∧wx.cell? ⟨A5,3,none⟩=some (vi x2)∧wx.cell? ⟨A5,4,none⟩=some (vi x3)∧wx.cell? ⟨A5,5,none⟩=some (vi u1)∧wx.cell? ⟨A5,6,none⟩=some (vi u2)∧wx.cell? ⟨A5,7,none⟩=some (vi u3))
 case first=>
  go_region_held3 (fun w'=>w'.cell? ⟨hb,2,none⟩=some (vi last)∧w'.cell? ⟨hb,3,none⟩=some (.slice a1 m1 c1)∧w'.cell? ⟨hb,4,none⟩=some (.slice a2 m2 c2)∧w'.cell? ⟨rb,5,none⟩=some (vi li)) (first|((try dsimp only);(repeat' apply And.intro) <;> exact xC (w:=w2))) (first|(go_at_call 100;(with_reducible refine (bD xt xi x1 x2 x3 u1 u2 u3 _ _ _ _ _ _ _ _ l js _ (Sl.below H2.out.st (Ext.below eX)) h0 HO).mono ?_);rintro e w1 ⟨rfl,o1,n1,rfl⟩))
  ·generalize hW:World.alloc _ _=w5
   generalize hA:w2.heap.size+_=A5;have hx5:Ext w2 w5:=xQ hW;have xx0:w5.cell? ⟨A5,0,none⟩=some (vi xt):=cR hW hA;have xx1:w5.cell? ⟨A5,1,none⟩=some (vi xi):=cR hW hA;have xx2:w5.cell? ⟨A5,2,none⟩=some (vi x1):=cR hW hA;have xx3:w5.cell? ⟨A5,3,none⟩=some (vi x2):=cR hW hA;have xx4:w5.cell? ⟨A5,4,none⟩=some (vi x3):=cR hW hA;have xx5:w5.cell? ⟨A5,5,none⟩=some (vi u1):=cR hW hA;have xx6:w5.cell? ⟨A5,6,none⟩=some (vi u2):=cR hW hA;have xx7:w5.cell? ⟨A5,7,none⟩=some (vi u3):=cR hW hA;clear hW hA;go_wp2_with fail;go_meet;exact ⟨A5,rfl,rfl,hx5,xx0,xx1,xx2,xx3,xx4,xx5,xx6,xx7⟩
  ·generalize hW:World.setCell _ _ _=w5
   obtain ⟨xx0,xx1,xx2,xx3,xx4,xx5,xx6,xx7,hx5⟩:=cG (w:=w2) hW eX (Nat.le_refl _) (by rw [bB _ _ _ _ (by simp)];exact sA _ _ _ rfl) rfl;clear hW;go_wp2_with fail;go_meet;exact ⟨_,rfl,rfl,hx5,xx0,xx1,xx2,xx3,xx4,xx5,xx6,xx7⟩
 case rest=>
  obtain ⟨A5,rfl,rfl,hx5,c0',c1',c2',c3',c4',c5',c6',c7'⟩:=hcut;replace q0:=eA hx5 q0;replace q1:=eA hx5 q1;replace q2:=eA hx5 q2;replace t0:=eA hx5 t0;replace t1:=eA hx5 t1;replace t2:=eA hx5 t2;replace j0:=eA hx5 j0;replace j1:=eA hx5 j1;replace g1:=eA hx5 g1;replace pd:=eA hx5 pd;replace pl:=eA hx5 pl;replace pb:=eA hx5 pb
  have FQ:Hid (∀ i,wc.frozen? ⟨w.heap.size,i,none⟩=false):=fun i=>kA hx5 z1 (FZ2.out i)
  have HXB:=aA (HX2.out.trans hx5);have HB:=aA (H2.out.ext hx5);clear hx5 g2 g3 g4 z1 z2 z3 z4 z5 FZ2 HX2 H2;have z1:=dA q0;have z2:=dA t0;have z3:=dA j0;have z4:=dA g1;have z5:=dA pl;have z6:=dA c0'
  go_upto_region 6 with fail
  go_cut [77] (fun s77 wx=>s77 = .bool false∧wx=wc)
  case first=>
   have hg:=HG.out;cases jf
   ·go_wp2_with fail
    go_meet;exact ⟨rfl,rfl⟩
   ·by_cases h1:jt=xt
    ·have h2:¬ ba=0:=by intro e;simp [h1,e] at hg
     go_wp2_with fail;go_meet;exact ⟨by simp [h1,h2],rfl⟩
    ·go_wp2_with fail
     go_meet;exact ⟨by simp [h1],rfl⟩
  case rest=>
   obtain ⟨rfl,rfl⟩:=hcut;have HJX:Hid (∃ s∈l,s.ticket=jt):=vF hj HFJ.out rfl
   have HJ1:Hid (jt≠0):=by unfold Hid;obtain ⟨s,hs,e⟩:=HJX.out;rw [←e];exact h0.out s hs
   go_upto_region 9 with fail
   generalize hW:World.alloc _ _=wf;generalize hF:wc.heap.size=F;have hx6:Ext wc wf:=xQ hW;have ff0:wf.cell? ⟨F,0,none⟩=some (vi u1):=cR hW hF;have ff1:wf.cell? ⟨F,1,none⟩=some (vi u2):=cR hW hF;have ff2:wf.cell? ⟨F,2,none⟩=some (vi u3):=cR hW hF
   have fff:wf.frozen? ⟨F,2,none⟩=false:=by rw [←hW,←hF];simp [go_sem]
   have hFl:wc.heap.size≤F:=by omega
   clear hW hF
   go_upto_region 10 with fail
   generalize hW:World.setCell _ _ _=wg
   have n20:(⟨F,2,none⟩:Addr)≠⟨F,0,none⟩:=by intro e;cases e
   have n21:(⟨F,2,none⟩:Addr)≠⟨F,1,none⟩:=by intro e;cases e
   have gf0:wg.cell? ⟨F,0,none⟩=some (vi u1):=by rw [←hW,World.cell?_setCell_other (h:=n20)];exact ff0
   have gf1:wg.cell? ⟨F,1,none⟩=some (vi u2):=by rw [←hW,World.cell?_setCell_other (h:=n21)];exact ff1
   have gf2:wg.cell? ⟨F,2,none⟩=some (vi 0):=by rw [←hW,World.cell?_setCell_same (h:=ff2)]
   have hx7:Ext wc wg:=by rw [←hW];exact Ext.setCell hx6 hFl _
   clear hW ff0 ff1 ff2 fff hx6 n20 n21;replace q0:=eA hx7 q0;replace q1:=eA hx7 q1;replace q2:=eA hx7 q2;replace t0:=eA hx7 t0;replace t1:=eA hx7 t1;replace t2:=eA hx7 t2;replace j0:=eA hx7 j0;replace j1:=eA hx7 j1;replace g1:=eA hx7 g1;replace pd:=eA hx7 pd;replace pl:=eA hx7 pl;replace pb:=eA hx7 pb;replace c0':=eA hx7 c0';replace c1':=eA hx7 c1';replace c2':=eA hx7 c2';replace c3':=eA hx7 c3';replace c4':=eA hx7 c4';replace c5':=eA hx7 c5';replace c6':=eA hx7 c6';replace c7':=eA hx7 c7'
   replace FQ:Hid (∀ i,wg.frozen? ⟨w.heap.size,i,none⟩=false):=fun i=>kA hx7 z1 (FQ.out i)
   replace HXB:=aA (HXB.out.trans hx7);replace HB:=aA (HB.out.ext hx7);clear hx7 z1 z2 z3 z4 z5 z6;have z1:=dA q0;have z2:=dA t0;have z3:=dA j0;have z4:=dA g1;have z5:=dA pl;have z6:=dA c0';have z7:=dA gf0;cases V
   ·go_upto_region 16 with (first|(go_at_call 128;(with_reducible refine (iC false xt xi x1 x2 x3 u1 u2 u3 jt jf (HB.out.ext eX) hwf HJX HJ1 HBV).mono ?_);rintro e w1 ⟨rfl,o1,n1,rfl⟩))
    repeat (first|(go_big_may;(go_at_call 127;(with_reducible refine (rD _ _ _ _ _ up5 up6 up1 up2).mono ?_);rintro e wv ⟨v1,rfl,hown,hxv⟩;have hxz:Ext wg wv:=Ext.trans eX hxv;have fq0:=kA hxz (dA q0) (FQ.out 0);have fq1:=kA hxz (dA q0) (FQ.out 1);have fq2:=kA hxz (dA q0) (FQ.out 2);have pq0:=eA hxz q0;have pq1:=eA hxz q1;have pq2:=eA hxz q2))|go_values|go_skip|go_guarded|go_step|go_upon|simp only [])
    have HE:Ch.turnOf ⟨last,l,js⟩ (ln:Int) p=(Ch.there ⟨u1,u2,u3⟩ 4,none):=by rw [HT.out,HLD.out];simp [h3]
    obtain ⟨o0,o1,o2,ox⟩:=lC (w:=w) (x:=vi 0) (y:=.slice none 0 0) (z:=.slice none 0 0) (HXB.out.trans hxz) (Nat.le_refl _) pq0 pq1 pq2;refine bodyPost_ret (v:=.tuple #[v1,.agg #[vi 0,.slice none 0 0,.slice none 0 0],.bool false]) (by simp [results,Tryz.results68,go_sem,o0,o1,o2]) rfl ?_;rw [HE];exact ⟨v1,_,_,rfl,rA (jB hown (by have:=dA q0;first|omega|(simp;omega))) (by have:=HXB.out.below.size;first|omega|(simp;omega)),pB _ _,ox⟩
   ·go_upto_region 15 with (first|(go_at_call 128;(with_reducible refine (iC true xt xi x1 x2 x3 u1 u2 u3 jt jf (HB.out.ext eX) hwf HJX HJ1 HBV).mono ?_);rintro e w1 ⟨rfl,o1,n1,rfl⟩))
    repeat (first|(go_big_may;(go_at_call 127;(with_reducible refine (rD _ _ _ _ _ (by decide) (by decide) L1 L4).mono ?_);rintro e wv ⟨v1,rfl,hown,hxv⟩;have hxz:Ext wg wv:=Ext.trans eX hxv;have fq0:=kA hxz (dA q0) (FQ.out 0);have fq1:=kA hxz (dA q0) (FQ.out 1);have fq2:=kA hxz (dA q0) (FQ.out 2);have pq0:=eA hxz q0;have pq1:=eA hxz q1;have pq2:=eA hxz q2))|go_values|go_skip|go_guarded|go_step|go_upon|simp only [])
    have HE:Ch.turnOf ⟨last,l,js⟩ (ln:Int) p=(Ch.there ⟨(ln:Int),1,0⟩ 4,none):=by rw [HT.out,HLD.out];simp
    obtain ⟨o0,o1,o2,ox⟩:=lC (w:=w) (x:=vi 0) (y:=.slice none 0 0) (z:=.slice none 0 0) (HXB.out.trans hxz) (Nat.le_refl _) pq0 pq1 pq2;refine bodyPost_ret (v:=.tuple #[v1,.agg #[vi 0,.slice none 0 0,.slice none 0 0],.bool false]) (by simp [results,Tryz.results68,go_sem,o0,o1,o2]) rfl ?_;rw [HE];exact ⟨v1,_,_,rfl,rA (jB hown (by have:=dA q0;first|omega|(simp;omega))) (by have:=HXB.out.below.size;first|omega|(simp;omega)),pB _ _,ox⟩
