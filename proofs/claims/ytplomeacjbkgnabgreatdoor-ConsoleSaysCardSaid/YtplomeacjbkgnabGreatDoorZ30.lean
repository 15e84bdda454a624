import Derived.Test.YtplomeacjbkgnabGreatDoorZ28
set_option linter.all false
set_option maxRecDepth 100000
set_option maxHeartbeats 16000000
namespace Go.Proofs.YtplomeacjbkgnabGreatDoor
open Go.RowKit Tryz Ch
theorem rnext_l6 {w:World} {hb rb:Nat} {la:Option Addr} {ln lc:Nat} {last:Int} {a1:Option Addr} {m1 c1:Nat} {a2:Option Addr} {m2 c2:Nat} {gv:Value} {l:List sA} {js:List Job} {p:dA} (hh:eL w hb rb (.slice la ln lc) last a1 m1 c1 a2 m2 c2 gv l js p)
  (hwf:p.WF) (hj:Hid (∀ j∈js,∃ s∈l,s.ticket=j.ticket)) (h0:Hid (∀ s∈l,s.ticket≠0)) (hpl:Hid (∀ s∈l,uA s.home (ln:Int)=0)) (l1:1<=ln) (l4:ln<=4) (hlc:ln<=lc) (hlm:lc<=maxLen) (hm1:m1<=100) (hm2:m2<=100)
  (jt li ba:Int) (jf is dd:Bool) (hba:Hid (p.bay=ba)) (hli:Hid (p.lift=li)) (hdd:Hid (p.door=dd)) (HFJ:Hid (pC (sB ⟨last,l,js⟩ ba)=(jt,jf,is))) (xt xi x1 x2 x3 u1 u2 u3:Int) (hl:¬ li=0) (HO:Hid ((⟨last,l,js⟩:gB).of li=some ⟨xt,⟨xi,⟨x1,x2,x3⟩⟩,⟨u1,u2,u3⟩⟩)) (HG:Hid ((is&&jf&&jt==xt&&ba==0)=false)) (h3:¬ u3=1) (hi:is=false):
  Calls prog 68 #[.pointer (some ⟨hb,0,none⟩)] w (xI w (xA ⟨last,l,js⟩ (ln:Int) p).1 (xA ⟨last,l,js⟩ (ln:Int) p).2):=by
 subst hi;have b1:=hh.st.bound;have b2:=hh.jb.bound;have HH:=aA hh;have hlt0:=cA hh.cells.1;unfold maxLen at hlm;have e0':=hh.cells.1;have e1':=hh.cells.2.1
 have L1:(1:Int)<=(ln:Int):=om
 have L4:(ln:Int)<=4:=om
 clear hh;go_enter func68,ntmps68
 go_upto_region 2 with fail
 generalize hW:World.alloc _ _=w0;have hx0:Ext w w0:=xQ hW;have r0:cI w0 w.heap.size 0 0:=cQ hW;have r1:cV w0 w.heap.size 1 (.slice none 0 0):=cQ hW;have r2:cV w0 w.heap.size 2 (.slice none 0 0):=cQ hW
 have fz:∀ i,w0.frozen? ⟨w.heap.size,i,none⟩=false:=by intro i;rw [<-hW];simp [go_sem]
 have FZ:=aA fz;have k0:=gA hx0 e0';have k1:=gA hx0 e1';have HX0:=aA hx0;clear hW hx0 fz e0' e1' hlt0
 go_upto_region 3 with (go_at_call 124;with_reducible refine mo (wF _ _) fun o1 n1=>?_)
 generalize hW:World.alloc _ _=w1;generalize hA:w0.heap.size+_=SP;have hx1:Ext w0 w1:=xQ hW;have s0:cI w1 SP 0 (ln:Int):=cR hW hA;have s1:cI w1 SP 1 1:=cR hW hA;have s2:cI w1 SP 2 0:=cR hW hA;have HX1:=aA (HX0.out.trans hx1);obtain ⟨m0,m1',v0,v1,v2⟩:=xe5 hx1 k0 k1 r0 r1 r2
 have fz1:∀ i,w1.frozen? ⟨w.heap.size,i,none⟩=false:=fun i=>kA hx1 (cA r0) (FZ.out i)
 have FZ1:=aA fz1;clear hW hA hx1 k0 k1 r0 r1 r2 FZ fz1 HX0
 go_upto_region 4 with (go_at_call 125;with_reducible refine mo (iE jt jf false (HH.out.ext (HX1.out.trans eX)) hj h0 ba hba HFJ) fun o1 n1=>?_)
 generalize hW:World.alloc _ _=w2;generalize hA:w1.heap.size+_=JB;have hx2:Ext w1 w2:=xQ hW;have j0:cI w2 JB 0 jt:=cR hW hA;have j1:cV w2 JB 1 (.bool jf):=cR hW hA;have HX2:=aA (HX1.out.trans hx2);obtain ⟨t0,t1,t2,q0,q1,q2⟩:=xe6 hx2 s0 s1 s2 v0 v1 v2
 have fz2:∀ i,w2.frozen? ⟨w.heap.size,i,none⟩=false:=fun i=>kA hx2 (cA v0) (FZ1.out i)
 have FZ2:=aA fz2;have H2:=aA (HH.out.ext HX2.out);have g1:=H2.out.cells.2.1;have g2:=H2.out.cells.2.2.1;have g3:=H2.out.cells.2.2.2.1;have g4:=H2.out.cells.2.2.2.2.1;have pd:=H2.out.pl.cells.2.2.2.1;have pl:=H2.out.pl.cells.2.2.2.2.2.1;have pb:=H2.out.pl.cells.2.2.2.2.2.2.1;rw [hdd.out] at pd;rw [hli.out] at pl;rw [hba.out] at pb;have z1:=cA q0;have z2:=cA t0;have z3:=cA j0;have z4:=cA g1;have z5:=cA pl;have hRw:w.heap.size<=w.heap.size:=Nat.le_refl _;clear hW hA hx2 m0 m1' v0 v1 v2 s0 s1 s2 FZ1 fz2 HX1 HH;have HT:Hid (xA ⟨last,l,js⟩ (ln:Int) p=(pE ⟨last,l,js⟩ (ln:Int) p,none)):=fJ (by rw [hli.out];exact hl);have hxm:(⟨xt,⟨xi,⟨x1,x2,x3⟩⟩,⟨u1,u2,u3⟩⟩:sA)∈l:=(Ch.cN (b:=⟨last,l,js⟩) HO.out).1;obtain ⟨up1,up2,up3,up4,up5,up6⟩:=fK (hpl.out _ hxm) L4;clear hxm
 obtain ⟨sv,HSV⟩:∃ sv,Hid (p.slots ⟨u1,u2,0⟩=sv):=⟨_,rfl⟩
 obtain ⟨V,HBV⟩:∃ V,Hid (bE ⟨last,l,js⟩ p ⟨xt,⟨xi,⟨x1,x2,x3⟩⟩,⟨u1,u2,u3⟩⟩ ⟨jt,jf⟩=V):=⟨_,rfl⟩
 have HLD:Hid (pE ⟨last,l,js⟩ (ln:Int) p=if false then dF else if (u3==1&&sv != 0) || (false&&V) then lD ⟨(ln:Int),1,0⟩ 4 else lD ⟨u1,u2,u3⟩ 4):=gK hli.out hba.out HO.out HFJ.out HG.out HSV.out HBV.out
 go_upto_region 5 with fail
 go_cut [9,10] (fun s9 s10 wx=>∃ A5:Nat,s9 = .pointer (some ⟨A5,0,none⟩)/\s10 = .bool true/\Ext w2 wx/\cI wx A5 0 xt/\cI wx A5 1 xi/\cI wx A5 2 x1/\cI wx A5 3 x2/\cI wx A5 4 x3/\cI wx A5 5 u1/\cI wx A5 6 u2/\cI wx A5 7 u3)
 case first=>
  go_region_held3 (fun w'=>w'.cell? ⟨hb,2,none⟩=some (vi last)/\w'.cell? ⟨hb,3,none⟩=some (.slice a1 m1 c1)/\w'.cell? ⟨hb,4,none⟩=some (.slice a2 m2 c2)/\w'.cell? ⟨rb,5,none⟩=some (vi li)) (first|((try dsimp only);(repeat' apply And.intro) <;> exact xC (w:=w2))) (first|(go_at_call 100;with_reducible refine mo (fF xt xi x1 x2 x3 u1 u2 u3 _ _ _ _ _ _ _ _ l js _ (Sl.below H2.out.st (Ext.below eX)) h0 HO) fun o1 n1=>?_))
  ·generalize hW:World.alloc _ _=w5
   generalize hA:w2.heap.size+_=A5;have hx5:Ext w2 w5:=xQ hW;have xx0:cI w5 A5 0 xt:=cR hW hA;have xx1:cI w5 A5 1 xi:=cR hW hA;have xx2:cI w5 A5 2 x1:=cR hW hA;have xx3:cI w5 A5 3 x2:=cR hW hA;have xx4:cI w5 A5 4 x3:=cR hW hA;have xx5:cI w5 A5 5 u1:=cR hW hA;have xx6:cI w5 A5 6 u2:=cR hW hA;have xx7:cI w5 A5 7 u3:=cR hW hA;clear hW hA;go_wp2_with fail;go_meet;exact ⟨A5,rfl,rfl,hx5,xx0,xx1,xx2,xx3,xx4,xx5,xx6,xx7⟩
  ·generalize hW:World.setCell _ _ _=w5
   obtain ⟨xx0,xx1,xx2,xx3,xx4,xx5,xx6,xx7,hx5⟩:=rJ (w:=w2) hW eX (Nat.le_refl _) (by rw [dB _ _ _ _ sp];exact pA _ _ _ rfl) rfl;clear hW;go_wp2_with fail;go_meet;exact ⟨_,rfl,rfl,hx5,xx0,xx1,xx2,xx3,xx4,xx5,xx6,xx7⟩
 case rest=>
  obtain ⟨A5,rfl,rfl,hx5,c0',c1',c2',c3',c4',c5',c6',c7'⟩:=hcut;obtain ⟨q0,q1,q2,t0,t1,t2,j0,j1,g1,pd,pl,pb⟩:=iF hx5 q0 q1 q2 t0 t1 t2 j0 j1 g1 pd pl pb
  have FQ:Hid (∀ i,wc.frozen? ⟨w.heap.size,i,none⟩=false):=fun i=>kA hx5 z1 (FZ2.out i)
  have HXB:=aA (HX2.out.trans hx5);have HB:=aA (H2.out.ext hx5);clear hx5 g2 g3 g4 z1 z2 z3 z4 z5 FZ2 HX2 H2;have z1:=cA q0;have z2:=cA t0;have z3:=cA j0;have z4:=cA g1;have z5:=cA pl;have z6:=cA c0'
  go_upto_region 6 with fail
  go_cut [77] (fun s77 wx=>s77 = .bool false/\wx=wc)
  case first=>
   go_wp2_with fail;go_meet;exact ⟨rfl,rfl⟩
  case rest=>
   obtain ⟨rfl,rfl⟩:=hcut
   go_upto_region 9 with fail
   generalize hW:World.alloc _ _=wf;generalize hF:wc.heap.size=F;have hx6:Ext wc wf:=xQ hW;have ff0:cI wf F 0 u1:=cR hW hF;have ff1:cI wf F 1 u2:=cR hW hF;have ff2:cI wf F 2 u3:=cR hW hF
   have fff:wf.frozen? ⟨F,2,none⟩=false:=by rw [<-hW,<-hF];simp [go_sem]
   have hFl:wc.heap.size<=F:=om
   clear hW hF
   go_upto_region 10 with fail
   generalize hW:World.setCell _ _ _=wg
   have n20:(⟨F,2,none⟩:Addr)≠⟨F,0,none⟩:=by intro e;cases e
   have n21:(⟨F,2,none⟩:Addr)≠⟨F,1,none⟩:=by intro e;cases e
   have gf0:wg.cell? ⟨F,0,none⟩=some (vi u1):=by rw [<-hW,World.cell?_setCell_other (h:=n20)];exact ff0
   have gf1:wg.cell? ⟨F,1,none⟩=some (vi u2):=by rw [<-hW,World.cell?_setCell_other (h:=n21)];exact ff1
   have gf2:wg.cell? ⟨F,2,none⟩=some (vi 0):=by rw [<-hW,World.cell?_setCell_same (h:=ff2)]
   have hx7:Ext wc wg:=by rw [<-hW];exact Ext.setCell hx6 hFl _
   clear hW ff0 ff1 ff2 fff hx6 n20 n21;obtain ⟨q0,q1,q2,t0,t1,t2,j0,j1,g1,pd,pl,pb⟩:=iF hx7 q0 q1 q2 t0 t1 t2 j0 j1 g1 pd pl pb;obtain ⟨c0',c1',c2',c3',c4',c5',c6',c7'⟩:=xe8 hx7 c0' c1' c2' c3' c4' c5' c6' c7'
   replace FQ:Hid (∀ i,wg.frozen? ⟨w.heap.size,i,none⟩=false):=fun i=>kA hx7 z1 (FQ.out i)
   replace HXB:=aA (HXB.out.trans hx7);replace HB:=aA (HB.out.ext hx7);clear hx7 z1 z2 z3 z4 z5 z6;have z1:=cA q0;have z2:=cA t0;have z3:=cA j0;have z4:=cA g1;have z5:=cA pl;have z6:=cA c0';have z7:=cA gf0
   go_upto_region 16 with (first|fail)
   repeat (first|(go_big_may;(go_at_call 127;(with_reducible refine (iG _ _ _ _ _ up5 up6 up1 up2).mono ?_);rintro e wv ⟨v1,rfl,hown,hxv⟩;have hxz:Ext wg wv:=Ext.trans eX hxv;have fq0:=kA hxz (cA q0) (FQ.out 0);have fq1:=kA hxz (cA q0) (FQ.out 1);have fq2:=kA hxz (cA q0) (FQ.out 2);obtain ⟨pq0,pq1,pq2⟩:=xe3 hxz q0 q1 q2))|go_values|go_skip|go_guarded|go_step|go_upon|simp only [])
   have HE:xA ⟨last,l,js⟩ (ln:Int) p=(lD ⟨u1,u2,u3⟩ 4,none):=by rw [HT.out,HLD.out];simp [h3]
   obtain ⟨o0,o1,o2,ox⟩:=dE (w:=w) (x:=vi 0) (y:=.slice none 0 0) (z:=.slice none 0 0) (HXB.out.trans hxz) (Nat.le_refl _) pq0 pq1 pq2;refine bodyPost_ret (v:=.tuple #[v1,.agg #[vi 0,.slice none 0 0,.slice none 0 0],.bool false]) (by simp [results,results68,go_sem,o0,o1,o2]) rfl ?_;rw [HE];exact ⟨v1,_,_,rfl,mA (dC hown (by have:=cA q0;first|omega|(simp;omega))) (by have:=HXB.out.below.size;first|omega|(simp;omega)),mC _ _,ox⟩
theorem rnext_l7 {w:World} {hb rb:Nat} {la:Option Addr} {ln lc:Nat} {last:Int} {a1:Option Addr} {m1 c1:Nat} {a2:Option Addr} {m2 c2:Nat} {gv:Value} {l:List sA} {js:List Job} {p:dA} (hh:eL w hb rb (.slice la ln lc) last a1 m1 c1 a2 m2 c2 gv l js p)
  (hwf:p.WF) (hj:Hid (∀ j∈js,∃ s∈l,s.ticket=j.ticket)) (h0:Hid (∀ s∈l,s.ticket≠0)) (hpl:Hid (∀ s∈l,uA s.home (ln:Int)=0)) (l1:1<=ln) (l4:ln<=4) (hlc:ln<=lc) (hlm:lc<=maxLen) (hm1:m1<=100) (hm2:m2<=100)
  (jt li ba:Int) (jf is dd:Bool) (hba:Hid (p.bay=ba)) (hli:Hid (p.lift=li)) (hdd:Hid (p.door=dd)) (HFJ:Hid (pC (sB ⟨last,l,js⟩ ba)=(jt,jf,is))) (xt xi x1 x2 x3 u1 u2 u3:Int) (hl:¬ li=0) (HO:Hid ((⟨last,l,js⟩:gB).of li=some ⟨xt,⟨xi,⟨x1,x2,x3⟩⟩,⟨u1,u2,u3⟩⟩)) (HG:Hid ((is&&jf&&jt==xt&&ba==0)=false)) (h3:¬ u3=1) (hi:is=true):
  Calls prog 68 #[.pointer (some ⟨hb,0,none⟩)] w (xI w (xA ⟨last,l,js⟩ (ln:Int) p).1 (xA ⟨last,l,js⟩ (ln:Int) p).2):=by
 subst hi;have b1:=hh.st.bound;have b2:=hh.jb.bound;have HH:=aA hh;have hlt0:=cA hh.cells.1;unfold maxLen at hlm;have e0':=hh.cells.1;have e1':=hh.cells.2.1
 have L1:(1:Int)<=(ln:Int):=om
 have L4:(ln:Int)<=4:=om
 clear hh;go_enter func68,ntmps68
 go_upto_region 2 with fail
 generalize hW:World.alloc _ _=w0;have hx0:Ext w w0:=xQ hW;have r0:cI w0 w.heap.size 0 0:=cQ hW;have r1:cV w0 w.heap.size 1 (.slice none 0 0):=cQ hW;have r2:cV w0 w.heap.size 2 (.slice none 0 0):=cQ hW
 have fz:∀ i,w0.frozen? ⟨w.heap.size,i,none⟩=false:=by intro i;rw [<-hW];simp [go_sem]
 have FZ:=aA fz;have k0:=gA hx0 e0';have k1:=gA hx0 e1';have HX0:=aA hx0;clear hW hx0 fz e0' e1' hlt0
 go_upto_region 3 with (go_at_call 124;with_reducible refine mo (wF _ _) fun o1 n1=>?_)
 generalize hW:World.alloc _ _=w1;generalize hA:w0.heap.size+_=SP;have hx1:Ext w0 w1:=xQ hW;have s0:cI w1 SP 0 (ln:Int):=cR hW hA;have s1:cI w1 SP 1 1:=cR hW hA;have s2:cI w1 SP 2 0:=cR hW hA;have HX1:=aA (HX0.out.trans hx1);obtain ⟨m0,m1',v0,v1,v2⟩:=xe5 hx1 k0 k1 r0 r1 r2
 have fz1:∀ i,w1.frozen? ⟨w.heap.size,i,none⟩=false:=fun i=>kA hx1 (cA r0) (FZ.out i)
 have FZ1:=aA fz1;clear hW hA hx1 k0 k1 r0 r1 r2 FZ fz1 HX0
 go_upto_region 4 with (go_at_call 125;with_reducible refine mo (iE jt jf true (HH.out.ext (HX1.out.trans eX)) hj h0 ba hba HFJ) fun o1 n1=>?_)
 generalize hW:World.alloc _ _=w2;generalize hA:w1.heap.size+_=JB;have hx2:Ext w1 w2:=xQ hW;have j0:cI w2 JB 0 jt:=cR hW hA;have j1:cV w2 JB 1 (.bool jf):=cR hW hA;have HX2:=aA (HX1.out.trans hx2);obtain ⟨t0,t1,t2,q0,q1,q2⟩:=xe6 hx2 s0 s1 s2 v0 v1 v2
 have fz2:∀ i,w2.frozen? ⟨w.heap.size,i,none⟩=false:=fun i=>kA hx2 (cA v0) (FZ1.out i)
 have FZ2:=aA fz2;have H2:=aA (HH.out.ext HX2.out);have g1:=H2.out.cells.2.1;have g2:=H2.out.cells.2.2.1;have g3:=H2.out.cells.2.2.2.1;have g4:=H2.out.cells.2.2.2.2.1;have pd:=H2.out.pl.cells.2.2.2.1;have pl:=H2.out.pl.cells.2.2.2.2.2.1;have pb:=H2.out.pl.cells.2.2.2.2.2.2.1;rw [hdd.out] at pd;rw [hli.out] at pl;rw [hba.out] at pb;have z1:=cA q0;have z2:=cA t0;have z3:=cA j0;have z4:=cA g1;have z5:=cA pl;have hRw:w.heap.size<=w.heap.size:=Nat.le_refl _;clear hW hA hx2 m0 m1' v0 v1 v2 s0 s1 s2 FZ1 fz2 HX1 HH;have HT:Hid (xA ⟨last,l,js⟩ (ln:Int) p=(pE ⟨last,l,js⟩ (ln:Int) p,none)):=fJ (by rw [hli.out];exact hl);have hxm:(⟨xt,⟨xi,⟨x1,x2,x3⟩⟩,⟨u1,u2,u3⟩⟩:sA)∈l:=(Ch.cN (b:=⟨last,l,js⟩) HO.out).1;obtain ⟨up1,up2,up3,up4,up5,up6⟩:=fK (hpl.out _ hxm) L4;clear hxm
 obtain ⟨sv,HSV⟩:∃ sv,Hid (p.slots ⟨u1,u2,0⟩=sv):=⟨_,rfl⟩
 obtain ⟨V,HBV⟩:∃ V,Hid (bE ⟨last,l,js⟩ p ⟨xt,⟨xi,⟨x1,x2,x3⟩⟩,⟨u1,u2,u3⟩⟩ ⟨jt,jf⟩=V):=⟨_,rfl⟩
 have HLD:Hid (pE ⟨last,l,js⟩ (ln:Int) p=if false then dF else if (u3==1&&sv != 0) || (true&&V) then lD ⟨(ln:Int),1,0⟩ 4 else lD ⟨u1,u2,u3⟩ 4):=gK hli.out hba.out HO.out HFJ.out HG.out HSV.out HBV.out
 go_upto_region 5 with fail
 go_cut [9,10] (fun s9 s10 wx=>∃ A5:Nat,s9 = .pointer (some ⟨A5,0,none⟩)/\s10 = .bool true/\Ext w2 wx/\cI wx A5 0 xt/\cI wx A5 1 xi/\cI wx A5 2 x1/\cI wx A5 3 x2/\cI wx A5 4 x3/\cI wx A5 5 u1/\cI wx A5 6 u2/\cI wx A5 7 u3)
 case first=>
  go_region_held3 (fun w'=>w'.cell? ⟨hb,2,none⟩=some (vi last)/\w'.cell? ⟨hb,3,none⟩=some (.slice a1 m1 c1)/\w'.cell? ⟨hb,4,none⟩=some (.slice a2 m2 c2)/\w'.cell? ⟨rb,5,none⟩=some (vi li)) (first|((try dsimp only);(repeat' apply And.intro) <;> exact xC (w:=w2))) (first|(go_at_call 100;with_reducible refine mo (fF xt xi x1 x2 x3 u1 u2 u3 _ _ _ _ _ _ _ _ l js _ (Sl.below H2.out.st (Ext.below eX)) h0 HO) fun o1 n1=>?_))
  ·generalize hW:World.alloc _ _=w5
   generalize hA:w2.heap.size+_=A5;have hx5:Ext w2 w5:=xQ hW;have xx0:cI w5 A5 0 xt:=cR hW hA;have xx1:cI w5 A5 1 xi:=cR hW hA;have xx2:cI w5 A5 2 x1:=cR hW hA;have xx3:cI w5 A5 3 x2:=cR hW hA;have xx4:cI w5 A5 4 x3:=cR hW hA;have xx5:cI w5 A5 5 u1:=cR hW hA;have xx6:cI w5 A5 6 u2:=cR hW hA;have xx7:cI w5 A5 7 u3:=cR hW hA;clear hW hA;go_wp2_with fail;go_meet;exact ⟨A5,rfl,rfl,hx5,xx0,xx1,xx2,xx3,xx4,xx5,xx6,xx7⟩
  ·generalize hW:World.setCell _ _ _=w5
   obtain ⟨xx0,xx1,xx2,xx3,xx4,xx5,xx6,xx7,hx5⟩:=rJ (w:=w2) hW eX (Nat.le_refl _) (by rw [dB _ _ _ _ sp];exact pA _ _ _ rfl) rfl;clear hW;go_wp2_with fail;go_meet;exact ⟨_,rfl,rfl,hx5,xx0,xx1,xx2,xx3,xx4,xx5,xx6,xx7⟩
 case rest=>
  obtain ⟨A5,rfl,rfl,hx5,c0',c1',c2',c3',c4',c5',c6',c7'⟩:=hcut;obtain ⟨q0,q1,q2,t0,t1,t2,j0,j1,g1,pd,pl,pb⟩:=iF hx5 q0 q1 q2 t0 t1 t2 j0 j1 g1 pd pl pb
  have FQ:Hid (∀ i,wc.frozen? ⟨w.heap.size,i,none⟩=false):=fun i=>kA hx5 z1 (FZ2.out i)
  have HXB:=aA (HX2.out.trans hx5);have HB:=aA (H2.out.ext hx5);clear hx5 g2 g3 g4 z1 z2 z3 z4 z5 FZ2 HX2 H2;have z1:=cA q0;have z2:=cA t0;have z3:=cA j0;have z4:=cA g1;have z5:=cA pl;have z6:=cA c0'
  go_upto_region 6 with fail
  go_cut [77] (fun s77 wx=>s77 = .bool false/\wx=wc)
  case first=>
   have hg:=HG.out;cases jf
   ·go_wp2_with fail
    go_meet;exact ⟨rfl,rfl⟩
   ·by_cases h1:jt=xt
    ·have h2:¬ ba=0:=by intro e;simp [h1,e] at hg
     go_wp2_with fail;go_meet;exact ⟨by simp [h1,h2],rfl⟩
    ·go_wp2_with fail
     go_meet;exact ⟨by simp [h1],rfl⟩
  case rest=>
   obtain ⟨rfl,rfl⟩:=hcut;have HJX:Hid (∃ s∈l,s.ticket=jt):=gJ hj HFJ.out rfl
   have HJ1:Hid (jt≠0):=by unfold Hid;obtain ⟨s,hs,e⟩:=HJX.out;rw [<-e];exact h0.out s hs
   go_upto_region 9 with fail
   generalize hW:World.alloc _ _=wf;generalize hF:wc.heap.size=F;have hx6:Ext wc wf:=xQ hW;have ff0:cI wf F 0 u1:=cR hW hF;have ff1:cI wf F 1 u2:=cR hW hF;have ff2:cI wf F 2 u3:=cR hW hF
   have fff:wf.frozen? ⟨F,2,none⟩=false:=by rw [<-hW,<-hF];simp [go_sem]
   have hFl:wc.heap.size<=F:=om
   clear hW hF
   go_upto_region 10 with fail
   generalize hW:World.setCell _ _ _=wg
   have n20:(⟨F,2,none⟩:Addr)≠⟨F,0,none⟩:=by intro e;cases e
   have n21:(⟨F,2,none⟩:Addr)≠⟨F,1,none⟩:=by intro e;cases e
   have gf0:wg.cell? ⟨F,0,none⟩=some (vi u1):=by rw [<-hW,World.cell?_setCell_other (h:=n20)];exact ff0
   have gf1:wg.cell? ⟨F,1,none⟩=some (vi u2):=by rw [<-hW,World.cell?_setCell_other (h:=n21)];exact ff1
   have gf2:wg.cell? ⟨F,2,none⟩=some (vi 0):=by rw [<-hW,World.cell?_setCell_same (h:=ff2)]
   have hx7:Ext wc wg:=by rw [<-hW];exact Ext.setCell hx6 hFl _
   clear hW ff0 ff1 ff2 fff hx6 n20 n21;obtain ⟨q0,q1,q2,t0,t1,t2,j0,j1,g1,pd,pl,pb⟩:=iF hx7 q0 q1 q2 t0 t1 t2 j0 j1 g1 pd pl pb;obtain ⟨c0',c1',c2',c3',c4',c5',c6',c7'⟩:=xe8 hx7 c0' c1' c2' c3' c4' c5' c6' c7'
   replace FQ:Hid (∀ i,wg.frozen? ⟨w.heap.size,i,none⟩=false):=fun i=>kA hx7 z1 (FQ.out i)
   replace HXB:=aA (HXB.out.trans hx7);replace HB:=aA (HB.out.ext hx7);clear hx7 z1 z2 z3 z4 z5 z6;have z1:=cA q0;have z2:=cA t0;have z3:=cA j0;have z4:=cA g1;have z5:=cA pl;have z6:=cA c0';have z7:=cA gf0;cases V
   ·go_upto_region 16 with (first|(go_at_call 128;with_reducible refine mo (tD false xt xi x1 x2 x3 u1 u2 u3 jt jf (HB.out.ext eX) hwf HJX HJ1 HBV) fun o1 n1=>?_))
    repeat (first|(go_big_may;(go_at_call 127;(with_reducible refine (iG _ _ _ _ _ up5 up6 up1 up2).mono ?_);rintro e wv ⟨v1,rfl,hown,hxv⟩;have hxz:Ext wg wv:=Ext.trans eX hxv;have fq0:=kA hxz (cA q0) (FQ.out 0);have fq1:=kA hxz (cA q0) (FQ.out 1);have fq2:=kA hxz (cA q0) (FQ.out 2);obtain ⟨pq0,pq1,pq2⟩:=xe3 hxz q0 q1 q2))|go_values|go_skip|go_guarded|go_step|go_upon|simp only [])
    have HE:xA ⟨last,l,js⟩ (ln:Int) p=(lD ⟨u1,u2,u3⟩ 4,none):=by rw [HT.out,HLD.out];simp [h3]
    obtain ⟨o0,o1,o2,ox⟩:=dE (w:=w) (x:=vi 0) (y:=.slice none 0 0) (z:=.slice none 0 0) (HXB.out.trans hxz) (Nat.le_refl _) pq0 pq1 pq2;refine bodyPost_ret (v:=.tuple #[v1,.agg #[vi 0,.slice none 0 0,.slice none 0 0],.bool false]) (by simp [results,results68,go_sem,o0,o1,o2]) rfl ?_;rw [HE];exact ⟨v1,_,_,rfl,mA (dC hown (by have:=cA q0;first|omega|(simp;omega))) (by have:=HXB.out.below.size;first|omega|(simp;omega)),mC _ _,ox⟩
   ·go_upto_region 15 with (first|(go_at_call 128;with_reducible refine mo (tD true xt xi x1 x2 x3 u1 u2 u3 jt jf (HB.out.ext eX) hwf HJX HJ1 HBV) fun o1 n1=>?_))
    repeat (first|(go_big_may;(go_at_call 127;(with_reducible refine (iG _ _ _ _ _ dc dc L1 L4).mono ?_);rintro e wv ⟨v1,rfl,hown,hxv⟩;have hxz:Ext wg wv:=Ext.trans eX hxv;have fq0:=kA hxz (cA q0) (FQ.out 0);have fq1:=kA hxz (cA q0) (FQ.out 1);have fq2:=kA hxz (cA q0) (FQ.out 2);obtain ⟨pq0,pq1,pq2⟩:=xe3 hxz q0 q1 q2))|go_values|go_skip|go_guarded|go_step|go_upon|simp only [])
    have HE:xA ⟨last,l,js⟩ (ln:Int) p=(lD ⟨(ln:Int),1,0⟩ 4,none):=by rw [HT.out,HLD.out];simp
    obtain ⟨o0,o1,o2,ox⟩:=dE (w:=w) (x:=vi 0) (y:=.slice none 0 0) (z:=.slice none 0 0) (HXB.out.trans hxz) (Nat.le_refl _) pq0 pq1 pq2;refine bodyPost_ret (v:=.tuple #[v1,.agg #[vi 0,.slice none 0 0,.slice none 0 0],.bool false]) (by simp [results,results68,go_sem,o0,o1,o2]) rfl ?_;rw [HE];exact ⟨v1,_,_,rfl,mA (dC hown (by have:=cA q0;first|omega|(simp;omega))) (by have:=HXB.out.below.size;first|omega|(simp;omega)),mC _ _,ox⟩
