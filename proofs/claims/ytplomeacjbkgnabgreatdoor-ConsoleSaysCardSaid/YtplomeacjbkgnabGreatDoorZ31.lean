import Derived.Test.YtplomeacjbkgnabGreatDoorZ28
set_option linter.all false
set_option maxRecDepth 100000
set_option maxHeartbeats 16000000
namespace Go.Proofs.YtplomeacjbkgnabGreatDoor
open Go.RowKit Tryz Ch
theorem rfirst_no {last jt ba:Int} {jf is:Bool} {l:List sA} {js:List Job} (hf:pC (sB ⟨last,l,js⟩ ba)=(jt,jf,is)) (hi:is=false):sB ⟨last,l,js⟩ ba=none:=by
 cases hj:sB ⟨last,l,js⟩ ba with
 | none=>rfl
 | some j=>rw [hj] at hf;simp only [pC,Prod.mk.injEq] at hf;rw [hi] at hf;simp at hf
theorem rfirst_yes {last jt ba:Int} {jf is:Bool} {l:List sA} {js:List Job} (hf:pC (sB ⟨last,l,js⟩ ba)=(jt,jf,is)) (hi:is=true):sB ⟨last,l,js⟩ ba=some ⟨jt,jf⟩:=by
 cases hj:sB ⟨last,l,js⟩ ba with
 | none=>rw [hj] at hf;simp only [pC,Prod.mk.injEq] at hf;rw [hi] at hf;simp at hf
 | some j=>rw [hj] at hf;simp only [pC,Prod.mk.injEq] at hf;obtain ⟨rfl,rfl,-⟩:=hf;rfl
theorem rturn_spare0 {last n c:Int} {l:List sA} {js:List Job} {p:dA} (hl:p.lift=0) (h:p.slots ⟨n,1,0⟩=c) (hc:¬ c=0) (ho:(⟨last,l,js⟩:gB).of c=none):xA ⟨last,l,js⟩ n p=(lD ⟨n,1,0⟩ 3,none):=by
 have hs:p.slots (wH n)=c:=h;unfold xA;rw [if_neg (by simp [hl]),if_pos]
 ·rfl
 ·rw [hs,ho]
  exact ⟨hc,by rintro ⟨y,-,x,hx,-⟩;cases hx⟩
theorem rturn_spare1 {last n c ba:Int} {l:List sA} {js:List Job} {p:dA} (hl:p.lift=0) (hb:p.bay=ba) (h:p.slots ⟨n,1,0⟩=c) (hc:¬ c=0) (hf:sB ⟨last,l,js⟩ ba=none):xA ⟨last,l,js⟩ n p=(lD ⟨n,1,0⟩ 3,none):=by
 have hs:p.slots (wH n)=c:=h;unfold xA;rw [if_neg (by simp [hl]),if_pos]
 ·rfl
 ·rw [hs,hb,hf]
  exact ⟨hc,by rintro ⟨y,hy,-⟩;cases hy⟩
theorem rturn_spare2 {last n c ba jt:Int} {jf:Bool} {x:sA} {l:List sA} {js:List Job} {p:dA} (hl:p.lift=0) (hb:p.bay=ba) (h:p.slots ⟨n,1,0⟩=c) (hc:¬ c=0) (ho:(⟨last,l,js⟩:gB).of c=some x)
  (hf:pC (sB ⟨last,l,js⟩ ba)=(jt,jf,true)) (hv:bE ⟨last,l,js⟩ p x ⟨jt,jf⟩=false):xA ⟨last,l,js⟩ n p=(lD ⟨n,1,0⟩ 3,none):=by
 have hs:p.slots (wH n)=c:=h;unfold xA;rw [if_neg (by simp [hl]),if_pos]
 ·rfl
 ·rw [hs,hb,rfirst_yes hf rfl,ho]
  refine ⟨hc,?_⟩;rintro ⟨y,hy,x',hx,hbl⟩;cases hy;cases hx;rw [hv] at hbl;cases hbl
theorem rnext_s1 {w:World} {hb rb:Nat} {la:Option Addr} {ln lc:Nat} {last:Int} {a1:Option Addr} {m1 c1:Nat} {a2:Option Addr} {m2 c2:Nat} {gv:Value} {l:List sA} {js:List Job} {p:dA} (hh:eL w hb rb (.slice la ln lc) last a1 m1 c1 a2 m2 c2 gv l js p)
  (hwf:p.WF) (hj:Hid (∀ j∈js,∃ s∈l,s.ticket=j.ticket)) (h0:Hid (∀ s∈l,s.ticket≠0)) (hpl:Hid (∀ s∈l,uA s.home (ln:Int)=0)) (l1:1<=ln) (l4:ln<=4) (hlc:ln<=lc) (hlm:lc<=maxLen) (hm1:m1<=100) (hm2:m2<=100)
  (jt li ba:Int) (jf is dd:Bool) (hba:Hid (p.bay=ba)) (hli:Hid (p.lift=li)) (hdd:Hid (p.door=dd)) (HFJ:Hid (pC (sB ⟨last,l,js⟩ ba)=(jt,jf,is))) (hl:li=0) (c:Int) (HC:Hid (p.slots ⟨(ln:Int),1,0⟩=c)) (hc:¬ c=0) (HO:Hid ((⟨last,l,js⟩:gB).of c=none)):
  Calls prog 68 #[.pointer (some ⟨hb,0,none⟩)] w (xI w (xA ⟨last,l,js⟩ (ln:Int) p).1 (xA ⟨last,l,js⟩ (ln:Int) p).2):=by
 subst hl;have b1:=hh.st.bound;have b2:=hh.jb.bound;have HH:=aA hh;have hlt0:=cA hh.cells.1;unfold maxLen at hlm;have e0':=hh.cells.1;have e1':=hh.cells.2.1
 have L1:(1:Int)<=(ln:Int):=om
 have L4:(ln:Int)<=4:=om
 clear hh;go_enter func68,ntmps68
 go_upto_region 2 with fail
 generalize hW:World.alloc _ _=w0;have hx0:Ext w w0:=xQ hW;have r0:cI w0 w.heap.size 0 0:=cQ hW;have r1:cV w0 w.heap.size 1 (.slice none 0 0):=cQ hW;have r2:cV w0 w.heap.size 2 (.slice none 0 0):=cQ hW
 have fz:∀ i,w0.frozen? ⟨w.heap.size,i,none⟩=false:=by intro i;rw [<-hW];simp [go_sem]
 have FZ:=aA fz;have k0:=gA hx0 e0';have k1:=gA hx0 e1';have HX0:=aA hx0;clear hW hx0 fz e0' e1' hlt0
 go_upto_region 3 with (go_at_call 124;with_reducible refine mo (wF _ _) fun o1 n1=>?_)
 generalize hW:World.alloc _ _=w1;generalize hA:w0.heap.size+_=SP;have hx1:Ext w0 w1:=xQ hW;have s0:cI w1 SP 0 (ln:Int):=cR hW hA;have s1:cI w1 SP 1 1:=cR hW hA;have s2:cI w1 SP 2 0:=cR hW hA;have HX1:=aA (HX0.out.trans hx1);obtain ⟨m0,m1',v0,v1,v2⟩:=xe5 hx1 k0 k1 r0 r1 r2
 have fz1:∀ i,w1.frozen? ⟨w.heap.size,i,none⟩=false:=fun i=>kA hx1 (cA r0) (FZ.out i)
 have FZ1:=aA fz1;clear hW hA hx1 k0 k1 r0 r1 r2 FZ fz1 HX0
 go_upto_region 4 with (go_at_call 125;with_reducible refine mo (iE jt jf is (HH.out.ext (HX1.out.trans eX)) hj h0 ba hba HFJ) fun o1 n1=>?_)
 generalize hW:World.alloc _ _=w2;generalize hA:w1.heap.size+_=JB;have hx2:Ext w1 w2:=xQ hW;have j0:cI w2 JB 0 jt:=cR hW hA;have j1:cV w2 JB 1 (.bool jf):=cR hW hA;have HX2:=aA (HX1.out.trans hx2);obtain ⟨t0,t1,t2,q0,q1,q2⟩:=xe6 hx2 s0 s1 s2 v0 v1 v2
 have fz2:∀ i,w2.frozen? ⟨w.heap.size,i,none⟩=false:=fun i=>kA hx2 (cA v0) (FZ1.out i)
 have FZ2:=aA fz2;have H2:=aA (HH.out.ext HX2.out);have g1:=H2.out.cells.2.1;have g2:=H2.out.cells.2.2.1;have g3:=H2.out.cells.2.2.2.1;have g4:=H2.out.cells.2.2.2.2.1;have pd:=H2.out.pl.cells.2.2.2.1;have pl:=H2.out.pl.cells.2.2.2.2.2.1;have pb:=H2.out.pl.cells.2.2.2.2.2.2.1;rw [hdd.out] at pd;rw [hli.out] at pl;rw [hba.out] at pb;have z1:=cA q0;have z2:=cA t0;have z3:=cA j0;have z4:=cA g1;have z5:=cA pl;have hRw:w.heap.size<=w.heap.size:=Nat.le_refl _;clear hW hA hx2 m0 m1' v0 v1 v2 s0 s1 s2 FZ1 fz2 HX1 HH;have HT:Hid (xA ⟨last,l,js⟩ (ln:Int) p=(lD ⟨(ln:Int),1,0⟩ 3,none)):=rturn_spare0 hli.out HC.out hc HO.out
 go_upto_region 17 with fail
 have hxs:Ext w2 w2:=Ext.refl _;obtain ⟨q0,q1,q2,t0,t1,t2,j0,j1,g1,pd,pl,pb⟩:=iF hxs q0 q1 q2 t0 t1 t2 j0 j1 g1 pd pl pb;obtain ⟨g2,g3,g4⟩:=xe3 hxs g2 g3 g4
 have FQ:Hid (∀ i,w2.frozen? ⟨w.heap.size,i,none⟩=false):=fun i=>kA hxs z1 (FZ2.out i)
 have HXB:=aA (HX2.out.trans hxs);have HB:=aA (H2.out.ext hxs);clear hxs z1 z2 z3 z4 z5 FZ2 HX2 H2;have z1:=cA q0;have z2:=cA t0;have z3:=cA j0;have z4:=cA g1;have z5:=cA pl
 go_upto_region 18 with (go_at_call 74;with_reducible refine mo (cD (HB.out.pl.ext eX) hwf _ _ _ c HC) fun o1 n1=>?_)
 generalize hWq:World.plus _ _ _=wq;have hxq:Ext w2 wq:=xQ hWq;clear hWq;obtain ⟨q0,q1,q2,t0,t1,t2,j0,j1,g1,pd,pl,pb⟩:=iF hxq q0 q1 q2 t0 t1 t2 j0 j1 g1 pd pl pb;obtain ⟨g2,g3,g4⟩:=xe3 hxq g2 g3 g4
 replace FQ:Hid (∀ i,wq.frozen? ⟨w.heap.size,i,none⟩=false):=fun i=>kA hxq z1 (FQ.out i)
 replace HXB:=aA (HXB.out.trans hxq);replace HB:=aA (HB.out.ext hxq);clear hxq z1 z2 z3 z4 z5;have z1:=cA q0;have z2:=cA t0;have z3:=cA j0;have z4:=cA g1;have z5:=cA pl
 go_cut [13,14] (fun s13 s14 wx=>∃ A5:Nat,s13 = .pointer (some ⟨A5,0,none⟩)/\s14 = .bool false/\Ext wq wx )
 case first=>
  go_region_held3 (fun w'=>w'.cell? ⟨hb,2,none⟩=some (vi last)/\w'.cell? ⟨hb,3,none⟩=some (.slice a1 m1 c1)/\w'.cell? ⟨hb,4,none⟩=some (.slice a2 m2 c2)/\w'.cell? ⟨SP,0,none⟩=some (vi (ln:Int))/\w'.cell? ⟨SP,1,none⟩=some (vi 1)/\w'.cell? ⟨SP,2,none⟩=some (vi 0)) (first|((try dsimp only);(repeat' apply And.intro) <;> exact xC (w:=wq))) (first|(go_at_call 74;with_reducible refine mo (cD (HB.out.pl.ext eX) hwf _ _ _ c HC) fun o1 n1=>?_)|(go_at_call 100;with_reducible refine mo (refCar_none _ _ _ _ _ _ _ _ l js _ (Sl.below HB.out.st (Ext.below eX)) h0 HO) fun o1 n1=>?_))
  ·generalize hW:World.alloc _ _=w5
   generalize hA:wq.heap.size+_=A5;have hx5:Ext wq w5:=xQ hW;have xx0:cI w5 A5 0 0:=cR hW hA;have xx1:cI w5 A5 1 0:=cR hW hA;have xx2:cI w5 A5 2 0:=cR hW hA;have xx3:cI w5 A5 3 0:=cR hW hA;have xx4:cI w5 A5 4 0:=cR hW hA;have xx5:cI w5 A5 5 0:=cR hW hA;have xx6:cI w5 A5 6 0:=cR hW hA;have xx7:cI w5 A5 7 0:=cR hW hA;clear hW hA;go_wp2_with fail;go_meet;exact ⟨A5,rfl,rfl,hx5⟩
  ·generalize hW:World.setCell _ _ _=w5
   obtain ⟨xx0,xx1,xx2,xx3,xx4,xx5,xx6,xx7,hx5⟩:=rJ (w:=wq) hW eX (by first|exact Nat.le_refl _|(simp;done)|(simp;omega)) (by rw [dB _ _ _ _ sp];exact pA _ _ _ (by first|rfl|simp)) rfl;clear hW;go_wp2_with fail;go_meet;exact ⟨_,rfl,rfl,hx5⟩
  ·generalize hW:World.setCell _ _ _=w5
   obtain ⟨xx0,xx1,xx2,xx3,xx4,xx5,xx6,xx7,hx5⟩:=rJ (w:=wq) hW eX (by first|exact Nat.le_refl _|(simp;done)|(simp;omega)) (by rw [dB _ _ _ _ sp];exact pA _ _ _ (by first|rfl|simp)) rfl;clear hW;go_wp2_with fail;go_meet;exact ⟨_,rfl,rfl,hx5⟩
 case rest=>
  obtain ⟨A5,rfl,rfl,hx5⟩:=hcut;obtain ⟨q0,q1,q2,t0,t1,t2,j0,j1,g1,pd,pl,pb⟩:=iF hx5 q0 q1 q2 t0 t1 t2 j0 j1 g1 pd pl pb;obtain ⟨g2,g3,g4⟩:=xe3 hx5 g2 g3 g4
  replace FQ:Hid (∀ i,wc.frozen? ⟨w.heap.size,i,none⟩=false):=fun i=>kA hx5 z1 (FQ.out i)
  replace HXB:=aA (HXB.out.trans hx5);replace HB:=aA (HB.out.ext hx5);clear hx5 z1 z2 z3 z4 z5;have z1:=cA q0;have z2:=cA t0;have z3:=cA j0;have z4:=cA g1;have z5:=cA pl;cases is
  ·go_upto_region 23 with fail
   repeat (first|(go_big_may;(go_at_call 127;(with_reducible refine (iG _ _ _ _ _ dc dc L1 L4).mono ?_);rintro e wv ⟨v1,rfl,hown,hxv⟩;have hxz:Ext wc wv:=Ext.trans eX hxv;have fq0:=kA hxz (cA q0) (FQ.out 0);have fq1:=kA hxz (cA q0) (FQ.out 1);have fq2:=kA hxz (cA q0) (FQ.out 2);obtain ⟨pq0,pq1,pq2⟩:=xe3 hxz q0 q1 q2))|go_values|go_skip|go_guarded|go_step|go_upon|simp only [])
   have HE:xA ⟨last,l,js⟩ (ln:Int) p=(lD ⟨(ln:Int),1,0⟩ 3,none):=HT.out;obtain ⟨o0,o1,o2,ox⟩:=dE (w:=w) (x:=vi 0) (y:=.slice none 0 0) (z:=.slice none 0 0) (HXB.out.trans hxz) (Nat.le_refl _) pq0 pq1 pq2;refine bodyPost_ret (v:=.tuple #[v1,.agg #[vi 0,.slice none 0 0,.slice none 0 0],.bool false]) (by simp [results,results68,go_sem,o0,o1,o2]) rfl ?_;rw [HE];exact ⟨v1,_,_,rfl,mA (dC hown (by have:=cA q0;first|omega|(simp;omega))) (by have:=HXB.out.below.size;first|omega|(simp;omega)),mC _ _,ox⟩
  ·go_upto_region 23 with fail
   repeat (first|(go_big_may;(go_at_call 127;(with_reducible refine (iG _ _ _ _ _ dc dc L1 L4).mono ?_);rintro e wv ⟨v1,rfl,hown,hxv⟩;have hxz:Ext wc wv:=Ext.trans eX hxv;have fq0:=kA hxz (cA q0) (FQ.out 0);have fq1:=kA hxz (cA q0) (FQ.out 1);have fq2:=kA hxz (cA q0) (FQ.out 2);obtain ⟨pq0,pq1,pq2⟩:=xe3 hxz q0 q1 q2))|go_values|go_skip|go_guarded|go_step|go_upon|simp only [])
   have HE:xA ⟨last,l,js⟩ (ln:Int) p=(lD ⟨(ln:Int),1,0⟩ 3,none):=HT.out;obtain ⟨o0,o1,o2,ox⟩:=dE (w:=w) (x:=vi 0) (y:=.slice none 0 0) (z:=.slice none 0 0) (HXB.out.trans hxz) (Nat.le_refl _) pq0 pq1 pq2;refine bodyPost_ret (v:=.tuple #[v1,.agg #[vi 0,.slice none 0 0,.slice none 0 0],.bool false]) (by simp [results,results68,go_sem,o0,o1,o2]) rfl ?_;rw [HE];exact ⟨v1,_,_,rfl,mA (dC hown (by have:=cA q0;first|omega|(simp;omega))) (by have:=HXB.out.below.size;first|omega|(simp;omega)),mC _ _,ox⟩
theorem rnext_s2 {w:World} {hb rb:Nat} {la:Option Addr} {ln lc:Nat} {last:Int} {a1:Option Addr} {m1 c1:Nat} {a2:Option Addr} {m2 c2:Nat} {gv:Value} {l:List sA} {js:List Job} {p:dA} (hh:eL w hb rb (.slice la ln lc) last a1 m1 c1 a2 m2 c2 gv l js p)
  (hwf:p.WF) (hj:Hid (∀ j∈js,∃ s∈l,s.ticket=j.ticket)) (h0:Hid (∀ s∈l,s.ticket≠0)) (hpl:Hid (∀ s∈l,uA s.home (ln:Int)=0)) (l1:1<=ln) (l4:ln<=4) (hlc:ln<=lc) (hlm:lc<=maxLen) (hm1:m1<=100) (hm2:m2<=100)
  (jt li ba:Int) (jf is dd:Bool) (hba:Hid (p.bay=ba)) (hli:Hid (p.lift=li)) (hdd:Hid (p.door=dd)) (HFJ:Hid (pC (sB ⟨last,l,js⟩ ba)=(jt,jf,is))) (xt xi x1 x2 x3 u1 u2 u3:Int) (hl:li=0) (c:Int) (HC:Hid (p.slots ⟨(ln:Int),1,0⟩=c)) (hc:¬ c=0) (HO:Hid ((⟨last,l,js⟩:gB).of c=some ⟨xt,⟨xi,⟨x1,x2,x3⟩⟩,⟨u1,u2,u3⟩⟩)) (hi:is=false):
  Calls prog 68 #[.pointer (some ⟨hb,0,none⟩)] w (xI w (xA ⟨last,l,js⟩ (ln:Int) p).1 (xA ⟨last,l,js⟩ (ln:Int) p).2):=by
 subst hl;subst hi;have b1:=hh.st.bound;have b2:=hh.jb.bound;have HH:=aA hh;have hlt0:=cA hh.cells.1;unfold maxLen at hlm;have e0':=hh.cells.1;have e1':=hh.cells.2.1
 have L1:(1:Int)<=(ln:Int):=om
 have L4:(ln:Int)<=4:=om
 clear hh;go_enter func68,ntmps68
 go_upto_region 2 with fail
 generalize hW:World.alloc _ _=w0;have hx0:Ext w w0:=xQ hW;have r0:cI w0 w.heap.size 0 0:=cQ hW;have r1:cV w0 w.heap.size 1 (.slice none 0 0):=cQ hW;have r2:cV w0 w.heap.size 2 (.slice none 0 0):=cQ hW
 have fz:∀ i,w0.frozen? ⟨w.heap.size,i,none⟩=false:=by intro i;rw [<-hW];simp [go_sem]
 have FZ:=aA fz;have k0:=gA hx0 e0';have k1:=gA hx0 e1';have HX0:=aA hx0;clear hW hx0 fz e0' e1' hlt0
 go_upto_region 3 with (go_at_call 124;with_reducible refine mo (wF _ _) fun o1 n1=>?_)
 generalize hW:World.alloc _ _=w1;generalize hA:w0.heap.size+_=SP;have hx1:Ext w0 w1:=xQ hW;have s0:cI w1 SP 0 (ln:Int):=cR hW hA;have s1:cI w1 SP 1 1:=cR hW hA;have s2:cI w1 SP 2 0:=cR hW hA;have HX1:=aA (HX0.out.trans hx1);obtain ⟨m0,m1',v0,v1,v2⟩:=xe5 hx1 k0 k1 r0 r1 r2
 have fz1:∀ i,w1.frozen? ⟨w.heap.size,i,none⟩=false:=fun i=>kA hx1 (cA r0) (FZ.out i)
 have FZ1:=aA fz1;clear hW hA hx1 k0 k1 r0 r1 r2 FZ fz1 HX0
 go_upto_region 4 with (go_at_call 125;with_reducible refine mo (iE jt jf false (HH.out.ext (HX1.out.trans eX)) hj h0 ba hba HFJ) fun o1 n1=>?_)
 generalize hW:World.alloc _ _=w2;generalize hA:w1.heap.size+_=JB;have hx2:Ext w1 w2:=xQ hW;have j0:cI w2 JB 0 jt:=cR hW hA;have j1:cV w2 JB 1 (.bool jf):=cR hW hA;have HX2:=aA (HX1.out.trans hx2);obtain ⟨t0,t1,t2,q0,q1,q2⟩:=xe6 hx2 s0 s1 s2 v0 v1 v2
 have fz2:∀ i,w2.frozen? ⟨w.heap.size,i,none⟩=false:=fun i=>kA hx2 (cA v0) (FZ1.out i)
 have FZ2:=aA fz2;have H2:=aA (HH.out.ext HX2.out);have g1:=H2.out.cells.2.1;have g2:=H2.out.cells.2.2.1;have g3:=H2.out.cells.2.2.2.1;have g4:=H2.out.cells.2.2.2.2.1;have pd:=H2.out.pl.cells.2.2.2.1;have pl:=H2.out.pl.cells.2.2.2.2.2.1;have pb:=H2.out.pl.cells.2.2.2.2.2.2.1;rw [hdd.out] at pd;rw [hli.out] at pl;rw [hba.out] at pb;have z1:=cA q0;have z2:=cA t0;have z3:=cA j0;have z4:=cA g1;have z5:=cA pl;have hRw:w.heap.size<=w.heap.size:=Nat.le_refl _;clear hW hA hx2 m0 m1' v0 v1 v2 s0 s1 s2 FZ1 fz2 HX1 HH;have HT:Hid (xA ⟨last,l,js⟩ (ln:Int) p=(lD ⟨(ln:Int),1,0⟩ 3,none)):=rturn_spare1 hli.out hba.out HC.out hc (rfirst_no HFJ.out rfl)
 go_upto_region 17 with fail
 have hxs:Ext w2 w2:=Ext.refl _;obtain ⟨q0,q1,q2,t0,t1,t2,j0,j1,g1,pd,pl,pb⟩:=iF hxs q0 q1 q2 t0 t1 t2 j0 j1 g1 pd pl pb;obtain ⟨g2,g3,g4⟩:=xe3 hxs g2 g3 g4
 have FQ:Hid (∀ i,w2.frozen? ⟨w.heap.size,i,none⟩=false):=fun i=>kA hxs z1 (FZ2.out i)
 have HXB:=aA (HX2.out.trans hxs);have HB:=aA (H2.out.ext hxs);clear hxs z1 z2 z3 z4 z5 FZ2 HX2 H2;have z1:=cA q0;have z2:=cA t0;have z3:=cA j0;have z4:=cA g1;have z5:=cA pl
 go_upto_region 18 with (go_at_call 74;with_reducible refine mo (cD (HB.out.pl.ext eX) hwf _ _ _ c HC) fun o1 n1=>?_)
 generalize hWq:World.plus _ _ _=wq;have hxq:Ext w2 wq:=xQ hWq;clear hWq;obtain ⟨q0,q1,q2,t0,t1,t2,j0,j1,g1,pd,pl,pb⟩:=iF hxq q0 q1 q2 t0 t1 t2 j0 j1 g1 pd pl pb;obtain ⟨g2,g3,g4⟩:=xe3 hxq g2 g3 g4
 replace FQ:Hid (∀ i,wq.frozen? ⟨w.heap.size,i,none⟩=false):=fun i=>kA hxq z1 (FQ.out i)
 replace HXB:=aA (HXB.out.trans hxq);replace HB:=aA (HB.out.ext hxq);clear hxq z1 z2 z3 z4 z5;have z1:=cA q0;have z2:=cA t0;have z3:=cA j0;have z4:=cA g1;have z5:=cA pl
 go_cut [13,14] (fun s13 s14 wx=>∃ A5:Nat,s13 = .pointer (some ⟨A5,0,none⟩)/\s14 = .bool true/\Ext wq wx  /\cI wx A5 0 xt/\cI wx A5 1 xi/\cI wx A5 2 x1/\cI wx A5 3 x2/\cI wx A5 4 x3/\cI wx A5 5 u1/\cI wx A5 6 u2/\cI wx A5 7 u3)
 case first=>
  go_region_held3 (fun w'=>w'.cell? ⟨hb,2,none⟩=some (vi last)/\w'.cell? ⟨hb,3,none⟩=some (.slice a1 m1 c1)/\w'.cell? ⟨hb,4,none⟩=some (.slice a2 m2 c2)/\w'.cell? ⟨SP,0,none⟩=some (vi (ln:Int))/\w'.cell? ⟨SP,1,none⟩=some (vi 1)/\w'.cell? ⟨SP,2,none⟩=some (vi 0)) (first|((try dsimp only);(repeat' apply And.intro) <;> exact xC (w:=wq))) (first|(go_at_call 74;with_reducible refine mo (cD (HB.out.pl.ext eX) hwf _ _ _ c HC) fun o1 n1=>?_)|(go_at_call 100;with_reducible refine mo (fF xt xi x1 x2 x3 u1 u2 u3 _ _ _ _ _ _ _ _ l js _ (Sl.below HB.out.st (Ext.below eX)) h0 HO) fun o1 n1=>?_))
  ·generalize hW:World.alloc _ _=w5
   generalize hA:wq.heap.size+_=A5;have hx5:Ext wq w5:=xQ hW;have xx0:cI w5 A5 0 xt:=cR hW hA;have xx1:cI w5 A5 1 xi:=cR hW hA;have xx2:cI w5 A5 2 x1:=cR hW hA;have xx3:cI w5 A5 3 x2:=cR hW hA;have xx4:cI w5 A5 4 x3:=cR hW hA;have xx5:cI w5 A5 5 u1:=cR hW hA;have xx6:cI w5 A5 6 u2:=cR hW hA;have xx7:cI w5 A5 7 u3:=cR hW hA;clear hW hA;go_wp2_with fail;go_meet;exact ⟨A5,rfl,rfl,hx5,xx0,xx1,xx2,xx3,xx4,xx5,xx6,xx7⟩
  ·generalize hW:World.setCell _ _ _=w5
   obtain ⟨xx0,xx1,xx2,xx3,xx4,xx5,xx6,xx7,hx5⟩:=rJ (w:=wq) hW eX (by first|exact Nat.le_refl _|(simp;done)|(simp;omega)) (by rw [dB _ _ _ _ sp];exact pA _ _ _ (by first|rfl|simp)) rfl;clear hW;go_wp2_with fail;go_meet;exact ⟨_,rfl,rfl,hx5,xx0,xx1,xx2,xx3,xx4,xx5,xx6,xx7⟩
  ·generalize hW:World.setCell _ _ _=w5
   obtain ⟨xx0,xx1,xx2,xx3,xx4,xx5,xx6,xx7,hx5⟩:=rJ (w:=wq) hW eX (by first|exact Nat.le_refl _|(simp;done)|(simp;omega)) (by rw [dB _ _ _ _ sp];exact pA _ _ _ (by first|rfl|simp)) rfl;clear hW;go_wp2_with fail;go_meet;exact ⟨_,rfl,rfl,hx5,xx0,xx1,xx2,xx3,xx4,xx5,xx6,xx7⟩
 case rest=>
  obtain ⟨A5,rfl,rfl,hx5,c0',c1',c2',c3',c4',c5',c6',c7'⟩:=hcut;obtain ⟨q0,q1,q2,t0,t1,t2,j0,j1,g1,pd,pl,pb⟩:=iF hx5 q0 q1 q2 t0 t1 t2 j0 j1 g1 pd pl pb;obtain ⟨g2,g3,g4⟩:=xe3 hx5 g2 g3 g4
  replace FQ:Hid (∀ i,wc.frozen? ⟨w.heap.size,i,none⟩=false):=fun i=>kA hx5 z1 (FQ.out i)
  replace HXB:=aA (HXB.out.trans hx5);replace HB:=aA (HB.out.ext hx5);clear hx5 z1 z2 z3 z4 z5;have z1:=cA q0;have z2:=cA t0;have z3:=cA j0;have z4:=cA g1;have z5:=cA pl;have z6:=cA c0'
  go_upto_region 23 with fail
  repeat (first|(go_big_may;(go_at_call 127;(with_reducible refine (iG _ _ _ _ _ dc dc L1 L4).mono ?_);rintro e wv ⟨v1,rfl,hown,hxv⟩;have hxz:Ext wc wv:=Ext.trans eX hxv;have fq0:=kA hxz (cA q0) (FQ.out 0);have fq1:=kA hxz (cA q0) (FQ.out 1);have fq2:=kA hxz (cA q0) (FQ.out 2);obtain ⟨pq0,pq1,pq2⟩:=xe3 hxz q0 q1 q2))|go_values|go_skip|go_guarded|go_step|go_upon|simp only [])
  have HE:xA ⟨last,l,js⟩ (ln:Int) p=(lD ⟨(ln:Int),1,0⟩ 3,none):=HT.out;obtain ⟨o0,o1,o2,ox⟩:=dE (w:=w) (x:=vi 0) (y:=.slice none 0 0) (z:=.slice none 0 0) (HXB.out.trans hxz) (Nat.le_refl _) pq0 pq1 pq2;refine bodyPost_ret (v:=.tuple #[v1,.agg #[vi 0,.slice none 0 0,.slice none 0 0],.bool false]) (by simp [results,results68,go_sem,o0,o1,o2]) rfl ?_;rw [HE];exact ⟨v1,_,_,rfl,mA (dC hown (by have:=cA q0;first|omega|(simp;omega))) (by have:=HXB.out.below.size;first|omega|(simp;omega)),mC _ _,ox⟩
theorem rnext_s3 {w:World} {hb rb:Nat} {la:Option Addr} {ln lc:Nat} {last:Int} {a1:Option Addr} {m1 c1:Nat} {a2:Option Addr} {m2 c2:Nat} {gv:Value} {l:List sA} {js:List Job} {p:dA} (hh:eL w hb rb (.slice la ln lc) last a1 m1 c1 a2 m2 c2 gv l js p)
  (hwf:p.WF) (hj:Hid (∀ j∈js,∃ s∈l,s.ticket=j.ticket)) (h0:Hid (∀ s∈l,s.ticket≠0)) (hpl:Hid (∀ s∈l,uA s.home (ln:Int)=0)) (l1:1<=ln) (l4:ln<=4) (hlc:ln<=lc) (hlm:lc<=maxLen) (hm1:m1<=100) (hm2:m2<=100)
  (jt li ba:Int) (jf is dd:Bool) (hba:Hid (p.bay=ba)) (hli:Hid (p.lift=li)) (hdd:Hid (p.door=dd)) (HFJ:Hid (pC (sB ⟨last,l,js⟩ ba)=(jt,jf,is))) (xt xi x1 x2 x3 u1 u2 u3:Int) (hl:li=0) (c:Int) (HC:Hid (p.slots ⟨(ln:Int),1,0⟩=c)) (hc:¬ c=0) (HO:Hid ((⟨last,l,js⟩:gB).of c=some ⟨xt,⟨xi,⟨x1,x2,x3⟩⟩,⟨u1,u2,u3⟩⟩)) (hi:is=true) (HBV:Hid (bE ⟨last,l,js⟩ p ⟨xt,⟨xi,⟨x1,x2,x3⟩⟩,⟨u1,u2,u3⟩⟩ ⟨jt,jf⟩=false)):
  Calls prog 68 #[.pointer (some ⟨hb,0,none⟩)] w (xI w (xA ⟨last,l,js⟩ (ln:Int) p).1 (xA ⟨last,l,js⟩ (ln:Int) p).2):=by
 subst hl;subst hi;have b1:=hh.st.bound;have b2:=hh.jb.bound;have HH:=aA hh;have hlt0:=cA hh.cells.1;unfold maxLen at hlm;have e0':=hh.cells.1;have e1':=hh.cells.2.1
 have L1:(1:Int)<=(ln:Int):=om
 have L4:(ln:Int)<=4:=om
 clear hh;go_enter func68,ntmps68
 go_upto_region 2 with fail
 generalize hW:World.alloc _ _=w0;have hx0:Ext w w0:=xQ hW;have r0:cI w0 w.heap.size 0 0:=cQ hW;have r1:cV w0 w.heap.size 1 (.slice none 0 0):=cQ hW;have r2:cV w0 w.heap.size 2 (.slice none 0 0):=cQ hW
 have fz:∀ i,w0.frozen? ⟨w.heap.size,i,none⟩=false:=by intro i;rw [<-hW];simp [go_sem]
 have FZ:=aA fz;have k0:=gA hx0 e0';have k1:=gA hx0 e1';have HX0:=aA hx0;clear hW hx0 fz e0' e1' hlt0
 go_upto_region 3 with (go_at_call 124;with_reducible refine mo (wF _ _) fun o1 n1=>?_)
 generalize hW:World.alloc _ _=w1;generalize hA:w0.heap.size+_=SP;have hx1:Ext w0 w1:=xQ hW;have s0:cI w1 SP 0 (ln:Int):=cR hW hA;have s1:cI w1 SP 1 1:=cR hW hA;have s2:cI w1 SP 2 0:=cR hW hA;have HX1:=aA (HX0.out.trans hx1);obtain ⟨m0,m1',v0,v1,v2⟩:=xe5 hx1 k0 k1 r0 r1 r2
 have fz1:∀ i,w1.frozen? ⟨w.heap.size,i,none⟩=false:=fun i=>kA hx1 (cA r0) (FZ.out i)
 have FZ1:=aA fz1;clear hW hA hx1 k0 k1 r0 r1 r2 FZ fz1 HX0
 go_upto_region 4 with (go_at_call 125;with_reducible refine mo (iE jt jf true (HH.out.ext (HX1.out.trans eX)) hj h0 ba hba HFJ) fun o1 n1=>?_)
 generalize hW:World.alloc _ _=w2;generalize hA:w1.heap.size+_=JB;have hx2:Ext w1 w2:=xQ hW;have j0:cI w2 JB 0 jt:=cR hW hA;have j1:cV w2 JB 1 (.bool jf):=cR hW hA;have HX2:=aA (HX1.out.trans hx2);obtain ⟨t0,t1,t2,q0,q1,q2⟩:=xe6 hx2 s0 s1 s2 v0 v1 v2
 have fz2:∀ i,w2.frozen? ⟨w.heap.size,i,none⟩=false:=fun i=>kA hx2 (cA v0) (FZ1.out i)
 have FZ2:=aA fz2;have H2:=aA (HH.out.ext HX2.out);have g1:=H2.out.cells.2.1;have g2:=H2.out.cells.2.2.1;have g3:=H2.out.cells.2.2.2.1;have g4:=H2.out.cells.2.2.2.2.1;have pd:=H2.out.pl.cells.2.2.2.1;have pl:=H2.out.pl.cells.2.2.2.2.2.1;have pb:=H2.out.pl.cells.2.2.2.2.2.2.1;rw [hdd.out] at pd;rw [hli.out] at pl;rw [hba.out] at pb;have z1:=cA q0;have z2:=cA t0;have z3:=cA j0;have z4:=cA g1;have z5:=cA pl;have hRw:w.heap.size<=w.heap.size:=Nat.le_refl _;clear hW hA hx2 m0 m1' v0 v1 v2 s0 s1 s2 FZ1 fz2 HX1 HH;have HJX:Hid (∃ s∈l,s.ticket=jt):=gJ hj HFJ.out rfl
 have HJ1:Hid (jt≠0):=by unfold Hid;obtain ⟨s,hs,e⟩:=HJX.out;rw [<-e];exact h0.out s hs
 have HT:Hid (xA ⟨last,l,js⟩ (ln:Int) p=(lD ⟨(ln:Int),1,0⟩ 3,none)):=rturn_spare2 hli.out hba.out HC.out hc HO.out HFJ.out HBV.out
 go_upto_region 17 with fail
 have hxs:Ext w2 w2:=Ext.refl _;obtain ⟨q0,q1,q2,t0,t1,t2,j0,j1,g1,pd,pl,pb⟩:=iF hxs q0 q1 q2 t0 t1 t2 j0 j1 g1 pd pl pb;obtain ⟨g2,g3,g4⟩:=xe3 hxs g2 g3 g4
 have FQ:Hid (∀ i,w2.frozen? ⟨w.heap.size,i,none⟩=false):=fun i=>kA hxs z1 (FZ2.out i)
 have HXB:=aA (HX2.out.trans hxs);have HB:=aA (H2.out.ext hxs);clear hxs z1 z2 z3 z4 z5 FZ2 HX2 H2;have z1:=cA q0;have z2:=cA t0;have z3:=cA j0;have z4:=cA g1;have z5:=cA pl
 go_upto_region 18 with (go_at_call 74;with_reducible refine mo (cD (HB.out.pl.ext eX) hwf _ _ _ c HC) fun o1 n1=>?_)
 generalize hWq:World.plus _ _ _=wq;have hxq:Ext w2 wq:=xQ hWq;clear hWq;obtain ⟨q0,q1,q2,t0,t1,t2,j0,j1,g1,pd,pl,pb⟩:=iF hxq q0 q1 q2 t0 t1 t2 j0 j1 g1 pd pl pb;obtain ⟨g2,g3,g4⟩:=xe3 hxq g2 g3 g4
 replace FQ:Hid (∀ i,wq.frozen? ⟨w.heap.size,i,none⟩=false):=fun i=>kA hxq z1 (FQ.out i)
 replace HXB:=aA (HXB.out.trans hxq);replace HB:=aA (HB.out.ext hxq);clear hxq z1 z2 z3 z4 z5;have z1:=cA q0;have z2:=cA t0;have z3:=cA j0;have z4:=cA g1;have z5:=cA pl
 go_cut [13,14] (fun s13 s14 wx=>∃ A5:Nat,s13 = .pointer (some ⟨A5,0,none⟩)/\s14 = .bool true/\Ext wq wx  /\cI wx A5 0 xt/\cI wx A5 1 xi/\cI wx A5 2 x1/\cI wx A5 3 x2/\cI wx A5 4 x3/\cI wx A5 5 u1/\cI wx A5 6 u2/\cI wx A5 7 u3)
 case first=>
  go_region_held3 (fun w'=>w'.cell? ⟨hb,2,none⟩=some (vi last)/\w'.cell? ⟨hb,3,none⟩=some (.slice a1 m1 c1)/\w'.cell? ⟨hb,4,none⟩=some (.slice a2 m2 c2)/\w'.cell? ⟨SP,0,none⟩=some (vi (ln:Int))/\w'.cell? ⟨SP,1,none⟩=some (vi 1)/\w'.cell? ⟨SP,2,none⟩=some (vi 0)) (first|((try dsimp only);(repeat' apply And.intro) <;> exact xC (w:=wq))) (first|(go_at_call 74;with_reducible refine mo (cD (HB.out.pl.ext eX) hwf _ _ _ c HC) fun o1 n1=>?_)|(go_at_call 100;with_reducible refine mo (fF xt xi x1 x2 x3 u1 u2 u3 _ _ _ _ _ _ _ _ l js _ (Sl.below HB.out.st (Ext.below eX)) h0 HO) fun o1 n1=>?_))
  ·generalize hW:World.alloc _ _=w5
   generalize hA:wq.heap.size+_=A5;have hx5:Ext wq w5:=xQ hW;have xx0:cI w5 A5 0 xt:=cR hW hA;have xx1:cI w5 A5 1 xi:=cR hW hA;have xx2:cI w5 A5 2 x1:=cR hW hA;have xx3:cI w5 A5 3 x2:=cR hW hA;have xx4:cI w5 A5 4 x3:=cR hW hA;have xx5:cI w5 A5 5 u1:=cR hW hA;have xx6:cI w5 A5 6 u2:=cR hW hA;have xx7:cI w5 A5 7 u3:=cR hW hA;clear hW hA;go_wp2_with fail;go_meet;exact ⟨A5,rfl,rfl,hx5,xx0,xx1,xx2,xx3,xx4,xx5,xx6,xx7⟩
  ·generalize hW:World.setCell _ _ _=w5
   obtain ⟨xx0,xx1,xx2,xx3,xx4,xx5,xx6,xx7,hx5⟩:=rJ (w:=wq) hW eX (by first|exact Nat.le_refl _|(simp;done)|(simp;omega)) (by rw [dB _ _ _ _ sp];exact pA _ _ _ (by first|rfl|simp)) rfl;clear hW;go_wp2_with fail;go_meet;exact ⟨_,rfl,rfl,hx5,xx0,xx1,xx2,xx3,xx4,xx5,xx6,xx7⟩
  ·generalize hW:World.setCell _ _ _=w5
   obtain ⟨xx0,xx1,xx2,xx3,xx4,xx5,xx6,xx7,hx5⟩:=rJ (w:=wq) hW eX (by first|exact Nat.le_refl _|(simp;done)|(simp;omega)) (by rw [dB _ _ _ _ sp];exact pA _ _ _ (by first|rfl|simp)) rfl;clear hW;go_wp2_with fail;go_meet;exact ⟨_,rfl,rfl,hx5,xx0,xx1,xx2,xx3,xx4,xx5,xx6,xx7⟩
 case rest=>
  obtain ⟨A5,rfl,rfl,hx5,c0',c1',c2',c3',c4',c5',c6',c7'⟩:=hcut;obtain ⟨q0,q1,q2,t0,t1,t2,j0,j1,g1,pd,pl,pb⟩:=iF hx5 q0 q1 q2 t0 t1 t2 j0 j1 g1 pd pl pb;obtain ⟨g2,g3,g4⟩:=xe3 hx5 g2 g3 g4
  replace FQ:Hid (∀ i,wc.frozen? ⟨w.heap.size,i,none⟩=false):=fun i=>kA hx5 z1 (FQ.out i)
  replace HXB:=aA (HXB.out.trans hx5);replace HB:=aA (HB.out.ext hx5);clear hx5 z1 z2 z3 z4 z5;have z1:=cA q0;have z2:=cA t0;have z3:=cA j0;have z4:=cA g1;have z5:=cA pl;have z6:=cA c0'
  go_upto_region 23 with (go_at_call 128;with_reducible refine mo (tD false xt xi x1 x2 x3 u1 u2 u3 jt jf (HB.out.ext eX) hwf HJX HJ1 HBV) fun o1 n1=>?_)
  repeat (first|(go_big_may;(go_at_call 127;(with_reducible refine (iG _ _ _ _ _ dc dc L1 L4).mono ?_);rintro e wv ⟨v1,rfl,hown,hxv⟩;have hxz:Ext wc wv:=Ext.trans eX hxv;have fq0:=kA hxz (cA q0) (FQ.out 0);have fq1:=kA hxz (cA q0) (FQ.out 1);have fq2:=kA hxz (cA q0) (FQ.out 2);obtain ⟨pq0,pq1,pq2⟩:=xe3 hxz q0 q1 q2))|go_values|go_skip|go_guarded|go_step|go_upon|simp only [])
  have HE:xA ⟨last,l,js⟩ (ln:Int) p=(lD ⟨(ln:Int),1,0⟩ 3,none):=HT.out;obtain ⟨o0,o1,o2,ox⟩:=dE (w:=w) (x:=vi 0) (y:=.slice none 0 0) (z:=.slice none 0 0) (HXB.out.trans hxz) (Nat.le_refl _) pq0 pq1 pq2;refine bodyPost_ret (v:=.tuple #[v1,.agg #[vi 0,.slice none 0 0,.slice none 0 0],.bool false]) (by simp [results,results68,go_sem,o0,o1,o2]) rfl ?_;rw [HE];exact ⟨v1,_,_,rfl,mA (dC hown (by have:=cA q0;first|omega|(simp;omega))) (by have:=HXB.out.below.size;first|omega|(simp;omega)),mC _ _,ox⟩
theorem rturn_none {last n ba:Int} {dd:Bool} {l:List sA} {js:List Job} {p:dA} (hl:p.lift=0) (hb:p.bay=ba) (h:p.slots ⟨n,1,0⟩=0) (hf:sB ⟨last,l,js⟩ ba=none) (hd:p.door=dd):xA ⟨last,l,js⟩ n p=(if dd then [] else rG,none):=by
 have hs:p.slots (wH n)=0:=h;unfold xA;rw [if_neg (by simp [hl]),if_neg (by rw [hs];simp),hb,hf];dsimp only;rw [hd]
 cases dd <;> rfl
theorem rturn_job {last n ba jt c:Int} {jf:Bool} {l:List sA} {js:List Job} {p:dA} (hl:p.lift=0) (hb:p.bay=ba) (h:p.slots ⟨n,1,0⟩=c) (hf:pC (sB ⟨last,l,js⟩ ba)=(jt,jf,true))
  (hgo:c=0\/∃ xt xi x1 x2 x3 u1 u2 u3,(⟨last,l,js⟩:gB).of c=some ⟨xt,⟨xi,⟨x1,x2,x3⟩⟩,⟨u1,u2,u3⟩⟩/\bE ⟨last,l,js⟩ p ⟨xt,⟨xi,⟨x1,x2,x3⟩⟩,⟨u1,u2,u3⟩⟩ ⟨jt,jf⟩=true):xA ⟨last,l,js⟩ n p=gE ⟨last,l,js⟩ p ⟨jt,jf⟩:=by
 have hs:p.slots (wH n)=c:=h;unfold xA;rw [if_neg (by simp [hl]),if_neg,hb,rfirst_yes hf rfl];rw [hs,hb,rfirst_yes hf rfl];rintro ⟨h1,h2⟩
 rcases hgo with h3|⟨xt,xi,x1,x2,x3,u1,u2,u3,h3,h4⟩
 ·exact h1 h3
 ·exact h2 ⟨_,rfl,_,h3,h4⟩
theorem rnext_j0 {w:World} {hb rb:Nat} {la:Option Addr} {ln lc:Nat} {last:Int} {a1:Option Addr} {m1 c1:Nat} {a2:Option Addr} {m2 c2:Nat} {gv:Value} {l:List sA} {js:List Job} {p:dA} (hh:eL w hb rb (.slice la ln lc) last a1 m1 c1 a2 m2 c2 gv l js p)
  (hwf:p.WF) (hj:Hid (∀ j∈js,∃ s∈l,s.ticket=j.ticket)) (h0:Hid (∀ s∈l,s.ticket≠0)) (hpl:Hid (∀ s∈l,uA s.home (ln:Int)=0)) (l1:1<=ln) (l4:ln<=4) (hlc:ln<=lc) (hlm:lc<=maxLen) (hm1:m1<=100) (hm2:m2<=100)
  (jt li ba:Int) (jf is dd:Bool) (hba:Hid (p.bay=ba)) (hli:Hid (p.lift=li)) (hdd:Hid (p.door=dd)) (HFJ:Hid (pC (sB ⟨last,l,js⟩ ba)=(jt,jf,is))) (hl:li=0) (c:Int) (HC:Hid (p.slots ⟨(ln:Int),1,0⟩=c)) (hc:c=0) (hi:is=false):
  Calls prog 68 #[.pointer (some ⟨hb,0,none⟩)] w (xI w (xA ⟨last,l,js⟩ (ln:Int) p).1 (xA ⟨last,l,js⟩ (ln:Int) p).2):=by
 subst hl;subst hi;have b1:=hh.st.bound;have b2:=hh.jb.bound;have HH:=aA hh;have hlt0:=cA hh.cells.1;unfold maxLen at hlm;have e0':=hh.cells.1;have e1':=hh.cells.2.1
 have L1:(1:Int)<=(ln:Int):=om
 have L4:(ln:Int)<=4:=om
 clear hh;go_enter func68,ntmps68
 go_upto_region 2 with fail
 generalize hW:World.alloc _ _=w0;have hx0:Ext w w0:=xQ hW;have r0:cI w0 w.heap.size 0 0:=cQ hW;have r1:cV w0 w.heap.size 1 (.slice none 0 0):=cQ hW;have r2:cV w0 w.heap.size 2 (.slice none 0 0):=cQ hW
 have fz:∀ i,w0.frozen? ⟨w.heap.size,i,none⟩=false:=by intro i;rw [<-hW];simp [go_sem]
 have FZ:=aA fz;have k0:=gA hx0 e0';have k1:=gA hx0 e1';have HX0:=aA hx0;clear hW hx0 fz e0' e1' hlt0
 go_upto_region 3 with (go_at_call 124;with_reducible refine mo (wF _ _) fun o1 n1=>?_)
 generalize hW:World.alloc _ _=w1;generalize hA:w0.heap.size+_=SP;have hx1:Ext w0 w1:=xQ hW;have s0:cI w1 SP 0 (ln:Int):=cR hW hA;have s1:cI w1 SP 1 1:=cR hW hA;have s2:cI w1 SP 2 0:=cR hW hA;have HX1:=aA (HX0.out.trans hx1);obtain ⟨m0,m1',v0,v1,v2⟩:=xe5 hx1 k0 k1 r0 r1 r2
 have fz1:∀ i,w1.frozen? ⟨w.heap.size,i,none⟩=false:=fun i=>kA hx1 (cA r0) (FZ.out i)
 have FZ1:=aA fz1;clear hW hA hx1 k0 k1 r0 r1 r2 FZ fz1 HX0
 go_upto_region 4 with (go_at_call 125;with_reducible refine mo (iE jt jf false (HH.out.ext (HX1.out.trans eX)) hj h0 ba hba HFJ) fun o1 n1=>?_)
 generalize hW:World.alloc _ _=w2;generalize hA:w1.heap.size+_=JB;have hx2:Ext w1 w2:=xQ hW;have j0:cI w2 JB 0 jt:=cR hW hA;have j1:cV w2 JB 1 (.bool jf):=cR hW hA;have HX2:=aA (HX1.out.trans hx2);obtain ⟨t0,t1,t2,q0,q1,q2⟩:=xe6 hx2 s0 s1 s2 v0 v1 v2
 have fz2:∀ i,w2.frozen? ⟨w.heap.size,i,none⟩=false:=fun i=>kA hx2 (cA v0) (FZ1.out i)
 have FZ2:=aA fz2;have H2:=aA (HH.out.ext HX2.out);have g1:=H2.out.cells.2.1;have g2:=H2.out.cells.2.2.1;have g3:=H2.out.cells.2.2.2.1;have g4:=H2.out.cells.2.2.2.2.1;have pd:=H2.out.pl.cells.2.2.2.1;have pl:=H2.out.pl.cells.2.2.2.2.2.1;have pb:=H2.out.pl.cells.2.2.2.2.2.2.1;rw [hdd.out] at pd;rw [hli.out] at pl;rw [hba.out] at pb;have z1:=cA q0;have z2:=cA t0;have z3:=cA j0;have z4:=cA g1;have z5:=cA pl;have hRw:w.heap.size<=w.heap.size:=Nat.le_refl _;clear hW hA hx2 m0 m1' v0 v1 v2 s0 s1 s2 FZ1 fz2 HX1 HH
 go_upto_region 17 with fail
 have hxs:Ext w2 w2:=Ext.refl _;obtain ⟨q0,q1,q2,t0,t1,t2,j0,j1,g1,pd,pl,pb⟩:=iF hxs q0 q1 q2 t0 t1 t2 j0 j1 g1 pd pl pb;obtain ⟨g2,g3,g4⟩:=xe3 hxs g2 g3 g4
 have FQ:Hid (∀ i,w2.frozen? ⟨w.heap.size,i,none⟩=false):=fun i=>kA hxs z1 (FZ2.out i)
 have HXB:=aA (HX2.out.trans hxs);have HB:=aA (H2.out.ext hxs);clear hxs z1 z2 z3 z4 z5 FZ2 HX2 H2;have z1:=cA q0;have z2:=cA t0;have z3:=cA j0;have z4:=cA g1;have z5:=cA pl
 go_upto_if 112 with (go_at_call 74;with_reducible refine mo (cD (HB.out.pl.ext eX) hwf _ _ _ c HC) fun o1 n1=>?_)
 generalize hWq:World.plus _ _ _=wq;have hxq:Ext w2 wq:=xQ hWq;clear hWq;obtain ⟨q0,q1,q2,t0,t1,t2,j0,j1,g1,pd,pl,pb⟩:=iF hxq q0 q1 q2 t0 t1 t2 j0 j1 g1 pd pl pb;obtain ⟨g2,g3,g4⟩:=xe3 hxq g2 g3 g4
 replace FQ:Hid (∀ i,wq.frozen? ⟨w.heap.size,i,none⟩=false):=fun i=>kA hxq z1 (FQ.out i)
 replace HXB:=aA (HXB.out.trans hxq);replace HB:=aA (HB.out.ext hxq);clear hxq z1 z2 z3 z4 z5;have z1:=cA q0;have z2:=cA t0;have z3:=cA j0;have z4:=cA g1;have z5:=cA pl
 go_cut [] (fun wx=>Ext wq wx)
 case first=>
  subst hc;go_wp2_with fail;go_meet;exact Ext.refl _
 case rest=>
  obtain ⟨q0,q1,q2,t0,t1,t2,j0,j1,g1,pd,pl,pb⟩:=iF hcut q0 q1 q2 t0 t1 t2 j0 j1 g1 pd pl pb;obtain ⟨g2,g3,g4⟩:=xe3 hcut g2 g3 g4
  replace FQ:Hid (∀ i,wc.frozen? ⟨w.heap.size,i,none⟩=false):=fun i=>kA hcut z1 (FQ.out i)
  replace HXB:=aA (HXB.out.trans hcut);replace HB:=aA (HB.out.ext hcut);clear hcut z1 z2 z3 z4 z5;have z1:=cA q0;have z2:=cA t0;have z3:=cA j0;have z4:=cA g1;have z5:=cA pl;have HN:Hid (sB ⟨last,l,js⟩ ba=none):=rfirst_no HFJ.out rfl
  go_upto_region 25 with fail
  cases dd
  ·go_upto_region 27 with fail
   repeat (first|(go_big_may;(go_at_call 129;(with_reducible refine (rWelcome_any _).mono ?_);rintro e wv ⟨v1,rfl,hown,hxv⟩;have hxz:Ext wc wv:=Ext.trans eX hxv;have fq0:=kA hxz (cA q0) (FQ.out 0);have fq1:=kA hxz (cA q0) (FQ.out 1);have fq2:=kA hxz (cA q0) (FQ.out 2);obtain ⟨pq0,pq1,pq2⟩:=xe3 hxz q0 q1 q2))|go_values|go_skip|go_guarded|go_step|go_upon|simp only [])
   have HE:xA ⟨last,l,js⟩ (ln:Int) p=(rG,none):=rturn_none hli.out hba.out (by rw [HC.out];exact hc) HN.out hdd.out;obtain ⟨o0,o1,o2,ox⟩:=dE (w:=w) (x:=vi 0) (y:=.slice none 0 0) (z:=.slice none 0 0) (HXB.out.trans hxz) (Nat.le_refl _) pq0 pq1 pq2;refine bodyPost_ret (v:=.tuple #[v1,.agg #[vi 0,.slice none 0 0,.slice none 0 0],.bool false]) (by simp [results,results68,go_sem,o0,o1,o2]) rfl ?_;rw [HE];exact ⟨v1,_,_,rfl,mA (dC hown (by have:=cA q0;first|omega|(simp;omega))) (by have:=HXB.out.below.size;first|omega|(simp;omega)),mC _ _,ox⟩
  ·have fq0:=FQ.out 0
   have fq1:=FQ.out 1;have fq2:=FQ.out 2
   go_upto_region 26 with fail
   repeat (first|(go_big_may;fail)|go_values|go_skip|go_guarded|go_step|go_upon|simp only [])
   have HE:xA ⟨last,l,js⟩ (ln:Int) p=([],none):=rturn_none hli.out hba.out (by rw [HC.out];exact hc) HN.out hdd.out;obtain ⟨o0,o1,o2,ox⟩:=dE (w:=w) (x:=vi 0) (y:=.slice none 0 0) (z:=.slice none 0 0) HXB.out (Nat.le_refl _) q0 q1 q2;refine bodyPost_ret (v:=.tuple #[.slice none 0 0,.agg #[vi 0,.slice none 0 0,.slice none 0 0],.bool false]) (by simp [results,results68,go_sem,o0,o1,o2]) rfl ?_;rw [HE];exact ⟨_,_,_,rfl,fD _ _ _ _,mC _ _,ox⟩
