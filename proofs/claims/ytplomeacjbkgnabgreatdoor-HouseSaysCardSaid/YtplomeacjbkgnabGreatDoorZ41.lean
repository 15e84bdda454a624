import Derived.Test.YtplomeacjbkgnabGreatDoorZ38
set_option linter.all false
set_option maxRecDepth 100000
set_option maxHeartbeats 16000000
namespace Go.Proofs.YtplomeacjbkgnabGreatDoor
open Go.RowKit
theorem rfirst_no {last jt ba:Int} {jf is:Bool} {l:List Ch.Stay} {js:List Ch.Job} (hf:qB (Ch.firstJob ⟨last,l,js⟩ ba)=(jt,jf,is)) (hi:is=false):Ch.firstJob ⟨last,l,js⟩ ba=none:=by
 cases hj:Ch.firstJob ⟨last,l,js⟩ ba with
 | none=>rfl
 | some j=>rw [hj] at hf;simp only [qB,Prod.mk.injEq] at hf;rw [hi] at hf;simp at hf
theorem rfirst_yes {last jt ba:Int} {jf is:Bool} {l:List Ch.Stay} {js:List Ch.Job} (hf:qB (Ch.firstJob ⟨last,l,js⟩ ba)=(jt,jf,is)) (hi:is=true):Ch.firstJob ⟨last,l,js⟩ ba=some ⟨jt,jf⟩:=by
 cases hj:Ch.firstJob ⟨last,l,js⟩ ba with
 | none=>rw [hj] at hf;simp only [qB,Prod.mk.injEq] at hf;rw [hi] at hf;simp at hf
 | some j=>rw [hj] at hf;simp only [qB,Prod.mk.injEq] at hf;obtain ⟨rfl,rfl,-⟩:=hf;rfl
theorem rturn_spare0 {last n c:Int} {l:List Ch.Stay} {js:List Ch.Job} {p:Ch.Plant} (hl:p.lift=0) (h:p.slots ⟨n,1,0⟩=c) (hc:¬ c=0) (ho:(⟨last,l,js⟩:Ch.Book).of c=none):Ch.turnOf ⟨last,l,js⟩ n p=(Ch.there ⟨n,1,0⟩ 3,none):=by
 have hs:p.slots (Ch.spare n)=c:=h;unfold Ch.turnOf;rw [if_neg (by simp [hl]),if_pos]
 ·rfl
 ·rw [hs,ho]
  exact ⟨hc,by rintro ⟨y,-,x,hx,-⟩;cases hx⟩
theorem rturn_spare1 {last n c ba:Int} {l:List Ch.Stay} {js:List Ch.Job} {p:Ch.Plant} (hl:p.lift=0) (hb:p.bay=ba) (h:p.slots ⟨n,1,0⟩=c) (hc:¬ c=0) (hf:Ch.firstJob ⟨last,l,js⟩ ba=none):Ch.turnOf ⟨last,l,js⟩ n p=(Ch.there ⟨n,1,0⟩ 3,none):=by
 have hs:p.slots (Ch.spare n)=c:=h;unfold Ch.turnOf;rw [if_neg (by simp [hl]),if_pos]
 ·rfl
 ·rw [hs,hb,hf]
  exact ⟨hc,by rintro ⟨y,hy,-⟩;cases hy⟩
theorem rturn_spare2 {last n c ba jt:Int} {jf:Bool} {x:Ch.Stay} {l:List Ch.Stay} {js:List Ch.Job} {p:Ch.Plant} (hl:p.lift=0) (hb:p.bay=ba) (h:p.slots ⟨n,1,0⟩=c) (hc:¬ c=0) (ho:(⟨last,l,js⟩:Ch.Book).of c=some x)
  (hf:qB (Ch.firstJob ⟨last,l,js⟩ ba)=(jt,jf,true)) (hv:Ch.blocks ⟨last,l,js⟩ p x ⟨jt,jf⟩=false):Ch.turnOf ⟨last,l,js⟩ n p=(Ch.there ⟨n,1,0⟩ 3,none):=by
 have hs:p.slots (Ch.spare n)=c:=h;unfold Ch.turnOf;rw [if_neg (by simp [hl]),if_pos]
 ·rfl
 ·rw [hs,hb,rfirst_yes hf rfl,ho]
  refine ⟨hc,?_⟩;rintro ⟨y,hy,x',hx,hbl⟩;cases hy;cases hx;rw [hv] at hbl;cases hbl
theorem rnext_s1 {w:World} {hb rb:Nat} {la:Option Addr} {ln lc:Nat} {last:Int} {a1:Option Addr} {m1 c1:Nat} {a2:Option Addr} {m2 c2:Nat} {gv:Value} {l:List Ch.Stay} {js:List Ch.Job} {p:Ch.Plant} (hh:cH w hb rb (.slice la ln lc) last a1 m1 c1 a2 m2 c2 gv l js p)
  (hwf:p.WF) (hj:Hid (∀ j∈js,∃ s∈l,s.ticket=j.ticket)) (h0:Hid (∀ s∈l,s.ticket≠0)) (hpl:Hid (∀ s∈l,Ch.placeFault s.home (ln:Int)=0)) (l1:1≤ln) (l4:ln≤4) (hlc:ln≤lc) (hlm:lc≤maxLen) (hm1:m1≤100) (hm2:m2≤100)
  (jt li ba:Int) (jf is dd:Bool) (hba:Hid (p.bay=ba)) (hli:Hid (p.lift=li)) (hdd:Hid (p.door=dd)) (HFJ:Hid (qB (Ch.firstJob ⟨last,l,js⟩ ba)=(jt,jf,is))) (hl:li=0) (c:Int) (HC:Hid (p.slots ⟨(ln:Int),1,0⟩=c)) (hc:¬ c=0) (HO:Hid ((⟨last,l,js⟩:Ch.Book).of c=none)):
  Calls Tryz.prog 68 #[.pointer (some ⟨hb,0,none⟩)] w (rF w (Ch.turnOf ⟨last,l,js⟩ (ln:Int) p).1 (Ch.turnOf ⟨last,l,js⟩ (ln:Int) p).2):=by
 subst hl;have b1:=hh.st.bound;have b2:=hh.jb.bound;have HH:=aA hh;have hlt0:=dA hh.cells.1;unfold maxLen at hlm;have e0':=hh.cells.1;have e1':=hh.cells.2.1
 have L1:(1:Int)≤(ln:Int):=by omega
 have L4:(ln:Int)≤4:=by omega
 clear hh;go_enter Tryz.func68,Tryz.ntmps68
 go_upto_region 2 with fail
 generalize hW:World.alloc _ _=w0;have hx0:Ext w w0:=xQ hW;have r0:w0.cell? ⟨w.heap.size,0,none⟩=some (vi 0):=cQ hW;have r1:w0.cell? ⟨w.heap.size,1,none⟩=some (.slice none 0 0):=cQ hW;have r2:w0.cell? ⟨w.heap.size,2,none⟩=some (.slice none 0 0):=cQ hW
 have fz:∀ i,w0.frozen? ⟨w.heap.size,i,none⟩=false:=by intro i;rw [←hW];simp [go_sem]
 have FZ:=aA fz;have k0:=eA hx0 e0';have k1:=eA hx0 e1';have HX0:=aA hx0;clear hW hx0 fz e0' e1' hlt0
 go_upto_region 3 with (go_at_call 124;(with_reducible refine (lD _ _).mono ?_);rintro e w1 ⟨rfl,o1,n1,rfl⟩)
 generalize hW:World.alloc _ _=w1;generalize hA:w0.heap.size+_=SP;have hx1:Ext w0 w1:=xQ hW;have s0:w1.cell? ⟨SP,0,none⟩=some (vi (ln:Int)):=cR hW hA;have s1:w1.cell? ⟨SP,1,none⟩=some (vi 1):=cR hW hA;have s2:w1.cell? ⟨SP,2,none⟩=some (vi 0):=cR hW hA;have HX1:=aA (HX0.out.trans hx1);have m0:=eA hx1 k0;have m1':=eA hx1 k1;have v0:=eA hx1 r0;have v1:=eA hx1 r1;have v2:=eA hx1 r2
 have fz1:∀ i,w1.frozen? ⟨w.heap.size,i,none⟩=false:=fun i=>kA hx1 (dA r0) (FZ.out i)
 have FZ1:=aA fz1;clear hW hA hx1 k0 k1 r0 r1 r2 FZ fz1 HX0
 go_upto_region 4 with (go_at_call 125;(with_reducible refine (mC jt jf is (HH.out.ext (HX1.out.trans eX)) hj h0 ba hba HFJ).mono ?_);rintro e w1 ⟨rfl,o1,n1,rfl⟩)
 generalize hW:World.alloc _ _=w2;generalize hA:w1.heap.size+_=JB;have hx2:Ext w1 w2:=xQ hW;have j0:w2.cell? ⟨JB,0,none⟩=some (vi jt):=cR hW hA;have j1:w2.cell? ⟨JB,1,none⟩=some (.bool jf):=cR hW hA;have HX2:=aA (HX1.out.trans hx2);have t0:=eA hx2 s0;have t1:=eA hx2 s1;have t2:=eA hx2 s2;have q0:=eA hx2 v0;have q1:=eA hx2 v1;have q2:=eA hx2 v2
 have fz2:∀ i,w2.frozen? ⟨w.heap.size,i,none⟩=false:=fun i=>kA hx2 (dA v0) (FZ1.out i)
 have FZ2:=aA fz2;have H2:=aA (HH.out.ext HX2.out);have g1:=H2.out.cells.2.1;have g2:=H2.out.cells.2.2.1;have g3:=H2.out.cells.2.2.2.1;have g4:=H2.out.cells.2.2.2.2.1;have pd:=H2.out.pl.cells.2.2.2.1;have pl:=H2.out.pl.cells.2.2.2.2.2.1;have pb:=H2.out.pl.cells.2.2.2.2.2.2.1;rw [hdd.out] at pd;rw [hli.out] at pl;rw [hba.out] at pb;have z1:=dA q0;have z2:=dA t0;have z3:=dA j0;have z4:=dA g1;have z5:=dA pl;have hRw:w.heap.size≤w.heap.size:=Nat.le_refl _;clear hW hA hx2 m0 m1' v0 v1 v2 s0 s1 s2 FZ1 fz2 HX1 HH;have HT:Hid (Ch.turnOf ⟨last,l,js⟩ (ln:Int) p=(Ch.there ⟨(ln:Int),1,0⟩ 3,none)):=rturn_spare0 hli.out HC.out hc HO.out
 go_upto_region 17 with fail
 have hxs:Ext w2 w2:=Ext.refl _;replace q0:=eA hxs q0;replace q1:=eA hxs q1;replace q2:=eA hxs q2;replace t0:=eA hxs t0;replace t1:=eA hxs t1;replace t2:=eA hxs t2;replace j0:=eA hxs j0;replace j1:=eA hxs j1;replace g1:=eA hxs g1;replace pd:=eA hxs pd;replace pl:=eA hxs pl;replace pb:=eA hxs pb;replace g2:=eA hxs g2;replace g3:=eA hxs g3;replace g4:=eA hxs g4
 have FQ:Hid (∀ i,w2.frozen? ⟨w.heap.size,i,none⟩=false):=fun i=>kA hxs z1 (FZ2.out i)
 have HXB:=aA (HX2.out.trans hxs);have HB:=aA (H2.out.ext hxs);clear hxs z1 z2 z3 z4 z5 FZ2 HX2 H2;have z1:=dA q0;have z2:=dA t0;have z3:=dA j0;have z4:=dA g1;have z5:=dA pl
 go_upto_region 18 with (go_at_call 74;(with_reducible refine (jC (HB.out.pl.ext eX) hwf _ _ _ c HC).mono ?_);rintro e w1 ⟨rfl,o1,n1,rfl⟩)
 generalize hWq:World.plus _ _ _=wq;have hxq:Ext w2 wq:=xQ hWq;clear hWq;replace q0:=eA hxq q0;replace q1:=eA hxq q1;replace q2:=eA hxq q2;replace t0:=eA hxq t0;replace t1:=eA hxq t1;replace t2:=eA hxq t2;replace j0:=eA hxq j0;replace j1:=eA hxq j1;replace g1:=eA hxq g1;replace pd:=eA hxq pd;replace pl:=eA hxq pl;replace pb:=eA hxq pb;replace g2:=eA hxq g2;replace g3:=eA hxq g3;replace g4:=eA hxq g4
 replace FQ:Hid (∀ i,wq.frozen? ⟨w.heap.size,i,none⟩=false):=fun i=>kA hxq z1 (FQ.out i)
 replace HXB:=aA (HXB.out.trans hxq);replace HB:=aA (HB.out.ext hxq);clear hxq z1 z2 z3 z4 z5;have z1:=dA q0;have z2:=dA t0;have z3:=dA j0;have z4:=dA g1;have z5:=dA pl
 go_cut [13,14] (fun s13 s14 wx=>∃ A5:Nat,s13 = .pointer (some ⟨A5,0,none⟩)∧s14 = .bool false∧Ext wq wx )
 case first=>
  go_region_held3 (fun w'=>w'.cell? ⟨hb,2,none⟩=some (vi last)∧w'.cell? ⟨hb,3,none⟩=some (.slice a1 m1 c1)∧w'.cell? ⟨hb,4,none⟩=some (.slice a2 m2 c2)∧w'.cell? ⟨SP,0,none⟩=some (vi (ln:Int))∧w'.cell? ⟨SP,1,none⟩=some (vi 1)∧w'.cell? ⟨SP,2,none⟩=some (vi 0)) (first|((try dsimp only);(repeat' apply And.intro) <;> exact xC (w:=wq))) (first|(go_at_call 74;(with_reducible refine (jC (HB.out.pl.ext eX) hwf _ _ _ c HC).mono ?_);rintro e w1 ⟨rfl,o1,n1,rfl⟩)|(go_at_call 100;(with_reducible refine (refCar_none _ _ _ _ _ _ _ _ l js _ (Sl.below HB.out.st (Ext.below eX)) h0 HO).mono ?_);rintro e w1 ⟨rfl,o1,n1,rfl⟩))
  ·generalize hW:World.alloc _ _=w5
   generalize hA:wq.heap.size+_=A5;have hx5:Ext wq w5:=xQ hW;have xx0:w5.cell? ⟨A5,0,none⟩=some (vi 0):=cR hW hA;have xx1:w5.cell? ⟨A5,1,none⟩=some (vi 0):=cR hW hA;have xx2:w5.cell? ⟨A5,2,none⟩=some (vi 0):=cR hW hA;have xx3:w5.cell? ⟨A5,3,none⟩=some (vi 0):=cR hW hA;have xx4:w5.cell? ⟨A5,4,none⟩=some (vi 0):=cR hW hA;have xx5:w5.cell? ⟨A5,5,none⟩=some (vi 0):=cR hW hA;have xx6:w5.cell? ⟨A5,6,none⟩=some (vi 0):=cR hW hA;have xx7:w5.cell? ⟨A5,7,none⟩=some (vi 0):=cR hW hA;clear hW hA;go_wp2_with fail;go_meet;exact ⟨A5,rfl,rfl,hx5⟩
  ·generalize hW:World.setCell _ _ _=w5
   obtain ⟨xx0,xx1,xx2,xx3,xx4,xx5,xx6,xx7,hx5⟩:=cG (w:=wq) hW eX (by first|exact Nat.le_refl _|(simp;done)|(simp;omega)) (by rw [bB _ _ _ _ (by simp)];exact sA _ _ _ (by first|rfl|simp)) rfl;clear hW;go_wp2_with fail;go_meet;exact ⟨_,rfl,rfl,hx5⟩
  ·generalize hW:World.setCell _ _ _=w5
   obtain ⟨xx0,xx1,xx2,xx3,xx4,xx5,xx6,xx7,hx5⟩:=cG (w:=wq) hW eX (by first|exact Nat.le_refl _|(simp;done)|(simp;omega)) (by rw [bB _ _ _ _ (by simp)];exact sA _ _ _ (by first|rfl|simp)) rfl;clear hW;go_wp2_with fail;go_meet;exact ⟨_,rfl,rfl,hx5⟩
 case rest=>
  obtain ⟨A5,rfl,rfl,hx5⟩:=hcut;replace q0:=eA hx5 q0;replace q1:=eA hx5 q1;replace q2:=eA hx5 q2;replace t0:=eA hx5 t0;replace t1:=eA hx5 t1;replace t2:=eA hx5 t2;replace j0:=eA hx5 j0;replace j1:=eA hx5 j1;replace g1:=eA hx5 g1;replace pd:=eA hx5 pd;replace pl:=eA hx5 pl;replace pb:=eA hx5 pb;replace g2:=eA hx5 g2;replace g3:=eA hx5 g3;replace g4:=eA hx5 g4
  replace FQ:Hid (∀ i,wc.frozen? ⟨w.heap.size,i,none⟩=false):=fun i=>kA hx5 z1 (FQ.out i)
  replace HXB:=aA (HXB.out.trans hx5);replace HB:=aA (HB.out.ext hx5);clear hx5 z1 z2 z3 z4 z5;have z1:=dA q0;have z2:=dA t0;have z3:=dA j0;have z4:=dA g1;have z5:=dA pl;cases is
  ·go_upto_region 23 with fail
   repeat (first|(go_big_may;(go_at_call 127;(with_reducible refine (rD _ _ _ _ _ (by decide) (by decide) L1 L4).mono ?_);rintro e wv ⟨v1,rfl,hown,hxv⟩;have hxz:Ext wc wv:=Ext.trans eX hxv;have fq0:=kA hxz (dA q0) (FQ.out 0);have fq1:=kA hxz (dA q0) (FQ.out 1);have fq2:=kA hxz (dA q0) (FQ.out 2);have pq0:=eA hxz q0;have pq1:=eA hxz q1;have pq2:=eA hxz q2))|go_values|go_skip|go_guarded|go_step|go_upon|simp only [])
   have HE:Ch.turnOf ⟨last,l,js⟩ (ln:Int) p=(Ch.there ⟨(ln:Int),1,0⟩ 3,none):=HT.out;obtain ⟨o0,o1,o2,ox⟩:=lC (w:=w) (x:=vi 0) (y:=.slice none 0 0) (z:=.slice none 0 0) (HXB.out.trans hxz) (Nat.le_refl _) pq0 pq1 pq2;refine bodyPost_ret (v:=.tuple #[v1,.agg #[vi 0,.slice none 0 0,.slice none 0 0],.bool false]) (by simp [results,Tryz.results68,go_sem,o0,o1,o2]) rfl ?_;rw [HE];exact ⟨v1,_,_,rfl,rA (jB hown (by have:=dA q0;first|omega|(simp;omega))) (by have:=HXB.out.below.size;first|omega|(simp;omega)),pB _ _,ox⟩
  ·go_upto_region 23 with fail
   repeat (first|(go_big_may;(go_at_call 127;(with_reducible refine (rD _ _ _ _ _ (by decide) (by decide) L1 L4).mono ?_);rintro e wv ⟨v1,rfl,hown,hxv⟩;have hxz:Ext wc wv:=Ext.trans eX hxv;have fq0:=kA hxz (dA q0) (FQ.out 0);have fq1:=kA hxz (dA q0) (FQ.out 1);have fq2:=kA hxz (dA q0) (FQ.out 2);have pq0:=eA hxz q0;have pq1:=eA hxz q1;have pq2:=eA hxz q2))|go_values|go_skip|go_guarded|go_step|go_upon|simp only [])
   have HE:Ch.turnOf ⟨last,l,js⟩ (ln:Int) p=(Ch.there ⟨(ln:Int),1,0⟩ 3,none):=HT.out;obtain ⟨o0,o1,o2,ox⟩:=lC (w:=w) (x:=vi 0) (y:=.slice none 0 0) (z:=.slice none 0 0) (HXB.out.trans hxz) (Nat.le_refl _) pq0 pq1 pq2;refine bodyPost_ret (v:=.tuple #[v1,.agg #[vi 0,.slice none 0 0,.slice none 0 0],.bool false]) (by simp [results,Tryz.results68,go_sem,o0,o1,o2]) rfl ?_;rw [HE];exact ⟨v1,_,_,rfl,rA (jB hown (by have:=dA q0;first|omega|(simp;omega))) (by have:=HXB.out.below.size;first|omega|(simp;omega)),pB _ _,ox⟩
theorem rnext_s2 {w:World} {hb rb:Nat} {la:Option Addr} {ln lc:Nat} {last:Int} {a1:Option Addr} {m1 c1:Nat} {a2:Option Addr} {m2 c2:Nat} {gv:Value} {l:List Ch.Stay} {js:List Ch.Job} {p:Ch.Plant} (hh:cH w hb rb (.slice la ln lc) last a1 m1 c1 a2 m2 c2 gv l js p)
  (hwf:p.WF) (hj:Hid (∀ j∈js,∃ s∈l,s.ticket=j.ticket)) (h0:Hid (∀ s∈l,s.ticket≠0)) (hpl:Hid (∀ s∈l,Ch.placeFault s.home (ln:Int)=0)) (l1:1≤ln) (l4:ln≤4) (hlc:ln≤lc) (hlm:lc≤maxLen) (hm1:m1≤100) (hm2:m2≤100)
  (jt li ba:Int) (jf is dd:Bool) (hba:Hid (p.bay=ba)) (hli:Hid (p.lift=li)) (hdd:Hid (p.door=dd)) (HFJ:Hid (qB (Ch.firstJob ⟨last,l,js⟩ ba)=(jt,jf,is))) (xt xi x1 x2 x3 u1 u2 u3:Int) (hl:li=0) (c:Int) (HC:Hid (p.slots ⟨(ln:Int),1,0⟩=c)) (hc:¬ c=0) (HO:Hid ((⟨last,l,js⟩:Ch.Book).of c=some ⟨xt,⟨xi,⟨x1,x2,x3⟩⟩,⟨u1,u2,u3⟩⟩)) (hi:is=false):
  Calls Tryz.prog 68 #[.pointer (some ⟨hb,0,none⟩)] w (rF w (Ch.turnOf ⟨last,l,js⟩ (ln:Int) p).1 (Ch.turnOf ⟨last,l,js⟩ (ln:Int) p).2):=by
 subst hl;subst hi;have b1:=hh.st.bound;have b2:=hh.jb.bound;have HH:=aA hh;have hlt0:=dA hh.cells.1;unfold maxLen at hlm;have e0':=hh.cells.1;have e1':=hh.cells.2.1
 have L1:(1:Int)≤(ln:Int):=by omega
 have L4:(ln:Int)≤4:=by omega
 clear hh;go_enter Tryz.func68,Tryz.ntmps68
 go_upto_region 2 with fail
 generalize hW:World.alloc _ _=w0;have hx0:Ext w w0:=xQ hW;have r0:w0.cell? ⟨w.heap.size,0,none⟩=some (vi 0):=cQ hW;have r1:w0.cell? ⟨w.heap.size,1,none⟩=some (.slice none 0 0):=cQ hW;have r2:w0.cell? ⟨w.heap.size,2,none⟩=some (.slice none 0 0):=cQ hW
 have fz:∀ i,w0.frozen? ⟨w.heap.size,i,none⟩=false:=by intro i;rw [←hW];simp [go_sem]
 have FZ:=aA fz;have k0:=eA hx0 e0';have k1:=eA hx0 e1';have HX0:=aA hx0;clear hW hx0 fz e0' e1' hlt0
 go_upto_region 3 with (go_at_call 124;(with_reducible refine (lD _ _).mono ?_);rintro e w1 ⟨rfl,o1,n1,rfl⟩)
 generalize hW:World.alloc _ _=w1;generalize hA:w0.heap.size+_=SP;have hx1:Ext w0 w1:=xQ hW;have s0:w1.cell? ⟨SP,0,none⟩=some (vi (ln:Int)):=cR hW hA;have s1:w1.cell? ⟨SP,1,none⟩=some (vi 1):=cR hW hA;have s2:w1.cell? ⟨SP,2,none⟩=some (vi 0):=cR hW hA;have HX1:=aA (HX0.out.trans hx1);have m0:=eA hx1 k0;have m1':=eA hx1 k1;have v0:=eA hx1 r0;have v1:=eA hx1 r1;have v2:=eA hx1 r2
 have fz1:∀ i,w1.frozen? ⟨w.heap.size,i,none⟩=false:=fun i=>kA hx1 (dA r0) (FZ.out i)
 have FZ1:=aA fz1;clear hW hA hx1 k0 k1 r0 r1 r2 FZ fz1 HX0
 go_upto_region 4 with (go_at_call 125;(with_reducible refine (mC jt jf false (HH.out.ext (HX1.out.trans eX)) hj h0 ba hba HFJ).mono ?_);rintro e w1 ⟨rfl,o1,n1,rfl⟩)
 generalize hW:World.alloc _ _=w2;generalize hA:w1.heap.size+_=JB;have hx2:Ext w1 w2:=xQ hW;have j0:w2.cell? ⟨JB,0,none⟩=some (vi jt):=cR hW hA;have j1:w2.cell? ⟨JB,1,none⟩=some (.bool jf):=cR hW hA;have HX2:=aA (HX1.out.trans hx2);have t0:=eA hx2 s0;have t1:=eA hx2 s1;have t2:=eA hx2 s2;have q0:=eA hx2 v0;have q1:=eA hx2 v1;have q2:=eA hx2 v2
 have fz2:∀ i,w2.frozen? ⟨w.heap.size,i,none⟩=false:=fun i=>kA hx2 (dA v0) (FZ1.out i)
 have FZ2:=aA fz2;have H2:=aA (HH.out.ext HX2.out);have g1:=H2.out.cells.2.1;have g2:=H2.out.cells.2.2.1;have g3:=H2.out.cells.2.2.2.1;have g4:=H2.out.cells.2.2.2.2.1;have pd:=H2.out.pl.cells.2.2.2.1;have pl:=H2.out.pl.cells.2.2.2.2.2.1;have pb:=H2.out.pl.cells.2.2.2.2.2.2.1;rw [hdd.out] at pd;rw [hli.out] at pl;rw [hba.out] at pb;have z1:=dA q0;have z2:=dA t0;have z3:=dA j0;have z4:=dA g1;have z5:=dA pl;have hRw:w.heap.size≤w.heap.size:=Nat.le_refl _;clear hW hA hx2 m0 m1' v0 v1 v2 s0 s1 s2 FZ1 fz2 HX1 HH;have HT:Hid (Ch.turnOf ⟨last,l,js⟩ (ln:Int) p=(Ch.there ⟨(ln:Int),1,0⟩ 3,none)):=rturn_spare1 hli.out hba.out HC.out hc (rfirst_no HFJ.out rfl)
 go_upto_region 17 with fail
 have hxs:Ext w2 w2:=Ext.refl _;replace q0:=eA hxs q0;replace q1:=eA hxs q1;replace q2:=eA hxs q2;replace t0:=eA hxs t0;replace t1:=eA hxs t1;replace t2:=eA hxs t2;replace j0:=eA hxs j0;replace j1:=eA hxs j1;replace g1:=eA hxs g1;replace pd:=eA hxs pd;replace pl:=eA hxs pl;replace pb:=eA hxs pb;replace g2:=eA hxs g2;replace g3:=eA hxs g3;replace g4:=eA hxs g4
 have FQ:Hid (∀ i,w2.frozen? ⟨w.heap.size,i,none⟩=false):=fun i=>kA hxs z1 (FZ2.out i)
 have HXB:=aA (HX2.out.trans hxs);have HB:=aA (H2.out.ext hxs);clear hxs z1 z2 z3 z4 z5 FZ2 HX2 H2;have z1:=dA q0;have z2:=dA t0;have z3:=dA j0;have z4:=dA g1;have z5:=dA pl
 go_upto_region 18 with (go_at_call 74;(with_reducible refine (jC (HB.out.pl.ext eX) hwf _ _ _ c HC).mono ?_);rintro e w1 ⟨rfl,o1,n1,rfl⟩)
 generalize hWq:World.plus _ _ _=wq;have hxq:Ext w2 wq:=xQ hWq;clear hWq;replace q0:=eA hxq q0;replace q1:=eA hxq q1;replace q2:=eA hxq q2;replace t0:=eA hxq t0;replace t1:=eA hxq t1;replace t2:=eA hxq t2;replace j0:=eA hxq j0;replace j1:=eA hxq j1;replace g1:=eA hxq g1;replace pd:=eA hxq pd;replace pl:=eA hxq pl;replace pb:=eA hxq pb;replace g2:=eA hxq g2;replace g3:=eA hxq g3;replace g4:=eA hxq g4
 replace FQ:Hid (∀ i,wq.frozen? ⟨w.heap.size,i,none⟩=false):=fun i=>kA hxq z1 (FQ.out i)
 replace HXB:=aA (HXB.out.trans hxq);replace HB:=aA (HB.out.ext hxq);clear hxq z1 z2 z3 z4 z5;have z1:=dA q0;have z2:=dA t0;have z3:=dA j0;have z4:=dA g1;have z5:=dA pl
 go_cut [13,14] (fun s13 s14 wx=>∃ A5:Nat,s13 = .pointer (some ⟨A5,0,none⟩)∧s14 = .bool true∧Ext wq wx  ∧ wx.cell? ⟨A5,0,none⟩=some (vi xt)∧wx.cell? ⟨A5,1,none⟩=some (vi xi)∧wx.cell? ⟨A5,2,none⟩=some (vi x1)∧wx.cell? ⟨A5,3,none⟩=some (vi x2)∧wx.cell? ⟨A5,4,none⟩=some (vi x3)∧wx.cell? ⟨A5,5,none⟩=some (vi u1)∧wx.cell? ⟨A5,6,none⟩=some (vi u2)∧wx.cell? ⟨A5,7,none⟩=some (vi u3))
 case first=>
  go_region_held3 (fun w'=>w'.cell? ⟨hb,2,none⟩=some (vi last)∧w'.cell? ⟨hb,3,none⟩=some (.slice a1 m1 c1)∧w'.cell? ⟨hb,4,none⟩=some (.slice a2 m2 c2)∧w'.cell? ⟨SP,0,none⟩=some (vi (ln:Int))∧w'.cell? ⟨SP,1,none⟩=some (vi 1)∧w'.cell? ⟨SP,2,none⟩=some (vi 0)) (first|((try dsimp only);(repeat' apply And.intro) <;> exact xC (w:=wq))) (first|(go_at_call 74;(with_reducible refine (jC (HB.out.pl.ext eX) hwf _ _ _ c HC).mono ?_);rintro e w1 ⟨rfl,o1,n1,rfl⟩)|(go_at_call 100;(with_reducible refine (bD xt xi x1 x2 x3 u1 u2 u3 _ _ _ _ _ _ _ _ l js _ (Sl.below HB.out.st (Ext.below eX)) h0 HO).mono ?_);rintro e w1 ⟨rfl,o1,n1,rfl⟩))
  ·generalize hW:World.alloc _ _=w5
   generalize hA:wq.heap.size+_=A5;have hx5:Ext wq w5:=xQ hW;have xx0:w5.cell? ⟨A5,0,none⟩=some (vi xt):=cR hW hA;have xx1:w5.cell? ⟨A5,1,none⟩=some (vi xi):=cR hW hA;have xx2:w5.cell? ⟨A5,2,none⟩=some (vi x1):=cR hW hA;have xx3:w5.cell? ⟨A5,3,none⟩=some (vi x2):=cR hW hA;have xx4:w5.cell? ⟨A5,4,none⟩=some (vi x3):=cR hW hA;have xx5:w5.cell? ⟨A5,5,none⟩=some (vi u1):=cR hW hA;have xx6:w5.cell? ⟨A5,6,none⟩=some (vi u2):=cR hW hA;have xx7:w5.cell? ⟨A5,7,none⟩=some (vi u3):=cR hW hA;clear hW hA;go_wp2_with fail;go_meet;exact ⟨A5,rfl,rfl,hx5,xx0,xx1,xx2,xx3,xx4,xx5,xx6,xx7⟩
  ·generalize hW:World.setCell _ _ _=w5
   obtain ⟨xx0,xx1,xx2,xx3,xx4,xx5,xx6,xx7,hx5⟩:=cG (w:=wq) hW eX (by first|exact Nat.le_refl _|(simp;done)|(simp;omega)) (by rw [bB _ _ _ _ (by simp)];exact sA _ _ _ (by first|rfl|simp)) rfl;clear hW;go_wp2_with fail;go_meet;exact ⟨_,rfl,rfl,hx5,xx0,xx1,xx2,xx3,xx4,xx5,xx6,xx7⟩
  ·generalize hW:World.setCell _ _ _=w5
   obtain ⟨xx0,xx1,xx2,xx3,xx4,xx5,xx6,xx7,hx5⟩:=cG (w:=wq) hW eX (by first|exact Nat.le_refl _|(simp;done)|(simp;omega)) (by rw [bB _ _ _ _ (by simp)];exact sA _ _ _ (by first|rfl|simp)) rfl;clear hW;go_wp2_with fail;go_meet;exact ⟨_,rfl,rfl,hx5,xx0,xx1,xx2,xx3,xx4,xx5,xx6,xx7⟩
 case rest=>
  obtain ⟨A5,rfl,rfl,hx5,c0',c1',c2',c3',c4',c5',c6',c7'⟩:=hcut;replace q0:=eA hx5 q0;replace q1:=eA hx5 q1;replace q2:=eA hx5 q2;replace t0:=eA hx5 t0;replace t1:=eA hx5 t1;replace t2:=eA hx5 t2;replace j0:=eA hx5 j0;replace j1:=eA hx5 j1;replace g1:=eA hx5 g1;replace pd:=eA hx5 pd;replace pl:=eA hx5 pl;replace pb:=eA hx5 pb;replace g2:=eA hx5 g2;replace g3:=eA hx5 g3;replace g4:=eA hx5 g4
  replace FQ:Hid (∀ i,wc.frozen? ⟨w.heap.size,i,none⟩=false):=fun i=>kA hx5 z1 (FQ.out i)
  replace HXB:=aA (HXB.out.trans hx5);replace HB:=aA (HB.out.ext hx5);clear hx5 z1 z2 z3 z4 z5;have z1:=dA q0;have z2:=dA t0;have z3:=dA j0;have z4:=dA g1;have z5:=dA pl;have z6:=dA c0'
  go_upto_region 23 with fail
  repeat (first|(go_big_may;(go_at_call 127;(with_reducible refine (rD _ _ _ _ _ (by decide) (by decide) L1 L4).mono ?_);rintro e wv ⟨v1,rfl,hown,hxv⟩;have hxz:Ext wc wv:=Ext.trans eX hxv;have fq0:=kA hxz (dA q0) (FQ.out 0);have fq1:=kA hxz (dA q0) (FQ.out 1);have fq2:=kA hxz (dA q0) (FQ.out 2);have pq0:=eA hxz q0;have pq1:=eA hxz q1;have pq2:=eA hxz q2))|go_values|go_skip|go_guarded|go_step|go_upon|simp only [])
  have HE:Ch.turnOf ⟨last,l,js⟩ (ln:Int) p=(Ch.there ⟨(ln:Int),1,0⟩ 3,none):=HT.out;obtain ⟨o0,o1,o2,ox⟩:=lC (w:=w) (x:=vi 0) (y:=.slice none 0 0) (z:=.slice none 0 0) (HXB.out.trans hxz) (Nat.le_refl _) pq0 pq1 pq2;refine bodyPost_ret (v:=.tuple #[v1,.agg #[vi 0,.slice none 0 0,.slice none 0 0],.bool false]) (by simp [results,Tryz.results68,go_sem,o0,o1,o2]) rfl ?_;rw [HE];exact ⟨v1,_,_,rfl,rA (jB hown (by have:=dA q0;first|omega|(simp;omega))) (by have:=HXB.out.below.size;first|omega|(simp;omega)),pB _ _,ox⟩
theorem rnext_s3 {w:World} {hb rb:Nat} {la:Option Addr} {ln lc:Nat} {last:Int} {a1:Option Addr} {m1 c1:Nat} {a2:Option Addr} {m2 c2:Nat} {gv:Value} {l:List Ch.Stay} {js:List Ch.Job} {p:Ch.Plant} (hh:cH w hb rb (.slice la ln lc) last a1 m1 c1 a2 m2 c2 gv l js p)
  (hwf:p.WF) (hj:Hid (∀ j∈js,∃ s∈l,s.ticket=j.ticket)) (h0:Hid (∀ s∈l,s.ticket≠0)) (hpl:Hid (∀ s∈l,Ch.placeFault s.home (ln:Int)=0)) (l1:1≤ln) (l4:ln≤4) (hlc:ln≤lc) (hlm:lc≤maxLen) (hm1:m1≤100) (hm2:m2≤100)
  (jt li ba:Int) (jf is dd:Bool) (hba:Hid (p.bay=ba)) (hli:Hid (p.lift=li)) (hdd:Hid (p.door=dd)) (HFJ:Hid (qB (Ch.firstJob ⟨last,l,js⟩ ba)=(jt,jf,is))) (xt xi x1 x2 x3 u1 u2 u3:Int) (hl:li=0) (c:Int) (HC:Hid (p.slots ⟨(ln:Int),1,0⟩=c)) (hc:¬ c=0) (HO:Hid ((⟨last,l,js⟩:Ch.Book).of c=some ⟨xt,⟨xi,⟨x1,x2,x3⟩⟩,⟨u1,u2,u3⟩⟩)) (hi:is=true) (HBV:Hid (Ch.blocks ⟨last,l,js⟩ p ⟨xt,⟨xi,⟨x1,x2,x3⟩⟩,⟨u1,u2,u3⟩⟩ ⟨jt,jf⟩=false)):
  Calls Tryz.prog 68 #[.pointer (some ⟨hb,0,none⟩)] w (rF w (Ch.turnOf ⟨last,l,js⟩ (ln:Int) p).1 (Ch.turnOf ⟨last,l,js⟩ (ln:Int) p).2):=by
 subst hl;subst hi;have b1:=hh.st.bound;have b2:=hh.jb.bound;have HH:=aA hh;have hlt0:=dA hh.cells.1;unfold maxLen at hlm;have e0':=hh.cells.1;have e1':=hh.cells.2.1
 have L1:(1:Int)≤(ln:Int):=by omega
 have L4:(ln:Int)≤4:=by omega
 clear hh;go_enter Tryz.func68,Tryz.ntmps68
 go_upto_region 2 with fail
 generalize hW:World.alloc _ _=w0;have hx0:Ext w w0:=xQ hW;have r0:w0.cell? ⟨w.heap.size,0,none⟩=some (vi 0):=cQ hW;have r1:w0.cell? ⟨w.heap.size,1,none⟩=some (.slice none 0 0):=cQ hW;have r2:w0.cell? ⟨w.heap.size,2,none⟩=some (.slice none 0 0):=cQ hW
 have fz:∀ i,w0.frozen? ⟨w.heap.size,i,none⟩=false:=by intro i;rw [←hW];simp [go_sem]
 have FZ:=aA fz;have k0:=eA hx0 e0';have k1:=eA hx0 e1';have HX0:=aA hx0;clear hW hx0 fz e0' e1' hlt0
 go_upto_region 3 with (go_at_call 124;(with_reducible refine (lD _ _).mono ?_);rintro e w1 ⟨rfl,o1,n1,rfl⟩)
 generalize hW:World.alloc _ _=w1;generalize hA:w0.heap.size+_=SP;have hx1:Ext w0 w1:=xQ hW;have s0:w1.cell? ⟨SP,0,none⟩=some (vi (ln:Int)):=cR hW hA;have s1:w1.cell? ⟨SP,1,none⟩=some (vi 1):=cR hW hA;have s2:w1.cell? ⟨SP,2,none⟩=some (vi 0):=cR hW hA;have HX1:=aA (HX0.out.trans hx1);have m0:=eA hx1 k0;have m1':=eA hx1 k1;have v0:=eA hx1 r0;have v1:=eA hx1 r1;have v2:=eA hx1 r2
 have fz1:∀ i,w1.frozen? ⟨w.heap.size,i,none⟩=false:=fun i=>kA hx1 (dA r0) (FZ.out i)
 have FZ1:=aA fz1;clear hW hA hx1 k0 k1 r0 r1 r2 FZ fz1 HX0
 go_upto_region 4 with (go_at_call 125;(with_reducible refine (mC jt jf true (HH.out.ext (HX1.out.trans eX)) hj h0 ba hba HFJ).mono ?_);rintro e w1 ⟨rfl,o1,n1,rfl⟩)
 generalize hW:World.alloc _ _=w2;generalize hA:w1.heap.size+_=JB;have hx2:Ext w1 w2:=xQ hW;have j0:w2.cell? ⟨JB,0,none⟩=some (vi jt):=cR hW hA;have j1:w2.cell? ⟨JB,1,none⟩=some (.bool jf):=cR hW hA;have HX2:=aA (HX1.out.trans hx2);have t0:=eA hx2 s0;have t1:=eA hx2 s1;have t2:=eA hx2 s2;have q0:=eA hx2 v0;have q1:=eA hx2 v1;have q2:=eA hx2 v2
 have fz2:∀ i,w2.frozen? ⟨w.heap.size,i,none⟩=false:=fun i=>kA hx2 (dA v0) (FZ1.out i)
 have FZ2:=aA fz2;have H2:=aA (HH.out.ext HX2.out);have g1:=H2.out.cells.2.1;have g2:=H2.out.cells.2.2.1;have g3:=H2.out.cells.2.2.2.1;have g4:=H2.out.cells.2.2.2.2.1;have pd:=H2.out.pl.cells.2.2.2.1;have pl:=H2.out.pl.cells.2.2.2.2.2.1;have pb:=H2.out.pl.cells.2.2.2.2.2.2.1;rw [hdd.out] at pd;rw [hli.out] at pl;rw [hba.out] at pb;have z1:=dA q0;have z2:=dA t0;have z3:=dA j0;have z4:=dA g1;have z5:=dA pl;have hRw:w.heap.size≤w.heap.size:=Nat.le_refl _;clear hW hA hx2 m0 m1' v0 v1 v2 s0 s1 s2 FZ1 fz2 HX1 HH;have HJX:Hid (∃ s∈l,s.ticket=jt):=vF hj HFJ.out rfl
 have HJ1:Hid (jt≠0):=by unfold Hid;obtain ⟨s,hs,e⟩:=HJX.out;rw [←e];exact h0.out s hs
 have HT:Hid (Ch.turnOf ⟨last,l,js⟩ (ln:Int) p=(Ch.there ⟨(ln:Int),1,0⟩ 3,none)):=rturn_spare2 hli.out hba.out HC.out hc HO.out HFJ.out HBV.out
 go_upto_region 17 with fail
 have hxs:Ext w2 w2:=Ext.refl _;replace q0:=eA hxs q0;replace q1:=eA hxs q1;replace q2:=eA hxs q2;replace t0:=eA hxs t0;replace t1:=eA hxs t1;replace t2:=eA hxs t2;replace j0:=eA hxs j0;replace j1:=eA hxs j1;replace g1:=eA hxs g1;replace pd:=eA hxs pd;replace pl:=eA hxs pl;replace pb:=eA hxs pb;replace g2:=eA hxs g2;replace g3:=eA hxs g3;replace g4:=eA hxs g4
 have FQ:Hid (∀ i,w2.frozen? ⟨w.heap.size,i,none⟩=false):=fun i=>kA hxs z1 (FZ2.out i)
 have HXB:=aA (HX2.out.trans hxs);have HB:=aA (H2.out.ext hxs);clear hxs z1 z2 z3 z4 z5 FZ2 HX2 H2;have z1:=dA q0;have z2:=dA t0;have z3:=dA j0;have z4:=dA g1;have z5:=dA pl
 go_upto_region 18 with (go_at_call 74;(with_reducible refine (jC (HB.out.pl.ext eX) hwf _ _ _ c HC).mono ?_);rintro e w1 ⟨rfl,o1,n1,rfl⟩)
 generalize hWq:World.plus _ _ _=wq;have hxq:Ext w2 wq:=xQ hWq;clear hWq;replace q0:=eA hxq q0;replace q1:=eA hxq q1;replace q2:=eA hxq q2;replace t0:=eA hxq t0;replace t1:=eA hxq t1;replace t2:=eA hxq t2;replace j0:=eA hxq j0;replace j1:=eA hxq j1;replace g1:=eA hxq g1;replace pd:=eA hxq pd;replace pl:=eA hxq pl;replace pb:=eA hxq pb;replace g2:=eA hxq g2;replace g3:=eA hxq g3;replace g4:=eA hxq g4
 replace FQ:Hid (∀ i,wq.frozen? ⟨w.heap.size,i,none⟩=false):=fun i=>kA hxq z1 (FQ.out i)
 replace HXB:=aA (HXB.out.trans hxq);replace HB:=aA (HB.out.ext hxq);clear hxq z1 z2 z3 z4 z5;have z1:=dA q0;have z2:=dA t0;have z3:=dA j0;have z4:=dA g1;have z5:=dA pl
 go_cut [13,14] (fun s13 s14 wx=>∃ A5:Nat,s13 = .pointer (some ⟨A5,0,none⟩)∧s14 = .bool true∧Ext wq wx  ∧ wx.cell? ⟨A5,0,none⟩=some (vi xt)∧wx.cell? ⟨A5,1,none⟩=some (vi xi)∧wx.cell? ⟨A5,2,none⟩=some (vi x1)∧wx.cell? ⟨A5,3,none⟩=some (vi x2)∧wx.cell? ⟨A5,4,none⟩=some (vi x3)∧wx.cell? ⟨A5,5,none⟩=some (vi u1)∧wx.cell? ⟨A5,6,none⟩=some (vi u2)∧wx.cell? ⟨A5,7,none⟩=some (vi u3))
 case first=>
  go_region_held3 (fun w'=>w'.cell? ⟨hb,2,none⟩=some (vi last)∧w'.cell? ⟨hb,3,none⟩=some (.slice a1 m1 c1)∧w'.cell? ⟨hb,4,none⟩=some (.slice a2 m2 c2)∧w'.cell? ⟨SP,0,none⟩=some (vi (ln:Int))∧w'.cell? ⟨SP,1,none⟩=some (vi 1)∧w'.cell? ⟨SP,2,none⟩=some (vi 0)) (first|((try dsimp only);(repeat' apply And.intro) <;> exact xC (w:=wq))) (first|(go_at_call 74;(with_reducible refine (jC (HB.out.pl.ext eX) hwf _ _ _ c HC).mono ?_);rintro e w1 ⟨rfl,o1,n1,rfl⟩)|(go_at_call 100;(with_reducible refine (bD xt xi x1 x2 x3 u1 u2 u3 _ _ _ _ _ _ _ _ l js _ (Sl.below HB.out.st (Ext.below eX)) h0 HO).mono ?_);rintro e w1 ⟨rfl,o1,n1,rfl⟩))
  ·generalize hW:World.alloc _ _=w5
   generalize hA:wq.heap.size+_=A5;have hx5:Ext wq w5:=xQ hW;have xx0:w5.cell? ⟨A5,0,none⟩=some (vi xt):=cR hW hA;have xx1:w5.cell? ⟨A5,1,none⟩=some (vi xi):=cR hW hA;have xx2:w5.cell? ⟨A5,2,none⟩=some (vi x1):=cR hW hA;have xx3:w5.cell? ⟨A5,3,none⟩=some (vi x2):=cR hW hA;have xx4:w5.cell? ⟨A5,4,none⟩=some (vi x3):=cR hW hA;have xx5:w5.cell? ⟨A5,5,none⟩=some (vi u1):=cR hW hA;have xx6:w5.cell? ⟨A5,6,none⟩=some (vi u2):=cR hW hA;have xx7:w5.cell? ⟨A5,7,none⟩=some (vi u3):=cR hW hA;clear hW hA;go_wp2_with fail;go_meet;exact ⟨A5,rfl,rfl,hx5,xx0,xx1,xx2,xx3,xx4,xx5,xx6,xx7⟩
  ·generalize hW:World.setCell _ _ _=w5
   obtain ⟨xx0,xx1,xx2,xx3,xx4,xx5,xx6,xx7,hx5⟩:=cG (w:=wq) hW eX (by first|exact Nat.le_refl _|(simp;done)|(simp;omega)) (by rw [bB _ _ _ _ (by simp)];exact sA _ _ _ (by first|rfl|simp)) rfl;clear hW;go_wp2_with fail;go_meet;exact ⟨_,rfl,rfl,hx5,xx0,xx1,xx2,xx3,xx4,xx5,xx6,xx7⟩
  ·generalize hW:World.setCell _ _ _=w5
   obtain ⟨xx0,xx1,xx2,xx3,xx4,xx5,xx6,xx7,hx5⟩:=cG (w:=wq) hW eX (by first|exact Nat.le_refl _|(simp;done)|(simp;omega)) (by rw [bB _ _ _ _ (by simp)];exact sA _ _ _ (by first|rfl|simp)) rfl;clear hW;go_wp2_with fail;go_meet;exact ⟨_,rfl,rfl,hx5,xx0,xx1,xx2,xx3,xx4,xx5,xx6,xx7⟩
 case rest=>
  obtain ⟨A5,rfl,rfl,hx5,c0',c1',c2',c3',c4',c5',c6',c7'⟩:=hcut;replace q0:=eA hx5 q0;replace q1:=eA hx5 q1;replace q2:=eA hx5 q2;replace t0:=eA hx5 t0;replace t1:=eA hx5 t1;replace t2:=eA hx5 t2;replace j0:=eA hx5 j0;replace j1:=eA hx5 j1;replace g1:=eA hx5 g1;replace pd:=eA hx5 pd;replace pl:=eA hx5 pl;replace pb:=eA hx5 pb;replace g2:=eA hx5 g2;replace g3:=eA hx5 g3;replace g4:=eA hx5 g4
  replace FQ:Hid (∀ i,wc.frozen? ⟨w.heap.size,i,none⟩=false):=fun i=>kA hx5 z1 (FQ.out i)
  replace HXB:=aA (HXB.out.trans hx5);replace HB:=aA (HB.out.ext hx5);clear hx5 z1 z2 z3 z4 z5;have z1:=dA q0;have z2:=dA t0;have z3:=dA j0;have z4:=dA g1;have z5:=dA pl;have z6:=dA c0'
  go_upto_region 23 with (go_at_call 128;(with_reducible refine (iC false xt xi x1 x2 x3 u1 u2 u3 jt jf (HB.out.ext eX) hwf HJX HJ1 HBV).mono ?_);rintro e w1 ⟨rfl,o1,n1,rfl⟩)
  repeat (first|(go_big_may;(go_at_call 127;(with_reducible refine (rD _ _ _ _ _ (by decide) (by decide) L1 L4).mono ?_);rintro e wv ⟨v1,rfl,hown,hxv⟩;have hxz:Ext wc wv:=Ext.trans eX hxv;have fq0:=kA hxz (dA q0) (FQ.out 0);have fq1:=kA hxz (dA q0) (FQ.out 1);have fq2:=kA hxz (dA q0) (FQ.out 2);have pq0:=eA hxz q0;have pq1:=eA hxz q1;have pq2:=eA hxz q2))|go_values|go_skip|go_guarded|go_step|go_upon|simp only [])
  have HE:Ch.turnOf ⟨last,l,js⟩ (ln:Int) p=(Ch.there ⟨(ln:Int),1,0⟩ 3,none):=HT.out;obtain ⟨o0,o1,o2,ox⟩:=lC (w:=w) (x:=vi 0) (y:=.slice none 0 0) (z:=.slice none 0 0) (HXB.out.trans hxz) (Nat.le_refl _) pq0 pq1 pq2;refine bodyPost_ret (v:=.tuple #[v1,.agg #[vi 0,.slice none 0 0,.slice none 0 0],.bool false]) (by simp [results,Tryz.results68,go_sem,o0,o1,o2]) rfl ?_;rw [HE];exact ⟨v1,_,_,rfl,rA (jB hown (by have:=dA q0;first|omega|(simp;omega))) (by have:=HXB.out.below.size;first|omega|(simp;omega)),pB _ _,ox⟩
theorem rturn_none {last n ba:Int} {dd:Bool} {l:List Ch.Stay} {js:List Ch.Job} {p:Ch.Plant} (hl:p.lift=0) (hb:p.bay=ba) (h:p.slots ⟨n,1,0⟩=0) (hf:Ch.firstJob ⟨last,l,js⟩ ba=none) (hd:p.door=dd):Ch.turnOf ⟨last,l,js⟩ n p=(if dd then [] else Ch.welcome,none):=by
 have hs:p.slots (Ch.spare n)=0:=h;unfold Ch.turnOf;rw [if_neg (by simp [hl]),if_neg (by rw [hs];simp),hb,hf];dsimp only;rw [hd]
 cases dd <;> rfl
theorem rturn_job {last n ba jt c:Int} {jf:Bool} {l:List Ch.Stay} {js:List Ch.Job} {p:Ch.Plant} (hl:p.lift=0) (hb:p.bay=ba) (h:p.slots ⟨n,1,0⟩=c) (hf:qB (Ch.firstJob ⟨last,l,js⟩ ba)=(jt,jf,true))
  (hgo:c=0∨∃ xt xi x1 x2 x3 u1 u2 u3,(⟨last,l,js⟩:Ch.Book).of c=some ⟨xt,⟨xi,⟨x1,x2,x3⟩⟩,⟨u1,u2,u3⟩⟩∧Ch.blocks ⟨last,l,js⟩ p ⟨xt,⟨xi,⟨x1,x2,x3⟩⟩,⟨u1,u2,u3⟩⟩ ⟨jt,jf⟩=true):Ch.turnOf ⟨last,l,js⟩ n p=Ch.jobOf ⟨last,l,js⟩ p ⟨jt,jf⟩:=by
 have hs:p.slots (Ch.spare n)=c:=h;unfold Ch.turnOf;rw [if_neg (by simp [hl]),if_neg,hb,rfirst_yes hf rfl];rw [hs,hb,rfirst_yes hf rfl];rintro ⟨h1,h2⟩
 rcases hgo with h3|⟨xt,xi,x1,x2,x3,u1,u2,u3,h3,h4⟩
 ·exact h1 h3
 ·exact h2 ⟨_,rfl,_,h3,h4⟩
theorem rnext_j0 {w:World} {hb rb:Nat} {la:Option Addr} {ln lc:Nat} {last:Int} {a1:Option Addr} {m1 c1:Nat} {a2:Option Addr} {m2 c2:Nat} {gv:Value} {l:List Ch.Stay} {js:List Ch.Job} {p:Ch.Plant} (hh:cH w hb rb (.slice la ln lc) last a1 m1 c1 a2 m2 c2 gv l js p)
  (hwf:p.WF) (hj:Hid (∀ j∈js,∃ s∈l,s.ticket=j.ticket)) (h0:Hid (∀ s∈l,s.ticket≠0)) (hpl:Hid (∀ s∈l,Ch.placeFault s.home (ln:Int)=0)) (l1:1≤ln) (l4:ln≤4) (hlc:ln≤lc) (hlm:lc≤maxLen) (hm1:m1≤100) (hm2:m2≤100)
  (jt li ba:Int) (jf is dd:Bool) (hba:Hid (p.bay=ba)) (hli:Hid (p.lift=li)) (hdd:Hid (p.door=dd)) (HFJ:Hid (qB (Ch.firstJob ⟨last,l,js⟩ ba)=(jt,jf,is))) (hl:li=0) (c:Int) (HC:Hid (p.slots ⟨(ln:Int),1,0⟩=c)) (hc:c=0) (hi:is=false):
  Calls Tryz.prog 68 #[.pointer (some ⟨hb,0,none⟩)] w (rF w (Ch.turnOf ⟨last,l,js⟩ (ln:Int) p).1 (Ch.turnOf ⟨last,l,js⟩ (ln:Int) p).2):=by
 subst hl;subst hi;have b1:=hh.st.bound;have b2:=hh.jb.bound;have HH:=aA hh;have hlt0:=dA hh.cells.1;unfold maxLen at hlm;have e0':=hh.cells.1;have e1':=hh.cells.2.1
 have L1:(1:Int)≤(ln:Int):=by omega
 have L4:(ln:Int)≤4:=by omega
 clear hh;go_enter Tryz.func68,Tryz.ntmps68
 go_upto_region 2 with fail
 generalize hW:World.alloc _ _=w0;have hx0:Ext w w0:=xQ hW;have r0:w0.cell? ⟨w.heap.size,0,none⟩=some (vi 0):=cQ hW;have r1:w0.cell? ⟨w.heap.size,1,none⟩=some (.slice none 0 0):=cQ hW;have r2:w0.cell? ⟨w.heap.size,2,none⟩=some (.slice none 0 0):=cQ hW
 have fz:∀ i,w0.frozen? ⟨w.heap.size,i,none⟩=false:=by intro i;rw [←hW];simp [go_sem]
 have FZ:=aA fz;have k0:=eA hx0 e0';have k1:=eA hx0 e1';have HX0:=aA hx0;clear hW hx0 fz e0' e1' hlt0
 go_upto_region 3 with (go_at_call 124;(with_reducible refine (lD _ _).mono ?_);rintro e w1 ⟨rfl,o1,n1,rfl⟩)
 generalize hW:World.alloc _ _=w1;generalize hA:w0.heap.size+_=SP;have hx1:Ext w0 w1:=xQ hW;have s0:w1.cell? ⟨SP,0,none⟩=some (vi (ln:Int)):=cR hW hA;have s1:w1.cell? ⟨SP,1,none⟩=some (vi 1):=cR hW hA;have s2:w1.cell? ⟨SP,2,none⟩=some (vi 0):=cR hW hA;have HX1:=aA (HX0.out.trans hx1);have m0:=eA hx1 k0;have m1':=eA hx1 k1;have v0:=eA hx1 r0;have v1:=eA hx1 r1;have v2:=eA hx1 r2
 have fz1:∀ i,w1.frozen? ⟨w.heap.size,i,none⟩=false:=fun i=>kA hx1 (dA r0) (FZ.out i)
 have FZ1:=aA fz1;clear hW hA hx1 k0 k1 r0 r1 r2 FZ fz1 HX0
 go_upto_region 4 with (go_at_call 125;(with_reducible refine (mC jt jf false (HH.out.ext (HX1.out.trans eX)) hj h0 ba hba HFJ).mono ?_);rintro e w1 ⟨rfl,o1,n1,rfl⟩)
 generalize hW:World.alloc _ _=w2;generalize hA:w1.heap.size+_=JB;have hx2:Ext w1 w2:=xQ hW;have j0:w2.cell? ⟨JB,0,none⟩=some (vi jt):=cR hW hA;have j1:w2.cell? ⟨JB,1,none⟩=some (.bool jf):=cR hW hA;have HX2:=aA (HX1.out.trans hx2);have t0:=eA hx2 s0;have t1:=eA hx2 s1;have t2:=eA hx2 s2;have q0:=eA hx2 v0;have q1:=eA hx2 v1;have q2:=eA hx2 v2
 have fz2:∀ i,w2.frozen? ⟨w.heap.size,i,none⟩=false:=fun i=>kA hx2 (dA v0) (FZ1.out i)
 have FZ2:=aA fz2;have H2:=aA (HH.out.ext HX2.out);have g1:=H2.out.cells.2.1;have g2:=H2.out.cells.2.2.1;have g3:=H2.out.cells.2.2.2.1;have g4:=H2.out.cells.2.2.2.2.1;have pd:=H2.out.pl.cells.2.2.2.1;have pl:=H2.out.pl.cells.2.2.2.2.2.1;have pb:=H2.out.pl.cells.2.2.2.2.2.2.1;rw [hdd.out] at pd;rw [hli.out] at pl;rw [hba.out] at pb;have z1:=dA q0;have z2:=dA t0;have z3:=dA j0;have z4:=dA g1;have z5:=dA pl;have hRw:w.heap.size≤w.heap.size:=Nat.le_refl _;clear hW hA hx2 m0 m1' v0 v1 v2 s0 s1 s2 FZ1 fz2 HX1 HH
 go_upto_region 17 with fail
 have hxs:Ext w2 w2:=Ext.refl _;replace q0:=eA hxs q0;replace q1:=eA hxs q1;replace q2:=eA hxs q2;replace t0:=eA hxs t0;replace t1:=eA hxs t1;replace t2:=eA hxs t2;replace j0:=eA hxs j0;replace j1:=eA hxs j1;replace g1:=eA hxs g1;replace pd:=eA hxs pd;replace pl:=eA hxs pl;replace pb:=eA hxs pb;replace g2:=eA hxs g2;replace g3:=eA hxs g3;replace g4:=eA hxs g4
 have FQ:Hid (∀ i,w2.frozen? ⟨w.heap.size,i,none⟩=false):=fun i=>kA hxs z1 (FZ2.out i)
 have HXB:=aA (HX2.out.trans hxs);have HB:=aA (H2.out.ext hxs);clear hxs z1 z2 z3 z4 z5 FZ2 HX2 H2;have z1:=dA q0;have z2:=dA t0;have z3:=dA j0;have z4:=dA g1;have z5:=dA pl
 go_upto_if 112 with (go_at_call 74;(with_reducible refine (jC (HB.out.pl.ext eX) hwf _ _ _ c HC).mono ?_);rintro e w1 ⟨rfl,o1,n1,rfl⟩)
 generalize hWq:World.plus _ _ _=wq;have hxq:Ext w2 wq:=xQ hWq;clear hWq;replace q0:=eA hxq q0;replace q1:=eA hxq q1;replace q2:=eA hxq q2;replace t0:=eA hxq t0;replace t1:=eA hxq t1;replace t2:=eA hxq t2;replace j0:=eA hxq j0;replace j1:=eA hxq j1;replace g1:=eA hxq g1;replace pd:=eA hxq pd;replace pl:=eA hxq pl;replace pb:=eA hxq pb;replace g2:=eA hxq g2;replace g3:=eA hxq g3;replace g4:=eA hxq g4
 replace FQ:Hid (∀ i,wq.frozen? ⟨w.heap.size,i,none⟩=false):=fun i=>kA hxq z1 (FQ.out i)
 replace HXB:=aA (HXB.out.trans hxq);replace HB:=aA (HB.out.ext hxq);clear hxq z1 z2 z3 z4 z5;have z1:=dA q0;have z2:=dA t0;have z3:=dA j0;have z4:=dA g1;have z5:=dA pl
 go_cut [] (fun wx=>Ext wq wx)
 case first=>
  subst hc;go_wp2_with fail;go_meet;exact Ext.refl _
 case rest=>
  replace q0:=eA hcut q0;replace q1:=eA hcut q1;replace q2:=eA hcut q2;replace t0:=eA hcut t0;replace t1:=eA hcut t1;replace t2:=eA hcut t2;replace j0:=eA hcut j0;replace j1:=eA hcut j1;replace g1:=eA hcut g1;replace pd:=eA hcut pd;replace pl:=eA hcut pl;replace pb:=eA hcut pb;replace g2:=eA hcut g2;replace g3:=eA hcut g3;replace g4:=eA hcut g4
  replace FQ:Hid (∀ i,wc.frozen? ⟨w.heap.size,i,none⟩=false):=fun i=>kA hcut z1 (FQ.out i)
  replace HXB:=aA (HXB.out.trans hcut);replace HB:=aA (HB.out.ext hcut);clear hcut z1 z2 z3 z4 z5;have z1:=dA q0;have z2:=dA t0;have z3:=dA j0;have z4:=dA g1;have z5:=dA pl;have HN:Hid (Ch.firstJob ⟨last,l,js⟩ ba=none):=rfirst_no HFJ.out rfl
  go_upto_region 25 with fail
  cases dd
  ·go_upto_region 27 with fail
   repeat (first|(go_big_may;(go_at_call 129;(with_reducible refine (rWelcome_any _).mono ?_);rintro e wv ⟨v1,rfl,hown,hxv⟩;have hxz:Ext wc wv:=Ext.trans eX hxv;have fq0:=kA hxz (dA q0) (FQ.out 0);have fq1:=kA hxz (dA q0) (FQ.out 1);have fq2:=kA hxz (dA q0) (FQ.out 2);have pq0:=eA hxz q0;have pq1:=eA hxz q1;have pq2:=eA hxz q2))|go_values|go_skip|go_guarded|go_step|go_upon|simp only [])
   have HE:Ch.turnOf ⟨last,l,js⟩ (ln:Int) p=(Ch.welcome,none):=rturn_none hli.out hba.out (by rw [HC.out];exact hc) HN.out hdd.out;obtain ⟨o0,o1,o2,ox⟩:=lC (w:=w) (x:=vi 0) (y:=.slice none 0 0) (z:=.slice none 0 0) (HXB.out.trans hxz) (Nat.le_refl _) pq0 pq1 pq2;refine bodyPost_ret (v:=.tuple #[v1,.agg #[vi 0,.slice none 0 0,.slice none 0 0],.bool false]) (by simp [results,Tryz.results68,go_sem,o0,o1,o2]) rfl ?_;rw [HE];exact ⟨v1,_,_,rfl,rA (jB hown (by have:=dA q0;first|omega|(simp;omega))) (by have:=HXB.out.below.size;first|omega|(simp;omega)),pB _ _,ox⟩
  ·have fq0:=FQ.out 0
   have fq1:=FQ.out 1;have fq2:=FQ.out 2
   go_upto_region 26 with fail
   repeat (first|(go_big_may;fail)|go_values|go_skip|go_guarded|go_step|go_upon|simp only [])
   have HE:Ch.turnOf ⟨last,l,js⟩ (ln:Int) p=([],none):=rturn_none hli.out hba.out (by rw [HC.out];exact hc) HN.out hdd.out;obtain ⟨o0,o1,o2,ox⟩:=lC (w:=w) (x:=vi 0) (y:=.slice none 0 0) (z:=.slice none 0 0) HXB.out (Nat.le_refl _) q0 q1 q2;refine bodyPost_ret (v:=.tuple #[.slice none 0 0,.agg #[vi 0,.slice none 0 0,.slice none 0 0],.bool false]) (by simp [results,Tryz.results68,go_sem,o0,o1,o2]) rfl ?_;rw [HE];exact ⟨_,_,_,rfl,bC _ _ _ _,pB _ _,ox⟩
