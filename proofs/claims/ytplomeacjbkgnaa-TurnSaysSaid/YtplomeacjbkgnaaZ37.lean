import Derived.Test.YtplomeacjbkgnaaZ36
set_option linter.all false
set_option maxRecDepth 100000
set_option maxHeartbeats 16000000
namespace Go.Proofs.Ytplomeacjbkgnaa
open Go.RowKit
theorem rturn_none {last n ba:Int} {dd:Bool} {l:List Ch.Stay} {js:List Ch.Job} {p:Ch.Plant} (hl:p.lift=0) (hb:p.bay=ba) (h:p.slots ⟨n,1,0⟩=0) (hf:Ch.firstJob ⟨last,l,js⟩ ba=none) (hd:p.door=dd):Ch.turnOf ⟨last,l,js⟩ n p=(if dd then [] else Ch.welcome,none):=by
 have hs:p.slots (Ch.spare n)=0:=h;unfold Ch.turnOf;rw [if_neg (by simp [hl]),if_neg (by rw [hs];simp),hb,hf];dsimp only;rw [hd]
 cases dd <;> rfl
theorem rturn_job {last n ba jt c:Int} {jf:Bool} {l:List Ch.Stay} {js:List Ch.Job} {p:Ch.Plant} (hl:p.lift=0) (hb:p.bay=ba) (h:p.slots ⟨n,1,0⟩=c) (hf:firstT (Ch.firstJob ⟨last,l,js⟩ ba)=(jt,jf,true))
  (hgo:c=0∨∃ xt xi x1 x2 x3 u1 u2 u3,(⟨last,l,js⟩:Ch.Book).of c=some ⟨xt,⟨xi,⟨x1,x2,x3⟩⟩,⟨u1,u2,u3⟩⟩∧Ch.blocks ⟨last,l,js⟩ p ⟨xt,⟨xi,⟨x1,x2,x3⟩⟩,⟨u1,u2,u3⟩⟩ ⟨jt,jf⟩=true):Ch.turnOf ⟨last,l,js⟩ n p=Ch.jobOf ⟨last,l,js⟩ p ⟨jt,jf⟩:=by
 have hs:p.slots (Ch.spare n)=c:=h;unfold Ch.turnOf;rw [if_neg (by simp [hl]),if_neg,hb,rfirst_yes hf rfl];rw [hs,hb,rfirst_yes hf rfl];rintro ⟨h1,h2⟩
 rcases hgo with h3|⟨xt,xi,x1,x2,x3,u1,u2,u3,h3,h4⟩
 ·exact h1 h3
 ·exact h2 ⟨_,rfl,_,h3,h4⟩
theorem rnext_j0 {w:World} {hb rb:Nat} {la:Option Addr} {ln lc:Nat} {last:Int} {a1:Option Addr} {m1 c1:Nat} {a2:Option Addr} {m2 c2:Nat} {gv:Value} {l:List Ch.Stay} {js:List Ch.Job} {p:Ch.Plant} (hh:RHAt w hb rb (.slice la ln lc) last a1 m1 c1 a2 m2 c2 gv l js p)
  (hwf:p.WF) (hj:Hid (∀ j∈js,∃ s∈l,s.ticket=j.ticket)) (h0:Hid (∀ s∈l,s.ticket≠0)) (hpl:Hid (∀ s∈l,Ch.placeFault s.home (ln:Int)=0)) (l1:1≤ln) (l4:ln≤4) (hlc:ln≤lc) (hlm:lc≤maxLen) (hm1:m1≤100) (hm2:m2≤100)
  (jt li ba:Int) (jf is dd:Bool) (hba:Hid (p.bay=ba)) (hli:Hid (p.lift=li)) (hdd:Hid (p.door=dd)) (HFJ:Hid (firstT (Ch.firstJob ⟨last,l,js⟩ ba)=(jt,jf,is))) (hl:li=0) (c:Int) (HC:Hid (p.slots ⟨(ln:Int),1,0⟩=c)) (hc:c=0) (hi:is=false):
  Calls Try.prog 86 #[.pointer (some ⟨hb,0,none⟩)] w (TurnR w (Ch.turnOf ⟨last,l,js⟩ (ln:Int) p).1 (Ch.turnOf ⟨last,l,js⟩ (ln:Int) p).2):=by
 subst hl;subst hi;have b1:=hh.st.bound;have b2:=hh.jb.bound;have HH:=Lib.hid hh;have hlt0:=cell_lt hh.cells.1;unfold maxLen at hlm;have e0':=hh.cells.1;have e1':=hh.cells.2.1
 have L1:(1:Int)≤(ln:Int):=by omega
 have L4:(ln:Int)≤4:=by omega
 clear hh;go_enter Try.func86,Try.ntmps86
 go_upto_region 2 with fail
 generalize hW:World.alloc _ _=w0
 have hx0:Ext w w0:=by rw [←hW];exact (by simp (maxDischargeDepth:=60))
 have r0:w0.cell? ⟨w.heap.size,0,none⟩=some (vi 0):=by rw [←hW];simp [go_sem]
 have r1:w0.cell? ⟨w.heap.size,1,none⟩=some (.slice none 0 0):=by rw [←hW];simp [go_sem]
 have r2:w0.cell? ⟨w.heap.size,2,none⟩=some (.slice none 0 0):=by rw [←hW];simp [go_sem]
 have fz:∀ i,w0.frozen? ⟨w.heap.size,i,none⟩=false:=by intro i;rw [←hW];simp [go_sem]
 have FZ:=Lib.hid fz;have k0:=xcell hx0 e0';have k1:=xcell hx0 e1';have HX0:=Lib.hid hx0;clear hW hx0 fz e0' e1' hlt0
 go_upto_region 3 with (go_at_call 42;(with_reducible refine (rspare_f _ _).mono ?_);rintro e w1 ⟨rfl,o1,n1,rfl⟩)
 generalize hW:World.alloc _ _=w1;generalize hA:w0.heap.size+_=SP
 have hx1:Ext w0 w1:=by rw [←hW];exact (by simp (maxDischargeDepth:=60))
 have s0:w1.cell? ⟨SP,0,none⟩=some (vi (ln:Int)):=by rw [←hW,←hA];simp [go_sem]
 have s1:w1.cell? ⟨SP,1,none⟩=some (vi 1):=by rw [←hW,←hA];simp [go_sem]
 have s2:w1.cell? ⟨SP,2,none⟩=some (vi 0):=by rw [←hW,←hA];simp [go_sem]
 have HX1:=Lib.hid (HX0.out.trans hx1);have m0:=xcell hx1 k0;have m1':=xcell hx1 k1;have v0:=xcell hx1 r0;have v1:=xcell hx1 r1;have v2:=xcell hx1 r2
 have fz1:∀ i,w1.frozen? ⟨w.heap.size,i,none⟩=false:=fun i=>xfree hx1 (cell_lt r0) (FZ.out i)
 have FZ1:=Lib.hid fz1;clear hW hA hx1 k0 k1 r0 r1 r2 FZ fz1 HX0
 go_upto_region 4 with (go_at_call 133;(with_reducible refine (rfirst_any jt jf false (HH.out.ext (HX1.out.trans (by simp (maxDischargeDepth:=60)))) hj h0 ba hba HFJ).mono ?_);rintro e w1 ⟨rfl,o1,n1,rfl⟩)
 generalize hW:World.alloc _ _=w2;generalize hA:w1.heap.size+_=JB
 have hx2:Ext w1 w2:=by rw [←hW];exact (by simp (maxDischargeDepth:=60))
 have j0:w2.cell? ⟨JB,0,none⟩=some (vi jt):=by rw [←hW,←hA];simp [go_sem]
 have j1:w2.cell? ⟨JB,1,none⟩=some (.bool jf):=by rw [←hW,←hA];simp [go_sem]
 have HX2:=Lib.hid (HX1.out.trans hx2);have t0:=xcell hx2 s0;have t1:=xcell hx2 s1;have t2:=xcell hx2 s2;have q0:=xcell hx2 v0;have q1:=xcell hx2 v1;have q2:=xcell hx2 v2
 have fz2:∀ i,w2.frozen? ⟨w.heap.size,i,none⟩=false:=fun i=>xfree hx2 (cell_lt v0) (FZ1.out i)
 have FZ2:=Lib.hid fz2;have H2:=Lib.hid (HH.out.ext HX2.out);have g1:=H2.out.cells.2.1;have g2:=H2.out.cells.2.2.1;have g3:=H2.out.cells.2.2.2.1;have g4:=H2.out.cells.2.2.2.2.1;have pd:=H2.out.pl.cells.2.2.2.1;have pl:=H2.out.pl.cells.2.2.2.2.2.1;have pb:=H2.out.pl.cells.2.2.2.2.2.2.1;rw [hdd.out] at pd;rw [hli.out] at pl;rw [hba.out] at pb;have z1:=cell_lt q0;have z2:=cell_lt t0;have z3:=cell_lt j0;have z4:=cell_lt g1;have z5:=cell_lt pl;have hRw:w.heap.size≤w.heap.size:=Nat.le_refl _;clear hW hA hx2 m0 m1' v0 v1 v2 s0 s1 s2 FZ1 fz2 HX1 HH
 go_upto_region 17 with fail
 have hxs:Ext w2 w2:=Ext.refl _;replace q0:=xcell hxs q0;replace q1:=xcell hxs q1;replace q2:=xcell hxs q2;replace t0:=xcell hxs t0;replace t1:=xcell hxs t1;replace t2:=xcell hxs t2;replace j0:=xcell hxs j0;replace j1:=xcell hxs j1;replace g1:=xcell hxs g1;replace pd:=xcell hxs pd;replace pl:=xcell hxs pl;replace pb:=xcell hxs pb;replace g2:=xcell hxs g2;replace g3:=xcell hxs g3;replace g4:=xcell hxs g4
 have FQ:Hid (∀ i,w2.frozen? ⟨w.heap.size,i,none⟩=false):=fun i=>xfree hxs z1 (FZ2.out i)
 have HXB:=Lib.hid (HX2.out.trans hxs);have HB:=Lib.hid (H2.out.ext hxs);clear hxs z1 z2 z3 z4 z5 FZ2 HX2 H2;have z1:=cell_lt q0;have z2:=cell_lt t0;have z3:=cell_lt j0;have z4:=cell_lt g1;have z5:=cell_lt pl
 go_upto_if 112 with (go_at_call 128;(with_reducible refine (rat_val (HB.out.pl.ext (by simp (maxDischargeDepth:=60))) hwf _ _ _ c HC).mono ?_);rintro e w1 ⟨rfl,o1,n1,rfl⟩)
 generalize hWq:World.plus _ _ _=wq
 have hxq:Ext w2 wq:=by rw [←hWq];exact (by simp (maxDischargeDepth:=60))
 clear hWq;replace q0:=xcell hxq q0;replace q1:=xcell hxq q1;replace q2:=xcell hxq q2;replace t0:=xcell hxq t0;replace t1:=xcell hxq t1;replace t2:=xcell hxq t2;replace j0:=xcell hxq j0;replace j1:=xcell hxq j1;replace g1:=xcell hxq g1;replace pd:=xcell hxq pd;replace pl:=xcell hxq pl;replace pb:=xcell hxq pb;replace g2:=xcell hxq g2;replace g3:=xcell hxq g3;replace g4:=xcell hxq g4
 replace FQ:Hid (∀ i,wq.frozen? ⟨w.heap.size,i,none⟩=false):=fun i=>xfree hxq z1 (FQ.out i)
 replace HXB:=Lib.hid (HXB.out.trans hxq);replace HB:=Lib.hid (HB.out.ext hxq);clear hxq z1 z2 z3 z4 z5;have z1:=cell_lt q0;have z2:=cell_lt t0;have z3:=cell_lt j0;have z4:=cell_lt g1;have z5:=cell_lt pl
 go_cut [] (fun wx=>Ext wq wx)
 case first=>
  subst hc;go_wp2_with fail;go_meet;exact Ext.refl _
 case rest=>
  replace q0:=xcell hcut q0;replace q1:=xcell hcut q1;replace q2:=xcell hcut q2;replace t0:=xcell hcut t0;replace t1:=xcell hcut t1;replace t2:=xcell hcut t2;replace j0:=xcell hcut j0;replace j1:=xcell hcut j1;replace g1:=xcell hcut g1;replace pd:=xcell hcut pd;replace pl:=xcell hcut pl;replace pb:=xcell hcut pb;replace g2:=xcell hcut g2;replace g3:=xcell hcut g3;replace g4:=xcell hcut g4
  replace FQ:Hid (∀ i,wc.frozen? ⟨w.heap.size,i,none⟩=false):=fun i=>xfree hcut z1 (FQ.out i)
  replace HXB:=Lib.hid (HXB.out.trans hcut);replace HB:=Lib.hid (HB.out.ext hcut);clear hcut z1 z2 z3 z4 z5;have z1:=cell_lt q0;have z2:=cell_lt t0;have z3:=cell_lt j0;have z4:=cell_lt g1;have z5:=cell_lt pl;have HN:Hid (Ch.firstJob ⟨last,l,js⟩ ba=none):=rfirst_no HFJ.out rfl
  go_upto_region 25 with fail
  cases dd
  ·go_upto_region 27 with fail
   repeat (first|(go_big_may;(go_at_call 19;(with_reducible refine (rWelcome_any _).mono ?_);rintro e wv ⟨v1,rfl,hown,hxv⟩;have hxz:Ext wc wv:=Ext.trans (by simp (maxDischargeDepth:=60)) hxv;have fq0:=xfree hxz (cell_lt q0) (FQ.out 0);have fq1:=xfree hxz (cell_lt q0) (FQ.out 1);have fq2:=xfree hxz (cell_lt q0) (FQ.out 2);have pq0:=xcell hxz q0;have pq1:=xcell hxz q1;have pq2:=xcell hxz q2))|go_values|go_skip|go_guarded|go_step|go_upon|simp only [])
   have HE:Ch.turnOf ⟨last,l,js⟩ (ln:Int) p=(Ch.welcome,none):=rturn_none hli.out hba.out (by rw [HC.out];exact hc) HN.out hdd.out;obtain ⟨o0,o1,o2,ox⟩:=put3k (w:=w) (x:=vi 0) (y:=.slice none 0 0) (z:=.slice none 0 0) (HXB.out.trans hxz) (Nat.le_refl _) pq0 pq1 pq2;refine bodyPost_ret (v:=.tuple #[v1,.agg #[vi 0,.slice none 0 0,.slice none 0 0],.bool false]) (by simp [results,Try.results86,go_sem,o0,o1,o2]) rfl ?_;rw [HE];exact ⟨v1,_,_,rfl,owns_base (owns_put3 hown (by have:=cell_lt q0;first|omega|(simp;omega))) (by have:=HXB.out.below.size;first|omega|(simp;omega)),own_zero _ _,ox⟩
  ·have fq0:=FQ.out 0
   have fq1:=FQ.out 1;have fq2:=FQ.out 2
   go_upto_region 26 with fail
   repeat (first|(go_big_may;fail)|go_values|go_skip|go_guarded|go_step|go_upon|simp only [])
   have HE:Ch.turnOf ⟨last,l,js⟩ (ln:Int) p=([],none):=rturn_none hli.out hba.out (by rw [HC.out];exact hc) HN.out hdd.out;obtain ⟨o0,o1,o2,ox⟩:=put3k (w:=w) (x:=vi 0) (y:=.slice none 0 0) (z:=.slice none 0 0) HXB.out (Nat.le_refl _) q0 q1 q2;refine bodyPost_ret (v:=.tuple #[.slice none 0 0,.agg #[vi 0,.slice none 0 0,.slice none 0 0],.bool false]) (by simp [results,Try.results86,go_sem,o0,o1,o2]) rfl ?_;rw [HE];exact ⟨_,_,_,rfl,owns_nilG _ _ _ _,own_zero _ _,ox⟩
theorem rj1 {b:Ch.Book} {p:Ch.Plant} {t:Int} {x:Ch.Stay} (hs:b.stay t=x) (h:p.slots x.home=x.car.id):Ch.jobOf b p ⟨t,false⟩=([],some (Ch.doneWith b ⟨t,false⟩ false)):=by
 simp only [Ch.jobOf,Ch.storeOf,hs];simp [h]
theorem rj2 {b:Ch.Book} {p:Ch.Plant} {t:Int} {x:Ch.Stay} (hs:b.stay t=x) (h:¬ p.slots x.home=x.car.id) (h2:p.bay=x.car.id):Ch.jobOf b p ⟨t,false⟩=(Ch.takeIn,none):=by
 simp only [Ch.jobOf,Ch.storeOf,hs];simp [h,h2]
theorem rj3 {b:Ch.Book} {p:Ch.Plant} {t:Int} {x:Ch.Stay} (hs:b.stay t=x) (h:¬ p.slots x.home=x.car.id) (h2:¬ p.bay=x.car.id) (h3:p.has x.car.id=false):Ch.jobOf b p ⟨t,false⟩=([],some (Ch.doneWith b ⟨t,false⟩ true)):=by
 simp only [Ch.jobOf,Ch.storeOf,hs];simp [h,h2,h3]
theorem rj4 {b:Ch.Book} {p:Ch.Plant} {t:Int} {x:Ch.Stay} (hs:b.stay t=x) (h:¬ p.slots x.home=x.car.id) (h2:¬ p.bay=x.car.id) (h3:p.has x.car.id=true):Ch.jobOf b p ⟨t,false⟩=([],none):=by
 simp only [Ch.jobOf,Ch.storeOf,hs];simp [h,h2,h3]
theorem rf_go {b:Ch.Book} {p:Ch.Plant} {t:Int} {x:Ch.Stay} {gl:List Ch.Goal} (hs:b.stay t=x) (e:Ch.fetchOf p x=(gl,false)):Ch.jobOf b p ⟨t,true⟩=(gl,none):=by simp [Ch.jobOf,hs,e]
theorem rf1 {b:Ch.Book} {p:Ch.Plant} {t:Int} {x:Ch.Stay} (hs:b.stay t=x) (h:p.bay=x.car.id∨p.has x.car.id=false):Ch.jobOf b p ⟨t,true⟩=([],some (Ch.doneWith b ⟨t,true⟩ false)):=by
 have e:Ch.fetchOf p x=([],true):=by unfold Ch.fetchOf;rw [if_pos h]
 simp [Ch.jobOf,hs,e]
theorem rf2 {b:Ch.Book} {p:Ch.Plant} {t:Int} {x:Ch.Stay} {dd:Bool} (hs:b.stay t=x) (h:¬ p.bay=x.car.id) (h2:p.has x.car.id=true) (h3:¬ p.bay=0) (hd:p.door=dd):Ch.jobOf b p ⟨t,true⟩=(if dd then [] else Ch.welcome,none):=by
 refine rf_go hs ?_;subst hd;unfold Ch.fetchOf;rw [if_neg (by rw [h2];rintro (e|e);exact h e;cases e)];cases hd:p.door
 ·rw [if_neg (by rintro ⟨-,e⟩;cases e),if_pos h3];rfl
 ·rw [if_pos ⟨h3,rfl⟩];rfl
theorem rf3 {b:Ch.Book} {p:Ch.Plant} {t:Int} {x:Ch.Stay} (hs:b.stay t=x) (h:¬ p.bay=x.car.id) (h2:p.has x.car.id=true) (h3:p.bay=0) (hd:p.door=true):Ch.jobOf b p ⟨t,true⟩=([⟨5,0⟩],none):=by
 refine rf_go hs ?_;unfold Ch.fetchOf;rw [if_neg (by rw [h2];rintro (e|e);exact h e;cases e),if_neg (fun e=>e.1 h3),if_neg (fun e=>e h3),if_pos hd]
theorem rf_where {p:Ch.Plant} {x:Ch.Stay} (h:¬ p.bay=x.car.id) (h2:p.has x.car.id=true) (h3:p.bay=0) (hd:p.door=false):
  Ch.fetchOf p x=match p.where_ x.car.id with
   | some y=>if y.depth=1∧p.slots (Ch.front y)≠0 then (Ch.fetch (Ch.front y),false) else (Ch.fetch y,false)
   | none=>([],false):=by
 unfold Ch.fetchOf;rw [if_neg (by rw [h2];rintro (e|e);exact h e;cases e),if_neg (fun e=>e.1 h3),if_neg (fun e=>e h3),if_neg (by rw [hd];simp)];rfl
theorem rf4 {b:Ch.Book} {p:Ch.Plant} {t:Int} {x:Ch.Stay} (hs:b.stay t=x) (h:¬ p.bay=x.car.id) (h2:p.has x.car.id=true) (h3:p.bay=0) (hd:p.door=false) (hw:p.where_ x.car.id=none):Ch.jobOf b p ⟨t,true⟩=([],none):=by
 refine rf_go hs ?_;rw [rf_where h h2 h3 hd,hw]
theorem rf5 {b:Ch.Book} {p:Ch.Plant} {t q1 q2:Int} {x:Ch.Stay} (hs:b.stay t=x) (h:¬ p.bay=x.car.id) (h2:p.has x.car.id=true) (h3:p.bay=0) (hd:p.door=false) (hw:p.where_ x.car.id=some ⟨q1,q2,1⟩) (hf:¬ p.slots ⟨q1,q2,0⟩=0):Ch.jobOf b p ⟨t,true⟩=(Ch.there ⟨q1,q2,0⟩ 3,none):=by
 refine rf_go hs ?_;rw [rf_where h h2 h3 hd,hw];exact if_pos ⟨rfl,hf⟩
theorem rf6 {b:Ch.Book} {p:Ch.Plant} {t:Int} {x:Ch.Stay} {y:Ch.Place} (hs:b.stay t=x) (h:¬ p.bay=x.car.id) (h2:p.has x.car.id=true) (h3:p.bay=0) (hd:p.door=false) (hw:p.where_ x.car.id=some y) (hf:¬ (y.depth=1∧¬ p.slots (Ch.front y)=0)):Ch.jobOf b p ⟨t,true⟩=(Ch.there y 3,none):=by
 refine rf_go hs ?_;rw [rf_where h h2 h3 hd,hw];exact if_neg hf
theorem rnext_js {w:World} {hb rb:Nat} {la:Option Addr} {ln lc:Nat} {last:Int} {a1:Option Addr} {m1 c1:Nat} {a2:Option Addr} {m2 c2:Nat} {gv:Value} {l:List Ch.Stay} {js:List Ch.Job} {p:Ch.Plant} (hh:RHAt w hb rb (.slice la ln lc) last a1 m1 c1 a2 m2 c2 gv l js p)
  (hwf:p.WF) (hj:Hid (∀ j∈js,∃ s∈l,s.ticket=j.ticket)) (h0:Hid (∀ s∈l,s.ticket≠0)) (hpl:Hid (∀ s∈l,Ch.placeFault s.home (ln:Int)=0)) (l1:1≤ln) (l4:ln≤4) (hlc:ln≤lc) (hlm:lc≤maxLen) (hm1:m1≤100) (hm2:m2≤100)
  (jt li ba:Int) (jf is dd:Bool) (hba:Hid (p.bay=ba)) (hli:Hid (p.lift=li)) (hdd:Hid (p.door=dd)) (HFJ:Hid (firstT (Ch.firstJob ⟨last,l,js⟩ ba)=(jt,jf,is))) (hl:li=0) (c:Int) (HC:Hid (p.slots ⟨(ln:Int),1,0⟩=c)) (hc:c=0) (hi:is=true) (hjf:jf=false):
  Calls Try.prog 86 #[.pointer (some ⟨hb,0,none⟩)] w (TurnR w (Ch.turnOf ⟨last,l,js⟩ (ln:Int) p).1 (Ch.turnOf ⟨last,l,js⟩ (ln:Int) p).2):=by
 subst hl;subst hi;subst hjf;have b1:=hh.st.bound;have b2:=hh.jb.bound;have HH:=Lib.hid hh;have hlt0:=cell_lt hh.cells.1;unfold maxLen at hlm;have e0':=hh.cells.1;have e1':=hh.cells.2.1
 have L1:(1:Int)≤(ln:Int):=by omega
 have L4:(ln:Int)≤4:=by omega
 clear hh;go_enter Try.func86,Try.ntmps86
 go_upto_region 2 with fail
 generalize hW:World.alloc _ _=w0
 have hx0:Ext w w0:=by rw [←hW];exact (by simp (maxDischargeDepth:=60))
 have r0:w0.cell? ⟨w.heap.size,0,none⟩=some (vi 0):=by rw [←hW];simp [go_sem]
 have r1:w0.cell? ⟨w.heap.size,1,none⟩=some (.slice none 0 0):=by rw [←hW];simp [go_sem]
 have r2:w0.cell? ⟨w.heap.size,2,none⟩=some (.slice none 0 0):=by rw [←hW];simp [go_sem]
 have fz:∀ i,w0.frozen? ⟨w.heap.size,i,none⟩=false:=by intro i;rw [←hW];simp [go_sem]
 have FZ:=Lib.hid fz;have k0:=xcell hx0 e0';have k1:=xcell hx0 e1';have HX0:=Lib.hid hx0;clear hW hx0 fz e0' e1' hlt0
 go_upto_region 3 with (go_at_call 42;(with_reducible refine (rspare_f _ _).mono ?_);rintro e w1 ⟨rfl,o1,n1,rfl⟩)
 generalize hW:World.alloc _ _=w1;generalize hA:w0.heap.size+_=SP
 have hx1:Ext w0 w1:=by rw [←hW];exact (by simp (maxDischargeDepth:=60))
 have s0:w1.cell? ⟨SP,0,none⟩=some (vi (ln:Int)):=by rw [←hW,←hA];simp [go_sem]
 have s1:w1.cell? ⟨SP,1,none⟩=some (vi 1):=by rw [←hW,←hA];simp [go_sem]
 have s2:w1.cell? ⟨SP,2,none⟩=some (vi 0):=by rw [←hW,←hA];simp [go_sem]
 have HX1:=Lib.hid (HX0.out.trans hx1);have m0:=xcell hx1 k0;have m1':=xcell hx1 k1;have v0:=xcell hx1 r0;have v1:=xcell hx1 r1;have v2:=xcell hx1 r2
 have fz1:∀ i,w1.frozen? ⟨w.heap.size,i,none⟩=false:=fun i=>xfree hx1 (cell_lt r0) (FZ.out i)
 have FZ1:=Lib.hid fz1;clear hW hA hx1 k0 k1 r0 r1 r2 FZ fz1 HX0
 go_upto_region 4 with (go_at_call 133;(with_reducible refine (rfirst_any jt false true (HH.out.ext (HX1.out.trans (by simp (maxDischargeDepth:=60)))) hj h0 ba hba HFJ).mono ?_);rintro e w1 ⟨rfl,o1,n1,rfl⟩)
 generalize hW:World.alloc _ _=w2;generalize hA:w1.heap.size+_=JB
 have hx2:Ext w1 w2:=by rw [←hW];exact (by simp (maxDischargeDepth:=60))
 have j0:w2.cell? ⟨JB,0,none⟩=some (vi jt):=by rw [←hW,←hA];simp [go_sem]
 have j1:w2.cell? ⟨JB,1,none⟩=some (.bool false):=by rw [←hW,←hA];simp [go_sem]
 have HX2:=Lib.hid (HX1.out.trans hx2);have t0:=xcell hx2 s0;have t1:=xcell hx2 s1;have t2:=xcell hx2 s2;have q0:=xcell hx2 v0;have q1:=xcell hx2 v1;have q2:=xcell hx2 v2
 have fz2:∀ i,w2.frozen? ⟨w.heap.size,i,none⟩=false:=fun i=>xfree hx2 (cell_lt v0) (FZ1.out i)
 have FZ2:=Lib.hid fz2;have H2:=Lib.hid (HH.out.ext HX2.out);have g1:=H2.out.cells.2.1;have g2:=H2.out.cells.2.2.1;have g3:=H2.out.cells.2.2.2.1;have g4:=H2.out.cells.2.2.2.2.1;have pd:=H2.out.pl.cells.2.2.2.1;have pl:=H2.out.pl.cells.2.2.2.2.2.1;have pb:=H2.out.pl.cells.2.2.2.2.2.2.1;rw [hdd.out] at pd;rw [hli.out] at pl;rw [hba.out] at pb;have z1:=cell_lt q0;have z2:=cell_lt t0;have z3:=cell_lt j0;have z4:=cell_lt g1;have z5:=cell_lt pl;have hRw:w.heap.size≤w.heap.size:=Nat.le_refl _;clear hW hA hx2 m0 m1' v0 v1 v2 s0 s1 s2 FZ1 fz2 HX1 HH
 go_upto_region 17 with fail
 have hxs:Ext w2 w2:=Ext.refl _;replace q0:=xcell hxs q0;replace q1:=xcell hxs q1;replace q2:=xcell hxs q2;replace t0:=xcell hxs t0;replace t1:=xcell hxs t1;replace t2:=xcell hxs t2;replace j0:=xcell hxs j0;replace j1:=xcell hxs j1;replace g1:=xcell hxs g1;replace pd:=xcell hxs pd;replace pl:=xcell hxs pl;replace pb:=xcell hxs pb;replace g2:=xcell hxs g2;replace g3:=xcell hxs g3;replace g4:=xcell hxs g4
 have FQ:Hid (∀ i,w2.frozen? ⟨w.heap.size,i,none⟩=false):=fun i=>xfree hxs z1 (FZ2.out i)
 have HXB:=Lib.hid (HX2.out.trans hxs);have HB:=Lib.hid (H2.out.ext hxs);clear hxs z1 z2 z3 z4 z5 FZ2 HX2 H2;have z1:=cell_lt q0;have z2:=cell_lt t0;have z3:=cell_lt j0;have z4:=cell_lt g1;have z5:=cell_lt pl
 go_upto_if 112 with (go_at_call 128;(with_reducible refine (rat_val (HB.out.pl.ext (by simp (maxDischargeDepth:=60))) hwf _ _ _ c HC).mono ?_);rintro e w1 ⟨rfl,o1,n1,rfl⟩)
 generalize hWq:World.plus _ _ _=wq
 have hxq:Ext w2 wq:=by rw [←hWq];exact (by simp (maxDischargeDepth:=60))
 clear hWq;replace q0:=xcell hxq q0;replace q1:=xcell hxq q1;replace q2:=xcell hxq q2;replace t0:=xcell hxq t0;replace t1:=xcell hxq t1;replace t2:=xcell hxq t2;replace j0:=xcell hxq j0;replace j1:=xcell hxq j1;replace g1:=xcell hxq g1;replace pd:=xcell hxq pd;replace pl:=xcell hxq pl;replace pb:=xcell hxq pb;replace g2:=xcell hxq g2;replace g3:=xcell hxq g3;replace g4:=xcell hxq g4
 replace FQ:Hid (∀ i,wq.frozen? ⟨w.heap.size,i,none⟩=false):=fun i=>xfree hxq z1 (FQ.out i)
 replace HXB:=Lib.hid (HXB.out.trans hxq);replace HB:=Lib.hid (HB.out.ext hxq);clear hxq z1 z2 z3 z4 z5;have z1:=cell_lt q0;have z2:=cell_lt t0;have z3:=cell_lt j0;have z4:=cell_lt g1;have z5:=cell_lt pl
 go_cut [] (fun wx=>Ext wq wx)
 case first=>
  subst hc;go_wp2_with fail;go_meet;exact Ext.refl _
 case rest=>
  replace q0:=xcell hcut q0;replace q1:=xcell hcut q1;replace q2:=xcell hcut q2;replace t0:=xcell hcut t0;replace t1:=xcell hcut t1;replace t2:=xcell hcut t2;replace j0:=xcell hcut j0;replace j1:=xcell hcut j1;replace g1:=xcell hcut g1;replace pd:=xcell hcut pd;replace pl:=xcell hcut pl;replace pb:=xcell hcut pb;replace g2:=xcell hcut g2;replace g3:=xcell hcut g3;replace g4:=xcell hcut g4
  replace FQ:Hid (∀ i,wc.frozen? ⟨w.heap.size,i,none⟩=false):=fun i=>xfree hcut z1 (FQ.out i)
  replace HXB:=Lib.hid (HXB.out.trans hcut);replace HB:=Lib.hid (HB.out.ext hcut);clear hcut z1 z2 z3 z4 z5;have z1:=cell_lt q0;have z2:=cell_lt t0;have z3:=cell_lt j0;have z4:=cell_lt g1;have z5:=cell_lt pl;have HJX:Hid (∃ s∈l,s.ticket=jt):=rfirst_mem hj HFJ.out rfl
  have HJ1:Hid (jt≠0):=by unfold Hid;obtain ⟨s,hs,e⟩:=HJX.out;rw [←e];exact h0.out s hs
  obtain ⟨⟨xt,⟨xi,⟨x1,x2,x3⟩⟩,⟨u1,u2,u3⟩⟩,HST⟩:∃ x,Hid ((⟨last,l,js⟩:Ch.Book).stay jt=x):=⟨_,rfl⟩
  obtain ⟨hv,HHV⟩:∃ x,Hid (p.has xi=x):=⟨_,rfl⟩
  obtain ⟨sv,HSV⟩:∃ x,Hid (p.slots ⟨u1,u2,u3⟩=x):=⟨_,rfl⟩
  have HT:Hid (Ch.turnOf ⟨last,l,js⟩ (ln:Int) p=Ch.jobOf ⟨last,l,js⟩ p ⟨jt,false⟩):=rturn_job hli.out hba.out HC.out HFJ.out (Or.inl hc)
  go_upto_region 28 with fail
  go_cut [16,17] (fun s16 s17 wx=>∃ A5:Nat,s16 = .pointer (some ⟨A5,0,none⟩)∧s17 = .bool true∧Ext wc wx  ∧ wx.cell? ⟨A5,0,none⟩=some (vi xt)∧wx.cell? ⟨A5,1,none⟩=some (vi xi)∧wx.cell? ⟨A5,2,none⟩=some (vi x1)∧wx.cell? ⟨A5,3,none⟩=some (vi x2)∧wx.cell? ⟨A5,4,none⟩=some (vi x3)∧wx.cell? ⟨A5,5,none⟩=some (vi u1)∧wx.cell? ⟨A5,6,none⟩=some (vi u2)∧wx.cell? ⟨A5,7,none⟩=some (vi u3))
  case first=>
   go_region_held3 (fun w'=>w'.cell? ⟨hb,2,none⟩=some (vi last)∧w'.cell? ⟨hb,3,none⟩=some (.slice a1 m1 c1)∧w'.cell? ⟨hb,4,none⟩=some (.slice a2 m2 c2)∧w'.cell? ⟨JB,0,none⟩=some (vi jt)) (first|((try dsimp only);(repeat' apply And.intro) <;> (refine xcell (w:=wc) ?_ (by assumption);simp (maxDischargeDepth:=60);done))) (first|(go_at_call 107;(with_reducible refine (refStay xt xi x1 x2 x3 u1 u2 u3 _ _ _ _ _ _ _ _ l js _ (Sl.below HB.out.st (Ext.below (by simp (maxDischargeDepth:=60)))) HJ1 HJX HST).mono ?_);rintro e w1 ⟨rfl,o1,n1,rfl⟩))
   ·generalize hW:World.alloc _ _=w5
    generalize hA:wc.heap.size+_=A5
    have hx5:Ext wc w5:=by rw [←hW];exact (by simp (maxDischargeDepth:=60))
    have xx0:w5.cell? ⟨A5,0,none⟩=some (vi xt):=by rw [←hW,←hA];simp [go_sem]
    have xx1:w5.cell? ⟨A5,1,none⟩=some (vi xi):=by rw [←hW,←hA];simp [go_sem]
    have xx2:w5.cell? ⟨A5,2,none⟩=some (vi x1):=by rw [←hW,←hA];simp [go_sem]
    have xx3:w5.cell? ⟨A5,3,none⟩=some (vi x2):=by rw [←hW,←hA];simp [go_sem]
    have xx4:w5.cell? ⟨A5,4,none⟩=some (vi x3):=by rw [←hW,←hA];simp [go_sem]
    have xx5:w5.cell? ⟨A5,5,none⟩=some (vi u1):=by rw [←hW,←hA];simp [go_sem]
    have xx6:w5.cell? ⟨A5,6,none⟩=some (vi u2):=by rw [←hW,←hA];simp [go_sem]
    have xx7:w5.cell? ⟨A5,7,none⟩=some (vi u3):=by rw [←hW,←hA];simp [go_sem]
    clear hW hA;go_wp2_with fail;go_meet;exact ⟨A5,rfl,rfl,hx5,xx0,xx1,xx2,xx3,xx4,xx5,xx6,xx7⟩
   ·generalize hW:World.setCell _ _ _=w5
    obtain ⟨xx0,xx1,xx2,xx3,xx4,xx5,xx6,xx7,hx5⟩:=put8 (w:=wc) hW (by simp (maxDischargeDepth:=60)) (by first|exact Nat.le_refl _|(simp;done)|(simp;omega)) (by rw [plus_heap _ _ _ _ (by simp)];exact alloc_at _ _ _ (by first|rfl|simp)) rfl;clear hW;go_wp2_with fail;go_meet;exact ⟨_,rfl,rfl,hx5,xx0,xx1,xx2,xx3,xx4,xx5,xx6,xx7⟩
  case rest=>
   obtain ⟨A5,rfl,rfl,hx5,c0',c1',c2',c3',c4',c5',c6',c7'⟩:=hcut;replace q0:=xcell hx5 q0;replace q1:=xcell hx5 q1;replace q2:=xcell hx5 q2;replace t0:=xcell hx5 t0;replace t1:=xcell hx5 t1;replace t2:=xcell hx5 t2;replace j0:=xcell hx5 j0;replace j1:=xcell hx5 j1;replace g1:=xcell hx5 g1;replace pd:=xcell hx5 pd;replace pl:=xcell hx5 pl;replace pb:=xcell hx5 pb;replace g2:=xcell hx5 g2;replace g3:=xcell hx5 g3;replace g4:=xcell hx5 g4
   replace FQ:Hid (∀ i,wc.frozen? ⟨w.heap.size,i,none⟩=false):=fun i=>xfree hx5 z1 (FQ.out i)
   replace HXB:=Lib.hid (HXB.out.trans hx5);replace HB:=Lib.hid (HB.out.ext hx5);clear hx5 z1 z2 z3 z4 z5;have z1:=cell_lt q0;have z2:=cell_lt t0;have z3:=cell_lt j0;have z4:=cell_lt g1;have z5:=cell_lt pl;have z6:=cell_lt c0'
   go_upto_region 31 with (go_at_call 83;(with_reducible refine (rhas_at hv (HB.out.pl.ext (by simp (maxDischargeDepth:=60))) hwf _ HHV).mono ?_);rintro e w1 ⟨rfl,o1,n1,rfl⟩)
   generalize hWq:World.plus _ _ _=we
   have hxq:Ext wc we:=by rw [←hWq];exact (by simp (maxDischargeDepth:=60))
   clear hWq;replace c0':=xcell hxq c0';replace c1':=xcell hxq c1';replace c2':=xcell hxq c2';replace c3':=xcell hxq c3';replace c4':=xcell hxq c4';replace c5':=xcell hxq c5';replace c6':=xcell hxq c6';replace c7':=xcell hxq c7';replace q0:=xcell hxq q0;replace q1:=xcell hxq q1;replace q2:=xcell hxq q2;replace t0:=xcell hxq t0;replace t1:=xcell hxq t1;replace t2:=xcell hxq t2;replace j0:=xcell hxq j0;replace j1:=xcell hxq j1;replace g1:=xcell hxq g1;replace pd:=xcell hxq pd;replace pl:=xcell hxq pl;replace pb:=xcell hxq pb;replace g2:=xcell hxq g2;replace g3:=xcell hxq g3;replace g4:=xcell hxq g4
   replace FQ:Hid (∀ i,we.frozen? ⟨w.heap.size,i,none⟩=false):=fun i=>xfree hxq z1 (FQ.out i)
   replace HXB:=Lib.hid (HXB.out.trans hxq);replace HB:=Lib.hid (HB.out.ext hxq);clear hxq z1 z2 z3 z4 z5;have z1:=cell_lt q0;have z2:=cell_lt t0;have z3:=cell_lt j0;have z4:=cell_lt g1;have z5:=cell_lt pl;have z6:=cell_lt c0'
   by_cases h1:sv=xi
   ·obtain ⟨⟨dl,dss,djs⟩,HDN⟩:∃ x,Hid (Ch.doneWith ⟨last,l,js⟩ ⟨jt,false⟩ false=x):=⟨_,rfl⟩
    go_upto_region 33 with (go_at_call 128;(with_reducible refine (rat_val (HB.out.pl.ext (by simp (maxDischargeDepth:=60))) hwf _ _ _ sv HSV).mono ?_);rintro e w1 ⟨rfl,o1,n1,rfl⟩)
    generalize hWq:World.plus _ _ _=wz
    have hxq:Ext we wz:=by rw [←hWq];exact (by simp (maxDischargeDepth:=60))
    clear hWq;replace c0':=xcell hxq c0';replace c1':=xcell hxq c1';replace c2':=xcell hxq c2';replace c3':=xcell hxq c3';replace c4':=xcell hxq c4';replace c5':=xcell hxq c5';replace c6':=xcell hxq c6';replace c7':=xcell hxq c7';replace q0:=xcell hxq q0;replace q1:=xcell hxq q1;replace q2:=xcell hxq q2;replace t0:=xcell hxq t0;replace t1:=xcell hxq t1;replace t2:=xcell hxq t2;replace j0:=xcell hxq j0;replace j1:=xcell hxq j1;replace g1:=xcell hxq g1;replace pd:=xcell hxq pd;replace pl:=xcell hxq pl;replace pb:=xcell hxq pb;replace g2:=xcell hxq g2;replace g3:=xcell hxq g3;replace g4:=xcell hxq g4
    replace FQ:Hid (∀ i,wz.frozen? ⟨w.heap.size,i,none⟩=false):=fun i=>xfree hxq z1 (FQ.out i)
    replace HXB:=Lib.hid (HXB.out.trans hxq);replace HB:=Lib.hid (HB.out.ext hxq);clear hxq z1 z2 z3 z4 z5;have z1:=cell_lt q0;have z2:=cell_lt t0;have z3:=cell_lt j0;have z4:=cell_lt g1;have z5:=cell_lt pl;have z6:=cell_lt c0'
    go_region_with (first|(go_at_call 74;(with_reducible refine (rdone_val ⟨dl,dss,djs⟩ last jt false false _ _ _ _ _ _ l js _ (Sl.below HB.out.st (Ext.below (by simp (maxDischargeDepth:=60)))) (Sl.below HB.out.jb (Ext.below (by simp (maxDischargeDepth:=60)))) hm1 hm2 HDN).mono ?_);rintro e wv ⟨d1,d2,rfl,hob,hxd⟩;obtain ⟨g1,i1,rfl,-⟩:=Sl.of_owns (c:=8) (enc:=stayCells) hob.stays (by decide) (fun _=>rfl);obtain ⟨g2,i2,rfl,-⟩:=Sl.of_owns (c:=2) (enc:=jobCells) hob.jobs (by decide) (fun _=>rfl);have hxv:=hxd;have hxz:Ext wz wv:=Ext.trans (by simp (maxDischargeDepth:=60)) hxv;have fq0:=xfree hxz (cell_lt q0) (FQ.out 0);have fq1:=xfree hxz (cell_lt q0) (FQ.out 1);have fq2:=xfree hxz (cell_lt q0) (FQ.out 2);have pq0:=xcell hxz q0;have pq1:=xcell hxz q1;have pq2:=xcell hxz q2))
    all_goals
     repeat (first|go_values|go_skip|go_guarded|go_step|go_upon|simp only [])
     obtain ⟨o0,o1,o2,ox⟩:=put3k (w:=w) (x:=vi dl) (y:=.slice g1 dss.length i1) (z:=.slice g2 djs.length i2) (HXB.out.trans hxz) (Nat.le_refl _) pq0 pq1 pq2;refine bodyPost_ret (v:=.tuple #[.slice none 0 0,.agg #[vi dl,.slice g1 dss.length i1,.slice g2 djs.length i2],.bool true]) (by simp [results,Try.results86,go_sem,o0,o1,o2]) rfl ?_
     have HE:Ch.turnOf ⟨last,l,js⟩ (ln:Int) p=([],some ⟨dl,dss,djs⟩):=by rw [HT.out,rj1 HST.out (by rw [HSV.out];exact h1),HDN.out]
     rw [HE];exact ⟨_,_,_,rfl,owns_nilG _ _ _ _,(hob.put3 (by first|omega|(simp;omega))).weak (by have:=HXB.out.below.size;first|omega|(simp;omega)),ox⟩
   ·have HN1:Hid (¬ p.slots ⟨u1,u2,u3⟩=xi):=by unfold Hid;rw [HSV.out];exact h1
    by_cases h2:ba=xi
    ·go_upto_region 35 with (go_at_call 128;(with_reducible refine (rat_val (HB.out.pl.ext (by simp (maxDischargeDepth:=60))) hwf _ _ _ sv HSV).mono ?_);rintro e w1 ⟨rfl,o1,n1,rfl⟩)
     repeat (first|(go_big_may;(go_at_call 15;(with_reducible refine (rTakeIn_any _).mono ?_);rintro e wv ⟨v1,rfl,hown,hxv⟩;have hxz:Ext we wv:=Ext.trans (by simp (maxDischargeDepth:=60)) hxv;have fq0:=xfree hxz (cell_lt q0) (FQ.out 0);have fq1:=xfree hxz (cell_lt q0) (FQ.out 1);have fq2:=xfree hxz (cell_lt q0) (FQ.out 2);have pq0:=xcell hxz q0;have pq1:=xcell hxz q1;have pq2:=xcell hxz q2))|go_values|go_skip|go_guarded|go_step|go_upon|simp only [])
     have HE:Ch.turnOf ⟨last,l,js⟩ (ln:Int) p=(Ch.takeIn,none):=by rw [HT.out,rj2 HST.out HN1.out (by rw [hba.out];exact h2)]
     obtain ⟨o0,o1,o2,ox⟩:=put3k (w:=w) (x:=vi 0) (y:=.slice none 0 0) (z:=.slice none 0 0) (HXB.out.trans hxz) (Nat.le_refl _) pq0 pq1 pq2;refine bodyPost_ret (v:=.tuple #[v1,.agg #[vi 0,.slice none 0 0,.slice none 0 0],.bool false]) (by simp [results,Try.results86,go_sem,o0,o1,o2]) rfl ?_;rw [HE];exact ⟨v1,_,_,rfl,owns_base (owns_put3 hown (by have:=cell_lt q0;first|omega|(simp;omega))) (by have:=HXB.out.below.size;first|omega|(simp;omega)),own_zero _ _,ox⟩
    ·have HN2:Hid (¬ p.bay=xi):=by unfold Hid;rw [hba.out];exact h2
     cases hv
     ·obtain ⟨⟨dl,dss,djs⟩,HDN⟩:∃ x,Hid (Ch.doneWith ⟨last,l,js⟩ ⟨jt,false⟩ true=x):=⟨_,rfl⟩
      go_upto_region 37 with (go_at_call 128;(with_reducible refine (rat_val (HB.out.pl.ext (by simp (maxDischargeDepth:=60))) hwf _ _ _ sv HSV).mono ?_);rintro e w1 ⟨rfl,o1,n1,rfl⟩)
      generalize hWq:World.plus _ _ _=wz
      have hxq:Ext we wz:=by rw [←hWq];exact (by simp (maxDischargeDepth:=60))
      clear hWq;replace c0':=xcell hxq c0';replace c1':=xcell hxq c1';replace c2':=xcell hxq c2';replace c3':=xcell hxq c3';replace c4':=xcell hxq c4';replace c5':=xcell hxq c5';replace c6':=xcell hxq c6';replace c7':=xcell hxq c7';replace q0:=xcell hxq q0;replace q1:=xcell hxq q1;replace q2:=xcell hxq q2;replace t0:=xcell hxq t0;replace t1:=xcell hxq t1;replace t2:=xcell hxq t2;replace j0:=xcell hxq j0;replace j1:=xcell hxq j1;replace g1:=xcell hxq g1;replace pd:=xcell hxq pd;replace pl:=xcell hxq pl;replace pb:=xcell hxq pb;replace g2:=xcell hxq g2;replace g3:=xcell hxq g3;replace g4:=xcell hxq g4
      replace FQ:Hid (∀ i,wz.frozen? ⟨w.heap.size,i,none⟩=false):=fun i=>xfree hxq z1 (FQ.out i)
      replace HXB:=Lib.hid (HXB.out.trans hxq);replace HB:=Lib.hid (HB.out.ext hxq);clear hxq z1 z2 z3 z4 z5;have z1:=cell_lt q0;have z2:=cell_lt t0;have z3:=cell_lt j0;have z4:=cell_lt g1;have z5:=cell_lt pl;have z6:=cell_lt c0'
      go_region_with (first|(go_at_call 74;(with_reducible refine (rdone_val ⟨dl,dss,djs⟩ last jt false true _ _ _ _ _ _ l js _ (Sl.below HB.out.st (Ext.below (by simp (maxDischargeDepth:=60)))) (Sl.below HB.out.jb (Ext.below (by simp (maxDischargeDepth:=60)))) hm1 hm2 HDN).mono ?_);rintro e wv ⟨d1,d2,rfl,hob,hxd⟩;obtain ⟨g1,i1,rfl,-⟩:=Sl.of_owns (c:=8) (enc:=stayCells) hob.stays (by decide) (fun _=>rfl);obtain ⟨g2,i2,rfl,-⟩:=Sl.of_owns (c:=2) (enc:=jobCells) hob.jobs (by decide) (fun _=>rfl);have hxv:=hxd;have hxz:Ext wz wv:=Ext.trans (by simp (maxDischargeDepth:=60)) hxv;have fq0:=xfree hxz (cell_lt q0) (FQ.out 0);have fq1:=xfree hxz (cell_lt q0) (FQ.out 1);have fq2:=xfree hxz (cell_lt q0) (FQ.out 2);have pq0:=xcell hxz q0;have pq1:=xcell hxz q1;have pq2:=xcell hxz q2))
      all_goals
       repeat (first|go_values|go_skip|go_guarded|go_step|go_upon|simp only [])
       obtain ⟨o0,o1,o2,ox⟩:=put3k (w:=w) (x:=vi dl) (y:=.slice g1 dss.length i1) (z:=.slice g2 djs.length i2) (HXB.out.trans hxz) (Nat.le_refl _) pq0 pq1 pq2;refine bodyPost_ret (v:=.tuple #[.slice none 0 0,.agg #[vi dl,.slice g1 dss.length i1,.slice g2 djs.length i2],.bool true]) (by simp [results,Try.results86,go_sem,o0,o1,o2]) rfl ?_
       have HE:Ch.turnOf ⟨last,l,js⟩ (ln:Int) p=([],some ⟨dl,dss,djs⟩):=by rw [HT.out,rj3 HST.out HN1.out HN2.out HHV.out,HDN.out]
       rw [HE];exact ⟨_,_,_,rfl,owns_nilG _ _ _ _,(hob.put3 (by first|omega|(simp;omega))).weak (by have:=HXB.out.below.size;first|omega|(simp;omega)),ox⟩
     ·go_upto_region 38 with (go_at_call 128;(with_reducible refine (rat_val (HB.out.pl.ext (by simp (maxDischargeDepth:=60))) hwf _ _ _ sv HSV).mono ?_);rintro e w1 ⟨rfl,o1,n1,rfl⟩)
      generalize hWq:World.plus _ _ _=wz
      have hxq:Ext we wz:=by rw [←hWq];exact (by simp (maxDischargeDepth:=60))
      clear hWq;replace c0':=xcell hxq c0';replace c1':=xcell hxq c1';replace c2':=xcell hxq c2';replace c3':=xcell hxq c3';replace c4':=xcell hxq c4';replace c5':=xcell hxq c5';replace c6':=xcell hxq c6';replace c7':=xcell hxq c7';replace q0:=xcell hxq q0;replace q1:=xcell hxq q1;replace q2:=xcell hxq q2;replace t0:=xcell hxq t0;replace t1:=xcell hxq t1;replace t2:=xcell hxq t2;replace j0:=xcell hxq j0;replace j1:=xcell hxq j1;replace g1:=xcell hxq g1;replace pd:=xcell hxq pd;replace pl:=xcell hxq pl;replace pb:=xcell hxq pb;replace g2:=xcell hxq g2;replace g3:=xcell hxq g3;replace g4:=xcell hxq g4
      replace FQ:Hid (∀ i,wz.frozen? ⟨w.heap.size,i,none⟩=false):=fun i=>xfree hxq z1 (FQ.out i)
      replace HXB:=Lib.hid (HXB.out.trans hxq);replace HB:=Lib.hid (HB.out.ext hxq);clear hxq z1 z2 z3 z4 z5;have z1:=cell_lt q0;have z2:=cell_lt t0;have z3:=cell_lt j0;have z4:=cell_lt g1;have z5:=cell_lt pl;have z6:=cell_lt c0';have fq0:=FQ.out 0;have fq1:=FQ.out 1;have fq2:=FQ.out 2
      go_upto_region 38 with fail
      repeat (first|(go_big_may;fail)|go_values|go_skip|go_guarded|go_step|go_upon|simp only [])
      have HE:Ch.turnOf ⟨last,l,js⟩ (ln:Int) p=([],none):=by rw [HT.out,rj4 HST.out HN1.out HN2.out HHV.out]
      obtain ⟨o0,o1,o2,ox⟩:=put3k (w:=w) (x:=vi 0) (y:=.slice none 0 0) (z:=.slice none 0 0) HXB.out (Nat.le_refl _) q0 q1 q2;refine bodyPost_ret (v:=.tuple #[.slice none 0 0,.agg #[vi 0,.slice none 0 0,.slice none 0 0],.bool false]) (by simp [results,Try.results86,go_sem,o0,o1,o2]) rfl ?_;rw [HE];exact ⟨_,_,_,rfl,owns_nilG _ _ _ _,own_zero _ _,ox⟩
end Go.Proofs.Ytplomeacjbkgnaa
