import Derived.Test.YtplomeacjbkgnabGreatDoorZ41
set_option linter.all false
set_option maxRecDepth 100000
set_option maxHeartbeats 16000000
namespace Go.Proofs.YtplomeacjbkgnabGreatDoor
open Go.RowKit
theorem rj1 {b:Ch.Book} {p:Ch.Plant} {t:Int} {x:Ch.Stay} (hs:b.stay t=x) (h:p.slots x.home=x.car.id):Ch.jobOf b p ⟨t,false⟩=([],some (Ch.doneWith b ⟨t,false⟩ false)):=by
 simp only [Ch.jobOf,Ch.storeOf,hs];simp [h]
theorem rj2 {b:Ch.Book} {p:Ch.Plant} {t:Int} {x:Ch.Stay} (hs:b.stay t=x) (h:¬ p.slots x.home=x.car.id) (h2:p.bay=x.car.id):Ch.jobOf b p ⟨t,false⟩=(Ch.takeIn,none):=by
 simp only [Ch.jobOf,Ch.storeOf,hs];simp [h,h2]
theorem rj3 {b:Ch.Book} {p:Ch.Plant} {t:Int} {x:Ch.Stay} (hs:b.stay t=x) (h:¬ p.slots x.home=x.car.id) (h2:¬ p.bay=x.car.id) (h3:p.has x.car.id=false):Ch.jobOf b p ⟨t,false⟩=([],some (Ch.doneWith b ⟨t,false⟩ true)):=by
 simp only [Ch.jobOf,Ch.storeOf,hs];simp [h,h2,h3]
theorem rj4 {b:Ch.Book} {p:Ch.Plant} {t:Int} {x:Ch.Stay} (hs:b.stay t=x) (h:¬ p.slots x.home=x.car.id) (h2:¬ p.bay=x.car.id) (h3:p.has x.car.id=true):Ch.jobOf b p ⟨t,false⟩=([],none):=by
 simp only [Ch.jobOf,Ch.storeOf,hs];simp [h,h2,h3]
theorem rf_go {b:Ch.Book} {p:Ch.Plant} {t:Int} {x:Ch.Stay} {gl:List Ch.Goal} (hs:b.stay t=x) (e:Ch.fetchOf p x=(gl,false)):Ch.jobOf b p ⟨t,true⟩=(gl,none):=by simp [Ch.jobOf,hs,e]
theorem rf1 {b:Ch.Book} {p:Ch.Plant} {t:Int} {x:Ch.Stay} (hs:b.stay t=x) (h:p.bay=x.car.id∨p.has x.car.id=false):Ch.jobOf b p ⟨t,true⟩=([],some (Ch.doneWith b ⟨t,true⟩ false)):=by
 have e:Ch.fetchOf p x=([],true):=by unfold Ch.fetchOf;rw [if_pos h]
 simp [Ch.jobOf,hs,e]
theorem rf2 {b:Ch.Book} {p:Ch.Plant} {t:Int} {x:Ch.Stay} {dd:Bool} (hs:b.stay t=x) (h:¬ p.bay=x.car.id) (h2:p.has x.car.id=true) (h3:¬ p.bay=0) (hd:p.door=dd):Ch.jobOf b p ⟨t,true⟩=(if dd then [] else Ch.welcome,none):=by
 refine rf_go hs ?_;subst hd;unfold Ch.fetchOf;rw [if_neg (by rw [h2];rintro (e|e);exact h e;cases e)];cases hd:p.door
 ·rw [if_neg (by rintro ⟨-,e⟩;cases e),if_pos h3];rfl
 ·rw [if_pos ⟨h3,rfl⟩];rfl
theorem rf3 {b:Ch.Book} {p:Ch.Plant} {t:Int} {x:Ch.Stay} (hs:b.stay t=x) (h:¬ p.bay=x.car.id) (h2:p.has x.car.id=true) (h3:p.bay=0) (hd:p.door=true):Ch.jobOf b p ⟨t,true⟩=([⟨5,0⟩],none):=by
 refine rf_go hs ?_;unfold Ch.fetchOf;rw [if_neg (by rw [h2];rintro (e|e);exact h e;cases e),if_neg (fun e=>e.1 h3),if_neg (fun e=>e h3),if_pos hd]
theorem rf_where {p:Ch.Plant} {x:Ch.Stay} (h:¬ p.bay=x.car.id) (h2:p.has x.car.id=true) (h3:p.bay=0) (hd:p.door=false):
  Ch.fetchOf p x=match p.where_ x.car.id with
   | some y=>if y.depth=1∧p.slots (Ch.front y)≠0 then (Ch.fetch (Ch.front y),false) else (Ch.fetch y,false)
   | none=>([],false):=by
 unfold Ch.fetchOf;rw [if_neg (by rw [h2];rintro (e|e);exact h e;cases e),if_neg (fun e=>e.1 h3),if_neg (fun e=>e h3),if_neg (by rw [hd];simp)];rfl
theorem rf4 {b:Ch.Book} {p:Ch.Plant} {t:Int} {x:Ch.Stay} (hs:b.stay t=x) (h:¬ p.bay=x.car.id) (h2:p.has x.car.id=true) (h3:p.bay=0) (hd:p.door=false) (hw:p.where_ x.car.id=none):Ch.jobOf b p ⟨t,true⟩=([],none):=by
 refine rf_go hs ?_;rw [rf_where h h2 h3 hd,hw]
theorem rf5 {b:Ch.Book} {p:Ch.Plant} {t q1 q2:Int} {x:Ch.Stay} (hs:b.stay t=x) (h:¬ p.bay=x.car.id) (h2:p.has x.car.id=true) (h3:p.bay=0) (hd:p.door=false) (hw:p.where_ x.car.id=some ⟨q1,q2,1⟩) (hf:¬ p.slots ⟨q1,q2,0⟩=0):Ch.jobOf b p ⟨t,true⟩=(Ch.there ⟨q1,q2,0⟩ 3,none):=by
 refine rf_go hs ?_;rw [rf_where h h2 h3 hd,hw];exact if_pos ⟨rfl,hf⟩
theorem rf6 {b:Ch.Book} {p:Ch.Plant} {t:Int} {x:Ch.Stay} {y:Ch.Place} (hs:b.stay t=x) (h:¬ p.bay=x.car.id) (h2:p.has x.car.id=true) (h3:p.bay=0) (hd:p.door=false) (hw:p.where_ x.car.id=some y) (hf:¬ (y.depth=1∧¬ p.slots (Ch.front y)=0)):Ch.jobOf b p ⟨t,true⟩=(Ch.there y 3,none):=by
 refine rf_go hs ?_;rw [rf_where h h2 h3 hd,hw];exact if_neg hf
theorem rnext_js {w:World} {hb rb:Nat} {la:Option Addr} {ln lc:Nat} {last:Int} {a1:Option Addr} {m1 c1:Nat} {a2:Option Addr} {m2 c2:Nat} {gv:Value} {l:List Ch.Stay} {js:List Ch.Job} {p:Ch.Plant} (hh:cH w hb rb (.slice la ln lc) last a1 m1 c1 a2 m2 c2 gv l js p)
  (hwf:p.WF) (hj:Hid (∀ j∈js,∃ s∈l,s.ticket=j.ticket)) (h0:Hid (∀ s∈l,s.ticket≠0)) (hpl:Hid (∀ s∈l,Ch.placeFault s.home (ln:Int)=0)) (l1:1≤ln) (l4:ln≤4) (hlc:ln≤lc) (hlm:lc≤maxLen) (hm1:m1≤100) (hm2:m2≤100)
  (jt li ba:Int) (jf is dd:Bool) (hba:Hid (p.bay=ba)) (hli:Hid (p.lift=li)) (hdd:Hid (p.door=dd)) (HFJ:Hid (qB (Ch.firstJob ⟨last,l,js⟩ ba)=(jt,jf,is))) (hl:li=0) (c:Int) (HC:Hid (p.slots ⟨(ln:Int),1,0⟩=c)) (hc:c=0) (hi:is=true) (hjf:jf=false):
  Calls Tryz.prog 68 #[.pointer (some ⟨hb,0,none⟩)] w (rF w (Ch.turnOf ⟨last,l,js⟩ (ln:Int) p).1 (Ch.turnOf ⟨last,l,js⟩ (ln:Int) p).2):=by
 subst hl;subst hi;subst hjf;have b1:=hh.st.bound;have b2:=hh.jb.bound;have HH:=aA hh;have hlt0:=dA hh.cells.1;unfold maxLen at hlm;have e0':=hh.cells.1;have e1':=hh.cells.2.1
 have L1:(1:Int)≤(ln:Int):=by omega
 have L4:(ln:Int)≤4:=by omega
 clear hh;go_enter Tryz.func68,Tryz.ntmps68
 go_upto_region 2 with fail
 generalize hW:World.alloc _ _=w0;have hx0:Ext w w0:=xQ hW;have r0:w0.cell? ⟨w.heap.size,0,none⟩=some (vi 0):=cQ hW;have r1:w0.cell? ⟨w.heap.size,1,none⟩=some (.slice none 0 0):=cQ hW;have r2:w0.cell? ⟨w.heap.size,2,none⟩=some (.slice none 0 0):=cQ hW
 have fz:∀ i,w0.frozen? ⟨w.heap.size,i,none⟩=false:=by intro i;rw [←hW];simp [go_sem]
 have FZ:=aA fz;have k0:=eA hx0 e0';have k1:=eA hx0 e1';have HX0:=aA hx0;clear hW hx0 fz e0' e1' hlt0
 go_upto_region 3 with (go_at_call 124;(with_reducible refine (lD _ _).mono ?_);rintro e w1 ⟨rfl,o1,n1,rfl⟩)
 generalize hW:World.alloc _ _=w1;generalize hA:w0.heap.size+_=SP;have hx1:Ext w0 w1:=xQ hW;have s0:w1.cell? ⟨SP,0,none⟩=some (vi (ln:Int)):=cR hW hA;have s1:w1.cell? ⟨SP,1,none⟩=some (vi 1):=cR hW hA;have s2:w1.cell? ⟨SP,2,none⟩=some (vi 0):=cR hW hA;have HX1:=aA (HX0.out.trans hx1);have m0:=eA hx1 k0;have m1':=eA hx1 k1;have v0:=eA hx1 r0;have v1:=eA hx1 r1;have v2:=eA hx1 r2
 have fz1:∀ i,w1.frozen? ⟨w.heap.size,i,none⟩=false:=fun i=>kA hx1 (dA r0) (FZ.out i)
 have FZ1:=aA fz1;clear hW hA hx1 k0 k1 r0 r1 r2 FZ fz1 HX0
 go_upto_region 4 with (go_at_call 125;(with_reducible refine (mC jt false true (HH.out.ext (HX1.out.trans eX)) hj h0 ba hba HFJ).mono ?_);rintro e w1 ⟨rfl,o1,n1,rfl⟩)
 generalize hW:World.alloc _ _=w2;generalize hA:w1.heap.size+_=JB;have hx2:Ext w1 w2:=xQ hW;have j0:w2.cell? ⟨JB,0,none⟩=some (vi jt):=cR hW hA;have j1:w2.cell? ⟨JB,1,none⟩=some (.bool false):=cR hW hA;have HX2:=aA (HX1.out.trans hx2);have t0:=eA hx2 s0;have t1:=eA hx2 s1;have t2:=eA hx2 s2;have q0:=eA hx2 v0;have q1:=eA hx2 v1;have q2:=eA hx2 v2
 have fz2:∀ i,w2.frozen? ⟨w.heap.size,i,none⟩=false:=fun i=>kA hx2 (dA v0) (FZ1.out i)
 have FZ2:=aA fz2;have H2:=aA (HH.out.ext HX2.out);have g1:=H2.out.cells.2.1;have g2:=H2.out.cells.2.2.1;have g3:=H2.out.cells.2.2.2.1;have g4:=H2.out.cells.2.2.2.2.1;have pd:=H2.out.pl.cells.2.2.2.1;have pl:=H2.out.pl.cells.2.2.2.2.2.1;have pb:=H2.out.pl.cells.2.2.2.2.2.2.1;rw [hdd.out] at pd;rw [hli.out] at pl;rw [hba.out] at pb;have z1:=dA q0;have z2:=dA t0;have z3:=dA j0;have z4:=dA g1;have z5:=dA pl;have hRw:w.heap.size≤w.heap.size:=Nat.le_refl _;clear hW hA hx2 m0 m1' v0 v1 v2 s0 s1 s2 FZ1 fz2 HX1 HH
 go_upto_region 17 with fail
 have hxs:Ext w2 w2:=Ext.refl _;replace q0:=eA hxs q0;replace q1:=eA hxs q1;replace q2:=eA hxs q2;replace t0:=eA hxs t0;replace t1:=eA hxs t1;replace t2:=eA hxs t2;replace j0:=eA hxs j0;replace j1:=eA hxs j1;replace g1:=eA hxs g1;replace pd:=eA hxs pd;replace pl:=eA hxs pl;replace pb:=eA hxs pb;replace g2:=eA hxs g2;replace g3:=eA hxs g3;replace g4:=eA hxs g4
 have FQ:Hid (∀ i,w2.frozen? ⟨w.heap.size,i,none⟩=false):=fun i=>kA hxs z1 (FZ2.out i)
 have HXB:=aA (HX2.out.trans hxs);have HB:=aA (H2.out.ext hxs);clear hxs z1 z2 z3 z4 z5 FZ2 HX2 H2;have z1:=dA q0;have z2:=dA t0;have z3:=dA j0;have z4:=dA g1;have z5:=dA pl
 go_upto_if 112 with (go_at_call 74;(with_reducible refine (jC (HB.out.pl.ext eX) hwf _ _ _ c HC).mono ?_);rintro e w1 ⟨rfl,o1,n1,rfl⟩)
 generalize hWq:World.plus _ _ _=wq;have hxq:Ext w2 wq:=xQ hWq;clear hWq;replace q0:=eA hxq q0;replace q1:=eA hxq q1;replace q2:=eA hxq q2;replace t0:=eA hxq t0;replace t1:=eA hxq t1;replace t2:=eA hxq t2;replace j0:=eA hxq j0;replace j1:=eA hxq j1;replace g1:=eA hxq g1;replace pd:=eA hxq pd;replace pl:=eA hxq pl;replace pb:=eA hxq pb;replace g2:=eA hxq g2;replace g3:=eA hxq g3;replace g4:=eA hxq g4
 replace FQ:Hid (∀ i,wq.frozen? ⟨w.heap.size,i,none⟩=false):=fun i=>kA hxq z1 (FQ.out i)
 replace HXB:=aA (HXB.out.trans hxq);replace HB:=aA (HB.out.ext hxq);clear hxq z1 z2 z3 z4 z5;have z1:=dA q0;have z2:=dA t0;have z3:=dA j0;have z4:=dA g1;have z5:=dA pl
 go_cut [] (fun wx=>Ext wq wx)
 case first=>
  subst hc;go_wp2_with fail;go_meet;exact Ext.refl _
 case rest=>
  replace q0:=eA hcut q0;replace q1:=eA hcut q1;replace q2:=eA hcut q2;replace t0:=eA hcut t0;replace t1:=eA hcut t1;replace t2:=eA hcut t2;replace j0:=eA hcut j0;replace j1:=eA hcut j1;replace g1:=eA hcut g1;replace pd:=eA hcut pd;replace pl:=eA hcut pl;replace pb:=eA hcut pb;replace g2:=eA hcut g2;replace g3:=eA hcut g3;replace g4:=eA hcut g4
  replace FQ:Hid (∀ i,wc.frozen? ⟨w.heap.size,i,none⟩=false):=fun i=>kA hcut z1 (FQ.out i)
  replace HXB:=aA (HXB.out.trans hcut);replace HB:=aA (HB.out.ext hcut);clear hcut z1 z2 z3 z4 z5;have z1:=dA q0;have z2:=dA t0;have z3:=dA j0;have z4:=dA g1;have z5:=dA pl;have HJX:Hid (∃ s∈l,s.ticket=jt):=vF hj HFJ.out rfl
  have HJ1:Hid (jt≠0):=by unfold Hid;obtain ⟨s,hs,e⟩:=HJX.out;rw [←e];exact h0.out s hs
  obtain ⟨⟨xt,⟨xi,⟨x1,x2,x3⟩⟩,⟨u1,u2,u3⟩⟩,HST⟩:∃ x,Hid ((⟨last,l,js⟩:Ch.Book).stay jt=x):=⟨_,rfl⟩
  obtain ⟨hv,HHV⟩:∃ x,Hid (p.has xi=x):=⟨_,rfl⟩
  obtain ⟨sv,HSV⟩:∃ x,Hid (p.slots ⟨u1,u2,u3⟩=x):=⟨_,rfl⟩
  have HT:Hid (Ch.turnOf ⟨last,l,js⟩ (ln:Int) p=Ch.jobOf ⟨last,l,js⟩ p ⟨jt,false⟩):=rturn_job hli.out hba.out HC.out HFJ.out (Or.inl hc)
  go_upto_region 28 with fail
  go_cut [16,17] (fun s16 s17 wx=>∃ A5:Nat,s16 = .pointer (some ⟨A5,0,none⟩)∧s17 = .bool true∧Ext wc wx  ∧ wx.cell? ⟨A5,0,none⟩=some (vi xt)∧wx.cell? ⟨A5,1,none⟩=some (vi xi)∧wx.cell? ⟨A5,2,none⟩=some (vi x1)∧wx.cell? ⟨A5,3,none⟩=some (vi x2)∧wx.cell? ⟨A5,4,none⟩=some (vi x3)∧wx.cell? ⟨A5,5,none⟩=some (vi u1)∧wx.cell? ⟨A5,6,none⟩=some (vi u2)∧wx.cell? ⟨A5,7,none⟩=some (vi u3))
  case first=>
   go_region_held3 (fun w'=>w'.cell? ⟨hb,2,none⟩=some (vi last)∧w'.cell? ⟨hb,3,none⟩=some (.slice a1 m1 c1)∧w'.cell? ⟨hb,4,none⟩=some (.slice a2 m2 c2)∧w'.cell? ⟨JB,0,none⟩=some (vi jt)) (first|((try dsimp only);(repeat' apply And.intro) <;> exact xC (w:=wc))) (first|(go_at_call 100;(with_reducible refine (gI xt xi x1 x2 x3 u1 u2 u3 _ _ _ _ _ _ _ _ l js _ (Sl.below HB.out.st (Ext.below eX)) HJ1 HJX HST).mono ?_);rintro e w1 ⟨rfl,o1,n1,rfl⟩))
   ·generalize hW:World.alloc _ _=w5
    generalize hA:wc.heap.size+_=A5;have hx5:Ext wc w5:=xQ hW;have xx0:w5.cell? ⟨A5,0,none⟩=some (vi xt):=cR hW hA;have xx1:w5.cell? ⟨A5,1,none⟩=some (vi xi):=cR hW hA;have xx2:w5.cell? ⟨A5,2,none⟩=some (vi x1):=cR hW hA;have xx3:w5.cell? ⟨A5,3,none⟩=some (vi x2):=cR hW hA;have xx4:w5.cell? ⟨A5,4,none⟩=some (vi x3):=cR hW hA;have xx5:w5.cell? ⟨A5,5,none⟩=some (vi u1):=cR hW hA;have xx6:w5.cell? ⟨A5,6,none⟩=some (vi u2):=cR hW hA;have xx7:w5.cell? ⟨A5,7,none⟩=some (vi u3):=cR hW hA;clear hW hA;go_wp2_with fail;go_meet;exact ⟨A5,rfl,rfl,hx5,xx0,xx1,xx2,xx3,xx4,xx5,xx6,xx7⟩
   ·generalize hW:World.setCell _ _ _=w5
    obtain ⟨xx0,xx1,xx2,xx3,xx4,xx5,xx6,xx7,hx5⟩:=cG (w:=wc) hW eX (by first|exact Nat.le_refl _|(simp;done)|(simp;omega)) (by rw [bB _ _ _ _ (by simp)];exact sA _ _ _ (by first|rfl|simp)) rfl;clear hW;go_wp2_with fail;go_meet;exact ⟨_,rfl,rfl,hx5,xx0,xx1,xx2,xx3,xx4,xx5,xx6,xx7⟩
  case rest=>
   obtain ⟨A5,rfl,rfl,hx5,c0',c1',c2',c3',c4',c5',c6',c7'⟩:=hcut;replace q0:=eA hx5 q0;replace q1:=eA hx5 q1;replace q2:=eA hx5 q2;replace t0:=eA hx5 t0;replace t1:=eA hx5 t1;replace t2:=eA hx5 t2;replace j0:=eA hx5 j0;replace j1:=eA hx5 j1;replace g1:=eA hx5 g1;replace pd:=eA hx5 pd;replace pl:=eA hx5 pl;replace pb:=eA hx5 pb;replace g2:=eA hx5 g2;replace g3:=eA hx5 g3;replace g4:=eA hx5 g4
   replace FQ:Hid (∀ i,wc.frozen? ⟨w.heap.size,i,none⟩=false):=fun i=>kA hx5 z1 (FQ.out i)
   replace HXB:=aA (HXB.out.trans hx5);replace HB:=aA (HB.out.ext hx5);clear hx5 z1 z2 z3 z4 z5;have z1:=dA q0;have z2:=dA t0;have z3:=dA j0;have z4:=dA g1;have z5:=dA pl;have z6:=dA c0'
   go_upto_region 31 with (go_at_call 111;(with_reducible refine (rhas_at hv (HB.out.pl.ext eX) hwf _ HHV).mono ?_);rintro e w1 ⟨rfl,o1,n1,rfl⟩)
   generalize hWq:World.plus _ _ _=we;have hxq:Ext wc we:=xQ hWq;clear hWq;replace c0':=eA hxq c0';replace c1':=eA hxq c1';replace c2':=eA hxq c2';replace c3':=eA hxq c3';replace c4':=eA hxq c4';replace c5':=eA hxq c5';replace c6':=eA hxq c6';replace c7':=eA hxq c7';replace q0:=eA hxq q0;replace q1:=eA hxq q1;replace q2:=eA hxq q2;replace t0:=eA hxq t0;replace t1:=eA hxq t1;replace t2:=eA hxq t2;replace j0:=eA hxq j0;replace j1:=eA hxq j1;replace g1:=eA hxq g1;replace pd:=eA hxq pd;replace pl:=eA hxq pl;replace pb:=eA hxq pb;replace g2:=eA hxq g2;replace g3:=eA hxq g3;replace g4:=eA hxq g4
   replace FQ:Hid (∀ i,we.frozen? ⟨w.heap.size,i,none⟩=false):=fun i=>kA hxq z1 (FQ.out i)
   replace HXB:=aA (HXB.out.trans hxq);replace HB:=aA (HB.out.ext hxq);clear hxq z1 z2 z3 z4 z5;have z1:=dA q0;have z2:=dA t0;have z3:=dA j0;have z4:=dA g1;have z5:=dA pl;have z6:=dA c0'
   by_cases h1:sv=xi
   ·obtain ⟨⟨dl,dss,djs⟩,HDN⟩:∃ x,Hid (Ch.doneWith ⟨last,l,js⟩ ⟨jt,false⟩ false=x):=⟨_,rfl⟩
    go_upto_region 33 with (go_at_call 74;(with_reducible refine (jC (HB.out.pl.ext eX) hwf _ _ _ sv HSV).mono ?_);rintro e w1 ⟨rfl,o1,n1,rfl⟩)
    generalize hWq:World.plus _ _ _=wz;have hxq:Ext we wz:=xQ hWq;clear hWq;replace c0':=eA hxq c0';replace c1':=eA hxq c1';replace c2':=eA hxq c2';replace c3':=eA hxq c3';replace c4':=eA hxq c4';replace c5':=eA hxq c5';replace c6':=eA hxq c6';replace c7':=eA hxq c7';replace q0:=eA hxq q0;replace q1:=eA hxq q1;replace q2:=eA hxq q2;replace t0:=eA hxq t0;replace t1:=eA hxq t1;replace t2:=eA hxq t2;replace j0:=eA hxq j0;replace j1:=eA hxq j1;replace g1:=eA hxq g1;replace pd:=eA hxq pd;replace pl:=eA hxq pl;replace pb:=eA hxq pb;replace g2:=eA hxq g2;replace g3:=eA hxq g3;replace g4:=eA hxq g4
    replace FQ:Hid (∀ i,wz.frozen? ⟨w.heap.size,i,none⟩=false):=fun i=>kA hxq z1 (FQ.out i)
    replace HXB:=aA (HXB.out.trans hxq);replace HB:=aA (HB.out.ext hxq);clear hxq z1 z2 z3 z4 z5;have z1:=dA q0;have z2:=dA t0;have z3:=dA j0;have z4:=dA g1;have z5:=dA pl;have z6:=dA c0'
    go_region_with (first|(go_at_call 130;(with_reducible refine (rdone_val ⟨dl,dss,djs⟩ last jt false false _ _ _ _ _ _ l js _ (Sl.below HB.out.st (Ext.below eX)) (Sl.below HB.out.jb (Ext.below eX)) hm1 hm2 HDN).mono ?_);rintro e wv ⟨d1,d2,rfl,hob,hxd⟩;obtain ⟨g1,i1,rfl,-⟩:=Sl.of_owns (c:=8) (enc:=gA) hob.stays (by decide) (fun _=>rfl);obtain ⟨g2,i2,rfl,-⟩:=Sl.of_owns (c:=2) (enc:=jA) hob.jobs (by decide) (fun _=>rfl);have hxv:=hxd;have hxz:Ext wz wv:=Ext.trans eX hxv;have fq0:=kA hxz (dA q0) (FQ.out 0);have fq1:=kA hxz (dA q0) (FQ.out 1);have fq2:=kA hxz (dA q0) (FQ.out 2);have pq0:=eA hxz q0;have pq1:=eA hxz q1;have pq2:=eA hxz q2))
    all_goals
     repeat (first|go_values|go_skip|go_guarded|go_step|go_upon|simp only [])
     obtain ⟨o0,o1,o2,ox⟩:=lC (w:=w) (x:=vi dl) (y:=.slice g1 dss.length i1) (z:=.slice g2 djs.length i2) (HXB.out.trans hxz) (Nat.le_refl _) pq0 pq1 pq2;refine bodyPost_ret (v:=.tuple #[.slice none 0 0,.agg #[vi dl,.slice g1 dss.length i1,.slice g2 djs.length i2],.bool true]) (by simp [results,Tryz.results68,go_sem,o0,o1,o2]) rfl ?_
     have HE:Ch.turnOf ⟨last,l,js⟩ (ln:Int) p=([],some ⟨dl,dss,djs⟩):=by rw [HT.out,rj1 HST.out (by rw [HSV.out];exact h1),HDN.out]
     rw [HE];exact ⟨_,_,_,rfl,bC _ _ _ _,(hob.put3 (by first|omega|(simp;omega))).weak (by have:=HXB.out.below.size;first|omega|(simp;omega)),ox⟩
   ·have HN1:Hid (¬ p.slots ⟨u1,u2,u3⟩=xi):=by unfold Hid;rw [HSV.out];exact h1
    by_cases h2:ba=xi
    ·go_upto_region 35 with (go_at_call 74;(with_reducible refine (jC (HB.out.pl.ext eX) hwf _ _ _ sv HSV).mono ?_);rintro e w1 ⟨rfl,o1,n1,rfl⟩)
     repeat (first|(go_big_may;(go_at_call 131;(with_reducible refine (rTakeIn_any _).mono ?_);rintro e wv ⟨v1,rfl,hown,hxv⟩;have hxz:Ext we wv:=Ext.trans eX hxv;have fq0:=kA hxz (dA q0) (FQ.out 0);have fq1:=kA hxz (dA q0) (FQ.out 1);have fq2:=kA hxz (dA q0) (FQ.out 2);have pq0:=eA hxz q0;have pq1:=eA hxz q1;have pq2:=eA hxz q2))|go_values|go_skip|go_guarded|go_step|go_upon|simp only [])
     have HE:Ch.turnOf ⟨last,l,js⟩ (ln:Int) p=(Ch.takeIn,none):=by rw [HT.out,rj2 HST.out HN1.out (by rw [hba.out];exact h2)]
     obtain ⟨o0,o1,o2,ox⟩:=lC (w:=w) (x:=vi 0) (y:=.slice none 0 0) (z:=.slice none 0 0) (HXB.out.trans hxz) (Nat.le_refl _) pq0 pq1 pq2;refine bodyPost_ret (v:=.tuple #[v1,.agg #[vi 0,.slice none 0 0,.slice none 0 0],.bool false]) (by simp [results,Tryz.results68,go_sem,o0,o1,o2]) rfl ?_;rw [HE];exact ⟨v1,_,_,rfl,rA (jB hown (by have:=dA q0;first|omega|(simp;omega))) (by have:=HXB.out.below.size;first|omega|(simp;omega)),pB _ _,ox⟩
    ·have HN2:Hid (¬ p.bay=xi):=by unfold Hid;rw [hba.out];exact h2
     cases hv
     ·obtain ⟨⟨dl,dss,djs⟩,HDN⟩:∃ x,Hid (Ch.doneWith ⟨last,l,js⟩ ⟨jt,false⟩ true=x):=⟨_,rfl⟩
      go_upto_region 37 with (go_at_call 74;(with_reducible refine (jC (HB.out.pl.ext eX) hwf _ _ _ sv HSV).mono ?_);rintro e w1 ⟨rfl,o1,n1,rfl⟩)
      generalize hWq:World.plus _ _ _=wz;have hxq:Ext we wz:=xQ hWq;clear hWq;replace c0':=eA hxq c0';replace c1':=eA hxq c1';replace c2':=eA hxq c2';replace c3':=eA hxq c3';replace c4':=eA hxq c4';replace c5':=eA hxq c5';replace c6':=eA hxq c6';replace c7':=eA hxq c7';replace q0:=eA hxq q0;replace q1:=eA hxq q1;replace q2:=eA hxq q2;replace t0:=eA hxq t0;replace t1:=eA hxq t1;replace t2:=eA hxq t2;replace j0:=eA hxq j0;replace j1:=eA hxq j1;replace g1:=eA hxq g1;replace pd:=eA hxq pd;replace pl:=eA hxq pl;replace pb:=eA hxq pb;replace g2:=eA hxq g2;replace g3:=eA hxq g3;replace g4:=eA hxq g4
      replace FQ:Hid (∀ i,wz.frozen? ⟨w.heap.size,i,none⟩=false):=fun i=>kA hxq z1 (FQ.out i)
      replace HXB:=aA (HXB.out.trans hxq);replace HB:=aA (HB.out.ext hxq);clear hxq z1 z2 z3 z4 z5;have z1:=dA q0;have z2:=dA t0;have z3:=dA j0;have z4:=dA g1;have z5:=dA pl;have z6:=dA c0'
      go_region_with (first|(go_at_call 130;(with_reducible refine (rdone_val ⟨dl,dss,djs⟩ last jt false true _ _ _ _ _ _ l js _ (Sl.below HB.out.st (Ext.below eX)) (Sl.below HB.out.jb (Ext.below eX)) hm1 hm2 HDN).mono ?_);rintro e wv ⟨d1,d2,rfl,hob,hxd⟩;obtain ⟨g1,i1,rfl,-⟩:=Sl.of_owns (c:=8) (enc:=gA) hob.stays (by decide) (fun _=>rfl);obtain ⟨g2,i2,rfl,-⟩:=Sl.of_owns (c:=2) (enc:=jA) hob.jobs (by decide) (fun _=>rfl);have hxv:=hxd;have hxz:Ext wz wv:=Ext.trans eX hxv;have fq0:=kA hxz (dA q0) (FQ.out 0);have fq1:=kA hxz (dA q0) (FQ.out 1);have fq2:=kA hxz (dA q0) (FQ.out 2);have pq0:=eA hxz q0;have pq1:=eA hxz q1;have pq2:=eA hxz q2))
      all_goals
       repeat (first|go_values|go_skip|go_guarded|go_step|go_upon|simp only [])
       obtain ⟨o0,o1,o2,ox⟩:=lC (w:=w) (x:=vi dl) (y:=.slice g1 dss.length i1) (z:=.slice g2 djs.length i2) (HXB.out.trans hxz) (Nat.le_refl _) pq0 pq1 pq2;refine bodyPost_ret (v:=.tuple #[.slice none 0 0,.agg #[vi dl,.slice g1 dss.length i1,.slice g2 djs.length i2],.bool true]) (by simp [results,Tryz.results68,go_sem,o0,o1,o2]) rfl ?_
       have HE:Ch.turnOf ⟨last,l,js⟩ (ln:Int) p=([],some ⟨dl,dss,djs⟩):=by rw [HT.out,rj3 HST.out HN1.out HN2.out HHV.out,HDN.out]
       rw [HE];exact ⟨_,_,_,rfl,bC _ _ _ _,(hob.put3 (by first|omega|(simp;omega))).weak (by have:=HXB.out.below.size;first|omega|(simp;omega)),ox⟩
     ·go_upto_region 38 with (go_at_call 74;(with_reducible refine (jC (HB.out.pl.ext eX) hwf _ _ _ sv HSV).mono ?_);rintro e w1 ⟨rfl,o1,n1,rfl⟩)
      generalize hWq:World.plus _ _ _=wz;have hxq:Ext we wz:=xQ hWq;clear hWq;replace c0':=eA hxq c0';replace c1':=eA hxq c1';replace c2':=eA hxq c2';replace c3':=eA hxq c3';replace c4':=eA hxq c4';replace c5':=eA hxq c5';replace c6':=eA hxq c6';replace c7':=eA hxq c7';replace q0:=eA hxq q0;replace q1:=eA hxq q1;replace q2:=eA hxq q2;replace t0:=eA hxq t0;replace t1:=eA hxq t1;replace t2:=eA hxq t2;replace j0:=eA hxq j0;replace j1:=eA hxq j1;replace g1:=eA hxq g1;replace pd:=eA hxq pd;replace pl:=eA hxq pl;replace pb:=eA hxq pb;replace g2:=eA hxq g2;replace g3:=eA hxq g3;replace g4:=eA hxq g4
      replace FQ:Hid (∀ i,wz.frozen? ⟨w.heap.size,i,none⟩=false):=fun i=>kA hxq z1 (FQ.out i)
      replace HXB:=aA (HXB.out.trans hxq);replace HB:=aA (HB.out.ext hxq);clear hxq z1 z2 z3 z4 z5;have z1:=dA q0;have z2:=dA t0;have z3:=dA j0;have z4:=dA g1;have z5:=dA pl;have z6:=dA c0';have fq0:=FQ.out 0;have fq1:=FQ.out 1;have fq2:=FQ.out 2
      go_upto_region 38 with fail
      repeat (first|(go_big_may;fail)|go_values|go_skip|go_guarded|go_step|go_upon|simp only [])
      have HE:Ch.turnOf ⟨last,l,js⟩ (ln:Int) p=([],none):=by rw [HT.out,rj4 HST.out HN1.out HN2.out HHV.out]
      obtain ⟨o0,o1,o2,ox⟩:=lC (w:=w) (x:=vi 0) (y:=.slice none 0 0) (z:=.slice none 0 0) HXB.out (Nat.le_refl _) q0 q1 q2;refine bodyPost_ret (v:=.tuple #[.slice none 0 0,.agg #[vi 0,.slice none 0 0,.slice none 0 0],.bool false]) (by simp [results,Tryz.results68,go_sem,o0,o1,o2]) rfl ?_;rw [HE];exact ⟨_,_,_,rfl,bC _ _ _ _,pB _ _,ox⟩
