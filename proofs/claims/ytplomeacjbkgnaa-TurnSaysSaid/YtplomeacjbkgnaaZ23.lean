import Derived.Test.YtplomeacjbkgnaaZ22
import Derived.Test.YtplomeacjbkgnaaZ13
set_option linter.all false
set_option maxRecDepth 100000
set_option maxHeartbeats 16000000
namespace Go.Proofs.Ytplomeacjbkgnaa
open Go.RowKit
def TurnR (w:World) (l:List Ch.Goal) (o:Option Ch.Book) (e:Ending) (w':World):Prop:=
 ∃ v v1 v2,e = .returned (.tuple #[v,.agg #[vi (o.getD ⟨0,[],[]⟩).last,v1,v2],.bool o.isSome])∧w'.ownsRow w.heap.size 36 2 v l.length (l.flatMap goalCells) ∧
  OwnBook w w' (o.getD ⟨0,[],[]⟩).last (o.getD ⟨0,[],[]⟩).stays (o.getD ⟨0,[],[]⟩).jobs v1 v2∧Ext w w'
theorem own_zero (w w':World):OwnBook w w' 0 [] [] (.slice none 0 0) (.slice none 0 0):=⟨owns_nilG _ _ _ _,owns_nilG _ _ _ _,fun k h=>by cases h⟩
theorem owns_put3 {W:World} {R base t size n:Nat} {v x y z:Value} {xs:List Value} (h:W.ownsRow base t size v n xs) (hn:R<base):(((W.setCell ⟨R,0,none⟩ x).setCell ⟨R,1,none⟩ y).setCell ⟨R,2,none⟩ z).ownsRow base t size v n xs:=by
 have hne:v.ownBlock≠some R:=fun e=>by have:=owns_block h R e;omega
 exact owns_set (owns_set (owns_set h _ hne) _ hne) _ hne
theorem OwnBook.put3 {w0 W:World} {R:Nat} {last:Int} {l:List Ch.Stay} {js:List Ch.Job} {v1 v2 x y z:Value} (h:OwnBook w0 W last l js v1 v2) (hn:R<w0.heap.size):OwnBook w0 (((W.setCell ⟨R,0,none⟩ x).setCell ⟨R,1,none⟩ y).setCell ⟨R,2,none⟩ z) last l js v1 v2:=
 ⟨owns_put3 h.stays hn,owns_put3 h.jobs hn,h.apart⟩
theorem OwnBook.weak {w0 w1 W:World} {last:Int} {l:List Ch.Stay} {js:List Ch.Job} {v1 v2:Value} (h:OwnBook w1 W last l js v1 v2) (hn:w0.heap.size≤w1.heap.size):OwnBook w0 W last l js v1 v2:=
 ⟨owns_base h.stays hn,owns_base h.jobs hn,h.apart⟩
theorem put3k {w a:World} {R:Nat} {x y z x' y' z':Value} (hx:Ext w a) (hR:w.heap.size≤R) (c0:a.cell? ⟨R,0,none⟩=some x') (c1:a.cell? ⟨R,1,none⟩=some y') (c2:a.cell? ⟨R,2,none⟩=some z'):
  (((a.setCell ⟨R,0,none⟩ x).setCell ⟨R,1,none⟩ y).setCell ⟨R,2,none⟩ z).cell? ⟨R,0,none⟩=some x∧(((a.setCell ⟨R,0,none⟩ x).setCell ⟨R,1,none⟩ y).setCell ⟨R,2,none⟩ z).cell? ⟨R,1,none⟩=some y ∧
  (((a.setCell ⟨R,0,none⟩ x).setCell ⟨R,1,none⟩ y).setCell ⟨R,2,none⟩ z).cell? ⟨R,2,none⟩=some z∧Ext w (((a.setCell ⟨R,0,none⟩ x).setCell ⟨R,1,none⟩ y).setCell ⟨R,2,none⟩ z):=put3w hx hR c0 c1 c2
theorem done_val (B:Ch.Book) (last jt:Int) (jf gone:Bool) (a1:Option Addr) (m1 c1:Nat) (a2:Option Addr) (m2 c2:Nat) (l:List Ch.Stay) (js:List Ch.Job) (w:World)
  (h:Sl w 8 stayCells l a1 m1 c1) (h2:Sl w 2 jobCells js a2 m2 c2) (hm1:m1≤100) (hm2:m2≤100) (hv:Hid (Ch.doneWith ⟨last,l,js⟩ ⟨jt,jf⟩ gone=B)):
  Calls Try.prog 73 #[bookA last a1 m1 c1 a2 m2 c2,.agg #[vi jt,.bool jf],.bool gone] w (NewBook w B (fun b=>b)):=by
 have:=done_any last jt jf gone a1 m1 c1 a2 m2 c2 l js w h h2 hm1 hm2;rw [hv.out] at this;exact this
theorem fetch_val (gl:List Ch.Goal) (ov:Bool) (xt xi x1 x2 x3 u1 u2 u3:Int) (last:Int) (a1:Option Addr) (m1 c1:Nat) (a2:Option Addr) (m2 c2:Nat) (lv:Int) (pb mb:Nat) (hh ee:Int) (dd:Bool) (pe li ba:Int) (f0 f1 f2:Bool) (p:Ch.Plant) (w:World)
  (hp:PlantAt w pb mb p) (hwf:p.WF) (hba:Hid (p.bay=ba)) (hdd:Hid (p.door=dd)) (h4:p.levels≤4) (hv:Hid (Ch.fetchOf p ⟨xt,⟨xi,⟨x1,x2,x3⟩⟩,⟨u1,u2,u3⟩⟩=(gl,ov))):
  Calls Try.prog 153 #[turnV last a1 m1 c1 a2 m2 c2 lv pb hh ee dd pe li ba f0 f1 f2,.agg #[vi xt,vi xi,vi x1,vi x2,vi x3,vi u1,vi u2,vi u3]] w (NewGoals1 w gl ov):=by
 have:=fetch_any_t xt xi x1 x2 x3 u1 u2 u3 last a1 m1 c1 a2 m2 c2 lv pb mb hh ee dd pe li ba f0 f1 f2 p w hp hwf hba hdd h4;rw [hv.out] at this;exact this
theorem store_val (gl:List Ch.Goal) (og:Option Bool) (o g:Bool) (xt xi x1 x2 x3 u1 u2 u3:Int) (last:Int) (a1:Option Addr) (m1 c1:Nat) (a2:Option Addr) (m2 c2:Nat) (lv:Int) (pb mb:Nat) (hh ee:Int) (dd:Bool) (pe li ba:Int) (f0 f1 f2:Bool) (p:Ch.Plant) (w:World)
  (hp:PlantAt w pb mb p) (hwf:p.WF) (hba:Hid (p.bay=ba)) (hv:Hid (Ch.storeOf p ⟨xt,⟨xi,⟨x1,x2,x3⟩⟩,⟨u1,u2,u3⟩⟩=(gl,og))) (h1:Hid (og.isSome=o)) (h2:Hid (og.getD false=g)):
  Calls Try.prog 154 #[turnV last a1 m1 c1 a2 m2 c2 lv pb hh ee dd pe li ba f0 f1 f2,.agg #[vi xt,vi xi,vi x1,vi x2,vi x3,vi u1,vi u2,vi u3]] w (NewGoals2 w gl o g):=by
 have:=store_any xt xi x1 x2 x3 u1 u2 u3 last a1 m1 c1 a2 m2 c2 lv pb mb hh ee dd pe li ba f0 f1 f2 p w hp hwf hba;rw [hv.out] at this;dsimp only at this;rw [h1.out,h2.out] at this;exact this
theorem job_any (jt:Int) (jf:Bool) (last:Int) (a1:Option Addr) (m1 c1:Nat) (a2:Option Addr) (m2 c2:Nat) (lv:Int) (pb mb:Nat) (hh ee:Int) (dd:Bool) (pe li ba:Int) (f0 f1 f2:Bool) (l:List Ch.Stay) (js:List Ch.Job) (p:Ch.Plant) (w:World)
  (h:Sl w 8 stayCells l a1 m1 c1)
  (h2:Sl w 2 jobCells js a2 m2 c2) (hp:PlantAt w pb mb p) (hwf:p.WF) (hj:Hid (∃ s∈l,s.ticket=jt)) (hba:Hid (p.bay=ba)) (hdd:Hid (p.door=dd)) (h4:p.levels≤4) (hm1:m1≤100) (hm2:m2≤100):
  Calls Try.prog 132 #[turnV last a1 m1 c1 a2 m2 c2 lv pb hh ee dd pe li ba f0 f1 f2,.agg #[vi jt,.bool jf]] w (TurnR w (Ch.jobOf ⟨last,l,js⟩ p ⟨jt,jf⟩).1 (Ch.jobOf ⟨last,l,js⟩ p ⟨jt,jf⟩).2):=by
 have b1:=h.bound;have HF:=Lib.hid h;have HJ:=Lib.hid h2;have HP:=Lib.hid hp;have E1:=Lib.hid h.len;clear h h2 hp;obtain ⟨si,⟨yt,⟨yi,⟨y1,y2,y3⟩⟩,⟨v1,v2,v3⟩⟩,hsi,hsl,hst,htt⟩:=stay_at (last:=last) (js:=js) hj.out
 have hsm:si<m1:=by
  have:=E1.out;obtain ⟨h1,_⟩:=List.getElem?_eq_some_iff.1 hsl;omega
 have HI:Hid (Ch.indexOf (fun s:Ch.Stay=>s.ticket==jt) l=(si:Int)):=hsi;have HST:=Lib.hid hst;obtain ⟨b',q',s',rfl,hs',ds⟩:=HF.out.get hsm;rw [hsl] at hs';cases hs';have ds:=at8 ds;have hq2:=cell_lt ds.1
 have hs0:(0:Int)≤(si:Int):=by omega
 have hs1:(si:Int)<(m1:Int):=by omega
 have hs2:(si:Int)≤(c1:Int):=by omega
 clear hsl hst hsi htt;go_enter Try.func132,Try.ntmps132
 go_upto_region 1 with fail
 generalize hW:World.alloc _ _=w0
 have t0:w0.cell? ⟨w.heap.size,0,none⟩=some (vi last):=by rw [←hW];simp [go_sem]
 have t1:w0.cell? ⟨w.heap.size,1,none⟩=some (.slice (some ⟨b',q',none⟩) m1 c1):=by rw [←hW];simp [go_sem]
 have t2:w0.cell? ⟨w.heap.size,2,none⟩=some (.slice a2 m2 c2):=by rw [←hW];simp [go_sem]
 have t3:w0.cell? ⟨w.heap.size,3,none⟩=some (vi lv):=by rw [←hW];simp [go_sem]
 have t4:w0.cell? ⟨w.heap.size,4,none⟩=some (.pointer (some ⟨pb,0,none⟩)):=by rw [←hW];simp [go_sem]
 have t5:w0.cell? ⟨w.heap.size,5,none⟩=some (vi hh):=by rw [←hW];simp [go_sem]
 have t6:w0.cell? ⟨w.heap.size,6,none⟩=some (vi ee):=by rw [←hW];simp [go_sem]
 have t7:w0.cell? ⟨w.heap.size,7,none⟩=some (.bool dd):=by rw [←hW];simp [go_sem]
 have t8:w0.cell? ⟨w.heap.size,8,none⟩=some (vi pe):=by rw [←hW];simp [go_sem]
 have t9:w0.cell? ⟨w.heap.size,9,none⟩=some (vi li):=by rw [←hW];simp [go_sem]
 have t10:w0.cell? ⟨w.heap.size,10,none⟩=some (vi ba):=by rw [←hW];simp [go_sem]
 have t11:w0.cell? ⟨w.heap.size,11,none⟩=some (.bool f0):=by rw [←hW];simp [go_sem]
 have t12:w0.cell? ⟨w.heap.size,12,none⟩=some (.bool f1):=by rw [←hW];simp [go_sem]
 have t13:w0.cell? ⟨w.heap.size,13,none⟩=some (.bool f2):=by rw [←hW];simp [go_sem]
 have jj0:w0.cell? ⟨w.heap.size+1,0,none⟩=some (vi jt):=by rw [←hW];simp [go_sem]
 have jj1:w0.cell? ⟨w.heap.size+1,1,none⟩=some (.bool jf):=by rw [←hW];simp [go_sem]
 have rr0:w0.cell? ⟨w.heap.size+1+1,0,none⟩=some (vi 0):=by rw [←hW];simp [go_sem]
 have rr1:w0.cell? ⟨w.heap.size+1+1,1,none⟩=some (.slice none 0 0):=by rw [←hW];simp [go_sem]
 have rr2:w0.cell? ⟨w.heap.size+1+1,2,none⟩=some (.slice none 0 0):=by rw [←hW];simp [go_sem]
 have fz:∀ i,w0.frozen? ⟨w.heap.size+1+1,i,none⟩=false:=by intro i;rw [←hW];simp [go_sem]
 have hx:Ext w w0:=by rw [←hW];exact (by simp (maxDischargeDepth:=60))
 have e0:=xcell hx ds.1;have e1:=xcell hx ds.2.1;have e2:=xcell hx ds.2.2.1;have e3:=xcell hx ds.2.2.2.1;have e4:=xcell hx ds.2.2.2.2.1;have e5:=xcell hx ds.2.2.2.2.2.1;have e6:=xcell hx ds.2.2.2.2.2.2.1;have e7:=xcell hx ds.2.2.2.2.2.2.2;have HS:=Lib.hid (Sl.below HF.out hx.below);have HK:=Lib.hid (Sl.below HJ.out hx.below);have HP1:=Lib.hid (HP.out.ext hx);have HX:=Lib.hid hx;have FZ:=Lib.hid fz;have z1:=cell_lt t0;have z2:=cell_lt rr0;have z3:=cell_lt jj0;have z4:=cell_lt e0;clear hW hx HF HJ HP ds hq2 fz
 go_region_held3 (fun w'=>w'.cell? ⟨w.heap.size,0,none⟩=some (vi last)∧w'.cell? ⟨w.heap.size,1,none⟩=some (.slice (some ⟨b',q',none⟩) m1 c1)∧w'.cell? ⟨w.heap.size,2,none⟩=some (.slice a2 m2 c2)∧w'.cell? ⟨w.heap.size+1,0,none⟩=some (vi jt)∧w'.cell? ⟨b',q'+si * 8,none⟩=some (vi yt)∧w'.cell? ⟨b',q'+si * 8+1,none⟩=some (vi yi)∧w'.cell? ⟨b',q'+si * 8+2,none⟩=some (vi y1)∧w'.cell? ⟨b',q'+si * 8+3,none⟩=some (vi y2)∧w'.cell? ⟨b',q'+si * 8+4,none⟩=some (vi y3)∧w'.cell? ⟨b',q'+si * 8+5,none⟩=some (vi v1)∧w'.cell? ⟨b',q'+si * 8+6,none⟩=some (vi v2)∧w'.cell? ⟨b',q'+si * 8+7,none⟩=some (vi v3)) (first|((try dsimp only);(repeat' apply And.intro) <;> (refine xcell (w:=w0) ?_ (by assumption);simp (maxDischargeDepth:=60);done))) (first|(go_at_call 108;(with_reducible refine (find_stay (si:Int) _ _ _ _ _ _ _ _ l _ (Sl.below HS.out (Ext.below (by simp (maxDischargeDepth:=60)))) HI).mono ?_);rintro e w1 ⟨rfl,o1,n1,rfl⟩))
 ·generalize hW:World.alloc _ _=w2
  generalize hA:w0.heap.size+_=A
  have hx2:Ext w0 w2:=by rw [←hW];exact (by simp (maxDischargeDepth:=60))
  have yy0:w2.cell? ⟨A,0,none⟩=some (vi yt):=by rw [←hW,←hA];simp [go_sem]
  have yy1:w2.cell? ⟨A,1,none⟩=some (vi yi):=by rw [←hW,←hA];simp [go_sem]
  have yy2:w2.cell? ⟨A,2,none⟩=some (vi y1):=by rw [←hW,←hA];simp [go_sem]
  have yy3:w2.cell? ⟨A,3,none⟩=some (vi y2):=by rw [←hW,←hA];simp [go_sem]
  have yy4:w2.cell? ⟨A,4,none⟩=some (vi y3):=by rw [←hW,←hA];simp [go_sem]
  have yy5:w2.cell? ⟨A,5,none⟩=some (vi v1):=by rw [←hW,←hA];simp [go_sem]
  have yy6:w2.cell? ⟨A,6,none⟩=some (vi v2):=by rw [←hW,←hA];simp [go_sem]
  have yy7:w2.cell? ⟨A,7,none⟩=some (vi v3):=by rw [←hW,←hA];simp [go_sem]
  clear hW hA;have r0':=xcell hx2 t0;have r1':=xcell hx2 t1;have r2':=xcell hx2 t2;have r3':=xcell hx2 t3;have r4':=xcell hx2 t4;have r5':=xcell hx2 t5;have r6':=xcell hx2 t6;have r7':=xcell hx2 t7;have r8':=xcell hx2 t8;have r9':=xcell hx2 t9;have r10':=xcell hx2 t10;have r11':=xcell hx2 t11;have r12':=xcell hx2 t12;have r13':=xcell hx2 t13;have rj0:=xcell hx2 jj0;have rj1:=xcell hx2 jj1;have q0:=xcell hx2 rr0;have q1:=xcell hx2 rr1;have q2:=xcell hx2 rr2
  have fz2:∀ i,w2.frozen? ⟨w.heap.size+1+1,i,none⟩=false:=fun i=>xfree hx2 (cell_lt rr0) (FZ.out i)
  have FZ2:=Lib.hid fz2;have HX2:=Lib.hid (HX.out.trans hx2);have HS2:=Lib.hid (Sl.below HS.out hx2.below);have HK2:=Lib.hid (Sl.below HK.out hx2.below);have HP2:=Lib.hid (HP1.out.ext hx2);have sa1:=cell_lt r0';have sa2:=cell_lt q0;have sa3:=cell_lt rj0;have sa4:=cell_lt yy0;clear hx2 fz2 FZ HS HK HP1 HX t0 t1 t2 t3 t4 t5 t6 t7 t8 t9 t10 t11 t12 t13 jj0 jj1 rr0 rr1 rr2 z1 z2 z3 z4 e0 e1 e2 e3 e4 e5 e6 e7;cases jf
  ·obtain ⟨⟨gl,og⟩,HFO⟩:∃ r,Hid (Ch.storeOf p ⟨yt,⟨yi,⟨y1,y2,y3⟩⟩,⟨v1,v2,v3⟩⟩=r):=⟨_,rfl⟩
   rcases og with _|g
   ·have HO1:Hid ((none:Option Bool).isSome=false):=rfl
    have HO2:Hid ((none:Option Bool).getD false=false):=rfl
    go_upto_region 6 with (go_at_call 154;(with_reducible refine (store_val gl none false false yt yi y1 y2 y3 v1 v2 v3 _ _ _ _ _ _ _ _ pb mb _ _ _ _ _ _ _ _ _ p _ (HP2.out.ext (by simp (maxDischargeDepth:=60))) hwf hba HFO HO1 HO2).mono ?_);rintro e w3 ⟨vv,rfl,hown,hxv⟩)
    have hx3:Ext w2 w3:=Ext.trans (by simp (maxDischargeDepth:=60)) hxv;have k0:=xcell hx3 r0';have k1:=xcell hx3 r1';have k2:=xcell hx3 r2';have l0:=xcell hx3 rj0;have l1:=xcell hx3 rj1;have p0:=xcell hx3 q0;have p1:=xcell hx3 q1;have p2:=xcell hx3 q2;have fy0:=xfree hx3 (cell_lt q0) (FZ2.out 0);have fy1:=xfree hx3 (cell_lt q0) (FZ2.out 1);have fy2:=xfree hx3 (cell_lt q0) (FZ2.out 2);have s1:=cell_lt k0;have s2:=cell_lt l0;have s3:=cell_lt p0;go_wp2;obtain ⟨o0,o1,o2,ox⟩:=put3k (w:=w) (x:=vi 0) (y:=.slice none 0 0) (z:=.slice none 0 0) (HX2.out.trans hx3) (show w.heap.size≤w.heap.size+1+1 by omega) p0 p1 p2;refine bodyPost_ret (v:=.tuple #[vv,.agg #[vi 0,.slice none 0 0,.slice none 0 0],.bool false]) (by simp [results,Try.results132,go_sem,o0,o1,o2]) rfl ?_
    have HE:Ch.jobOf ⟨last,l,js⟩ p ⟨jt,false⟩=(gl,none):=by
     unfold Ch.jobOf;rw [HST.out,if_neg (by simp),HFO.out]
    rw [HE];exact ⟨vv,_,_,rfl,owns_base (owns_put3 hown (by omega)) HX2.out.below.size,own_zero _ _,ox⟩
   ·have HO1:Hid ((some g).isSome=true):=rfl
    have HO2:Hid ((some g).getD false=g):=rfl
    go_upto_region 6 with (go_at_call 154;(with_reducible refine (store_val gl (some g) true g yt yi y1 y2 y3 v1 v2 v3 _ _ _ _ _ _ _ _ pb mb _ _ _ _ _ _ _ _ _ p _ (HP2.out.ext (by simp (maxDischargeDepth:=60))) hwf hba HFO HO1 HO2).mono ?_);rintro e w3 ⟨vv,rfl,hown,hxv⟩)
    have hx3:Ext w2 w3:=Ext.trans (by simp (maxDischargeDepth:=60)) hxv;have k0:=xcell hx3 r0';have k1:=xcell hx3 r1';have k2:=xcell hx3 r2';have l0:=xcell hx3 rj0;have l1:=xcell hx3 rj1;have p0:=xcell hx3 q0;have p1:=xcell hx3 q1;have p2:=xcell hx3 q2;have fy0:=xfree hx3 (cell_lt q0) (FZ2.out 0);have fy1:=xfree hx3 (cell_lt q0) (FZ2.out 1);have fy2:=xfree hx3 (cell_lt q0) (FZ2.out 2);have s1:=cell_lt k0;have s2:=cell_lt l0;have s3:=cell_lt p0
    obtain ⟨⟨dl,dss,djs⟩,HDN⟩:∃ x,Hid (Ch.doneWith ⟨last,l,js⟩ ⟨jt,false⟩ g=x):=⟨_,rfl⟩
    go_wp2_with (go_at_call 73;(with_reducible refine (done_val ⟨dl,dss,djs⟩ last jt false g _ _ _ _ _ _ l js _ (Sl.below HS2.out (Ext.trans hx3 (by simp (maxDischargeDepth:=60))).below) (Sl.below HK2.out (Ext.trans hx3 (by simp (maxDischargeDepth:=60))).below) hm1 hm2 HDN).mono ?_);rintro e w4' ⟨d1,d2,rfl,hob,hxd⟩;obtain ⟨g1,i1,rfl,-⟩:=Sl.of_owns (c:=8) (enc:=stayCells) hob.stays (by decide) (fun _=>rfl);obtain ⟨g2,i2,rfl,-⟩:=Sl.of_owns (c:=2) (enc:=jobCells) hob.jobs (by decide) (fun _=>rfl);have hx4:Ext w3 w4':=Ext.trans (by simp (maxDischargeDepth:=60)) hxd;have fq0:=xfree hx4 s3 fy0;have fq1:=xfree hx4 s3 fy1;have fq2:=xfree hx4 s3 fy2;have pq0:=xcell hx4 p0;have pq1:=xcell hx4 p1;have pq2:=xcell hx4 p2);go_wp2;obtain ⟨o0,o1,o2,ox⟩:=put3k (w:=w) (x:=vi dl) (y:=.slice g1 dss.length i1) (z:=.slice g2 djs.length i2) ((HX2.out.trans hx3).trans hx4) (show w.heap.size≤w.heap.size+1+1 by omega) (xcell hx4 p0) (xcell hx4 p1) (xcell hx4 p2);refine bodyPost_ret (v:=.tuple #[.slice none 0 0,.agg #[vi dl,.slice g1 dss.length i1,.slice g2 djs.length i2],.bool true]) (by simp [results,Try.results132,go_sem,o0,o1,o2]) rfl ?_
    have HE:Ch.jobOf ⟨last,l,js⟩ p ⟨jt,false⟩=([],some ⟨dl,dss,djs⟩):=by
     unfold Ch.jobOf;rw [HST.out,if_neg (by simp),HFO.out];exact congrArg (fun x=>(([]:List Ch.Goal),some x)) HDN.out
    rw [HE];exact ⟨_,_,_,rfl,owns_nilG _ _ _ _,(hob.put3 (by first|exact s3|(have:=s3;simp;omega))).weak (by first|exact (HX2.out.trans hx3).below.size|(have:=(HX2.out.trans hx3).below.size;simp;omega)),ox⟩
  ·obtain ⟨⟨gl,ov⟩,HFO⟩:∃ r,Hid (Ch.fetchOf p ⟨yt,⟨yi,⟨y1,y2,y3⟩⟩,⟨v1,v2,v3⟩⟩=r):=⟨_,rfl⟩
   cases ov
   ·go_upto_region 6 with (go_at_call 153;(with_reducible refine (fetch_val gl false yt yi y1 y2 y3 v1 v2 v3 _ _ _ _ _ _ _ _ pb mb _ _ _ _ _ _ _ _ _ p _ (HP2.out.ext (by simp (maxDischargeDepth:=60))) hwf hba hdd h4 HFO).mono ?_);rintro e w3 ⟨vv,rfl,hown,hxv⟩)
    have hx3:Ext w2 w3:=Ext.trans (by simp (maxDischargeDepth:=60)) hxv;have k0:=xcell hx3 r0';have k1:=xcell hx3 r1';have k2:=xcell hx3 r2';have l0:=xcell hx3 rj0;have l1:=xcell hx3 rj1;have p0:=xcell hx3 q0;have p1:=xcell hx3 q1;have p2:=xcell hx3 q2;have fy0:=xfree hx3 (cell_lt q0) (FZ2.out 0);have fy1:=xfree hx3 (cell_lt q0) (FZ2.out 1);have fy2:=xfree hx3 (cell_lt q0) (FZ2.out 2);have s1:=cell_lt k0;have s2:=cell_lt l0;have s3:=cell_lt p0;go_wp2;obtain ⟨o0,o1,o2,ox⟩:=put3k (w:=w) (x:=vi 0) (y:=.slice none 0 0) (z:=.slice none 0 0) (HX2.out.trans hx3) (show w.heap.size≤w.heap.size+1+1 by omega) p0 p1 p2;refine bodyPost_ret (v:=.tuple #[vv,.agg #[vi 0,.slice none 0 0,.slice none 0 0],.bool false]) (by simp [results,Try.results132,go_sem,o0,o1,o2]) rfl ?_
    have HE:Ch.jobOf ⟨last,l,js⟩ p ⟨jt,true⟩=(gl,none):=by
     unfold Ch.jobOf;rw [HST.out,if_pos rfl,HFO.out,if_neg (by simp)]
    rw [HE];exact ⟨vv,_,_,rfl,owns_base (owns_put3 hown (by omega)) HX2.out.below.size,own_zero _ _,ox⟩
   ·go_upto_region 6 with (go_at_call 153;(with_reducible refine (fetch_val gl true yt yi y1 y2 y3 v1 v2 v3 _ _ _ _ _ _ _ _ pb mb _ _ _ _ _ _ _ _ _ p _ (HP2.out.ext (by simp (maxDischargeDepth:=60))) hwf hba hdd h4 HFO).mono ?_);rintro e w3 ⟨vv,rfl,hown,hxv⟩)
    have hx3:Ext w2 w3:=Ext.trans (by simp (maxDischargeDepth:=60)) hxv;have k0:=xcell hx3 r0';have k1:=xcell hx3 r1';have k2:=xcell hx3 r2';have l0:=xcell hx3 rj0;have l1:=xcell hx3 rj1;have p0:=xcell hx3 q0;have p1:=xcell hx3 q1;have p2:=xcell hx3 q2;have fy0:=xfree hx3 (cell_lt q0) (FZ2.out 0);have fy1:=xfree hx3 (cell_lt q0) (FZ2.out 1);have fy2:=xfree hx3 (cell_lt q0) (FZ2.out 2);have s1:=cell_lt k0;have s2:=cell_lt l0;have s3:=cell_lt p0
    obtain ⟨⟨dl,dss,djs⟩,HDN⟩:∃ x,Hid (Ch.doneWith ⟨last,l,js⟩ ⟨jt,true⟩ false=x):=⟨_,rfl⟩
    go_wp2_with (go_at_call 73;(with_reducible refine (done_val ⟨dl,dss,djs⟩ last jt true false _ _ _ _ _ _ l js _ (Sl.below HS2.out (Ext.trans hx3 (by simp (maxDischargeDepth:=60))).below) (Sl.below HK2.out (Ext.trans hx3 (by simp (maxDischargeDepth:=60))).below) hm1 hm2 HDN).mono ?_);rintro e w4' ⟨d1,d2,rfl,hob,hxd⟩;obtain ⟨g1,i1,rfl,-⟩:=Sl.of_owns (c:=8) (enc:=stayCells) hob.stays (by decide) (fun _=>rfl);obtain ⟨g2,i2,rfl,-⟩:=Sl.of_owns (c:=2) (enc:=jobCells) hob.jobs (by decide) (fun _=>rfl);have hx4:Ext w3 w4':=Ext.trans (by simp (maxDischargeDepth:=60)) hxd;have fq0:=xfree hx4 s3 fy0;have fq1:=xfree hx4 s3 fy1;have fq2:=xfree hx4 s3 fy2;have pq0:=xcell hx4 p0;have pq1:=xcell hx4 p1;have pq2:=xcell hx4 p2);go_wp2;obtain ⟨o0,o1,o2,ox⟩:=put3k (w:=w) (x:=vi dl) (y:=.slice g1 dss.length i1) (z:=.slice g2 djs.length i2) ((HX2.out.trans hx3).trans hx4) (show w.heap.size≤w.heap.size+1+1 by omega) (xcell hx4 p0) (xcell hx4 p1) (xcell hx4 p2);refine bodyPost_ret (v:=.tuple #[.slice none 0 0,.agg #[vi dl,.slice g1 dss.length i1,.slice g2 djs.length i2],.bool true]) (by simp [results,Try.results132,go_sem,o0,o1,o2]) rfl ?_
    have HE:Ch.jobOf ⟨last,l,js⟩ p ⟨jt,true⟩=([],some ⟨dl,dss,djs⟩):=by
     unfold Ch.jobOf;rw [HST.out,if_pos rfl,HFO.out,if_pos rfl];exact congrArg (fun x=>(([]:List Ch.Goal),some x)) HDN.out
    rw [HE];exact ⟨_,_,_,rfl,owns_nilG _ _ _ _,(hob.put3 (by first|exact s3|(have:=s3;simp;omega))).weak (by first|exact (HX2.out.trans hx3).below.size|(have:=(HX2.out.trans hx3).below.size;simp;omega)),ox⟩
 ·generalize hW:World.setCell _ _ _=w2
  obtain ⟨yy0,yy1,yy2,yy3,yy4,yy5,yy6,yy7,hx2⟩:=put8 (w:=w0) hW (by simp (maxDischargeDepth:=60)) (Nat.le_refl _) (by rw [plus_heap _ _ _ _ (by simp)];exact alloc_at _ _ _ rfl) rfl;clear hW;have r0':=xcell hx2 t0;have r1':=xcell hx2 t1;have r2':=xcell hx2 t2;have r3':=xcell hx2 t3;have r4':=xcell hx2 t4;have r5':=xcell hx2 t5;have r6':=xcell hx2 t6;have r7':=xcell hx2 t7;have r8':=xcell hx2 t8;have r9':=xcell hx2 t9;have r10':=xcell hx2 t10;have r11':=xcell hx2 t11;have r12':=xcell hx2 t12;have r13':=xcell hx2 t13;have rj0:=xcell hx2 jj0;have rj1:=xcell hx2 jj1;have q0:=xcell hx2 rr0;have q1:=xcell hx2 rr1;have q2:=xcell hx2 rr2
  have fz2:∀ i,w2.frozen? ⟨w.heap.size+1+1,i,none⟩=false:=fun i=>xfree hx2 (cell_lt rr0) (FZ.out i)
  have FZ2:=Lib.hid fz2;have HX2:=Lib.hid (HX.out.trans hx2);have HS2:=Lib.hid (Sl.below HS.out hx2.below);have HK2:=Lib.hid (Sl.below HK.out hx2.below);have HP2:=Lib.hid (HP1.out.ext hx2);have sa1:=cell_lt r0';have sa2:=cell_lt q0;have sa3:=cell_lt rj0;have sa4:=cell_lt yy0;clear hx2 fz2 FZ HS HK HP1 HX t0 t1 t2 t3 t4 t5 t6 t7 t8 t9 t10 t11 t12 t13 jj0 jj1 rr0 rr1 rr2 z1 z2 z3 z4 e0 e1 e2 e3 e4 e5 e6 e7;cases jf
  ·obtain ⟨⟨gl,og⟩,HFO⟩:∃ r,Hid (Ch.storeOf p ⟨yt,⟨yi,⟨y1,y2,y3⟩⟩,⟨v1,v2,v3⟩⟩=r):=⟨_,rfl⟩
   rcases og with _|g
   ·have HO1:Hid ((none:Option Bool).isSome=false):=rfl
    have HO2:Hid ((none:Option Bool).getD false=false):=rfl
    go_upto_region 6 with (go_at_call 154;(with_reducible refine (store_val gl none false false yt yi y1 y2 y3 v1 v2 v3 _ _ _ _ _ _ _ _ pb mb _ _ _ _ _ _ _ _ _ p _ (HP2.out.ext (by simp (maxDischargeDepth:=60))) hwf hba HFO HO1 HO2).mono ?_);rintro e w3 ⟨vv,rfl,hown,hxv⟩)
    have hx3:Ext w2 w3:=Ext.trans (by simp (maxDischargeDepth:=60)) hxv;have k0:=xcell hx3 r0';have k1:=xcell hx3 r1';have k2:=xcell hx3 r2';have l0:=xcell hx3 rj0;have l1:=xcell hx3 rj1;have p0:=xcell hx3 q0;have p1:=xcell hx3 q1;have p2:=xcell hx3 q2;have fy0:=xfree hx3 (cell_lt q0) (FZ2.out 0);have fy1:=xfree hx3 (cell_lt q0) (FZ2.out 1);have fy2:=xfree hx3 (cell_lt q0) (FZ2.out 2);have s1:=cell_lt k0;have s2:=cell_lt l0;have s3:=cell_lt p0;go_wp2;obtain ⟨o0,o1,o2,ox⟩:=put3k (w:=w) (x:=vi 0) (y:=.slice none 0 0) (z:=.slice none 0 0) (HX2.out.trans hx3) (show w.heap.size≤w.heap.size+1+1 by omega) p0 p1 p2;refine bodyPost_ret (v:=.tuple #[vv,.agg #[vi 0,.slice none 0 0,.slice none 0 0],.bool false]) (by simp [results,Try.results132,go_sem,o0,o1,o2]) rfl ?_
    have HE:Ch.jobOf ⟨last,l,js⟩ p ⟨jt,false⟩=(gl,none):=by
     unfold Ch.jobOf;rw [HST.out,if_neg (by simp),HFO.out]
    rw [HE];exact ⟨vv,_,_,rfl,owns_base (owns_put3 hown (by omega)) HX2.out.below.size,own_zero _ _,ox⟩
   ·have HO1:Hid ((some g).isSome=true):=rfl
    have HO2:Hid ((some g).getD false=g):=rfl
    go_upto_region 6 with (go_at_call 154;(with_reducible refine (store_val gl (some g) true g yt yi y1 y2 y3 v1 v2 v3 _ _ _ _ _ _ _ _ pb mb _ _ _ _ _ _ _ _ _ p _ (HP2.out.ext (by simp (maxDischargeDepth:=60))) hwf hba HFO HO1 HO2).mono ?_);rintro e w3 ⟨vv,rfl,hown,hxv⟩)
    have hx3:Ext w2 w3:=Ext.trans (by simp (maxDischargeDepth:=60)) hxv;have k0:=xcell hx3 r0';have k1:=xcell hx3 r1';have k2:=xcell hx3 r2';have l0:=xcell hx3 rj0;have l1:=xcell hx3 rj1;have p0:=xcell hx3 q0;have p1:=xcell hx3 q1;have p2:=xcell hx3 q2;have fy0:=xfree hx3 (cell_lt q0) (FZ2.out 0);have fy1:=xfree hx3 (cell_lt q0) (FZ2.out 1);have fy2:=xfree hx3 (cell_lt q0) (FZ2.out 2);have s1:=cell_lt k0;have s2:=cell_lt l0;have s3:=cell_lt p0
    obtain ⟨⟨dl,dss,djs⟩,HDN⟩:∃ x,Hid (Ch.doneWith ⟨last,l,js⟩ ⟨jt,false⟩ g=x):=⟨_,rfl⟩
    go_wp2_with (go_at_call 73;(with_reducible refine (done_val ⟨dl,dss,djs⟩ last jt false g _ _ _ _ _ _ l js _ (Sl.below HS2.out (Ext.trans hx3 (by simp (maxDischargeDepth:=60))).below) (Sl.below HK2.out (Ext.trans hx3 (by simp (maxDischargeDepth:=60))).below) hm1 hm2 HDN).mono ?_);rintro e w4' ⟨d1,d2,rfl,hob,hxd⟩;obtain ⟨g1,i1,rfl,-⟩:=Sl.of_owns (c:=8) (enc:=stayCells) hob.stays (by decide) (fun _=>rfl);obtain ⟨g2,i2,rfl,-⟩:=Sl.of_owns (c:=2) (enc:=jobCells) hob.jobs (by decide) (fun _=>rfl);have hx4:Ext w3 w4':=Ext.trans (by simp (maxDischargeDepth:=60)) hxd;have fq0:=xfree hx4 s3 fy0;have fq1:=xfree hx4 s3 fy1;have fq2:=xfree hx4 s3 fy2;have pq0:=xcell hx4 p0;have pq1:=xcell hx4 p1;have pq2:=xcell hx4 p2);go_wp2;obtain ⟨o0,o1,o2,ox⟩:=put3k (w:=w) (x:=vi dl) (y:=.slice g1 dss.length i1) (z:=.slice g2 djs.length i2) ((HX2.out.trans hx3).trans hx4) (show w.heap.size≤w.heap.size+1+1 by omega) (xcell hx4 p0) (xcell hx4 p1) (xcell hx4 p2);refine bodyPost_ret (v:=.tuple #[.slice none 0 0,.agg #[vi dl,.slice g1 dss.length i1,.slice g2 djs.length i2],.bool true]) (by simp [results,Try.results132,go_sem,o0,o1,o2]) rfl ?_
    have HE:Ch.jobOf ⟨last,l,js⟩ p ⟨jt,false⟩=([],some ⟨dl,dss,djs⟩):=by
     unfold Ch.jobOf;rw [HST.out,if_neg (by simp),HFO.out];exact congrArg (fun x=>(([]:List Ch.Goal),some x)) HDN.out
    rw [HE];exact ⟨_,_,_,rfl,owns_nilG _ _ _ _,(hob.put3 (by first|exact s3|(have:=s3;simp;omega))).weak (by first|exact (HX2.out.trans hx3).below.size|(have:=(HX2.out.trans hx3).below.size;simp;omega)),ox⟩
  ·obtain ⟨⟨gl,ov⟩,HFO⟩:∃ r,Hid (Ch.fetchOf p ⟨yt,⟨yi,⟨y1,y2,y3⟩⟩,⟨v1,v2,v3⟩⟩=r):=⟨_,rfl⟩
   cases ov
   ·go_upto_region 6 with (go_at_call 153;(with_reducible refine (fetch_val gl false yt yi y1 y2 y3 v1 v2 v3 _ _ _ _ _ _ _ _ pb mb _ _ _ _ _ _ _ _ _ p _ (HP2.out.ext (by simp (maxDischargeDepth:=60))) hwf hba hdd h4 HFO).mono ?_);rintro e w3 ⟨vv,rfl,hown,hxv⟩)
    have hx3:Ext w2 w3:=Ext.trans (by simp (maxDischargeDepth:=60)) hxv;have k0:=xcell hx3 r0';have k1:=xcell hx3 r1';have k2:=xcell hx3 r2';have l0:=xcell hx3 rj0;have l1:=xcell hx3 rj1;have p0:=xcell hx3 q0;have p1:=xcell hx3 q1;have p2:=xcell hx3 q2;have fy0:=xfree hx3 (cell_lt q0) (FZ2.out 0);have fy1:=xfree hx3 (cell_lt q0) (FZ2.out 1);have fy2:=xfree hx3 (cell_lt q0) (FZ2.out 2);have s1:=cell_lt k0;have s2:=cell_lt l0;have s3:=cell_lt p0;go_wp2;obtain ⟨o0,o1,o2,ox⟩:=put3k (w:=w) (x:=vi 0) (y:=.slice none 0 0) (z:=.slice none 0 0) (HX2.out.trans hx3) (show w.heap.size≤w.heap.size+1+1 by omega) p0 p1 p2;refine bodyPost_ret (v:=.tuple #[vv,.agg #[vi 0,.slice none 0 0,.slice none 0 0],.bool false]) (by simp [results,Try.results132,go_sem,o0,o1,o2]) rfl ?_
    have HE:Ch.jobOf ⟨last,l,js⟩ p ⟨jt,true⟩=(gl,none):=by
     unfold Ch.jobOf;rw [HST.out,if_pos rfl,HFO.out,if_neg (by simp)]
    rw [HE];exact ⟨vv,_,_,rfl,owns_base (owns_put3 hown (by omega)) HX2.out.below.size,own_zero _ _,ox⟩
   ·go_upto_region 6 with (go_at_call 153;(with_reducible refine (fetch_val gl true yt yi y1 y2 y3 v1 v2 v3 _ _ _ _ _ _ _ _ pb mb _ _ _ _ _ _ _ _ _ p _ (HP2.out.ext (by simp (maxDischargeDepth:=60))) hwf hba hdd h4 HFO).mono ?_);rintro e w3 ⟨vv,rfl,hown,hxv⟩)
    have hx3:Ext w2 w3:=Ext.trans (by simp (maxDischargeDepth:=60)) hxv;have k0:=xcell hx3 r0';have k1:=xcell hx3 r1';have k2:=xcell hx3 r2';have l0:=xcell hx3 rj0;have l1:=xcell hx3 rj1;have p0:=xcell hx3 q0;have p1:=xcell hx3 q1;have p2:=xcell hx3 q2;have fy0:=xfree hx3 (cell_lt q0) (FZ2.out 0);have fy1:=xfree hx3 (cell_lt q0) (FZ2.out 1);have fy2:=xfree hx3 (cell_lt q0) (FZ2.out 2);have s1:=cell_lt k0;have s2:=cell_lt l0;have s3:=cell_lt p0
    obtain ⟨⟨dl,dss,djs⟩,HDN⟩:∃ x,Hid (Ch.doneWith ⟨last,l,js⟩ ⟨jt,true⟩ false=x):=⟨_,rfl⟩
    go_wp2_with (go_at_call 73;(with_reducible refine (done_val ⟨dl,dss,djs⟩ last jt true false _ _ _ _ _ _ l js _ (Sl.below HS2.out (Ext.trans hx3 (by simp (maxDischargeDepth:=60))).below) (Sl.below HK2.out (Ext.trans hx3 (by simp (maxDischargeDepth:=60))).below) hm1 hm2 HDN).mono ?_);rintro e w4' ⟨d1,d2,rfl,hob,hxd⟩;obtain ⟨g1,i1,rfl,-⟩:=Sl.of_owns (c:=8) (enc:=stayCells) hob.stays (by decide) (fun _=>rfl);obtain ⟨g2,i2,rfl,-⟩:=Sl.of_owns (c:=2) (enc:=jobCells) hob.jobs (by decide) (fun _=>rfl);have hx4:Ext w3 w4':=Ext.trans (by simp (maxDischargeDepth:=60)) hxd;have fq0:=xfree hx4 s3 fy0;have fq1:=xfree hx4 s3 fy1;have fq2:=xfree hx4 s3 fy2;have pq0:=xcell hx4 p0;have pq1:=xcell hx4 p1;have pq2:=xcell hx4 p2);go_wp2;obtain ⟨o0,o1,o2,ox⟩:=put3k (w:=w) (x:=vi dl) (y:=.slice g1 dss.length i1) (z:=.slice g2 djs.length i2) ((HX2.out.trans hx3).trans hx4) (show w.heap.size≤w.heap.size+1+1 by omega) (xcell hx4 p0) (xcell hx4 p1) (xcell hx4 p2);refine bodyPost_ret (v:=.tuple #[.slice none 0 0,.agg #[vi dl,.slice g1 dss.length i1,.slice g2 djs.length i2],.bool true]) (by simp [results,Try.results132,go_sem,o0,o1,o2]) rfl ?_
    have HE:Ch.jobOf ⟨last,l,js⟩ p ⟨jt,true⟩=([],some ⟨dl,dss,djs⟩):=by
     unfold Ch.jobOf;rw [HST.out,if_pos rfl,HFO.out,if_pos rfl];exact congrArg (fun x=>(([]:List Ch.Goal),some x)) HDN.out
    rw [HE];exact ⟨_,_,_,rfl,owns_nilG _ _ _ _,(hob.put3 (by first|exact s3|(have:=s3;simp;omega))).weak (by first|exact (HX2.out.trans hx3).below.size|(have:=(HX2.out.trans hx3).below.size;simp;omega)),ox⟩
end Go.Proofs.Ytplomeacjbkgnaa
