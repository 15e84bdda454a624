import Derived.Test.YtplomeacjbkgnaaZ19
set_option linter.all false
set_option maxRecDepth 100000
set_option maxHeartbeats 16000000
namespace Go.Proofs.Ytplomeacjbkgnaa
open Go.RowKit
theorem front_fT (a b c:Int) (w:World):Calls Try.prog 40 #[.agg #[vi a,vi b,vi c]] w fun e w'=>e = .returned (.agg #[vi a,vi b,vi 0])∧Ext w w':=front_any ⟨a,b,c⟩ w
theorem at_val {pb mb:Nat} {p:Ch.Plant} {w:World} (h:PlantAt w pb mb p) (a b c v:Int) (hv:Hid (p.slots ⟨a,b,c⟩=v)):
  Calls Try.prog 127 #[.pointer (some ⟨pb,0,none⟩),.agg #[vi a,vi b,vi c]] w fun r w'=>r = .returned (vi v)∧Ext w w':=by
 have:=at_any h a b c;rw [hv.out] at this;exact this
theorem put8 {w a w2:World} {R:Nat} {v0 v1 v2 v3 v4 v5 v6 v7:Value} (hW:((((((((a.setCell ⟨R,0,none⟩ v0).setCell ⟨R,1,none⟩ v1).setCell ⟨R,2,none⟩ v2).setCell ⟨R,3,none⟩ v3).setCell ⟨R,4,none⟩ v4).setCell ⟨R,5,none⟩ v5).setCell ⟨R,6,none⟩ v6).setCell ⟨R,7,none⟩ v7)=w2)
  (hx:Ext w a) (hR:w.heap.size≤R) {cs:Array Value} {t:TypeId} (hb:a.heap[R]? = some (.cells cs t (0,0))) (h8:cs.size=8):
  w2.cell? ⟨R,0,none⟩=some v0∧w2.cell? ⟨R,1,none⟩=some v1∧w2.cell? ⟨R,2,none⟩=some v2∧w2.cell? ⟨R,3,none⟩=some v3∧w2.cell? ⟨R,4,none⟩=some v4∧w2.cell? ⟨R,5,none⟩=some v5∧w2.cell? ⟨R,6,none⟩=some v6∧w2.cell? ⟨R,7,none⟩=some v7∧Ext w w2:=by
 subst hW
 have key:∀ (a:World) (i j:Nat) (v:Value),i≠j→(a.setCell ⟨R,i,none⟩ v).cell? ⟨R,j,none⟩=a.cell? ⟨R,j,none⟩:=fun a i j v h=>World.cell?_setCell_other _ _ _ _ (by intro e;cases e;exact h rfl)
 have old:∀ i,i<8→∃ x,a.cell? ⟨R,i,none⟩=some x:=fun i hi=>⟨cs[i],block_cell hb (by simp)⟩
 have same:∀ (a:World) (i:Nat) (v:Value),(∃ x,a.cell? ⟨R,i,none⟩=some x)→(a.setCell ⟨R,i,none⟩ v).cell? ⟨R,i,none⟩=some v:=fun a i v ⟨x,h⟩=>World.cell?_setCell_same _ _ _ h
 refine ⟨?_,?_,?_,?_,?_,?_,?_,?_,(((((((hx.setCell hR _).setCell hR _).setCell hR _).setCell hR _).setCell hR _).setCell hR _).setCell hR _).setCell hR _⟩
 ·simp (disch:=decide) only [key];exact same _ _ _ (old 0 (by decide))
 ·simp (disch:=decide) only [key];exact same _ _ _ (by simp (disch:=decide) only [key];exact old 1 (by decide))
 ·simp (disch:=decide) only [key];exact same _ _ _ (by simp (disch:=decide) only [key];exact old 2 (by decide))
 ·simp (disch:=decide) only [key];exact same _ _ _ (by simp (disch:=decide) only [key];exact old 3 (by decide))
 ·simp (disch:=decide) only [key];exact same _ _ _ (by simp (disch:=decide) only [key];exact old 4 (by decide))
 ·simp (disch:=decide) only [key];exact same _ _ _ (by simp (disch:=decide) only [key];exact old 5 (by decide))
 ·simp (disch:=decide) only [key];exact same _ _ _ (by simp (disch:=decide) only [key];exact old 6 (by decide))
 ·exact same _ _ _ (by simp (disch:=decide) only [key];exact old 7 (by decide))
theorem blocks_any (V:Bool) (xt xi x1 x2 x3 u1 u2 u3 jt:Int) (jf:Bool) (last:Int) (a1:Option Addr) (m1 c1:Nat) (a2:Option Addr) (m2 c2:Nat) (lv:Int) (pb mb:Nat) (hh ee:Int) (dd:Bool) (pe li ba:Int) (f0 f1 f2:Bool) (l:List Ch.Stay) (js:List Ch.Job) (p:Ch.Plant) (w:World)
  (h:Sl w 8 stayCells l a1 m1 c1)
  (hp:PlantAt w pb mb p) (hj:Hid (∃ s∈l,s.ticket=jt)) (hv:Hid (Ch.blocks ⟨last,l,js⟩ p ⟨xt,⟨xi,⟨x1,x2,x3⟩⟩,⟨u1,u2,u3⟩⟩ ⟨jt,jf⟩=V)):
  Calls Try.prog 131 #[turnV last a1 m1 c1 a2 m2 c2 lv pb hh ee dd pe li ba f0 f1 f2,.agg #[vi xt,vi xi,vi x1,vi x2,vi x3,vi u1,vi u2,vi u3],.agg #[vi jt,.bool jf]] w fun e w'=>e = .returned (.bool V)∧Ext w w':=by
 have b1:=h.bound;have HF:=Lib.hid h;have HP:=Lib.hid hp;have E1:=Lib.hid h.len;clear h hp;obtain ⟨si,⟨yt,⟨yi,⟨y1,y2,y3⟩⟩,⟨v1,v2,v3⟩⟩,hsi,hsl,hst,htt⟩:=stay_at (last:=last) (js:=js) hj.out
 have hsm:si<m1:=by
  have:=E1.out;obtain ⟨h1,_⟩:=List.getElem?_eq_some_iff.1 hsl;omega
 have HI:Hid (Ch.indexOf (fun s:Ch.Stay=>s.ticket==jt) l=(si:Int)):=hsi
 have HV:Hid ((jf&&v3==1&&decide ((⟨v1,v2,0⟩:Ch.Place)=⟨u1,u2,u3⟩)&&p.slots ⟨v1,v2,v3⟩==yi)=V):=by
  unfold Hid;rw [←hv.out];unfold Ch.blocks Ch.front;rw [hst];rfl
 obtain ⟨b',q',s',rfl,hs',ds⟩:=HF.out.get hsm;rw [hsl] at hs';cases hs';have ds:=at8 ds;have hq2:=cell_lt ds.1
 have hs0:(0:Int)≤(si:Int):=by omega
 have hs1:(si:Int)<(m1:Int):=by omega
 have hs2:(si:Int)≤(c1:Int):=by omega
 clear hsl hst hsi hv htt;go_enter Try.func131,Try.ntmps131
 go_upto_region 1 with fail
 generalize hW:World.alloc _ _=w0
 have t0:w0.cell? ⟨w.heap.size,0,none⟩=some (vi last):=by rw [←hW];simp [go_sem]
 have t1:w0.cell? ⟨w.heap.size,1,none⟩=some (.slice (some ⟨b',q',none⟩) m1 c1):=by rw [←hW];simp [go_sem]
 have t2:w0.cell? ⟨w.heap.size,2,none⟩=some (.slice a2 m2 c2):=by rw [←hW];simp [go_sem]
 have t3:w0.cell? ⟨w.heap.size,3,none⟩=some (vi lv):=by rw [←hW];simp [go_sem]
 have t4:w0.cell? ⟨w.heap.size,4,none⟩=some (.pointer (some ⟨pb,0,none⟩)):=by rw [←hW];simp [go_sem]
 have t5:w0.cell? ⟨w.heap.size,5,none⟩=some (vi hh):=by rw [←hW];simp [go_sem]
 have t6:w0.cell? ⟨w.heap.size,6,none⟩=some (vi ee):=by rw [←hW];simp [go_sem]
 have t7:w0.cell? ⟨w.heap.size,7,none⟩=some (.bool dd):=by rw [←hW];simp [go_sem]
 have t8:w0.cell? ⟨w.heap.size,8,none⟩=some (vi pe):=by rw [←hW];simp [go_sem]
 have t9:w0.cell? ⟨w.heap.size,9,none⟩=some (vi li):=by rw [←hW];simp [go_sem]
 have t10:w0.cell? ⟨w.heap.size,10,none⟩=some (vi ba):=by rw [←hW];simp [go_sem]
 have t11:w0.cell? ⟨w.heap.size,11,none⟩=some (.bool f0):=by rw [←hW];simp [go_sem]
 have t12:w0.cell? ⟨w.heap.size,12,none⟩=some (.bool f1):=by rw [←hW];simp [go_sem]
 have t13:w0.cell? ⟨w.heap.size,13,none⟩=some (.bool f2):=by rw [←hW];simp [go_sem]
 have xx0:w0.cell? ⟨w.heap.size+1,0,none⟩=some (vi xt):=by rw [←hW];simp [go_sem]
 have xx1:w0.cell? ⟨w.heap.size+1,1,none⟩=some (vi xi):=by rw [←hW];simp [go_sem]
 have xx2:w0.cell? ⟨w.heap.size+1,2,none⟩=some (vi x1):=by rw [←hW];simp [go_sem]
 have xx3:w0.cell? ⟨w.heap.size+1,3,none⟩=some (vi x2):=by rw [←hW];simp [go_sem]
 have xx4:w0.cell? ⟨w.heap.size+1,4,none⟩=some (vi x3):=by rw [←hW];simp [go_sem]
 have xx5:w0.cell? ⟨w.heap.size+1,5,none⟩=some (vi u1):=by rw [←hW];simp [go_sem]
 have xx6:w0.cell? ⟨w.heap.size+1,6,none⟩=some (vi u2):=by rw [←hW];simp [go_sem]
 have xx7:w0.cell? ⟨w.heap.size+1,7,none⟩=some (vi u3):=by rw [←hW];simp [go_sem]
 have jj0:w0.cell? ⟨w.heap.size+2,0,none⟩=some (vi jt):=by rw [←hW];simp [go_sem]
 have jj1:w0.cell? ⟨w.heap.size+2,1,none⟩=some (.bool jf):=by rw [←hW];simp [go_sem]
 have hx:Ext w w0:=by rw [←hW];exact (by simp (maxDischargeDepth:=60))
 have e0:=xcell hx ds.1;have e1:=xcell hx ds.2.1;have e2:=xcell hx ds.2.2.1;have e3:=xcell hx ds.2.2.2.1;have e4:=xcell hx ds.2.2.2.2.1;have e5:=xcell hx ds.2.2.2.2.2.1;have e6:=xcell hx ds.2.2.2.2.2.2.1;have e7:=xcell hx ds.2.2.2.2.2.2.2;have HS:=Lib.hid (Sl.below HF.out hx.below);have HP1:=Lib.hid (HP.out.ext hx);have HX:=Lib.hid hx;have z1:=cell_lt t0;have z2:=cell_lt xx0;have z3:=cell_lt jj0;have z4:=cell_lt e0;clear hW hx HF HP ds hq2
 go_region_held3 (fun w'=>w'.cell? ⟨w.heap.size,0,none⟩=some (vi last)∧w'.cell? ⟨w.heap.size,1,none⟩=some (.slice (some ⟨b',q',none⟩) m1 c1)∧w'.cell? ⟨w.heap.size,2,none⟩=some (.slice a2 m2 c2)∧w'.cell? ⟨w.heap.size+2,0,none⟩=some (vi jt)∧w'.cell? ⟨b',q'+si * 8,none⟩=some (vi yt)∧w'.cell? ⟨b',q'+si * 8+1,none⟩=some (vi yi)∧w'.cell? ⟨b',q'+si * 8+2,none⟩=some (vi y1)∧w'.cell? ⟨b',q'+si * 8+3,none⟩=some (vi y2)∧w'.cell? ⟨b',q'+si * 8+4,none⟩=some (vi y3)∧w'.cell? ⟨b',q'+si * 8+5,none⟩=some (vi v1)∧w'.cell? ⟨b',q'+si * 8+6,none⟩=some (vi v2)∧w'.cell? ⟨b',q'+si * 8+7,none⟩=some (vi v3)) (first|((try dsimp only);(repeat' apply And.intro) <;> (refine xcell (w:=w0) ?_ (by assumption);simp (maxDischargeDepth:=60);done))) (first|(go_at_call 108;(with_reducible refine (find_stay (si:Int) _ _ _ _ _ _ _ _ l _ (Sl.below HS.out (Ext.below (by simp (maxDischargeDepth:=60)))) HI).mono ?_);rintro e w1 ⟨rfl,o1,n1,rfl⟩))
 ·generalize hW:World.alloc _ _=w2
  generalize hA:w0.heap.size+_=A
  have hx2:Ext w0 w2:=by rw [←hW];exact (by simp (maxDischargeDepth:=60))
  have yy0:w2.cell? ⟨A,0,none⟩=some (vi yt):=by rw [←hW,←hA];simp [go_sem]
  have yy1:w2.cell? ⟨A,1,none⟩=some (vi yi):=by rw [←hW,←hA];simp [go_sem]
  have yy2:w2.cell? ⟨A,2,none⟩=some (vi y1):=by rw [←hW,←hA];simp [go_sem]
  have yy3:w2.cell? ⟨A,3,none⟩=some (vi y2):=by rw [←hW,←hA];simp [go_sem]
  have yy4:w2.cell? ⟨A,4,none⟩=some (vi y3):=by rw [←hW,←hA];simp [go_sem]
  have yy5:w2.cell? ⟨A,5,none⟩=some (vi v1):=by rw [←hW,←hA];simp [go_sem]
  have yy6:w2.cell? ⟨A,6,none⟩=some (vi v2):=by rw [←hW,←hA];simp [go_sem]
  have yy7:w2.cell? ⟨A,7,none⟩=some (vi v3):=by rw [←hW,←hA];simp [go_sem]
  clear hW hA;have r4:=xcell hx2 t4;have r10:=xcell hx2 t10;have rx5:=xcell hx2 xx5;have rx6:=xcell hx2 xx6;have rx7:=xcell hx2 xx7;have rj0:=xcell hx2 jj0;have rj1:=xcell hx2 jj1;have HX2:=Lib.hid (HX.out.trans hx2);have HP2:=Lib.hid (HP1.out.ext hx2);have w1:=cell_lt r4;have w2':=cell_lt rx5;have w3:=cell_lt rj0;have w4:=cell_lt yy0;clear hx2 HS HP1 HX t0 t1 t2 t3 t4 t5 t6 t7 t8 t9 t10 t11 t12 t13 xx0 xx1 xx2 xx3 xx4 xx5 xx6 xx7 jj0 jj1 z1 z2 z3 z4 e0 e1 e2 e3 e4 e5 e6 e7
  go_upto_region 2 with fail
  cases jf
  ·(refine wp_region_ext (by kernel_rfl) (by kernel_rfl) ?_;(repeat (first|go_big_quiet_step (fail)|quiet_step (fail)));refine wpQuiet_nil ?_;intro _ hw';obtain ⟨oq,nq,hw''⟩:=hw';subst hw'')
   go_wp2;go_ret;exact ⟨by rw [←HV.out];simp,HX2.out.trans (by simp (maxDischargeDepth:=60))⟩
  ·by_cases h3:v3=1
   ·subst h3
    cases hc:decide ((⟨v1,v2,0⟩:Ch.Place)=⟨u1,u2,u3⟩)
    ·have hq:∀ w,(Go.binOp .eql 23 (.agg #[vi v1,vi v2,vi 0]) (.agg #[vi u1,vi u2,vi u3])).run Try.prog w = .ok (.bool false) w:=fun w=>by rw [eqlStruct w (eqPlace w 9998 ⟨v1,v2,0⟩ ⟨u1,u2,u3⟩),hc]
     (refine wp_region_ext (by kernel_rfl) (by kernel_rfl) ?_;(repeat (first|go_big_quiet_step ((intro _;go_at_call 40;exact ext_callG (front_fT _ _ _ _) (by rintro w' ⟨o',n',rfl⟩;exact ⟨_,n',by first|(simp only [plus_plus];rfl)|(simp only [plus_plus,Array.append_assoc];rfl)|rfl⟩)))|quiet_step ((intro _;go_at_call 40;exact ext_callG (front_fT _ _ _ _) (by rintro w' ⟨o',n',rfl⟩;exact ⟨_,n',by first|(simp only [plus_plus];rfl)|(simp only [plus_plus,Array.append_assoc];rfl)|rfl⟩)))));refine wpQuiet_nil ?_;intro _ hw';obtain ⟨oq,nq,hw''⟩:=hw';subst hw'')
     go_wp2;go_ret;exact ⟨by rw [←HV.out,hc];simp,HX2.out.trans (by simp (maxDischargeDepth:=60))⟩
    ·have hq:∀ w,(Go.binOp .eql 23 (.agg #[vi v1,vi v2,vi 0]) (.agg #[vi u1,vi u2,vi u3])).run Try.prog w = .ok (.bool true) w:=fun w=>by rw [eqlStruct w (eqPlace w 9998 ⟨v1,v2,0⟩ ⟨u1,u2,u3⟩),hc]
     obtain ⟨sv,HSV⟩:∃ sv,Hid (p.slots ⟨v1,v2,1⟩=sv):=⟨_,rfl⟩
     by_cases hy:sv=yi
     ·subst hy
      (refine wp_region_ext (by kernel_rfl) (by kernel_rfl) ?_;(repeat (first|go_big_quiet_step ((first|(intro _;go_at_call 40;exact ext_callG (front_fT _ _ _ _) (by rintro w' ⟨o',n',rfl⟩;exact ⟨_,n',by first|(simp only [plus_plus];rfl)|(simp only [plus_plus,Array.append_assoc];rfl)|rfl⟩))|(intro _;go_at_call 127;exact ext_callG (at_val (HP2.out.ext (by simp (maxDischargeDepth:=60))) _ _ _ sv HSV) (by rintro w' ⟨o',n',rfl⟩;exact ⟨_,n',by first|(simp only [plus_plus];rfl)|(simp only [plus_plus,Array.append_assoc];rfl)|rfl⟩))))|quiet_step ((first|(intro _;go_at_call 40;exact ext_callG (front_fT _ _ _ _) (by rintro w' ⟨o',n',rfl⟩;exact ⟨_,n',by first|(simp only [plus_plus];rfl)|(simp only [plus_plus,Array.append_assoc];rfl)|rfl⟩))|(intro _;go_at_call 127;exact ext_callG (at_val (HP2.out.ext (by simp (maxDischargeDepth:=60))) _ _ _ sv HSV) (by rintro w' ⟨o',n',rfl⟩;exact ⟨_,n',by first|(simp only [plus_plus];rfl)|(simp only [plus_plus,Array.append_assoc];rfl)|rfl⟩))))));refine wpQuiet_nil ?_;intro _ hw';obtain ⟨oq,nq,hw''⟩:=hw';subst hw'')
      go_wp2;go_ret;exact ⟨by rw [←HV.out,hc,HSV.out];simp,HX2.out.trans (by simp (maxDischargeDepth:=60))⟩
     ·(refine wp_region_ext (by kernel_rfl) (by kernel_rfl) ?_;(repeat (first|go_big_quiet_step ((first|(intro _;go_at_call 40;exact ext_callG (front_fT _ _ _ _) (by rintro w' ⟨o',n',rfl⟩;exact ⟨_,n',by first|(simp only [plus_plus];rfl)|(simp only [plus_plus,Array.append_assoc];rfl)|rfl⟩))|(intro _;go_at_call 127;exact ext_callG (at_val (HP2.out.ext (by simp (maxDischargeDepth:=60))) _ _ _ sv HSV) (by rintro w' ⟨o',n',rfl⟩;exact ⟨_,n',by first|(simp only [plus_plus];rfl)|(simp only [plus_plus,Array.append_assoc];rfl)|rfl⟩))))|quiet_step ((first|(intro _;go_at_call 40;exact ext_callG (front_fT _ _ _ _) (by rintro w' ⟨o',n',rfl⟩;exact ⟨_,n',by first|(simp only [plus_plus];rfl)|(simp only [plus_plus,Array.append_assoc];rfl)|rfl⟩))|(intro _;go_at_call 127;exact ext_callG (at_val (HP2.out.ext (by simp (maxDischargeDepth:=60))) _ _ _ sv HSV) (by rintro w' ⟨o',n',rfl⟩;exact ⟨_,n',by first|(simp only [plus_plus];rfl)|(simp only [plus_plus,Array.append_assoc];rfl)|rfl⟩))))));refine wpQuiet_nil ?_;intro _ hw';obtain ⟨oq,nq,hw''⟩:=hw';subst hw'')
      go_wp2;go_ret;exact ⟨by rw [←HV.out,hc,HSV.out];simp [hy],HX2.out.trans (by simp (maxDischargeDepth:=60))⟩
   ·(refine wp_region_ext (by kernel_rfl) (by kernel_rfl) ?_;(repeat (first|go_big_quiet_step (fail)|quiet_step (fail)));refine wpQuiet_nil ?_;intro _ hw';obtain ⟨oq,nq,hw''⟩:=hw';subst hw'')
    go_wp2;go_ret;exact ⟨by rw [←HV.out];simp [h3],HX2.out.trans (by simp (maxDischargeDepth:=60))⟩
 ·generalize hW:World.setCell _ _ _=w2
  obtain ⟨yy0,yy1,yy2,yy3,yy4,yy5,yy6,yy7,hx2⟩:=put8 (w:=w0) hW (by simp (maxDischargeDepth:=60)) (Nat.le_refl _) (by rw [plus_heap _ _ _ _ (by simp)];exact alloc_at _ _ _ rfl) rfl;clear hW;have r4:=xcell hx2 t4;have r10:=xcell hx2 t10;have rx5:=xcell hx2 xx5;have rx6:=xcell hx2 xx6;have rx7:=xcell hx2 xx7;have rj0:=xcell hx2 jj0;have rj1:=xcell hx2 jj1;have HX2:=Lib.hid (HX.out.trans hx2);have HP2:=Lib.hid (HP1.out.ext hx2);have w1:=cell_lt r4;have w2':=cell_lt rx5;have w3:=cell_lt rj0;have w4:=cell_lt yy0;clear hx2 HS HP1 HX t0 t1 t2 t3 t4 t5 t6 t7 t8 t9 t10 t11 t12 t13 xx0 xx1 xx2 xx3 xx4 xx5 xx6 xx7 jj0 jj1 z1 z2 z3 z4 e0 e1 e2 e3 e4 e5 e6 e7
  go_upto_region 2 with fail
  cases jf
  ·(refine wp_region_ext (by kernel_rfl) (by kernel_rfl) ?_;(repeat (first|go_big_quiet_step (fail)|quiet_step (fail)));refine wpQuiet_nil ?_;intro _ hw';obtain ⟨oq,nq,hw''⟩:=hw';subst hw'')
   go_wp2;go_ret;exact ⟨by rw [←HV.out];simp,HX2.out.trans (by simp (maxDischargeDepth:=60))⟩
  ·by_cases h3:v3=1
   ·subst h3
    cases hc:decide ((⟨v1,v2,0⟩:Ch.Place)=⟨u1,u2,u3⟩)
    ·have hq:∀ w,(Go.binOp .eql 23 (.agg #[vi v1,vi v2,vi 0]) (.agg #[vi u1,vi u2,vi u3])).run Try.prog w = .ok (.bool false) w:=fun w=>by rw [eqlStruct w (eqPlace w 9998 ⟨v1,v2,0⟩ ⟨u1,u2,u3⟩),hc]
     (refine wp_region_ext (by kernel_rfl) (by kernel_rfl) ?_;(repeat (first|go_big_quiet_step ((intro _;go_at_call 40;exact ext_callG (front_fT _ _ _ _) (by rintro w' ⟨o',n',rfl⟩;exact ⟨_,n',by first|(simp only [plus_plus];rfl)|(simp only [plus_plus,Array.append_assoc];rfl)|rfl⟩)))|quiet_step ((intro _;go_at_call 40;exact ext_callG (front_fT _ _ _ _) (by rintro w' ⟨o',n',rfl⟩;exact ⟨_,n',by first|(simp only [plus_plus];rfl)|(simp only [plus_plus,Array.append_assoc];rfl)|rfl⟩)))));refine wpQuiet_nil ?_;intro _ hw';obtain ⟨oq,nq,hw''⟩:=hw';subst hw'')
     go_wp2;go_ret;exact ⟨by rw [←HV.out,hc];simp,HX2.out.trans (by simp (maxDischargeDepth:=60))⟩
    ·have hq:∀ w,(Go.binOp .eql 23 (.agg #[vi v1,vi v2,vi 0]) (.agg #[vi u1,vi u2,vi u3])).run Try.prog w = .ok (.bool true) w:=fun w=>by rw [eqlStruct w (eqPlace w 9998 ⟨v1,v2,0⟩ ⟨u1,u2,u3⟩),hc]
     obtain ⟨sv,HSV⟩:∃ sv,Hid (p.slots ⟨v1,v2,1⟩=sv):=⟨_,rfl⟩
     by_cases hy:sv=yi
     ·subst hy
      (refine wp_region_ext (by kernel_rfl) (by kernel_rfl) ?_;(repeat (first|go_big_quiet_step ((first|(intro _;go_at_call 40;exact ext_callG (front_fT _ _ _ _) (by rintro w' ⟨o',n',rfl⟩;exact ⟨_,n',by first|(simp only [plus_plus];rfl)|(simp only [plus_plus,Array.append_assoc];rfl)|rfl⟩))|(intro _;go_at_call 127;exact ext_callG (at_val (HP2.out.ext (by simp (maxDischargeDepth:=60))) _ _ _ sv HSV) (by rintro w' ⟨o',n',rfl⟩;exact ⟨_,n',by first|(simp only [plus_plus];rfl)|(simp only [plus_plus,Array.append_assoc];rfl)|rfl⟩))))|quiet_step ((first|(intro _;go_at_call 40;exact ext_callG (front_fT _ _ _ _) (by rintro w' ⟨o',n',rfl⟩;exact ⟨_,n',by first|(simp only [plus_plus];rfl)|(simp only [plus_plus,Array.append_assoc];rfl)|rfl⟩))|(intro _;go_at_call 127;exact ext_callG (at_val (HP2.out.ext (by simp (maxDischargeDepth:=60))) _ _ _ sv HSV) (by rintro w' ⟨o',n',rfl⟩;exact ⟨_,n',by first|(simp only [plus_plus];rfl)|(simp only [plus_plus,Array.append_assoc];rfl)|rfl⟩))))));refine wpQuiet_nil ?_;intro _ hw';obtain ⟨oq,nq,hw''⟩:=hw';subst hw'')
      go_wp2;go_ret;exact ⟨by rw [←HV.out,hc,HSV.out];simp,HX2.out.trans (by simp (maxDischargeDepth:=60))⟩
     ·(refine wp_region_ext (by kernel_rfl) (by kernel_rfl) ?_;(repeat (first|go_big_quiet_step ((first|(intro _;go_at_call 40;exact ext_callG (front_fT _ _ _ _) (by rintro w' ⟨o',n',rfl⟩;exact ⟨_,n',by first|(simp only [plus_plus];rfl)|(simp only [plus_plus,Array.append_assoc];rfl)|rfl⟩))|(intro _;go_at_call 127;exact ext_callG (at_val (HP2.out.ext (by simp (maxDischargeDepth:=60))) _ _ _ sv HSV) (by rintro w' ⟨o',n',rfl⟩;exact ⟨_,n',by first|(simp only [plus_plus];rfl)|(simp only [plus_plus,Array.append_assoc];rfl)|rfl⟩))))|quiet_step ((first|(intro _;go_at_call 40;exact ext_callG (front_fT _ _ _ _) (by rintro w' ⟨o',n',rfl⟩;exact ⟨_,n',by first|(simp only [plus_plus];rfl)|(simp only [plus_plus,Array.append_assoc];rfl)|rfl⟩))|(intro _;go_at_call 127;exact ext_callG (at_val (HP2.out.ext (by simp (maxDischargeDepth:=60))) _ _ _ sv HSV) (by rintro w' ⟨o',n',rfl⟩;exact ⟨_,n',by first|(simp only [plus_plus];rfl)|(simp only [plus_plus,Array.append_assoc];rfl)|rfl⟩))))));refine wpQuiet_nil ?_;intro _ hw';obtain ⟨oq,nq,hw''⟩:=hw';subst hw'')
      go_wp2;go_ret;exact ⟨by rw [←HV.out,hc,HSV.out];simp [hy],HX2.out.trans (by simp (maxDischargeDepth:=60))⟩
   ·(refine wp_region_ext (by kernel_rfl) (by kernel_rfl) ?_;(repeat (first|go_big_quiet_step (fail)|quiet_step (fail)));refine wpQuiet_nil ?_;intro _ hw';obtain ⟨oq,nq,hw''⟩:=hw';subst hw'')
    go_wp2;go_ret;exact ⟨by rw [←HV.out];simp [h3],HX2.out.trans (by simp (maxDischargeDepth:=60))⟩
end Go.Proofs.Ytplomeacjbkgnaa
