import Derived.Test.YtplomeacjbkgnaaZ20
set_option linter.all false
set_option maxRecDepth 100000
set_option maxHeartbeats 16000000
namespace Go.Proofs.Ytplomeacjbkgnaa
open Go.RowKit
theorem spare_fT (n:Int) (w:World):Calls Try.prog 41 #[vi n] w fun e w'=>e = .returned (.agg #[vi n,vi 1,vi 0])∧Ext w w':=spare_any n w
theorem bring_fT (a b c:Int) (w:World) (h0:0≤c) (h1:c≤1) (h2:1≤a) (h3:a≤4):Calls Try.prog 23 #[.agg #[vi a,vi b,vi c]] w (NewGoals w (Ch.bring ⟨a,b,c⟩)):=bring_any ⟨a,b,c⟩ w h0 h1 h2 h3
theorem fetch_fT (a b c:Int) (w:World) (h0:0≤c) (h1:c≤1) (h2:1≤a) (h3:a≤4):Calls Try.prog 21 #[.agg #[vi a,vi b,vi c]] w (NewGoals w (Ch.fetch ⟨a,b,c⟩)):=fetch_any ⟨a,b,c⟩ w h0 h1 h2 h3
theorem loaded_none {b:Ch.Book} {n:Int} {p:Ch.Plant} (ho:b.of p.lift=none):Ch.loaded b n p=Ch.giveOut:=by unfold Ch.loaded;rw [ho]
theorem loaded_is {b:Ch.Book} {n:Int} {p:Ch.Plant} {x:Ch.Stay} {jt:Int} {jf is:Bool} (ho:b.of p.lift=some x) (hf:firstT (Ch.firstJob b p.bay)=(jt,jf,is)):
  Ch.loaded b n p=if is&&jf&&jt==x.ticket&&p.bay==0 then Ch.giveOut else if (x.home.depth==1&&p.slots (Ch.front x.home) != 0) || (is&&Ch.blocks b p x ⟨jt,jf⟩) then Ch.bring (Ch.spare n) else Ch.bring x.home:=by
 unfold Ch.loaded;rw [ho]
 cases hj:Ch.firstJob b p.bay with
 | none=>
  rw [hj] at hf;simp only [firstT,Prod.mk.injEq] at hf;obtain ⟨rfl,rfl,rfl⟩:=hf;simp
 | some j=>
  rw [hj] at hf;simp only [firstT,Prod.mk.injEq] at hf;obtain ⟨rfl,rfl,rfl⟩:=hf;simp
theorem of_where {b:Ch.Book} {id:Int}:(b.of id=none∧Ch.indexOf (fun s:Ch.Stay=>s.car.id==id) b.stays=-1)∨∃ (i:Nat) (s:Ch.Stay),Ch.indexOf (fun s:Ch.Stay=>s.car.id==id) b.stays=(i:Int)∧b.stays[i]? = some s∧b.of id=some s:=by
 unfold Ch.Book.of Ch.indexOf;rw [List.find?_eq_bind_findIdx?_getElem?]
 cases hf:b.stays.findIdx? (fun s=>s.car.id==id) with
 | none=>exact Or.inl ⟨rfl,rfl⟩
 | some i=>
  obtain ⟨hi,-,-⟩:=List.findIdx?_eq_some_iff_getElem.1 hf;exact Or.inr ⟨i,b.stays[i],rfl,List.getElem?_eq_getElem hi,by simp [List.getElem?_eq_getElem hi]⟩
theorem loaded_any (last:Int) (a1:Option Addr) (m1 c1:Nat) (a2:Option Addr) (m2 c2:Nat) (lv:Int) (pb mb:Nat) (hh ee:Int) (dd:Bool) (pe li ba:Int) (f0 f1 f2:Bool) (l:List Ch.Stay) (js:List Ch.Job) (p:Ch.Plant) (w:World)
  (h:Sl w 8 stayCells l a1 m1 c1)
  (h2:Sl w 2 jobCells js a2 m2 c2) (hp:PlantAt w pb mb p) (hj:Hid (∀ j∈js,∃ s∈l,s.ticket=j.ticket)) (hpl:Hid (∀ s∈l,Ch.placeFault s.home lv=0)) (hli:Hid (p.lift=li)) (hba:Hid (p.bay=ba)) (l1:1≤lv) (l4:lv≤4):
  Calls Try.prog 129 #[turnV last a1 m1 c1 a2 m2 c2 lv pb hh ee dd pe li ba f0 f1 f2] w (NewGoals w (Ch.loaded ⟨last,l,js⟩ lv p)):=by
 have b1:=h.bound;have HF:=Lib.hid h;have HJ:=Lib.hid h2;have HP:=Lib.hid hp;have E1:=Lib.hid h.len;clear h h2 hp
 obtain ⟨⟨jt,jf,is⟩,HFJ⟩:∃ r,Hid (firstT (Ch.firstJob ⟨last,l,js⟩ ba)=r):=⟨_,rfl⟩
 rcases of_where (b:=⟨last,l,js⟩) (id:=li) with ⟨ho,hi⟩|⟨si,⟨xt,⟨xi,⟨x1,x2,x3⟩⟩,⟨u1,u2,u3⟩⟩,hi,hsl,ho⟩
 ·have HI:Hid (Ch.indexOf (fun s:Ch.Stay=>s.car.id==li) l=-1):=hi
  have HL:Hid (Ch.loaded ⟨last,l,js⟩ lv p=Ch.giveOut):=loaded_none (by rw [hli.out];exact ho);clear hi ho;go_enter Try.func129,Try.ntmps129
  go_upto_region 1 with fail
  generalize hW:World.alloc _ _=w0
  have t0:w0.cell? ⟨w.heap.size,0,none⟩=some (vi last):=by rw [←hW];simp [go_sem]
  have t1:w0.cell? ⟨w.heap.size,1,none⟩=some (.slice a1 m1 c1):=by rw [←hW];simp [go_sem]
  have t2:w0.cell? ⟨w.heap.size,2,none⟩=some (.slice a2 m2 c2):=by rw [←hW];simp [go_sem]
  have t3:w0.cell? ⟨w.heap.size,3,none⟩=some (vi lv):=by rw [←hW];simp [go_sem]
  have t4:w0.cell? ⟨w.heap.size,4,none⟩=some (.pointer (some ⟨pb,0,none⟩)):=by rw [←hW];simp [go_sem]
  have t5:w0.cell? ⟨w.heap.size,5,none⟩=some (vi hh):=by rw [←hW];simp [go_sem]
  have t6:w0.cell? ⟨w.heap.size,6,none⟩=some (vi ee):=by rw [←hW];simp [go_sem]
  have t7:w0.cell? ⟨w.heap.size,7,none⟩=some (.bool dd):=by rw [←hW];simp [go_sem]
  have t8:w0.cell? ⟨w.heap.size,8,none⟩=some (vi pe):=by rw [←hW];simp [go_sem]
  have t9:w0.cell? ⟨w.heap.size,9,none⟩=some (vi li):=by rw [←hW];simp [go_sem]
  have t10:w0.cell? ⟨w.heap.size,10,none⟩=some (vi ba):=by rw [←hW];simp [go_sem]
  have t11:w0.cell? ⟨w.heap.size,11,none⟩=some (.bool f0):=by rw [←hW];simp [go_sem]
  have t12:w0.cell? ⟨w.heap.size,12,none⟩=some (.bool f1):=by rw [←hW];simp [go_sem]
  have t13:w0.cell? ⟨w.heap.size,13,none⟩=some (.bool f2):=by rw [←hW];simp [go_sem]
  have hx:Ext w w0:=by rw [←hW];exact (by simp (maxDischargeDepth:=60))
  have HS:=Lib.hid (Sl.below HF.out hx.below);have HK:=Lib.hid (Sl.below HJ.out hx.below);have HP1:=Lib.hid (HP.out.ext hx);have HX:=Lib.hid hx;have z1:=cell_lt t0;clear hW hx HF HJ HP;go_wp2_with (first|(go_at_call 105;(with_reducible refine (of_stay (-1) _ _ _ _ _ _ _ _ l _ (Sl.below HS.out (Ext.below (by simp (maxDischargeDepth:=60)))) HI).mono ?_);rintro e w1 ⟨rfl,o1,n1,rfl⟩)|(go_at_call 16;(with_reducible refine (giveOut_any _).mono ?_);rintro e wv ⟨v1,rfl,hown,hxv⟩));go_ret;exact ⟨v1,rfl,by rw [HL.out];exact owns_base hown (HX.out.trans (by simp (maxDischargeDepth:=60))).below.size,(HX.out.trans (by simp (maxDischargeDepth:=60))).trans hxv⟩
 ·have HI:Hid (Ch.indexOf (fun s:Ch.Stay=>s.car.id==li) l=(si:Int)):=hi
  have HL:Hid (Ch.loaded ⟨last,l,js⟩ lv p=if is&&jf&&jt==xt&&ba==0 then Ch.giveOut else if (u3==1&&p.slots ⟨u1,u2,0⟩ != 0) || (is&&Ch.blocks ⟨last,l,js⟩ p ⟨xt,⟨xi,⟨x1,x2,x3⟩⟩,⟨u1,u2,u3⟩⟩ ⟨jt,jf⟩) then Ch.bring (Ch.spare lv) else Ch.bring ⟨u1,u2,u3⟩):=by
   unfold Hid;rw [loaded_is (jt:=jt) (jf:=jf) (is:=is) (by rw [hli.out];exact ho) (by rw [hba.out];exact HFJ.out),hba.out];rfl
  have hpf:=Ch.placeFault_iff.1 (hpl.out _ (List.mem_of_getElem? hsl));obtain ⟨g1,g2,g3,g4,g5,g6⟩:=hpf;dsimp only at g1 g2 g3 g4 g5 g6
  have HJM:Hid (is=true→∃ s∈l,s.ticket=jt):=by
   intro hi;have hf:=HFJ.out
   cases hfj:Ch.firstJob ⟨last,l,js⟩ ba with
   | none=>rw [hfj] at hf;simp only [firstT,Prod.mk.injEq] at hf;rw [hi] at hf;simp at hf
   | some j=>
    rw [hfj] at hf;simp only [firstT,Prod.mk.injEq] at hf;rw [←hf.1];exact hj.out j (Ch.first_mem hfj).1
  have hsm:si<m1:=by
   have:=E1.out;obtain ⟨h1,_⟩:=List.getElem?_eq_some_iff.1 hsl;dsimp only at h1;omega
  obtain ⟨b',q',s',rfl,hs',ds⟩:=HF.out.get hsm;rw [show l[si]? = _ from hsl] at hs';cases hs';have ds:=at8 ds;have hq2:=cell_lt ds.1
  have hs0:(0:Int)≤(si:Int):=by omega
  have hs1:(si:Int)<(m1:Int):=by omega
  have hs2:(si:Int)≤(c1:Int):=by omega
  have hsn:¬ ((si:Int)<0):=by omega
  clear hi ho hsl;go_enter Try.func129,Try.ntmps129
  go_upto_region 1 with fail
  generalize hW:World.alloc _ _=w0
  have t0:w0.cell? ⟨w.heap.size,0,none⟩=some (vi last):=by rw [←hW];simp [go_sem]
  have t1:w0.cell? ⟨w.heap.size,1,none⟩=some (.slice (some ⟨b',q',none⟩) m1 c1):=by rw [←hW];simp [go_sem]
  have t2:w0.cell? ⟨w.heap.size,2,none⟩=some (.slice a2 m2 c2):=by rw [←hW];simp [go_sem]
  have t3:w0.cell? ⟨w.heap.size,3,none⟩=some (vi lv):=by rw [←hW];simp [go_sem]
  have t4:w0.cell? ⟨w.heap.size,4,none⟩=some (.pointer (some ⟨pb,0,none⟩)):=by rw [←hW];simp [go_sem]
  have t5:w0.cell? ⟨w.heap.size,5,none⟩=some (vi hh):=by rw [←hW];simp [go_sem]
  have t6:w0.cell? ⟨w.heap.size,6,none⟩=some (vi ee):=by rw [←hW];simp [go_sem]
  have t7:w0.cell? ⟨w.heap.size,7,none⟩=some (.bool dd):=by rw [←hW];simp [go_sem]
  have t8:w0.cell? ⟨w.heap.size,8,none⟩=some (vi pe):=by rw [←hW];simp [go_sem]
  have t9:w0.cell? ⟨w.heap.size,9,none⟩=some (vi li):=by rw [←hW];simp [go_sem]
  have t10:w0.cell? ⟨w.heap.size,10,none⟩=some (vi ba):=by rw [←hW];simp [go_sem]
  have t11:w0.cell? ⟨w.heap.size,11,none⟩=some (.bool f0):=by rw [←hW];simp [go_sem]
  have t12:w0.cell? ⟨w.heap.size,12,none⟩=some (.bool f1):=by rw [←hW];simp [go_sem]
  have t13:w0.cell? ⟨w.heap.size,13,none⟩=some (.bool f2):=by rw [←hW];simp [go_sem]
  have hx:Ext w w0:=by rw [←hW];exact (by simp (maxDischargeDepth:=60))
  have HS:=Lib.hid (Sl.below HF.out hx.below);have HK:=Lib.hid (Sl.below HJ.out hx.below);have HP1:=Lib.hid (HP.out.ext hx);have HX:=Lib.hid hx;have z1:=cell_lt t0;have e0:=xcell hx ds.1;have e1:=xcell hx ds.2.1;have e2:=xcell hx ds.2.2.1;have e3:=xcell hx ds.2.2.2.1;have e4:=xcell hx ds.2.2.2.2.1;have e5:=xcell hx ds.2.2.2.2.2.1;have e6:=xcell hx ds.2.2.2.2.2.2.1;have e7:=xcell hx ds.2.2.2.2.2.2.2;have z2:=cell_lt e0;clear hW hx HF HJ HP ds hq2
  go_upto_region 5 with ((go_at_call 105;(with_reducible refine (of_stay (si:Int) _ _ _ _ _ _ _ _ l _ (Sl.below HS.out (Ext.below (by simp (maxDischargeDepth:=60)))) HI).mono ?_);rintro e w1 ⟨rfl,o1,n1,rfl⟩))
  generalize hW:World.alloc _ _=w2;generalize hA:w0.heap.size+_=A4
  have hx2:Ext w0 w2:=by rw [←hW];exact (by simp (maxDischargeDepth:=60))
  have y0:w2.cell? ⟨A4,0,none⟩=some (vi xt):=by rw [←hW,←hA];simp [go_sem]
  have y1:w2.cell? ⟨A4,1,none⟩=some (vi xi):=by rw [←hW,←hA];simp [go_sem]
  have y2:w2.cell? ⟨A4,2,none⟩=some (vi x1):=by rw [←hW,←hA];simp [go_sem]
  have y3:w2.cell? ⟨A4,3,none⟩=some (vi x2):=by rw [←hW,←hA];simp [go_sem]
  have y4:w2.cell? ⟨A4,4,none⟩=some (vi x3):=by rw [←hW,←hA];simp [go_sem]
  have y5:w2.cell? ⟨A4,5,none⟩=some (vi u1):=by rw [←hW,←hA];simp [go_sem]
  have y6:w2.cell? ⟨A4,6,none⟩=some (vi u2):=by rw [←hW,←hA];simp [go_sem]
  have y7:w2.cell? ⟨A4,7,none⟩=some (vi u3):=by rw [←hW,←hA];simp [go_sem]
  have a0:=xcell hx2 t0;have a1':=xcell hx2 t1;have a2':=xcell hx2 t2;have a3:=xcell hx2 t3;have a4:=xcell hx2 t4;have a5:=xcell hx2 t5;have a6:=xcell hx2 t6;have a7:=xcell hx2 t7;have a8:=xcell hx2 t8;have a9:=xcell hx2 t9;have a10:=xcell hx2 t10;have a11:=xcell hx2 t11;have a12:=xcell hx2 t12;have a13:=xcell hx2 t13;have HX2:=Lib.hid (HX.out.trans hx2);have HS2:=Lib.hid (Sl.below HS.out hx2.below);have HK2:=Lib.hid (Sl.below HK.out hx2.below);have HP2:=Lib.hid (HP1.out.ext hx2);have w1:=cell_lt a0;have w2':=cell_lt y0;clear hW hA hx2 HS HK HP1 HX t0 t1 t2 t3 t4 t5 t6 t7 t8 t9 t10 t11 t12 t13 z1 z2 e0 e1 e2 e3 e4 e5 e6 e7
  go_upto_region 6 with ((go_at_call 130;(with_reducible refine (first_any jt jf is _ _ _ _ _ _ _ _ _ _ _ _ _ _ _ _ _ _ l js _ (Sl.below HS2.out (Ext.below (by simp (maxDischargeDepth:=60)))) (Sl.below HK2.out (Ext.below (by simp (maxDischargeDepth:=60)))) hj HFJ).mono ?_);rintro e w1 ⟨rfl,o1,n1,rfl⟩))
  generalize hW:World.alloc _ _=w3;generalize hA:w2.heap.size+_=A5
  have hx3:Ext w2 w3:=by rw [←hW];exact (by simp (maxDischargeDepth:=60))
  have j0:w3.cell? ⟨A5,0,none⟩=some (vi jt):=by rw [←hW,←hA];simp [go_sem]
  have j1:w3.cell? ⟨A5,1,none⟩=some (.bool jf):=by rw [←hW,←hA];simp [go_sem]
  have HX3:=Lib.hid (HX2.out.trans hx3);have HS3:=Lib.hid (Sl.below HS2.out hx3.below);have HP3:=Lib.hid (HP2.out.ext hx3);have b0:=xcell hx3 a0;have b1':=xcell hx3 a1';have b2':=xcell hx3 a2';have b3:=xcell hx3 a3;have b4:=xcell hx3 a4;have b5:=xcell hx3 a5;have b6:=xcell hx3 a6;have b7:=xcell hx3 a7;have b8:=xcell hx3 a8;have b9:=xcell hx3 a9;have b10:=xcell hx3 a10;have b11:=xcell hx3 a11;have b12:=xcell hx3 a12;have b13:=xcell hx3 a13;have k0:=xcell hx3 y0;have k1:=xcell hx3 y1;have k2:=xcell hx3 y2;have k3:=xcell hx3 y3;have k4:=xcell hx3 y4;have k5:=xcell hx3 y5;have k6:=xcell hx3 y6;have k7:=xcell hx3 y7;have v1':=cell_lt b0;have v2':=cell_lt k0;have v3':=cell_lt j0;clear hW hA hx3 HX2 HS2 HK2 HP2 a0 a1' a2' a3 a4 a5 a6 a7 a8 a9 a10 a11 a12 a13 y0 y1 y2 y3 y4 y5 y6 y7 w1 w2';cases is
  ·by_cases hu:u3=1
   ·subst hu
    obtain ⟨sv,HSV⟩:∃ sv,Hid (p.slots ⟨u1,u2,0⟩=sv):=⟨_,rfl⟩
    by_cases hz:sv=0
    ·subst hz
     go_upto_region 8 with fail
     (refine wp_region_ext (by kernel_rfl) (by kernel_rfl) ?_;(repeat (first|go_big_quiet_step ((first|(intro _;go_at_call 40;exact ext_callG (front_fT _ _ _ _) (by rintro w' ⟨o',n',rfl⟩;exact ⟨_,n',by first|(simp only [plus_plus];rfl)|(simp only [plus_plus,Array.append_assoc];rfl)|rfl⟩))|(intro _;go_at_call 127;exact ext_callG (at_val (HP3.out.ext (by simp (maxDischargeDepth:=60))) _ _ _ 0 HSV) (by rintro w' ⟨o',n',rfl⟩;exact ⟨_,n',by first|(simp only [plus_plus];rfl)|(simp only [plus_plus,Array.append_assoc];rfl)|rfl⟩))))|quiet_step ((first|(intro _;go_at_call 40;exact ext_callG (front_fT _ _ _ _) (by rintro w' ⟨o',n',rfl⟩;exact ⟨_,n',by first|(simp only [plus_plus];rfl)|(simp only [plus_plus,Array.append_assoc];rfl)|rfl⟩))|(intro _;go_at_call 127;exact ext_callG (at_val (HP3.out.ext (by simp (maxDischargeDepth:=60))) _ _ _ 0 HSV) (by rintro w' ⟨o',n',rfl⟩;exact ⟨_,n',by first|(simp only [plus_plus];rfl)|(simp only [plus_plus,Array.append_assoc];rfl)|rfl⟩))))));refine wpQuiet_nil ?_;intro _ hw';obtain ⟨oq,nq,hw''⟩:=hw';subst hw'')
     go_wp2_with (go_at_call 23;(with_reducible refine (bring_fT _ _ _ _ (by first|omega|decide) (by first|omega|decide) (by omega) (by omega)).mono ?_);rintro e wv ⟨v1,rfl,hown,hxv⟩);go_ret;exact ⟨v1,rfl,by rw [HL.out];simp [HSV.out];exact owns_base hown (HX3.out.trans (by simp (maxDischargeDepth:=60))).below.size,(HX3.out.trans (by simp (maxDischargeDepth:=60))).trans hxv⟩
    ·go_upto_region 8 with fail
     (refine wp_region_ext (by kernel_rfl) (by kernel_rfl) ?_;(repeat (first|go_big_quiet_step ((first|(intro _;go_at_call 40;exact ext_callG (front_fT _ _ _ _) (by rintro w' ⟨o',n',rfl⟩;exact ⟨_,n',by first|(simp only [plus_plus];rfl)|(simp only [plus_plus,Array.append_assoc];rfl)|rfl⟩))|(intro _;go_at_call 127;exact ext_callG (at_val (HP3.out.ext (by simp (maxDischargeDepth:=60))) _ _ _ sv HSV) (by rintro w' ⟨o',n',rfl⟩;exact ⟨_,n',by first|(simp only [plus_plus];rfl)|(simp only [plus_plus,Array.append_assoc];rfl)|rfl⟩))))|quiet_step ((first|(intro _;go_at_call 40;exact ext_callG (front_fT _ _ _ _) (by rintro w' ⟨o',n',rfl⟩;exact ⟨_,n',by first|(simp only [plus_plus];rfl)|(simp only [plus_plus,Array.append_assoc];rfl)|rfl⟩))|(intro _;go_at_call 127;exact ext_callG (at_val (HP3.out.ext (by simp (maxDischargeDepth:=60))) _ _ _ sv HSV) (by rintro w' ⟨o',n',rfl⟩;exact ⟨_,n',by first|(simp only [plus_plus];rfl)|(simp only [plus_plus,Array.append_assoc];rfl)|rfl⟩))))));refine wpQuiet_nil ?_;intro _ hw';obtain ⟨oq,nq,hw''⟩:=hw';subst hw'')
     go_wp2_with (first|(go_at_call 41;(with_reducible refine (spare_fT _ _).mono ?_);rintro e w1 ⟨rfl,o1,n1,rfl⟩)|(go_at_call 23;(with_reducible refine (bring_fT _ _ _ _ (by first|omega|decide) (by first|omega|decide) (by omega) (by omega)).mono ?_);rintro e wv ⟨v1,rfl,hown,hxv⟩));go_ret;exact ⟨v1,rfl,by rw [HL.out];simp [HSV.out,hz];exact owns_base hown (HX3.out.trans (by simp (maxDischargeDepth:=60))).below.size,(HX3.out.trans (by simp (maxDischargeDepth:=60))).trans hxv⟩
   ·go_upto_region 8 with fail
    (refine wp_region_ext (by kernel_rfl) (by kernel_rfl) ?_;(repeat (first|go_big_quiet_step (fail)|quiet_step (fail)));refine wpQuiet_nil ?_;intro _ hw';obtain ⟨oq,nq,hw''⟩:=hw';subst hw'')
    go_wp2_with (go_at_call 23;(with_reducible refine (bring_fT _ _ _ _ (by first|omega|decide) (by first|omega|decide) (by omega) (by omega)).mono ?_);rintro e wv ⟨v1,rfl,hown,hxv⟩);go_ret;exact ⟨v1,rfl,by rw [HL.out];simp [hu];exact owns_base hown (HX3.out.trans (by simp (maxDischargeDepth:=60))).below.size,(HX3.out.trans (by simp (maxDischargeDepth:=60))).trans hxv⟩
  ·cases jf
   ·by_cases hu:u3=1
    ·subst hu
     obtain ⟨sv,HSV⟩:∃ sv,Hid (p.slots ⟨u1,u2,0⟩=sv):=⟨_,rfl⟩
     by_cases hz:sv=0
     ·subst hz
      go_upto_region 8 with fail
      (refine wp_region_ext (by kernel_rfl) (by kernel_rfl) ?_;(repeat (first|go_big_quiet_step ((first|(intro _;go_at_call 40;exact ext_callG (front_fT _ _ _ _) (by rintro w' ⟨o',n',rfl⟩;exact ⟨_,n',by first|(simp only [plus_plus];rfl)|(simp only [plus_plus,Array.append_assoc];rfl)|rfl⟩))|(intro _;go_at_call 127;exact ext_callG (at_val (HP3.out.ext (by simp (maxDischargeDepth:=60))) _ _ _ 0 HSV) (by rintro w' ⟨o',n',rfl⟩;exact ⟨_,n',by first|(simp only [plus_plus];rfl)|(simp only [plus_plus,Array.append_assoc];rfl)|rfl⟩))))|quiet_step ((first|(intro _;go_at_call 40;exact ext_callG (front_fT _ _ _ _) (by rintro w' ⟨o',n',rfl⟩;exact ⟨_,n',by first|(simp only [plus_plus];rfl)|(simp only [plus_plus,Array.append_assoc];rfl)|rfl⟩))|(intro _;go_at_call 127;exact ext_callG (at_val (HP3.out.ext (by simp (maxDischargeDepth:=60))) _ _ _ 0 HSV) (by rintro w' ⟨o',n',rfl⟩;exact ⟨_,n',by first|(simp only [plus_plus];rfl)|(simp only [plus_plus,Array.append_assoc];rfl)|rfl⟩))))));refine wpQuiet_nil ?_;intro _ hw';obtain ⟨oq,nq,hw''⟩:=hw';subst hw'')
      have HJ1:=Lib.hid (HJM.out rfl)
      obtain ⟨V,HB⟩:∃ V,Hid (Ch.blocks ⟨last,l,js⟩ p ⟨xt,⟨xi,⟨x1,x2,x3⟩⟩,⟨u1,u2,1⟩⟩ ⟨jt,false⟩=V):=⟨_,rfl⟩
      cases V
      ·go_wp2_with (first|(go_at_call 131;(with_reducible refine (blocks_any false xt xi x1 x2 x3 u1 u2 1 jt false _ _ _ _ _ _ _ _ pb mb _ _ _ _ _ _ _ _ _ l js p _ (Sl.below HS3.out (Ext.below (by simp (maxDischargeDepth:=60)))) (HP3.out.ext (by simp (maxDischargeDepth:=60))) HJ1 HB).mono ?_);rintro e w1 ⟨rfl,o1,n1,rfl⟩)|(go_at_call 23;(with_reducible refine (bring_fT _ _ _ _ (by first|omega|decide) (by first|omega|decide) (by omega) (by omega)).mono ?_);rintro e wv ⟨v1,rfl,hown,hxv⟩))
       go_ret;exact ⟨v1,rfl,by rw [HL.out];simp [HSV.out,HB.out];exact owns_base hown (HX3.out.trans (by simp (maxDischargeDepth:=60))).below.size,(HX3.out.trans (by simp (maxDischargeDepth:=60))).trans hxv⟩
      ·go_wp2_with (first|(go_at_call 131;(with_reducible refine (blocks_any true xt xi x1 x2 x3 u1 u2 1 jt false _ _ _ _ _ _ _ _ pb mb _ _ _ _ _ _ _ _ _ l js p _ (Sl.below HS3.out (Ext.below (by simp (maxDischargeDepth:=60)))) (HP3.out.ext (by simp (maxDischargeDepth:=60))) HJ1 HB).mono ?_);rintro e w1 ⟨rfl,o1,n1,rfl⟩)|(go_at_call 41;(with_reducible refine (spare_fT _ _).mono ?_);rintro e w1 ⟨rfl,o1,n1,rfl⟩)|(go_at_call 23;(with_reducible refine (bring_fT _ _ _ _ (by first|omega|decide) (by first|omega|decide) (by omega) (by omega)).mono ?_);rintro e wv ⟨v1,rfl,hown,hxv⟩))
       go_ret;exact ⟨v1,rfl,by rw [HL.out];simp [HSV.out,HB.out];exact owns_base hown (HX3.out.trans (by simp (maxDischargeDepth:=60))).below.size,(HX3.out.trans (by simp (maxDischargeDepth:=60))).trans hxv⟩
     ·go_upto_region 8 with fail
      (refine wp_region_ext (by kernel_rfl) (by kernel_rfl) ?_;(repeat (first|go_big_quiet_step ((first|(intro _;go_at_call 40;exact ext_callG (front_fT _ _ _ _) (by rintro w' ⟨o',n',rfl⟩;exact ⟨_,n',by first|(simp only [plus_plus];rfl)|(simp only [plus_plus,Array.append_assoc];rfl)|rfl⟩))|(intro _;go_at_call 127;exact ext_callG (at_val (HP3.out.ext (by simp (maxDischargeDepth:=60))) _ _ _ sv HSV) (by rintro w' ⟨o',n',rfl⟩;exact ⟨_,n',by first|(simp only [plus_plus];rfl)|(simp only [plus_plus,Array.append_assoc];rfl)|rfl⟩))))|quiet_step ((first|(intro _;go_at_call 40;exact ext_callG (front_fT _ _ _ _) (by rintro w' ⟨o',n',rfl⟩;exact ⟨_,n',by first|(simp only [plus_plus];rfl)|(simp only [plus_plus,Array.append_assoc];rfl)|rfl⟩))|(intro _;go_at_call 127;exact ext_callG (at_val (HP3.out.ext (by simp (maxDischargeDepth:=60))) _ _ _ sv HSV) (by rintro w' ⟨o',n',rfl⟩;exact ⟨_,n',by first|(simp only [plus_plus];rfl)|(simp only [plus_plus,Array.append_assoc];rfl)|rfl⟩))))));refine wpQuiet_nil ?_;intro _ hw';obtain ⟨oq,nq,hw''⟩:=hw';subst hw'')
      go_wp2_with (first|(go_at_call 41;(with_reducible refine (spare_fT _ _).mono ?_);rintro e w1 ⟨rfl,o1,n1,rfl⟩)|(go_at_call 23;(with_reducible refine (bring_fT _ _ _ _ (by first|omega|decide) (by first|omega|decide) (by omega) (by omega)).mono ?_);rintro e wv ⟨v1,rfl,hown,hxv⟩));go_ret;exact ⟨v1,rfl,by rw [HL.out];simp [HSV.out,hz];exact owns_base hown (HX3.out.trans (by simp (maxDischargeDepth:=60))).below.size,(HX3.out.trans (by simp (maxDischargeDepth:=60))).trans hxv⟩
    ·go_upto_region 8 with fail
     (refine wp_region_ext (by kernel_rfl) (by kernel_rfl) ?_;(repeat (first|go_big_quiet_step (fail)|quiet_step (fail)));refine wpQuiet_nil ?_;intro _ hw';obtain ⟨oq,nq,hw''⟩:=hw';subst hw'')
     have HJ1:=Lib.hid (HJM.out rfl)
     obtain ⟨V,HB⟩:∃ V,Hid (Ch.blocks ⟨last,l,js⟩ p ⟨xt,⟨xi,⟨x1,x2,x3⟩⟩,⟨u1,u2,u3⟩⟩ ⟨jt,false⟩=V):=⟨_,rfl⟩
     cases V
     ·go_wp2_with (first|(go_at_call 131;(with_reducible refine (blocks_any false xt xi x1 x2 x3 u1 u2 u3 jt false _ _ _ _ _ _ _ _ pb mb _ _ _ _ _ _ _ _ _ l js p _ (Sl.below HS3.out (Ext.below (by simp (maxDischargeDepth:=60)))) (HP3.out.ext (by simp (maxDischargeDepth:=60))) HJ1 HB).mono ?_);rintro e w1 ⟨rfl,o1,n1,rfl⟩)|(go_at_call 23;(with_reducible refine (bring_fT _ _ _ _ (by first|omega|decide) (by first|omega|decide) (by omega) (by omega)).mono ?_);rintro e wv ⟨v1,rfl,hown,hxv⟩))
      go_ret;exact ⟨v1,rfl,by rw [HL.out];simp [hu,HB.out];exact owns_base hown (HX3.out.trans (by simp (maxDischargeDepth:=60))).below.size,(HX3.out.trans (by simp (maxDischargeDepth:=60))).trans hxv⟩
     ·go_wp2_with (first|(go_at_call 131;(with_reducible refine (blocks_any true xt xi x1 x2 x3 u1 u2 u3 jt false _ _ _ _ _ _ _ _ pb mb _ _ _ _ _ _ _ _ _ l js p _ (Sl.below HS3.out (Ext.below (by simp (maxDischargeDepth:=60)))) (HP3.out.ext (by simp (maxDischargeDepth:=60))) HJ1 HB).mono ?_);rintro e w1 ⟨rfl,o1,n1,rfl⟩)|(go_at_call 41;(with_reducible refine (spare_fT _ _).mono ?_);rintro e w1 ⟨rfl,o1,n1,rfl⟩)|(go_at_call 23;(with_reducible refine (bring_fT _ _ _ _ (by first|omega|decide) (by first|omega|decide) (by omega) (by omega)).mono ?_);rintro e wv ⟨v1,rfl,hown,hxv⟩))
      go_ret;exact ⟨v1,rfl,by rw [HL.out];simp [hu,HB.out];exact owns_base hown (HX3.out.trans (by simp (maxDischargeDepth:=60))).below.size,(HX3.out.trans (by simp (maxDischargeDepth:=60))).trans hxv⟩
   ·by_cases hjt:jt=xt
    ·subst hjt
     by_cases hb0:ba=0
     ·subst hb0
      go_wp2_with (go_at_call 16;(with_reducible refine (giveOut_any _).mono ?_);rintro e wv ⟨v1,rfl,hown,hxv⟩);go_ret;exact ⟨v1,rfl,by rw [HL.out];simp [];exact owns_base hown (HX3.out.trans (by simp (maxDischargeDepth:=60))).below.size,(HX3.out.trans (by simp (maxDischargeDepth:=60))).trans hxv⟩
     ·by_cases hu:u3=1
      ·subst hu
       obtain ⟨sv,HSV⟩:∃ sv,Hid (p.slots ⟨u1,u2,0⟩=sv):=⟨_,rfl⟩
       by_cases hz:sv=0
       ·subst hz
        go_upto_region 8 with fail
        (refine wp_region_ext (by kernel_rfl) (by kernel_rfl) ?_;(repeat (first|go_big_quiet_step ((first|(intro _;go_at_call 40;exact ext_callG (front_fT _ _ _ _) (by rintro w' ⟨o',n',rfl⟩;exact ⟨_,n',by first|(simp only [plus_plus];rfl)|(simp only [plus_plus,Array.append_assoc];rfl)|rfl⟩))|(intro _;go_at_call 127;exact ext_callG (at_val (HP3.out.ext (by simp (maxDischargeDepth:=60))) _ _ _ 0 HSV) (by rintro w' ⟨o',n',rfl⟩;exact ⟨_,n',by first|(simp only [plus_plus];rfl)|(simp only [plus_plus,Array.append_assoc];rfl)|rfl⟩))))|quiet_step ((first|(intro _;go_at_call 40;exact ext_callG (front_fT _ _ _ _) (by rintro w' ⟨o',n',rfl⟩;exact ⟨_,n',by first|(simp only [plus_plus];rfl)|(simp only [plus_plus,Array.append_assoc];rfl)|rfl⟩))|(intro _;go_at_call 127;exact ext_callG (at_val (HP3.out.ext (by simp (maxDischargeDepth:=60))) _ _ _ 0 HSV) (by rintro w' ⟨o',n',rfl⟩;exact ⟨_,n',by first|(simp only [plus_plus];rfl)|(simp only [plus_plus,Array.append_assoc];rfl)|rfl⟩))))));refine wpQuiet_nil ?_;intro _ hw';obtain ⟨oq,nq,hw''⟩:=hw';subst hw'')
        have HJ1:=Lib.hid (HJM.out rfl)
        obtain ⟨V,HB⟩:∃ V,Hid (Ch.blocks ⟨last,l,js⟩ p ⟨jt,⟨xi,⟨x1,x2,x3⟩⟩,⟨u1,u2,1⟩⟩ ⟨jt,true⟩=V):=⟨_,rfl⟩
        cases V
        ·go_wp2_with (first|(go_at_call 131;(with_reducible refine (blocks_any false jt xi x1 x2 x3 u1 u2 1 jt true _ _ _ _ _ _ _ _ pb mb _ _ _ _ _ _ _ _ _ l js p _ (Sl.below HS3.out (Ext.below (by simp (maxDischargeDepth:=60)))) (HP3.out.ext (by simp (maxDischargeDepth:=60))) HJ1 HB).mono ?_);rintro e w1 ⟨rfl,o1,n1,rfl⟩)|(go_at_call 23;(with_reducible refine (bring_fT _ _ _ _ (by first|omega|decide) (by first|omega|decide) (by omega) (by omega)).mono ?_);rintro e wv ⟨v1,rfl,hown,hxv⟩))
         go_ret;exact ⟨v1,rfl,by rw [HL.out];simp [hb0,HSV.out,HB.out];exact owns_base hown (HX3.out.trans (by simp (maxDischargeDepth:=60))).below.size,(HX3.out.trans (by simp (maxDischargeDepth:=60))).trans hxv⟩
        ·go_wp2_with (first|(go_at_call 131;(with_reducible refine (blocks_any true jt xi x1 x2 x3 u1 u2 1 jt true _ _ _ _ _ _ _ _ pb mb _ _ _ _ _ _ _ _ _ l js p _ (Sl.below HS3.out (Ext.below (by simp (maxDischargeDepth:=60)))) (HP3.out.ext (by simp (maxDischargeDepth:=60))) HJ1 HB).mono ?_);rintro e w1 ⟨rfl,o1,n1,rfl⟩)|(go_at_call 41;(with_reducible refine (spare_fT _ _).mono ?_);rintro e w1 ⟨rfl,o1,n1,rfl⟩)|(go_at_call 23;(with_reducible refine (bring_fT _ _ _ _ (by first|omega|decide) (by first|omega|decide) (by omega) (by omega)).mono ?_);rintro e wv ⟨v1,rfl,hown,hxv⟩))
         go_ret;exact ⟨v1,rfl,by rw [HL.out];simp [hb0,HSV.out,HB.out];exact owns_base hown (HX3.out.trans (by simp (maxDischargeDepth:=60))).below.size,(HX3.out.trans (by simp (maxDischargeDepth:=60))).trans hxv⟩
       ·go_upto_region 8 with fail
        (refine wp_region_ext (by kernel_rfl) (by kernel_rfl) ?_;(repeat (first|go_big_quiet_step ((first|(intro _;go_at_call 40;exact ext_callG (front_fT _ _ _ _) (by rintro w' ⟨o',n',rfl⟩;exact ⟨_,n',by first|(simp only [plus_plus];rfl)|(simp only [plus_plus,Array.append_assoc];rfl)|rfl⟩))|(intro _;go_at_call 127;exact ext_callG (at_val (HP3.out.ext (by simp (maxDischargeDepth:=60))) _ _ _ sv HSV) (by rintro w' ⟨o',n',rfl⟩;exact ⟨_,n',by first|(simp only [plus_plus];rfl)|(simp only [plus_plus,Array.append_assoc];rfl)|rfl⟩))))|quiet_step ((first|(intro _;go_at_call 40;exact ext_callG (front_fT _ _ _ _) (by rintro w' ⟨o',n',rfl⟩;exact ⟨_,n',by first|(simp only [plus_plus];rfl)|(simp only [plus_plus,Array.append_assoc];rfl)|rfl⟩))|(intro _;go_at_call 127;exact ext_callG (at_val (HP3.out.ext (by simp (maxDischargeDepth:=60))) _ _ _ sv HSV) (by rintro w' ⟨o',n',rfl⟩;exact ⟨_,n',by first|(simp only [plus_plus];rfl)|(simp only [plus_plus,Array.append_assoc];rfl)|rfl⟩))))));refine wpQuiet_nil ?_;intro _ hw';obtain ⟨oq,nq,hw''⟩:=hw';subst hw'')
        go_wp2_with (first|(go_at_call 41;(with_reducible refine (spare_fT _ _).mono ?_);rintro e w1 ⟨rfl,o1,n1,rfl⟩)|(go_at_call 23;(with_reducible refine (bring_fT _ _ _ _ (by first|omega|decide) (by first|omega|decide) (by omega) (by omega)).mono ?_);rintro e wv ⟨v1,rfl,hown,hxv⟩));go_ret;exact ⟨v1,rfl,by rw [HL.out];simp [hb0,HSV.out,hz];exact owns_base hown (HX3.out.trans (by simp (maxDischargeDepth:=60))).below.size,(HX3.out.trans (by simp (maxDischargeDepth:=60))).trans hxv⟩
      ·go_upto_region 8 with fail
       (refine wp_region_ext (by kernel_rfl) (by kernel_rfl) ?_;(repeat (first|go_big_quiet_step (fail)|quiet_step (fail)));refine wpQuiet_nil ?_;intro _ hw';obtain ⟨oq,nq,hw''⟩:=hw';subst hw'')
       have HJ1:=Lib.hid (HJM.out rfl)
       obtain ⟨V,HB⟩:∃ V,Hid (Ch.blocks ⟨last,l,js⟩ p ⟨jt,⟨xi,⟨x1,x2,x3⟩⟩,⟨u1,u2,u3⟩⟩ ⟨jt,true⟩=V):=⟨_,rfl⟩
       cases V
       ·go_wp2_with (first|(go_at_call 131;(with_reducible refine (blocks_any false jt xi x1 x2 x3 u1 u2 u3 jt true _ _ _ _ _ _ _ _ pb mb _ _ _ _ _ _ _ _ _ l js p _ (Sl.below HS3.out (Ext.below (by simp (maxDischargeDepth:=60)))) (HP3.out.ext (by simp (maxDischargeDepth:=60))) HJ1 HB).mono ?_);rintro e w1 ⟨rfl,o1,n1,rfl⟩)|(go_at_call 23;(with_reducible refine (bring_fT _ _ _ _ (by first|omega|decide) (by first|omega|decide) (by omega) (by omega)).mono ?_);rintro e wv ⟨v1,rfl,hown,hxv⟩))
        go_ret;exact ⟨v1,rfl,by rw [HL.out];simp [hb0,hu,HB.out];exact owns_base hown (HX3.out.trans (by simp (maxDischargeDepth:=60))).below.size,(HX3.out.trans (by simp (maxDischargeDepth:=60))).trans hxv⟩
       ·go_wp2_with (first|(go_at_call 131;(with_reducible refine (blocks_any true jt xi x1 x2 x3 u1 u2 u3 jt true _ _ _ _ _ _ _ _ pb mb _ _ _ _ _ _ _ _ _ l js p _ (Sl.below HS3.out (Ext.below (by simp (maxDischargeDepth:=60)))) (HP3.out.ext (by simp (maxDischargeDepth:=60))) HJ1 HB).mono ?_);rintro e w1 ⟨rfl,o1,n1,rfl⟩)|(go_at_call 41;(with_reducible refine (spare_fT _ _).mono ?_);rintro e w1 ⟨rfl,o1,n1,rfl⟩)|(go_at_call 23;(with_reducible refine (bring_fT _ _ _ _ (by first|omega|decide) (by first|omega|decide) (by omega) (by omega)).mono ?_);rintro e wv ⟨v1,rfl,hown,hxv⟩))
        go_ret;exact ⟨v1,rfl,by rw [HL.out];simp [hb0,hu,HB.out];exact owns_base hown (HX3.out.trans (by simp (maxDischargeDepth:=60))).below.size,(HX3.out.trans (by simp (maxDischargeDepth:=60))).trans hxv⟩
    ·by_cases hu:u3=1
     ·subst hu
      obtain ⟨sv,HSV⟩:∃ sv,Hid (p.slots ⟨u1,u2,0⟩=sv):=⟨_,rfl⟩
      by_cases hz:sv=0
      ·subst hz
       go_upto_region 8 with fail
       (refine wp_region_ext (by kernel_rfl) (by kernel_rfl) ?_;(repeat (first|go_big_quiet_step ((first|(intro _;go_at_call 40;exact ext_callG (front_fT _ _ _ _) (by rintro w' ⟨o',n',rfl⟩;exact ⟨_,n',by first|(simp only [plus_plus];rfl)|(simp only [plus_plus,Array.append_assoc];rfl)|rfl⟩))|(intro _;go_at_call 127;exact ext_callG (at_val (HP3.out.ext (by simp (maxDischargeDepth:=60))) _ _ _ 0 HSV) (by rintro w' ⟨o',n',rfl⟩;exact ⟨_,n',by first|(simp only [plus_plus];rfl)|(simp only [plus_plus,Array.append_assoc];rfl)|rfl⟩))))|quiet_step ((first|(intro _;go_at_call 40;exact ext_callG (front_fT _ _ _ _) (by rintro w' ⟨o',n',rfl⟩;exact ⟨_,n',by first|(simp only [plus_plus];rfl)|(simp only [plus_plus,Array.append_assoc];rfl)|rfl⟩))|(intro _;go_at_call 127;exact ext_callG (at_val (HP3.out.ext (by simp (maxDischargeDepth:=60))) _ _ _ 0 HSV) (by rintro w' ⟨o',n',rfl⟩;exact ⟨_,n',by first|(simp only [plus_plus];rfl)|(simp only [plus_plus,Array.append_assoc];rfl)|rfl⟩))))));refine wpQuiet_nil ?_;intro _ hw';obtain ⟨oq,nq,hw''⟩:=hw';subst hw'')
       have HJ1:=Lib.hid (HJM.out rfl)
       obtain ⟨V,HB⟩:∃ V,Hid (Ch.blocks ⟨last,l,js⟩ p ⟨xt,⟨xi,⟨x1,x2,x3⟩⟩,⟨u1,u2,1⟩⟩ ⟨jt,true⟩=V):=⟨_,rfl⟩
       cases V
       ·go_wp2_with (first|(go_at_call 131;(with_reducible refine (blocks_any false xt xi x1 x2 x3 u1 u2 1 jt true _ _ _ _ _ _ _ _ pb mb _ _ _ _ _ _ _ _ _ l js p _ (Sl.below HS3.out (Ext.below (by simp (maxDischargeDepth:=60)))) (HP3.out.ext (by simp (maxDischargeDepth:=60))) HJ1 HB).mono ?_);rintro e w1 ⟨rfl,o1,n1,rfl⟩)|(go_at_call 23;(with_reducible refine (bring_fT _ _ _ _ (by first|omega|decide) (by first|omega|decide) (by omega) (by omega)).mono ?_);rintro e wv ⟨v1,rfl,hown,hxv⟩))
        go_ret;exact ⟨v1,rfl,by rw [HL.out];simp [hjt,HSV.out,HB.out];exact owns_base hown (HX3.out.trans (by simp (maxDischargeDepth:=60))).below.size,(HX3.out.trans (by simp (maxDischargeDepth:=60))).trans hxv⟩
       ·go_wp2_with (first|(go_at_call 131;(with_reducible refine (blocks_any true xt xi x1 x2 x3 u1 u2 1 jt true _ _ _ _ _ _ _ _ pb mb _ _ _ _ _ _ _ _ _ l js p _ (Sl.below HS3.out (Ext.below (by simp (maxDischargeDepth:=60)))) (HP3.out.ext (by simp (maxDischargeDepth:=60))) HJ1 HB).mono ?_);rintro e w1 ⟨rfl,o1,n1,rfl⟩)|(go_at_call 41;(with_reducible refine (spare_fT _ _).mono ?_);rintro e w1 ⟨rfl,o1,n1,rfl⟩)|(go_at_call 23;(with_reducible refine (bring_fT _ _ _ _ (by first|omega|decide) (by first|omega|decide) (by omega) (by omega)).mono ?_);rintro e wv ⟨v1,rfl,hown,hxv⟩))
        go_ret;exact ⟨v1,rfl,by rw [HL.out];simp [hjt,HSV.out,HB.out];exact owns_base hown (HX3.out.trans (by simp (maxDischargeDepth:=60))).below.size,(HX3.out.trans (by simp (maxDischargeDepth:=60))).trans hxv⟩
      ·go_upto_region 8 with fail
       (refine wp_region_ext (by kernel_rfl) (by kernel_rfl) ?_;(repeat (first|go_big_quiet_step ((first|(intro _;go_at_call 40;exact ext_callG (front_fT _ _ _ _) (by rintro w' ⟨o',n',rfl⟩;exact ⟨_,n',by first|(simp only [plus_plus];rfl)|(simp only [plus_plus,Array.append_assoc];rfl)|rfl⟩))|(intro _;go_at_call 127;exact ext_callG (at_val (HP3.out.ext (by simp (maxDischargeDepth:=60))) _ _ _ sv HSV) (by rintro w' ⟨o',n',rfl⟩;exact ⟨_,n',by first|(simp only [plus_plus];rfl)|(simp only [plus_plus,Array.append_assoc];rfl)|rfl⟩))))|quiet_step ((first|(intro _;go_at_call 40;exact ext_callG (front_fT _ _ _ _) (by rintro w' ⟨o',n',rfl⟩;exact ⟨_,n',by first|(simp only [plus_plus];rfl)|(simp only [plus_plus,Array.append_assoc];rfl)|rfl⟩))|(intro _;go_at_call 127;exact ext_callG (at_val (HP3.out.ext (by simp (maxDischargeDepth:=60))) _ _ _ sv HSV) (by rintro w' ⟨o',n',rfl⟩;exact ⟨_,n',by first|(simp only [plus_plus];rfl)|(simp only [plus_plus,Array.append_assoc];rfl)|rfl⟩))))));refine wpQuiet_nil ?_;intro _ hw';obtain ⟨oq,nq,hw''⟩:=hw';subst hw'')
       go_wp2_with (first|(go_at_call 41;(with_reducible refine (spare_fT _ _).mono ?_);rintro e w1 ⟨rfl,o1,n1,rfl⟩)|(go_at_call 23;(with_reducible refine (bring_fT _ _ _ _ (by first|omega|decide) (by first|omega|decide) (by omega) (by omega)).mono ?_);rintro e wv ⟨v1,rfl,hown,hxv⟩));go_ret;exact ⟨v1,rfl,by rw [HL.out];simp [hjt,HSV.out,hz];exact owns_base hown (HX3.out.trans (by simp (maxDischargeDepth:=60))).below.size,(HX3.out.trans (by simp (maxDischargeDepth:=60))).trans hxv⟩
     ·go_upto_region 8 with fail
      (refine wp_region_ext (by kernel_rfl) (by kernel_rfl) ?_;(repeat (first|go_big_quiet_step (fail)|quiet_step (fail)));refine wpQuiet_nil ?_;intro _ hw';obtain ⟨oq,nq,hw''⟩:=hw';subst hw'')
      have HJ1:=Lib.hid (HJM.out rfl)
      obtain ⟨V,HB⟩:∃ V,Hid (Ch.blocks ⟨last,l,js⟩ p ⟨xt,⟨xi,⟨x1,x2,x3⟩⟩,⟨u1,u2,u3⟩⟩ ⟨jt,true⟩=V):=⟨_,rfl⟩
      cases V
      ·go_wp2_with (first|(go_at_call 131;(with_reducible refine (blocks_any false xt xi x1 x2 x3 u1 u2 u3 jt true _ _ _ _ _ _ _ _ pb mb _ _ _ _ _ _ _ _ _ l js p _ (Sl.below HS3.out (Ext.below (by simp (maxDischargeDepth:=60)))) (HP3.out.ext (by simp (maxDischargeDepth:=60))) HJ1 HB).mono ?_);rintro e w1 ⟨rfl,o1,n1,rfl⟩)|(go_at_call 23;(with_reducible refine (bring_fT _ _ _ _ (by first|omega|decide) (by first|omega|decide) (by omega) (by omega)).mono ?_);rintro e wv ⟨v1,rfl,hown,hxv⟩))
       go_ret;exact ⟨v1,rfl,by rw [HL.out];simp [hjt,hu,HB.out];exact owns_base hown (HX3.out.trans (by simp (maxDischargeDepth:=60))).below.size,(HX3.out.trans (by simp (maxDischargeDepth:=60))).trans hxv⟩
      ·go_wp2_with (first|(go_at_call 131;(with_reducible refine (blocks_any true xt xi x1 x2 x3 u1 u2 u3 jt true _ _ _ _ _ _ _ _ pb mb _ _ _ _ _ _ _ _ _ l js p _ (Sl.below HS3.out (Ext.below (by simp (maxDischargeDepth:=60)))) (HP3.out.ext (by simp (maxDischargeDepth:=60))) HJ1 HB).mono ?_);rintro e w1 ⟨rfl,o1,n1,rfl⟩)|(go_at_call 41;(with_reducible refine (spare_fT _ _).mono ?_);rintro e w1 ⟨rfl,o1,n1,rfl⟩)|(go_at_call 23;(with_reducible refine (bring_fT _ _ _ _ (by first|omega|decide) (by first|omega|decide) (by omega) (by omega)).mono ?_);rintro e wv ⟨v1,rfl,hown,hxv⟩))
       go_ret;exact ⟨v1,rfl,by rw [HL.out];simp [hjt,hu,HB.out];exact owns_base hown (HX3.out.trans (by simp (maxDischargeDepth:=60))).below.size,(HX3.out.trans (by simp (maxDischargeDepth:=60))).trans hxv⟩
end Go.Proofs.Ytplomeacjbkgnaa
