import Derived.Test.YtplomeacjbkgnabGreatDoorZ21
set_option linter.all false
set_option maxRecDepth 100000
set_option maxHeartbeats 16000000
namespace Go.Proofs.YtplomeacjbkgnabGreatDoor
open Go.RowKit
theorem tD (a b c:Int) (w:World):Calls Tryz.prog 156 #[.agg #[vi a,vi b,vi c]] w fun e w'=>e = .returned (.agg #[vi a,vi b,vi 0])∧Ext w w':=front_any ⟨a,b,c⟩ w
theorem nD {pb mb:Nat} {p:Ch.Plant} {w:World} (h:tA w pb mb p) (a b c v:Int) (hv:Hid (p.slots ⟨a,b,c⟩=v)):
  Calls Tryz.prog 35 #[.pointer (some ⟨pb,0,none⟩),.agg #[vi a,vi b,vi c]] w fun r w'=>r = .returned (vi v)∧Ext w w':=by
 have:=at_any h a b c;rw [hv.out] at this;exact this
theorem cG {w a w2:World} {R:Nat} {v0 v1 v2 v3 v4 v5 v6 v7:Value} (hW:((((((((a.setCell ⟨R,0,none⟩ v0).setCell ⟨R,1,none⟩ v1).setCell ⟨R,2,none⟩ v2).setCell ⟨R,3,none⟩ v3).setCell ⟨R,4,none⟩ v4).setCell ⟨R,5,none⟩ v5).setCell ⟨R,6,none⟩ v6).setCell ⟨R,7,none⟩ v7)=w2)
  (hx:Ext w a) (hR:w.heap.size≤R) {cs:Array Value} {t:TypeId} (hb:a.heap[R]? = some (.cells cs t (0,0))) (h8:cs.size=8):
  w2.cell? ⟨R,0,none⟩=some v0∧w2.cell? ⟨R,1,none⟩=some v1∧w2.cell? ⟨R,2,none⟩=some v2∧w2.cell? ⟨R,3,none⟩=some v3∧w2.cell? ⟨R,4,none⟩=some v4∧w2.cell? ⟨R,5,none⟩=some v5∧w2.cell? ⟨R,6,none⟩=some v6∧w2.cell? ⟨R,7,none⟩=some v7∧Ext w w2:=by
 subst hW
 have key:∀ (a:World) (i j:Nat) (v:Value),i≠j→(a.setCell ⟨R,i,none⟩ v).cell? ⟨R,j,none⟩=a.cell? ⟨R,j,none⟩:=fun a i j v h=>World.cell?_setCell_other _ _ _ _ (by intro e;cases e;exact h rfl)
 have old:∀ i,i<8→∃ x,a.cell? ⟨R,i,none⟩=some x:=fun i hi=>⟨cs[i],cB hb (by simp)⟩
 have same:∀ (a:World) (i:Nat) (v:Value),(∃ x,a.cell? ⟨R,i,none⟩=some x)→(a.setCell ⟨R,i,none⟩ v).cell? ⟨R,i,none⟩=some v:=fun a i v ⟨x,h⟩=>World.cell?_setCell_same _ _ _ h
 refine ⟨?_,?_,?_,?_,?_,?_,?_,?_,(((((((hx.setCell hR _).setCell hR _).setCell hR _).setCell hR _).setCell hR _).setCell hR _).setCell hR _).setCell hR _⟩
 ·simp (disch:=decide) only [key];exact same _ _ _ (old 0 (by decide))
 ·simp (disch:=decide) only [key];exact same _ _ _ (by simp (disch:=decide) only [key];exact old 1 (by decide))
 ·simp (disch:=decide) only [key];exact same _ _ _ (by simp (disch:=decide) only [key];exact old 2 (by decide))
 ·simp (disch:=decide) only [key];exact same _ _ _ (by simp (disch:=decide) only [key];exact old 3 (by decide))
 ·simp (disch:=decide) only [key];exact same _ _ _ (by simp (disch:=decide) only [key];exact old 4 (by decide))
 ·simp (disch:=decide) only [key];exact same _ _ _ (by simp (disch:=decide) only [key];exact old 5 (by decide))
 ·simp (disch:=decide) only [key];exact same _ _ _ (by simp (disch:=decide) only [key];exact old 6 (by decide))
 ·exact same _ _ _ (by simp (disch:=decide) only [key];exact old 7 (by decide))
theorem fC (V:Bool) (xt xi x1 x2 x3 u1 u2 u3 jt:Int) (jf:Bool) (last:Int) (a1:Option Addr) (m1 c1:Nat) (a2:Option Addr) (m2 c2:Nat) (lv:Int) (pb mb:Nat) (hh ee:Int) (dd:Bool) (pe li ba:Int) (f0 f1 f2:Bool) (l:List Ch.Stay) (js:List Ch.Job) (p:Ch.Plant) (w:World)
    (h:Sl w 8 gA l a1 m1 c1)
    (hp:tA w pb mb p) (hj:Hid (∃ s∈l,s.ticket=jt)) (hv:Hid (Ch.blocks ⟨last,l,js⟩ p ⟨xt,⟨xi,⟨x1,x2,x3⟩⟩,⟨u1,u2,u3⟩⟩ ⟨jt,jf⟩=V)):
    Calls Tryz.prog 115 #[turnV last a1 m1 c1 a2 m2 c2 lv pb hh ee dd pe li ba f0 f1 f2,.agg #[vi xt,vi xi,vi x1,vi x2,vi x3,vi u1,vi u2,vi u3],.agg #[vi jt,.bool jf]] w fun e w'=>e = .returned (.bool V)∧Ext w w':=by
  have b1:=h.bound;have HF:=aA h;have HP:=aA hp;have E1:=aA h.len;clear h hp;obtain ⟨si,⟨yt,⟨yi,⟨y1,y2,y3⟩⟩,⟨v1,v2,v3⟩⟩,hsi,hsl,hst,htt⟩:=stay_at (last:=last) (js:=js) hj.out
  have hsm:si<m1:=by
    have:=E1.out;obtain ⟨h1,_⟩:=List.getElem?_eq_some_iff.1 hsl;omega
  have HI:Hid (Ch.indexOf (fun s:Ch.Stay=>s.ticket==jt) l=(si:Int)):=hsi
  have HV:Hid ((jf&&v3==1&&decide ((⟨v1,v2,0⟩:Ch.Place)=⟨u1,u2,u3⟩)&&p.slots ⟨v1,v2,v3⟩==yi)=V):=by
    unfold Hid;rw [←hv.out];unfold Ch.blocks Ch.front;rw [hst];rfl
  obtain ⟨b',q',s',rfl,hs',ds⟩:=HF.out.get hsm;rw [hsl] at hs';cases hs';have ds:=at8 ds;have hq2:=dA ds.1
  have hs0:(0:Int)≤(si:Int):=by omega
  have hs1:(si:Int)<(m1:Int):=by omega
  have hs2:(si:Int)≤(c1:Int):=by omega
  clear hsl hst hsi hv htt;go_enter Tryz.func115,Tryz.ntmps115
  go_upto_region 1 with fail
  generalize hW:World.alloc _ _=w0;have t0:w0.cell? ⟨w.heap.size,0,none⟩=some (vi last):=cQ hW;have t1:w0.cell? ⟨w.heap.size,1,none⟩=some (.slice (some ⟨b',q',none⟩) m1 c1):=cQ hW;have t2:w0.cell? ⟨w.heap.size,2,none⟩=some (.slice a2 m2 c2):=cQ hW;have t3:w0.cell? ⟨w.heap.size,3,none⟩=some (vi lv):=cQ hW;have t4:w0.cell? ⟨w.heap.size,4,none⟩=some (.pointer (some ⟨pb,0,none⟩)):=cQ hW;have t5:w0.cell? ⟨w.heap.size,5,none⟩=some (vi hh):=cQ hW;have t6:w0.cell? ⟨w.heap.size,6,none⟩=some (vi ee):=cQ hW;have t7:w0.cell? ⟨w.heap.size,7,none⟩=some (.bool dd):=cQ hW;have t8:w0.cell? ⟨w.heap.size,8,none⟩=some (vi pe):=cQ hW;have t9:w0.cell? ⟨w.heap.size,9,none⟩=some (vi li):=cQ hW;have t10:w0.cell? ⟨w.heap.size,10,none⟩=some (vi ba):=cQ hW;have t11:w0.cell? ⟨w.heap.size,11,none⟩=some (.bool f0):=cQ hW;have t12:w0.cell? ⟨w.heap.size,12,none⟩=some (.bool f1):=cQ hW;have t13:w0.cell? ⟨w.heap.size,13,none⟩=some (.bool f2):=cQ hW;have xx0:w0.cell? ⟨w.heap.size+1,0,none⟩=some (vi xt):=cQ hW;have xx1:w0.cell? ⟨w.heap.size+1,1,none⟩=some (vi xi):=cQ hW;have xx2:w0.cell? ⟨w.heap.size+1,2,none⟩=some (vi x1):=cQ hW;have xx3:w0.cell? ⟨w.heap.size+1,3,none⟩=some (vi x2):=cQ hW;have xx4:w0.cell? ⟨w.heap.size+1,4,none⟩=some (vi x3):=cQ hW;have xx5:w0.cell? ⟨w.heap.size+1,5,none⟩=some (vi u1):=cQ hW;have xx6:w0.cell? ⟨w.heap.size+1,6,none⟩=some (vi u2):=cQ hW;have xx7:w0.cell? ⟨w.heap.size+1,7,none⟩=some (vi u3):=cQ hW;have jj0:w0.cell? ⟨w.heap.size+2,0,none⟩=some (vi jt):=cQ hW;have jj1:w0.cell? ⟨w.heap.size+2,1,none⟩=some (.bool jf):=cQ hW;have hx:Ext w w0:=xQ hW;have e0:=eA hx ds.1;have e1:=eA hx ds.2.1;have e2:=eA hx ds.2.2.1;have e3:=eA hx ds.2.2.2.1;have e4:=eA hx ds.2.2.2.2.1;have e5:=eA hx ds.2.2.2.2.2.1;have e6:=eA hx ds.2.2.2.2.2.2.1;have e7:=eA hx ds.2.2.2.2.2.2.2;have HS:=aA (Sl.below HF.out hx.below);have HP1:=aA (HP.out.ext hx);have HX:=aA hx;have z1:=dA t0;have z2:=dA xx0;have z3:=dA jj0;have z4:=dA e0;clear hW hx HF HP ds hq2
  go_region_held3 (fun w'=>w'.cell? ⟨w.heap.size,0,none⟩=some (vi last)∧w'.cell? ⟨w.heap.size,1,none⟩=some (.slice (some ⟨b',q',none⟩) m1 c1)∧w'.cell? ⟨w.heap.size,2,none⟩=some (.slice a2 m2 c2)∧w'.cell? ⟨w.heap.size+2,0,none⟩=some (vi jt)∧w'.cell? ⟨b',q'+si * 8,none⟩=some (vi yt)∧w'.cell? ⟨b',q'+si * 8+1,none⟩=some (vi yi)∧w'.cell? ⟨b',q'+si * 8+2,none⟩=some (vi y1)∧w'.cell? ⟨b',q'+si * 8+3,none⟩=some (vi y2)∧w'.cell? ⟨b',q'+si * 8+4,none⟩=some (vi y3)∧w'.cell? ⟨b',q'+si * 8+5,none⟩=some (vi v1)∧w'.cell? ⟨b',q'+si * 8+6,none⟩=some (vi v2)∧w'.cell? ⟨b',q'+si * 8+7,none⟩=some (vi v3)) (first|((try dsimp only);(repeat' apply And.intro) <;> exact xC (w:=w0))) (first|(go_at_call 102;(with_reducible refine (find_stay (si:Int) _ _ _ _ _ _ _ _ l _ (Sl.below HS.out (Ext.below eX)) HI).mono ?_);rintro e w1 ⟨rfl,o1,n1,rfl⟩))
  all_goals
    first
    | (generalize hW:World.setCell _ _ _=w2
       obtain ⟨yy0,yy1,yy2,yy3,yy4,yy5,yy6,yy7,hx2⟩:=cG (w:=w0) hW eX (Nat.le_refl _) (by rw [bB _ _ _ _ (by simp)];exact sA _ _ _ rfl) rfl
       clear hW)
    | (generalize hW:World.alloc _ _=w2
       generalize hA:w0.heap.size+_=A
       have hx2:Ext w0 w2:=xQ hW
       have yy0:w2.cell? ⟨A,0,none⟩=some (vi yt):=cR hW hA
       have yy1:w2.cell? ⟨A,1,none⟩=some (vi yi):=cR hW hA
       have yy2:w2.cell? ⟨A,2,none⟩=some (vi y1):=cR hW hA
       have yy3:w2.cell? ⟨A,3,none⟩=some (vi y2):=cR hW hA
       have yy4:w2.cell? ⟨A,4,none⟩=some (vi y3):=cR hW hA
       have yy5:w2.cell? ⟨A,5,none⟩=some (vi v1):=cR hW hA
       have yy6:w2.cell? ⟨A,6,none⟩=some (vi v2):=cR hW hA
       have yy7:w2.cell? ⟨A,7,none⟩=some (vi v3):=cR hW hA
       clear hW hA)
    have r4:=eA hx2 t4;have r10:=eA hx2 t10;have rx5:=eA hx2 xx5;have rx6:=eA hx2 xx6;have rx7:=eA hx2 xx7;have rj0:=eA hx2 jj0;have rj1:=eA hx2 jj1;have HX2:=aA (HX.out.trans hx2);have HP2:=aA (HP1.out.ext hx2);have w1:=dA r4;have w2':=dA rx5;have w3:=dA rj0;have w4:=dA yy0;clear hx2 HS HP1 HX t0 t1 t2 t3 t4 t5 t6 t7 t8 t9 t10 t11 t12 t13 xx0 xx1 xx2 xx3 xx4 xx5 xx6 xx7 jj0 jj1 z1 z2 z3 z4 e0 e1 e2 e3 e4 e5 e6 e7
    go_upto_region 2 with fail
    cases jf
    · (refine fA kR kR ?_;(repeat (first|go_big_quiet_step (fail)|quiet_step (fail)));refine wpQuiet_nil ?_;rintro _ ⟨oq,nq,rfl⟩)
      go_wp2;go_ret;exact ⟨by rw [←HV.out];simp,HX2.out.trans eX⟩
    · by_cases h3:v3=1
      · subst h3
        cases hc:decide ((⟨v1,v2,0⟩:Ch.Place)=⟨u1,u2,u3⟩)
        · have hq:∀ w,(Go.binOp .eql 89 (.agg #[vi v1,vi v2,vi 0]) (.agg #[vi u1,vi u2,vi u3])).run Tryz.prog w = .ok (.bool false) w:=fun w=>by rw [aG w (oH w 9998 ⟨v1,v2,0⟩ ⟨u1,u2,u3⟩),hc]
          (refine fA kR kR ?_;(repeat (first|go_big_quiet_step ((intro _;go_at_call 156;exact qC (tD _ _ _ _)))|quiet_step (fail)));refine wpQuiet_nil ?_;rintro _ ⟨oq,nq,rfl⟩)
          go_wp2;go_ret;exact ⟨by rw [←HV.out,hc];simp,HX2.out.trans eX⟩
        · have hq:∀ w,(Go.binOp .eql 89 (.agg #[vi v1,vi v2,vi 0]) (.agg #[vi u1,vi u2,vi u3])).run Tryz.prog w = .ok (.bool true) w:=fun w=>by rw [aG w (oH w 9998 ⟨v1,v2,0⟩ ⟨u1,u2,u3⟩),hc]
          obtain ⟨sv,HSV⟩:∃ sv,Hid (p.slots ⟨v1,v2,1⟩=sv):=⟨_,rfl⟩
          by_cases hy:sv=yi
          · subst hy
            (refine fA kR kR ?_;(repeat (first|go_big_quiet_step ((first|(intro _;go_at_call 156;exact qC (tD _ _ _ _))|(intro _;go_at_call 35;exact qC (nD (HP2.out.ext eX) _ _ _ sv HSV))))|quiet_step (fail)));refine wpQuiet_nil ?_;rintro _ ⟨oq,nq,rfl⟩)
            go_wp2;go_ret;exact ⟨by rw [←HV.out,hc,HSV.out];simp,HX2.out.trans eX⟩
          · (refine fA kR kR ?_;(repeat (first|go_big_quiet_step ((first|(intro _;go_at_call 156;exact qC (tD _ _ _ _))|(intro _;go_at_call 35;exact qC (nD (HP2.out.ext eX) _ _ _ sv HSV))))|quiet_step (fail)));refine wpQuiet_nil ?_;rintro _ ⟨oq,nq,rfl⟩)
            go_wp2;go_ret;exact ⟨by rw [←HV.out,hc,HSV.out];simp [hy],HX2.out.trans eX⟩
      · (refine fA kR kR ?_;(repeat (first|go_big_quiet_step (fail)|quiet_step (fail)));refine wpQuiet_nil ?_;rintro _ ⟨oq,nq,rfl⟩)
        go_wp2;go_ret;exact ⟨by rw [←HV.out];simp [h3],HX2.out.trans eX⟩
theorem dC (n:Int) (w:World):Calls Tryz.prog 114 #[vi n] w fun e w'=>e = .returned (.agg #[vi n,vi 1,vi 0])∧Ext w w':=spare_any n w
theorem uC (a b c:Int) (w:World) (h0:0≤c) (h1:c≤1) (h2:1≤a) (h3:a≤4):Calls Tryz.prog 167 #[.agg #[vi a,vi b,vi c]] w (vC w (Ch.bring ⟨a,b,c⟩)):=bring_any ⟨a,b,c⟩ w h0 h1 h2 h3
theorem aI (a b c:Int) (w:World) (h0:0≤c) (h1:c≤1) (h2:1≤a) (h3:a≤4):Calls Tryz.prog 116 #[.agg #[vi a,vi b,vi c]] w (vC w (Ch.fetch ⟨a,b,c⟩)):=fetch_any ⟨a,b,c⟩ w h0 h1 h2 h3
theorem loaded_none {b:Ch.Book} {n:Int} {p:Ch.Plant} (ho:b.of p.lift=none):Ch.loaded b n p=Ch.giveOut:=by unfold Ch.loaded;rw [ho]
theorem loaded_is {b:Ch.Book} {n:Int} {p:Ch.Plant} {x:Ch.Stay} {jt:Int} {jf is:Bool} (ho:b.of p.lift=some x) (hf:qB (Ch.firstJob b p.bay)=(jt,jf,is)):
  Ch.loaded b n p=if is&&jf&&jt==x.ticket&&p.bay==0 then Ch.giveOut else if (x.home.depth==1&&p.slots (Ch.front x.home) != 0) || (is&&Ch.blocks b p x ⟨jt,jf⟩) then Ch.bring (Ch.spare n) else Ch.bring x.home:=by
 unfold Ch.loaded;rw [ho]
 cases hj:Ch.firstJob b p.bay with
 | none=>
  rw [hj] at hf;simp only [qB,Prod.mk.injEq] at hf;obtain ⟨rfl,rfl,rfl⟩:=hf;simp
 | some j=>
  rw [hj] at hf;simp only [qB,Prod.mk.injEq] at hf;obtain ⟨rfl,rfl,rfl⟩:=hf;simp
theorem of_where {b:Ch.Book} {id:Int}:(b.of id=none∧Ch.indexOf (fun s:Ch.Stay=>s.car.id==id) b.stays=-1)∨∃ (i:Nat) (s:Ch.Stay),Ch.indexOf (fun s:Ch.Stay=>s.car.id==id) b.stays=(i:Int)∧b.stays[i]? = some s∧b.of id=some s:=by
 unfold Ch.Book.of Ch.indexOf;rw [List.find?_eq_bind_findIdx?_getElem?]
 cases hf:b.stays.findIdx? (fun s=>s.car.id==id) with
 | none=>exact Or.inl ⟨rfl,rfl⟩
 | some i=>
  obtain ⟨hi,-,-⟩:=List.findIdx?_eq_some_iff_getElem.1 hf;exact Or.inr ⟨i,b.stays[i],rfl,List.getElem?_eq_getElem hi,by simp [List.getElem?_eq_getElem hi]⟩
theorem loaded_any (last:Int) (a1:Option Addr) (m1 c1:Nat) (a2:Option Addr) (m2 c2:Nat) (lv:Int) (pb mb:Nat) (hh ee:Int) (dd:Bool) (pe li ba:Int) (f0 f1 f2:Bool) (l:List Ch.Stay) (js:List Ch.Job) (p:Ch.Plant) (w:World)
  (h:Sl w 8 gA l a1 m1 c1)
  (h2:Sl w 2 jA js a2 m2 c2) (hp:tA w pb mb p) (hj:Hid (∀ j∈js,∃ s∈l,s.ticket=j.ticket)) (hpl:Hid (∀ s∈l,Ch.placeFault s.home lv=0)) (hli:Hid (p.lift=li)) (hba:Hid (p.bay=ba)) (l1:1≤lv) (l4:lv≤4):
  Calls Tryz.prog 112 #[turnV last a1 m1 c1 a2 m2 c2 lv pb hh ee dd pe li ba f0 f1 f2] w (vC w (Ch.loaded ⟨last,l,js⟩ lv p)):=by
 have b1:=h.bound;have HF:=aA h;have HJ:=aA h2;have HP:=aA hp;have E1:=aA h.len;clear h h2 hp
 obtain ⟨⟨jt,jf,is⟩,HFJ⟩:∃ r,Hid (qB (Ch.firstJob ⟨last,l,js⟩ ba)=r):=⟨_,rfl⟩
 rcases of_where (b:=⟨last,l,js⟩) (id:=li) with ⟨ho,hi⟩|⟨si,⟨xt,⟨xi,⟨x1,x2,x3⟩⟩,⟨u1,u2,u3⟩⟩,hi,hsl,ho⟩
 ·have HI:Hid (Ch.indexOf (fun s:Ch.Stay=>s.car.id==li) l=-1):=hi
  have HL:Hid (Ch.loaded ⟨last,l,js⟩ lv p=Ch.giveOut):=loaded_none (by rw [hli.out];exact ho);clear hi ho;go_enter Tryz.func112,Tryz.ntmps112
  go_upto_region 1 with fail
  generalize hW:World.alloc _ _=w0;have t0:w0.cell? ⟨w.heap.size,0,none⟩=some (vi last):=cQ hW;have t1:w0.cell? ⟨w.heap.size,1,none⟩=some (.slice a1 m1 c1):=cQ hW;have t2:w0.cell? ⟨w.heap.size,2,none⟩=some (.slice a2 m2 c2):=cQ hW;have t3:w0.cell? ⟨w.heap.size,3,none⟩=some (vi lv):=cQ hW;have t4:w0.cell? ⟨w.heap.size,4,none⟩=some (.pointer (some ⟨pb,0,none⟩)):=cQ hW;have t5:w0.cell? ⟨w.heap.size,5,none⟩=some (vi hh):=cQ hW;have t6:w0.cell? ⟨w.heap.size,6,none⟩=some (vi ee):=cQ hW;have t7:w0.cell? ⟨w.heap.size,7,none⟩=some (.bool dd):=cQ hW;have t8:w0.cell? ⟨w.heap.size,8,none⟩=some (vi pe):=cQ hW;have t9:w0.cell? ⟨w.heap.size,9,none⟩=some (vi li):=cQ hW;have t10:w0.cell? ⟨w.heap.size,10,none⟩=some (vi ba):=cQ hW;have t11:w0.cell? ⟨w.heap.size,11,none⟩=some (.bool f0):=cQ hW;have t12:w0.cell? ⟨w.heap.size,12,none⟩=some (.bool f1):=cQ hW;have t13:w0.cell? ⟨w.heap.size,13,none⟩=some (.bool f2):=cQ hW;have hx:Ext w w0:=xQ hW;have HS:=aA (Sl.below HF.out hx.below);have HK:=aA (Sl.below HJ.out hx.below);have HP1:=aA (HP.out.ext hx);have HX:=aA hx;have z1:=dA t0;clear hW hx HF HJ HP;go_wp2_with (first|(go_at_call 94;(with_reducible refine (dJ (-1) _ _ _ _ _ _ _ _ l _ (Sl.below HS.out (Ext.below eX)) HI).mono ?_);rintro e w1 ⟨rfl,o1,n1,rfl⟩)|(go_at_call 166;(with_reducible refine (giveOut_any _).mono ?_);rintro e wv ⟨v1,rfl,hown,hxv⟩));go_ret;exact ⟨v1,rfl,by rw [HL.out];exact rA hown (HX.out.trans eX).below.size,(HX.out.trans eX).trans hxv⟩
 ·have HI:Hid (Ch.indexOf (fun s:Ch.Stay=>s.car.id==li) l=(si:Int)):=hi
  have HL:Hid (Ch.loaded ⟨last,l,js⟩ lv p=if is&&jf&&jt==xt&&ba==0 then Ch.giveOut else if (u3==1&&p.slots ⟨u1,u2,0⟩ != 0) || (is&&Ch.blocks ⟨last,l,js⟩ p ⟨xt,⟨xi,⟨x1,x2,x3⟩⟩,⟨u1,u2,u3⟩⟩ ⟨jt,jf⟩) then Ch.bring (Ch.spare lv) else Ch.bring ⟨u1,u2,u3⟩):=by
   unfold Hid;rw [loaded_is (jt:=jt) (jf:=jf) (is:=is) (by rw [hli.out];exact ho) (by rw [hba.out];exact HFJ.out),hba.out];rfl
  have hpf:=Ch.placeFault_iff.1 (hpl.out _ (List.mem_of_getElem? hsl));obtain ⟨g1,g2,g3,g4,g5,g6⟩:=hpf;dsimp only at g1 g2 g3 g4 g5 g6
  have HJM:Hid (is=true→∃ s∈l,s.ticket=jt):=by
   intro hi;have hf:=HFJ.out
   cases hfj:Ch.firstJob ⟨last,l,js⟩ ba with
   | none=>rw [hfj] at hf;simp only [qB,Prod.mk.injEq] at hf;rw [hi] at hf;simp at hf
   | some j=>
    rw [hfj] at hf;simp only [qB,Prod.mk.injEq] at hf;rw [←hf.1];exact hj.out j (Ch.first_mem hfj).1
  have hsm:si<m1:=by
   have:=E1.out;obtain ⟨h1,_⟩:=List.getElem?_eq_some_iff.1 hsl;dsimp only at h1;omega
  obtain ⟨b',q',s',rfl,hs',ds⟩:=HF.out.get hsm;rw [show l[si]? = _ from hsl] at hs';cases hs';have ds:=at8 ds;have hq2:=dA ds.1
  have hs0:(0:Int)≤(si:Int):=by omega
  have hs1:(si:Int)<(m1:Int):=by omega
  have hs2:(si:Int)≤(c1:Int):=by omega
  have hsn:¬ ((si:Int)<0):=by omega
  clear hi ho hsl;go_enter Tryz.func112,Tryz.ntmps112
  go_upto_region 1 with fail
  generalize hW:World.alloc _ _=w0;have t0:w0.cell? ⟨w.heap.size,0,none⟩=some (vi last):=cQ hW;have t1:w0.cell? ⟨w.heap.size,1,none⟩=some (.slice (some ⟨b',q',none⟩) m1 c1):=cQ hW;have t2:w0.cell? ⟨w.heap.size,2,none⟩=some (.slice a2 m2 c2):=cQ hW;have t3:w0.cell? ⟨w.heap.size,3,none⟩=some (vi lv):=cQ hW;have t4:w0.cell? ⟨w.heap.size,4,none⟩=some (.pointer (some ⟨pb,0,none⟩)):=cQ hW;have t5:w0.cell? ⟨w.heap.size,5,none⟩=some (vi hh):=cQ hW;have t6:w0.cell? ⟨w.heap.size,6,none⟩=some (vi ee):=cQ hW;have t7:w0.cell? ⟨w.heap.size,7,none⟩=some (.bool dd):=cQ hW;have t8:w0.cell? ⟨w.heap.size,8,none⟩=some (vi pe):=cQ hW;have t9:w0.cell? ⟨w.heap.size,9,none⟩=some (vi li):=cQ hW;have t10:w0.cell? ⟨w.heap.size,10,none⟩=some (vi ba):=cQ hW;have t11:w0.cell? ⟨w.heap.size,11,none⟩=some (.bool f0):=cQ hW;have t12:w0.cell? ⟨w.heap.size,12,none⟩=some (.bool f1):=cQ hW;have t13:w0.cell? ⟨w.heap.size,13,none⟩=some (.bool f2):=cQ hW;have hx:Ext w w0:=xQ hW;have HS:=aA (Sl.below HF.out hx.below);have HK:=aA (Sl.below HJ.out hx.below);have HP1:=aA (HP.out.ext hx);have HX:=aA hx;have z1:=dA t0;have e0:=eA hx ds.1;have e1:=eA hx ds.2.1;have e2:=eA hx ds.2.2.1;have e3:=eA hx ds.2.2.2.1;have e4:=eA hx ds.2.2.2.2.1;have e5:=eA hx ds.2.2.2.2.2.1;have e6:=eA hx ds.2.2.2.2.2.2.1;have e7:=eA hx ds.2.2.2.2.2.2.2;have z2:=dA e0;clear hW hx HF HJ HP ds hq2
  go_upto_region 5 with ((go_at_call 94;(with_reducible refine (dJ (si:Int) _ _ _ _ _ _ _ _ l _ (Sl.below HS.out (Ext.below eX)) HI).mono ?_);rintro e w1 ⟨rfl,o1,n1,rfl⟩))
  generalize hW:World.alloc _ _=w2;generalize hA:w0.heap.size+_=A4;have hx2:Ext w0 w2:=xQ hW;have y0:w2.cell? ⟨A4,0,none⟩=some (vi xt):=cR hW hA;have y1:w2.cell? ⟨A4,1,none⟩=some (vi xi):=cR hW hA;have y2:w2.cell? ⟨A4,2,none⟩=some (vi x1):=cR hW hA;have y3:w2.cell? ⟨A4,3,none⟩=some (vi x2):=cR hW hA;have y4:w2.cell? ⟨A4,4,none⟩=some (vi x3):=cR hW hA;have y5:w2.cell? ⟨A4,5,none⟩=some (vi u1):=cR hW hA;have y6:w2.cell? ⟨A4,6,none⟩=some (vi u2):=cR hW hA;have y7:w2.cell? ⟨A4,7,none⟩=some (vi u3):=cR hW hA;have a0:=eA hx2 t0;have a1':=eA hx2 t1;have a2':=eA hx2 t2;have a3:=eA hx2 t3;have a4:=eA hx2 t4;have a5:=eA hx2 t5;have a6:=eA hx2 t6;have a7:=eA hx2 t7;have a8:=eA hx2 t8;have a9:=eA hx2 t9;have a10:=eA hx2 t10;have a11:=eA hx2 t11;have a12:=eA hx2 t12;have a13:=eA hx2 t13;have HX2:=aA (HX.out.trans hx2);have HS2:=aA (Sl.below HS.out hx2.below);have HK2:=aA (Sl.below HK.out hx2.below);have HP2:=aA (HP1.out.ext hx2);have w1:=dA a0;have w2':=dA y0;clear hW hA hx2 HS HK HP1 HX t0 t1 t2 t3 t4 t5 t6 t7 t8 t9 t10 t11 t12 t13 z1 z2 e0 e1 e2 e3 e4 e5 e6 e7
  go_upto_region 6 with ((go_at_call 113;(with_reducible refine (first_any jt jf is _ _ _ _ _ _ _ _ _ _ _ _ _ _ _ _ _ _ l js _ (Sl.below HS2.out (Ext.below eX)) (Sl.below HK2.out (Ext.below eX)) hj HFJ).mono ?_);rintro e w1 ⟨rfl,o1,n1,rfl⟩))
  generalize hW:World.alloc _ _=w3;generalize hA:w2.heap.size+_=A5;have hx3:Ext w2 w3:=xQ hW;have j0:w3.cell? ⟨A5,0,none⟩=some (vi jt):=cR hW hA;have j1:w3.cell? ⟨A5,1,none⟩=some (.bool jf):=cR hW hA;have HX3:=aA (HX2.out.trans hx3);have HS3:=aA (Sl.below HS2.out hx3.below);have HP3:=aA (HP2.out.ext hx3);have b0:=eA hx3 a0;have b1':=eA hx3 a1';have b2':=eA hx3 a2';have b3:=eA hx3 a3;have b4:=eA hx3 a4;have b5:=eA hx3 a5;have b6:=eA hx3 a6;have b7:=eA hx3 a7;have b8:=eA hx3 a8;have b9:=eA hx3 a9;have b10:=eA hx3 a10;have b11:=eA hx3 a11;have b12:=eA hx3 a12;have b13:=eA hx3 a13;have k0:=eA hx3 y0;have k1:=eA hx3 y1;have k2:=eA hx3 y2;have k3:=eA hx3 y3;have k4:=eA hx3 y4;have k5:=eA hx3 y5;have k6:=eA hx3 y6;have k7:=eA hx3 y7;have v1':=dA b0;have v2':=dA k0;have v3':=dA j0;clear hW hA hx3 HX2 HS2 HK2 HP2 a0 a1' a2' a3 a4 a5 a6 a7 a8 a9 a10 a11 a12 a13 y0 y1 y2 y3 y4 y5 y6 y7 w1 w2';cases is
  ·by_cases hu:u3=1
   ·subst hu
    obtain ⟨sv,HSV⟩:∃ sv,Hid (p.slots ⟨u1,u2,0⟩=sv):=⟨_,rfl⟩
    by_cases hz:sv=0
    ·subst hz
     go_upto_region 8 with fail
     (refine fA kR kR ?_;(repeat (first|go_big_quiet_step ((first|(intro _;go_at_call 156;exact qC (tD _ _ _ _))|(intro _;go_at_call 35;exact qC (nD (HP3.out.ext eX) _ _ _ 0 HSV))))|quiet_step (fail)));refine wpQuiet_nil ?_;rintro _ ⟨oq,nq,rfl⟩)
     go_wp2_with (go_at_call 167;(with_reducible refine (uC _ _ _ _ (by first|omega|decide) (by first|omega|decide) (by omega) (by omega)).mono ?_);rintro e wv ⟨v1,rfl,hown,hxv⟩);go_ret;exact ⟨v1,rfl,by rw [HL.out];simp [HSV.out];exact rA hown (HX3.out.trans eX).below.size,(HX3.out.trans eX).trans hxv⟩
    ·go_upto_region 8 with fail
     (refine fA kR kR ?_;(repeat (first|go_big_quiet_step ((first|(intro _;go_at_call 156;exact qC (tD _ _ _ _))|(intro _;go_at_call 35;exact qC (nD (HP3.out.ext eX) _ _ _ sv HSV))))|quiet_step (fail)));refine wpQuiet_nil ?_;rintro _ ⟨oq,nq,rfl⟩)
     go_wp2_with (first|(go_at_call 114;(with_reducible refine (dC _ _).mono ?_);rintro e w1 ⟨rfl,o1,n1,rfl⟩)|(go_at_call 167;(with_reducible refine (uC _ _ _ _ (by first|omega|decide) (by first|omega|decide) (by omega) (by omega)).mono ?_);rintro e wv ⟨v1,rfl,hown,hxv⟩));go_ret;exact ⟨v1,rfl,by rw [HL.out];simp [HSV.out,hz];exact rA hown (HX3.out.trans eX).below.size,(HX3.out.trans eX).trans hxv⟩
   ·go_upto_region 8 with fail
    (refine fA kR kR ?_;(repeat (first|go_big_quiet_step (fail)|quiet_step (fail)));refine wpQuiet_nil ?_;rintro _ ⟨oq,nq,rfl⟩)
    go_wp2_with (go_at_call 167;(with_reducible refine (uC _ _ _ _ (by first|omega|decide) (by first|omega|decide) (by omega) (by omega)).mono ?_);rintro e wv ⟨v1,rfl,hown,hxv⟩);go_ret;exact ⟨v1,rfl,by rw [HL.out];simp [hu];exact rA hown (HX3.out.trans eX).below.size,(HX3.out.trans eX).trans hxv⟩
  ·cases jf
   ·by_cases hu:u3=1
    ·subst hu
     obtain ⟨sv,HSV⟩:∃ sv,Hid (p.slots ⟨u1,u2,0⟩=sv):=⟨_,rfl⟩
     by_cases hz:sv=0
     ·subst hz
      go_upto_region 8 with fail
      (refine fA kR kR ?_;(repeat (first|go_big_quiet_step ((first|(intro _;go_at_call 156;exact qC (tD _ _ _ _))|(intro _;go_at_call 35;exact qC (nD (HP3.out.ext eX) _ _ _ 0 HSV))))|quiet_step (fail)));refine wpQuiet_nil ?_;rintro _ ⟨oq,nq,rfl⟩)
      have HJ1:=aA (HJM.out rfl)
      obtain ⟨V,HB⟩:∃ V,Hid (Ch.blocks ⟨last,l,js⟩ p ⟨xt,⟨xi,⟨x1,x2,x3⟩⟩,⟨u1,u2,1⟩⟩ ⟨jt,false⟩=V):=⟨_,rfl⟩
      cases V
      ·go_wp2_with (first|(go_at_call 115;(with_reducible refine (fC false xt xi x1 x2 x3 u1 u2 1 jt false _ _ _ _ _ _ _ _ pb mb _ _ _ _ _ _ _ _ _ l js p _ (Sl.below HS3.out (Ext.below eX)) (HP3.out.ext eX) HJ1 HB).mono ?_);rintro e w1 ⟨rfl,o1,n1,rfl⟩)|(go_at_call 167;(with_reducible refine (uC _ _ _ _ (by first|omega|decide) (by first|omega|decide) (by omega) (by omega)).mono ?_);rintro e wv ⟨v1,rfl,hown,hxv⟩))
       go_ret;exact ⟨v1,rfl,by rw [HL.out];simp [HSV.out,HB.out];exact rA hown (HX3.out.trans eX).below.size,(HX3.out.trans eX).trans hxv⟩
      ·go_wp2_with (first|(go_at_call 115;(with_reducible refine (fC true xt xi x1 x2 x3 u1 u2 1 jt false _ _ _ _ _ _ _ _ pb mb _ _ _ _ _ _ _ _ _ l js p _ (Sl.below HS3.out (Ext.below eX)) (HP3.out.ext eX) HJ1 HB).mono ?_);rintro e w1 ⟨rfl,o1,n1,rfl⟩)|(go_at_call 114;(with_reducible refine (dC _ _).mono ?_);rintro e w1 ⟨rfl,o1,n1,rfl⟩)|(go_at_call 167;(with_reducible refine (uC _ _ _ _ (by first|omega|decide) (by first|omega|decide) (by omega) (by omega)).mono ?_);rintro e wv ⟨v1,rfl,hown,hxv⟩))
       go_ret;exact ⟨v1,rfl,by rw [HL.out];simp [HSV.out,HB.out];exact rA hown (HX3.out.trans eX).below.size,(HX3.out.trans eX).trans hxv⟩
     ·go_upto_region 8 with fail
      (refine fA kR kR ?_;(repeat (first|go_big_quiet_step ((first|(intro _;go_at_call 156;exact qC (tD _ _ _ _))|(intro _;go_at_call 35;exact qC (nD (HP3.out.ext eX) _ _ _ sv HSV))))|quiet_step (fail)));refine wpQuiet_nil ?_;rintro _ ⟨oq,nq,rfl⟩)
      go_wp2_with (first|(go_at_call 114;(with_reducible refine (dC _ _).mono ?_);rintro e w1 ⟨rfl,o1,n1,rfl⟩)|(go_at_call 167;(with_reducible refine (uC _ _ _ _ (by first|omega|decide) (by first|omega|decide) (by omega) (by omega)).mono ?_);rintro e wv ⟨v1,rfl,hown,hxv⟩));go_ret;exact ⟨v1,rfl,by rw [HL.out];simp [HSV.out,hz];exact rA hown (HX3.out.trans eX).below.size,(HX3.out.trans eX).trans hxv⟩
    ·go_upto_region 8 with fail
     (refine fA kR kR ?_;(repeat (first|go_big_quiet_step (fail)|quiet_step (fail)));refine wpQuiet_nil ?_;rintro _ ⟨oq,nq,rfl⟩)
     have HJ1:=aA (HJM.out rfl)
     obtain ⟨V,HB⟩:∃ V,Hid (Ch.blocks ⟨last,l,js⟩ p ⟨xt,⟨xi,⟨x1,x2,x3⟩⟩,⟨u1,u2,u3⟩⟩ ⟨jt,false⟩=V):=⟨_,rfl⟩
     cases V
     ·go_wp2_with (first|(go_at_call 115;(with_reducible refine (fC false xt xi x1 x2 x3 u1 u2 u3 jt false _ _ _ _ _ _ _ _ pb mb _ _ _ _ _ _ _ _ _ l js p _ (Sl.below HS3.out (Ext.below eX)) (HP3.out.ext eX) HJ1 HB).mono ?_);rintro e w1 ⟨rfl,o1,n1,rfl⟩)|(go_at_call 167;(with_reducible refine (uC _ _ _ _ (by first|omega|decide) (by first|omega|decide) (by omega) (by omega)).mono ?_);rintro e wv ⟨v1,rfl,hown,hxv⟩))
      go_ret;exact ⟨v1,rfl,by rw [HL.out];simp [hu,HB.out];exact rA hown (HX3.out.trans eX).below.size,(HX3.out.trans eX).trans hxv⟩
     ·go_wp2_with (first|(go_at_call 115;(with_reducible refine (fC true xt xi x1 x2 x3 u1 u2 u3 jt false _ _ _ _ _ _ _ _ pb mb _ _ _ _ _ _ _ _ _ l js p _ (Sl.below HS3.out (Ext.below eX)) (HP3.out.ext eX) HJ1 HB).mono ?_);rintro e w1 ⟨rfl,o1,n1,rfl⟩)|(go_at_call 114;(with_reducible refine (dC _ _).mono ?_);rintro e w1 ⟨rfl,o1,n1,rfl⟩)|(go_at_call 167;(with_reducible refine (uC _ _ _ _ (by first|omega|decide) (by first|omega|decide) (by omega) (by omega)).mono ?_);rintro e wv ⟨v1,rfl,hown,hxv⟩))
      go_ret;exact ⟨v1,rfl,by rw [HL.out];simp [hu,HB.out];exact rA hown (HX3.out.trans eX).below.size,(HX3.out.trans eX).trans hxv⟩
   ·by_cases hjt:jt=xt
    ·subst hjt
     by_cases hb0:ba=0
     ·subst hb0
      go_wp2_with (go_at_call 166;(with_reducible refine (giveOut_any _).mono ?_);rintro e wv ⟨v1,rfl,hown,hxv⟩);go_ret;exact ⟨v1,rfl,by rw [HL.out];simp [];exact rA hown (HX3.out.trans eX).below.size,(HX3.out.trans eX).trans hxv⟩
     ·by_cases hu:u3=1
      ·subst hu
       obtain ⟨sv,HSV⟩:∃ sv,Hid (p.slots ⟨u1,u2,0⟩=sv):=⟨_,rfl⟩
       by_cases hz:sv=0
       ·subst hz
        go_upto_region 8 with fail
        (refine fA kR kR ?_;(repeat (first|go_big_quiet_step ((first|(intro _;go_at_call 156;exact qC (tD _ _ _ _))|(intro _;go_at_call 35;exact qC (nD (HP3.out.ext eX) _ _ _ 0 HSV))))|quiet_step (fail)));refine wpQuiet_nil ?_;rintro _ ⟨oq,nq,rfl⟩)
        have HJ1:=aA (HJM.out rfl)
        obtain ⟨V,HB⟩:∃ V,Hid (Ch.blocks ⟨last,l,js⟩ p ⟨jt,⟨xi,⟨x1,x2,x3⟩⟩,⟨u1,u2,1⟩⟩ ⟨jt,true⟩=V):=⟨_,rfl⟩
        cases V
        ·go_wp2_with (first|(go_at_call 115;(with_reducible refine (fC false jt xi x1 x2 x3 u1 u2 1 jt true _ _ _ _ _ _ _ _ pb mb _ _ _ _ _ _ _ _ _ l js p _ (Sl.below HS3.out (Ext.below eX)) (HP3.out.ext eX) HJ1 HB).mono ?_);rintro e w1 ⟨rfl,o1,n1,rfl⟩)|(go_at_call 167;(with_reducible refine (uC _ _ _ _ (by first|omega|decide) (by first|omega|decide) (by omega) (by omega)).mono ?_);rintro e wv ⟨v1,rfl,hown,hxv⟩))
         go_ret;exact ⟨v1,rfl,by rw [HL.out];simp [hb0,HSV.out,HB.out];exact rA hown (HX3.out.trans eX).below.size,(HX3.out.trans eX).trans hxv⟩
        ·go_wp2_with (first|(go_at_call 115;(with_reducible refine (fC true jt xi x1 x2 x3 u1 u2 1 jt true _ _ _ _ _ _ _ _ pb mb _ _ _ _ _ _ _ _ _ l js p _ (Sl.below HS3.out (Ext.below eX)) (HP3.out.ext eX) HJ1 HB).mono ?_);rintro e w1 ⟨rfl,o1,n1,rfl⟩)|(go_at_call 114;(with_reducible refine (dC _ _).mono ?_);rintro e w1 ⟨rfl,o1,n1,rfl⟩)|(go_at_call 167;(with_reducible refine (uC _ _ _ _ (by first|omega|decide) (by first|omega|decide) (by omega) (by omega)).mono ?_);rintro e wv ⟨v1,rfl,hown,hxv⟩))
         go_ret;exact ⟨v1,rfl,by rw [HL.out];simp [hb0,HSV.out,HB.out];exact rA hown (HX3.out.trans eX).below.size,(HX3.out.trans eX).trans hxv⟩
       ·go_upto_region 8 with fail
        (refine fA kR kR ?_;(repeat (first|go_big_quiet_step ((first|(intro _;go_at_call 156;exact qC (tD _ _ _ _))|(intro _;go_at_call 35;exact qC (nD (HP3.out.ext eX) _ _ _ sv HSV))))|quiet_step (fail)));refine wpQuiet_nil ?_;rintro _ ⟨oq,nq,rfl⟩)
        go_wp2_with (first|(go_at_call 114;(with_reducible refine (dC _ _).mono ?_);rintro e w1 ⟨rfl,o1,n1,rfl⟩)|(go_at_call 167;(with_reducible refine (uC _ _ _ _ (by first|omega|decide) (by first|omega|decide) (by omega) (by omega)).mono ?_);rintro e wv ⟨v1,rfl,hown,hxv⟩));go_ret;exact ⟨v1,rfl,by rw [HL.out];simp [hb0,HSV.out,hz];exact rA hown (HX3.out.trans eX).below.size,(HX3.out.trans eX).trans hxv⟩
      ·go_upto_region 8 with fail
       (refine fA kR kR ?_;(repeat (first|go_big_quiet_step (fail)|quiet_step (fail)));refine wpQuiet_nil ?_;rintro _ ⟨oq,nq,rfl⟩)
       have HJ1:=aA (HJM.out rfl)
       obtain ⟨V,HB⟩:∃ V,Hid (Ch.blocks ⟨last,l,js⟩ p ⟨jt,⟨xi,⟨x1,x2,x3⟩⟩,⟨u1,u2,u3⟩⟩ ⟨jt,true⟩=V):=⟨_,rfl⟩
       cases V
       ·go_wp2_with (first|(go_at_call 115;(with_reducible refine (fC false jt xi x1 x2 x3 u1 u2 u3 jt true _ _ _ _ _ _ _ _ pb mb _ _ _ _ _ _ _ _ _ l js p _ (Sl.below HS3.out (Ext.below eX)) (HP3.out.ext eX) HJ1 HB).mono ?_);rintro e w1 ⟨rfl,o1,n1,rfl⟩)|(go_at_call 167;(with_reducible refine (uC _ _ _ _ (by first|omega|decide) (by first|omega|decide) (by omega) (by omega)).mono ?_);rintro e wv ⟨v1,rfl,hown,hxv⟩))
        go_ret;exact ⟨v1,rfl,by rw [HL.out];simp [hb0,hu,HB.out];exact rA hown (HX3.out.trans eX).below.size,(HX3.out.trans eX).trans hxv⟩
       ·go_wp2_with (first|(go_at_call 115;(with_reducible refine (fC true jt xi x1 x2 x3 u1 u2 u3 jt true _ _ _ _ _ _ _ _ pb mb _ _ _ _ _ _ _ _ _ l js p _ (Sl.below HS3.out (Ext.below eX)) (HP3.out.ext eX) HJ1 HB).mono ?_);rintro e w1 ⟨rfl,o1,n1,rfl⟩)|(go_at_call 114;(with_reducible refine (dC _ _).mono ?_);rintro e w1 ⟨rfl,o1,n1,rfl⟩)|(go_at_call 167;(with_reducible refine (uC _ _ _ _ (by first|omega|decide) (by first|omega|decide) (by omega) (by omega)).mono ?_);rintro e wv ⟨v1,rfl,hown,hxv⟩))
        go_ret;exact ⟨v1,rfl,by rw [HL.out];simp [hb0,hu,HB.out];exact rA hown (HX3.out.trans eX).below.size,(HX3.out.trans eX).trans hxv⟩
    ·by_cases hu:u3=1
     ·subst hu
      obtain ⟨sv,HSV⟩:∃ sv,Hid (p.slots ⟨u1,u2,0⟩=sv):=⟨_,rfl⟩
      by_cases hz:sv=0
      ·subst hz
       go_upto_region 8 with fail
       (refine fA kR kR ?_;(repeat (first|go_big_quiet_step ((first|(intro _;go_at_call 156;exact qC (tD _ _ _ _))|(intro _;go_at_call 35;exact qC (nD (HP3.out.ext eX) _ _ _ 0 HSV))))|quiet_step (fail)));refine wpQuiet_nil ?_;rintro _ ⟨oq,nq,rfl⟩)
       have HJ1:=aA (HJM.out rfl)
       obtain ⟨V,HB⟩:∃ V,Hid (Ch.blocks ⟨last,l,js⟩ p ⟨xt,⟨xi,⟨x1,x2,x3⟩⟩,⟨u1,u2,1⟩⟩ ⟨jt,true⟩=V):=⟨_,rfl⟩
       cases V
       ·go_wp2_with (first|(go_at_call 115;(with_reducible refine (fC false xt xi x1 x2 x3 u1 u2 1 jt true _ _ _ _ _ _ _ _ pb mb _ _ _ _ _ _ _ _ _ l js p _ (Sl.below HS3.out (Ext.below eX)) (HP3.out.ext eX) HJ1 HB).mono ?_);rintro e w1 ⟨rfl,o1,n1,rfl⟩)|(go_at_call 167;(with_reducible refine (uC _ _ _ _ (by first|omega|decide) (by first|omega|decide) (by omega) (by omega)).mono ?_);rintro e wv ⟨v1,rfl,hown,hxv⟩))
        go_ret;exact ⟨v1,rfl,by rw [HL.out];simp [hjt,HSV.out,HB.out];exact rA hown (HX3.out.trans eX).below.size,(HX3.out.trans eX).trans hxv⟩
       ·go_wp2_with (first|(go_at_call 115;(with_reducible refine (fC true xt xi x1 x2 x3 u1 u2 1 jt true _ _ _ _ _ _ _ _ pb mb _ _ _ _ _ _ _ _ _ l js p _ (Sl.below HS3.out (Ext.below eX)) (HP3.out.ext eX) HJ1 HB).mono ?_);rintro e w1 ⟨rfl,o1,n1,rfl⟩)|(go_at_call 114;(with_reducible refine (dC _ _).mono ?_);rintro e w1 ⟨rfl,o1,n1,rfl⟩)|(go_at_call 167;(with_reducible refine (uC _ _ _ _ (by first|omega|decide) (by first|omega|decide) (by omega) (by omega)).mono ?_);rintro e wv ⟨v1,rfl,hown,hxv⟩))
        go_ret;exact ⟨v1,rfl,by rw [HL.out];simp [hjt,HSV.out,HB.out];exact rA hown (HX3.out.trans eX).below.size,(HX3.out.trans eX).trans hxv⟩
      ·go_upto_region 8 with fail
       (refine fA kR kR ?_;(repeat (first|go_big_quiet_step ((first|(intro _;go_at_call 156;exact qC (tD _ _ _ _))|(intro _;go_at_call 35;exact qC (nD (HP3.out.ext eX) _ _ _ sv HSV))))|quiet_step (fail)));refine wpQuiet_nil ?_;rintro _ ⟨oq,nq,rfl⟩)
       go_wp2_with (first|(go_at_call 114;(with_reducible refine (dC _ _).mono ?_);rintro e w1 ⟨rfl,o1,n1,rfl⟩)|(go_at_call 167;(with_reducible refine (uC _ _ _ _ (by first|omega|decide) (by first|omega|decide) (by omega) (by omega)).mono ?_);rintro e wv ⟨v1,rfl,hown,hxv⟩));go_ret;exact ⟨v1,rfl,by rw [HL.out];simp [hjt,HSV.out,hz];exact rA hown (HX3.out.trans eX).below.size,(HX3.out.trans eX).trans hxv⟩
     ·go_upto_region 8 with fail
      (refine fA kR kR ?_;(repeat (first|go_big_quiet_step (fail)|quiet_step (fail)));refine wpQuiet_nil ?_;rintro _ ⟨oq,nq,rfl⟩)
      have HJ1:=aA (HJM.out rfl)
      obtain ⟨V,HB⟩:∃ V,Hid (Ch.blocks ⟨last,l,js⟩ p ⟨xt,⟨xi,⟨x1,x2,x3⟩⟩,⟨u1,u2,u3⟩⟩ ⟨jt,true⟩=V):=⟨_,rfl⟩
      cases V
      ·go_wp2_with (first|(go_at_call 115;(with_reducible refine (fC false xt xi x1 x2 x3 u1 u2 u3 jt true _ _ _ _ _ _ _ _ pb mb _ _ _ _ _ _ _ _ _ l js p _ (Sl.below HS3.out (Ext.below eX)) (HP3.out.ext eX) HJ1 HB).mono ?_);rintro e w1 ⟨rfl,o1,n1,rfl⟩)|(go_at_call 167;(with_reducible refine (uC _ _ _ _ (by first|omega|decide) (by first|omega|decide) (by omega) (by omega)).mono ?_);rintro e wv ⟨v1,rfl,hown,hxv⟩))
       go_ret;exact ⟨v1,rfl,by rw [HL.out];simp [hjt,hu,HB.out];exact rA hown (HX3.out.trans eX).below.size,(HX3.out.trans eX).trans hxv⟩
      ·go_wp2_with (first|(go_at_call 115;(with_reducible refine (fC true xt xi x1 x2 x3 u1 u2 u3 jt true _ _ _ _ _ _ _ _ pb mb _ _ _ _ _ _ _ _ _ l js p _ (Sl.below HS3.out (Ext.below eX)) (HP3.out.ext eX) HJ1 HB).mono ?_);rintro e w1 ⟨rfl,o1,n1,rfl⟩)|(go_at_call 114;(with_reducible refine (dC _ _).mono ?_);rintro e w1 ⟨rfl,o1,n1,rfl⟩)|(go_at_call 167;(with_reducible refine (uC _ _ _ _ (by first|omega|decide) (by first|omega|decide) (by omega) (by omega)).mono ?_);rintro e wv ⟨v1,rfl,hown,hxv⟩))
       go_ret;exact ⟨v1,rfl,by rw [HL.out];simp [hjt,hu,HB.out];exact rA hown (HX3.out.trans eX).below.size,(HX3.out.trans eX).trans hxv⟩
