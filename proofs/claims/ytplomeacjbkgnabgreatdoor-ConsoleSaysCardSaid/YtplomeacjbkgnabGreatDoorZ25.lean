import Derived.Test.YtplomeacjbkgnabGreatDoorZ20
set_option linter.all false
set_option maxRecDepth 100000
set_option maxHeartbeats 16000000
namespace Go.Proofs.YtplomeacjbkgnabGreatDoor
open Go.RowKit Tryz Ch
theorem lG (a b c:Int) (w:World):Calls prog 156 #[.agg #[vi a,vi b,vi c]] w fun e w'=>e = .returned (.agg #[vi a,vi b,vi 0])/\Ext w w':=front_any ⟨a,b,c⟩ w
theorem tF {pb mb:Nat} {p:dA} {w:World} (h:yA w pb mb p) (a b c v:Int) (hv:Hid (p.slots ⟨a,b,c⟩=v)):
  Calls prog 35 #[.pointer (some ⟨pb,0,none⟩),.agg #[vi a,vi b,vi c]] w fun r w'=>r = .returned (vi v)/\Ext w w':=by
 have:=at_any h a b c;rw [hv.out] at this;exact this
theorem rJ {w a w2:World} {R:Nat} {v0 v1 v2 v3 v4 v5 v6 v7:Value} (hW:((((((((a.setCell ⟨R,0,none⟩ v0).setCell ⟨R,1,none⟩ v1).setCell ⟨R,2,none⟩ v2).setCell ⟨R,3,none⟩ v3).setCell ⟨R,4,none⟩ v4).setCell ⟨R,5,none⟩ v5).setCell ⟨R,6,none⟩ v6).setCell ⟨R,7,none⟩ v7)=w2)
  (hx:Ext w a) (hR:w.heap.size<=R) {cs:Array Value} {t:TypeId} (hb:a.heap[R]? = some (.cells cs t (0,0))) (h8:cs.size=8):
  w2.cell? ⟨R,0,none⟩=some v0/\w2.cell? ⟨R,1,none⟩=some v1/\w2.cell? ⟨R,2,none⟩=some v2/\w2.cell? ⟨R,3,none⟩=some v3/\w2.cell? ⟨R,4,none⟩=some v4/\w2.cell? ⟨R,5,none⟩=some v5/\w2.cell? ⟨R,6,none⟩=some v6/\w2.cell? ⟨R,7,none⟩=some v7/\Ext w w2:=by
 subst hW
 have key:∀ (a:World) (i j:Nat) (v:Value),i≠j->(a.setCell ⟨R,i,none⟩ v).cell? ⟨R,j,none⟩=a.cell? ⟨R,j,none⟩:=fun a i j v h=>World.cell?_setCell_other _ _ _ _ (by intro e;cases e;exact h rfl)
 have old:∀ i,i<8->∃ x,a.cell? ⟨R,i,none⟩=some x:=fun i hi=>⟨cs[i],tA hb sp⟩
 have same:∀ (a:World) (i:Nat) (v:Value),(∃ x,a.cell? ⟨R,i,none⟩=some x)->(a.setCell ⟨R,i,none⟩ v).cell? ⟨R,i,none⟩=some v:=fun a i v ⟨x,h⟩=>World.cell?_setCell_same _ _ _ h
 refine ⟨?_,?_,?_,?_,?_,?_,?_,?_,(((((((hx.setCell hR _).setCell hR _).setCell hR _).setCell hR _).setCell hR _).setCell hR _).setCell hR _).setCell hR _⟩
 ·simp (disch:=decide) only [key];exact same _ _ _ (old 0 dc)
 ·simp (disch:=decide) only [key];exact same _ _ _ (by simp (disch:=decide) only [key];exact old 1 dc)
 ·simp (disch:=decide) only [key];exact same _ _ _ (by simp (disch:=decide) only [key];exact old 2 dc)
 ·simp (disch:=decide) only [key];exact same _ _ _ (by simp (disch:=decide) only [key];exact old 3 dc)
 ·simp (disch:=decide) only [key];exact same _ _ _ (by simp (disch:=decide) only [key];exact old 4 dc)
 ·simp (disch:=decide) only [key];exact same _ _ _ (by simp (disch:=decide) only [key];exact old 5 dc)
 ·simp (disch:=decide) only [key];exact same _ _ _ (by simp (disch:=decide) only [key];exact old 6 dc)
 ·exact same _ _ _ (by simp (disch:=decide) only [key];exact old 7 dc)
theorem qD (V:Bool) (xt xi x1 x2 x3 u1 u2 u3 jt:Int) (jf:Bool) (last:Int) (a1:Option Addr) (m1 c1:Nat) (a2:Option Addr) (m2 c2:Nat) (lv:Int) (pb mb:Nat) (hh ee:Int) (dd:Bool) (pe li ba:Int) (f0 f1 f2:Bool) (l:List sA) (js:List Job) (p:dA) (w:World)
    (h:Sl w 8 iA l a1 m1 c1)
    (hp:yA w pb mb p) (hj:Hid (∃ s∈l,s.ticket=jt)) (hv:Hid (bE ⟨last,l,js⟩ p ⟨xt,⟨xi,⟨x1,x2,x3⟩⟩,⟨u1,u2,u3⟩⟩ ⟨jt,jf⟩=V)):
    Calls prog 115 #[turnV last a1 m1 c1 a2 m2 c2 lv pb hh ee dd pe li ba f0 f1 f2,.agg #[vi xt,vi xi,vi x1,vi x2,vi x3,vi u1,vi u2,vi u3],.agg #[vi jt,.bool jf]] w fun e w'=>e = .returned (.bool V)/\Ext w w':=by
  have b1:=h.bound;have HF:=aA h;have HP:=aA hp;have E1:=aA h.len;clear h hp;obtain ⟨si,⟨yt,⟨yi,⟨y1,y2,y3⟩⟩,⟨v1,v2,v3⟩⟩,hsi,hsl,hst,htt⟩:=stay_at (last:=last) (js:=js) hj.out
  have hsm:si<m1:=by
    have:=E1.out;obtain ⟨h1,_⟩:=List.getElem?_eq_some_iff.1 hsl;omega
  have HI:Hid (cC (fun s:sA=>s.ticket==jt) l=(si:Int)):=hsi
  have HV:Hid ((jf&&v3==1&&decide ((⟨v1,v2,0⟩:pB)=⟨u1,u2,u3⟩)&&p.slots ⟨v1,v2,v3⟩==yi)=V):=by
    unfold Hid;rw [<-hv.out];unfold bE aH;rw [hst];rfl
  obtain ⟨b',q',s',rfl,hs',ds⟩:=HF.out.get hsm;rw [hsl] at hs';cases hs';have ds:=at8 ds;have hq2:=cA ds.1
  have hs0:(0:Int)<=(si:Int):=om
  have hs1:(si:Int)<(m1:Int):=om
  have hs2:(si:Int)<=(c1:Int):=om
  clear hsl hst hsi hv htt;go_enter func115,ntmps115
  go_upto_region 1 with fail
  generalize hW:World.alloc _ _=w0;have t0:cI w0 w.heap.size 0 last:=cQ hW;have t1:cV w0 w.heap.size 1 (.slice (some ⟨b',q',none⟩) m1 c1):=cQ hW;have t2:cV w0 w.heap.size 2 (.slice a2 m2 c2):=cQ hW;have t3:cI w0 w.heap.size 3 lv:=cQ hW;have t4:cV w0 w.heap.size 4 (.pointer (some ⟨pb,0,none⟩)):=cQ hW;have t5:cI w0 w.heap.size 5 hh:=cQ hW;have t6:cI w0 w.heap.size 6 ee:=cQ hW;have t7:cV w0 w.heap.size 7 (.bool dd):=cQ hW;have t8:cI w0 w.heap.size 8 pe:=cQ hW;have t9:cI w0 w.heap.size 9 li:=cQ hW;have t10:cI w0 w.heap.size 10 ba:=cQ hW;have t11:cV w0 w.heap.size 11 (.bool f0):=cQ hW;have t12:cV w0 w.heap.size 12 (.bool f1):=cQ hW;have t13:cV w0 w.heap.size 13 (.bool f2):=cQ hW;have xx0:cI w0 (w.heap.size+1) 0 xt:=cQ hW;have xx1:cI w0 (w.heap.size+1) 1 xi:=cQ hW;have xx2:cI w0 (w.heap.size+1) 2 x1:=cQ hW;have xx3:cI w0 (w.heap.size+1) 3 x2:=cQ hW;have xx4:cI w0 (w.heap.size+1) 4 x3:=cQ hW;have xx5:cI w0 (w.heap.size+1) 5 u1:=cQ hW;have xx6:cI w0 (w.heap.size+1) 6 u2:=cQ hW;have xx7:cI w0 (w.heap.size+1) 7 u3:=cQ hW;have jj0:cI w0 (w.heap.size+2) 0 jt:=cQ hW;have jj1:cV w0 (w.heap.size+2) 1 (.bool jf):=cQ hW;have hx:Ext w w0:=xQ hW;have e0:=gA hx ds.1;have e1:=gA hx ds.2.1;have e2:=gA hx ds.2.2.1;have e3:=gA hx ds.2.2.2.1;have e4:=gA hx ds.2.2.2.2.1;have e5:=gA hx ds.2.2.2.2.2.1;have e6:=gA hx ds.2.2.2.2.2.2.1;have e7:=gA hx ds.2.2.2.2.2.2.2;have HS:=aA (Sl.below HF.out hx.below);have HP1:=aA (HP.out.ext hx);have HX:=aA hx;have z1:=cA t0;have z2:=cA xx0;have z3:=cA jj0;have z4:=cA e0;clear hW hx HF HP ds hq2
  go_region_held3 (fun w'=>w'.cell? ⟨w.heap.size,0,none⟩=some (vi last)/\w'.cell? ⟨w.heap.size,1,none⟩=some (.slice (some ⟨b',q',none⟩) m1 c1)/\w'.cell? ⟨w.heap.size,2,none⟩=some (.slice a2 m2 c2)/\w'.cell? ⟨w.heap.size+2,0,none⟩=some (vi jt)/\w'.cell? ⟨b',q'+si * 8,none⟩=some (vi yt)/\w'.cell? ⟨b',q'+si * 8+1,none⟩=some (vi yi)/\w'.cell? ⟨b',q'+si * 8+2,none⟩=some (vi y1)/\w'.cell? ⟨b',q'+si * 8+3,none⟩=some (vi y2)/\w'.cell? ⟨b',q'+si * 8+4,none⟩=some (vi y3)/\w'.cell? ⟨b',q'+si * 8+5,none⟩=some (vi v1)/\w'.cell? ⟨b',q'+si * 8+6,none⟩=some (vi v2)/\w'.cell? ⟨b',q'+si * 8+7,none⟩=some (vi v3)) (first|((try dsimp only);(repeat' apply And.intro) <;> exact xC (w:=w0))) (first|(go_at_call 102;with_reducible refine mo (find_stay (si:Int) _ _ _ _ _ _ _ _ l _ (Sl.below HS.out (Ext.below eX)) HI) fun o1 n1=>?_))
  all_goals
    first
    | (generalize hW:World.setCell _ _ _=w2
       obtain ⟨yy0,yy1,yy2,yy3,yy4,yy5,yy6,yy7,hx2⟩:=rJ (w:=w0) hW eX (Nat.le_refl _) (by rw [dB _ _ _ _ sp];exact pA _ _ _ rfl) rfl
       clear hW)
    | (generalize hW:World.alloc _ _=w2
       generalize hA:w0.heap.size+_=A
       have hx2:Ext w0 w2:=xQ hW
       have yy0:cI w2 A 0 yt:=cR hW hA
       have yy1:cI w2 A 1 yi:=cR hW hA
       have yy2:cI w2 A 2 y1:=cR hW hA
       have yy3:cI w2 A 3 y2:=cR hW hA
       have yy4:cI w2 A 4 y3:=cR hW hA
       have yy5:cI w2 A 5 v1:=cR hW hA
       have yy6:cI w2 A 6 v2:=cR hW hA
       have yy7:cI w2 A 7 v3:=cR hW hA
       clear hW hA)
    obtain ⟨r4,r10,rx5,rx6,rx7,rj0,rj1⟩:=xe7 hx2 t4 t10 xx5 xx6 xx7 jj0 jj1;have HX2:=aA (HX.out.trans hx2);have HP2:=aA (HP1.out.ext hx2);have w1:=cA r4;have w2':=cA rx5;have w3:=cA rj0;have w4:=cA yy0;clear hx2 HS HP1 HX t0 t1 t2 t3 t4 t5 t6 t7 t8 t9 t10 t11 t12 t13 xx0 xx1 xx2 xx3 xx4 xx5 xx6 xx7 jj0 jj1 z1 z2 z3 z4 e0 e1 e2 e3 e4 e5 e6 e7
    go_upto_region 2 with fail
    cases jf
    · (refine qF ?_;rintro _ ⟨oq,nq,rfl⟩)
      go_wp2;go_ret;exact ⟨by rw [<-HV.out];simp,HX2.out.trans eX⟩
    · by_cases h3:v3=1
      · subst h3
        cases hc:decide ((⟨v1,v2,0⟩:pB)=⟨u1,u2,u3⟩)
        · have hq:∀ w,(Go.binOp .eql 89 (.agg #[vi v1,vi v2,vi 0]) (.agg #[vi u1,vi u2,vi u3])).run prog w = .ok (.bool false) w:=fun w=>by rw [mJ w (fN w 9998 ⟨v1,v2,0⟩ ⟨u1,u2,u3⟩),hc]
          (refine rA kR kR ?_;(repeat (first|go_big_quiet_step ((intro _;go_at_call 156;exact qC (lG _ _ _ _)))|quiet_step (fail)));refine wpQuiet_nil ?_;rintro _ ⟨oq,nq,rfl⟩)
          go_wp2;go_ret;exact ⟨by rw [<-HV.out,hc];simp,HX2.out.trans eX⟩
        · have hq:∀ w,(Go.binOp .eql 89 (.agg #[vi v1,vi v2,vi 0]) (.agg #[vi u1,vi u2,vi u3])).run prog w = .ok (.bool true) w:=fun w=>by rw [mJ w (fN w 9998 ⟨v1,v2,0⟩ ⟨u1,u2,u3⟩),hc]
          obtain ⟨sv,HSV⟩:∃ sv,Hid (p.slots ⟨v1,v2,1⟩=sv):=⟨_,rfl⟩
          by_cases hy:sv=yi
          · subst hy
            (refine rA kR kR ?_;(repeat (first|go_big_quiet_step ((first|(intro _;go_at_call 156;exact qC (lG _ _ _ _))|(intro _;go_at_call 35;exact qC (tF (HP2.out.ext eX) _ _ _ sv HSV))))|quiet_step (fail)));refine wpQuiet_nil ?_;rintro _ ⟨oq,nq,rfl⟩)
            go_wp2;go_ret;exact ⟨by rw [<-HV.out,hc,HSV.out];simp,HX2.out.trans eX⟩
          · (refine rA kR kR ?_;(repeat (first|go_big_quiet_step ((first|(intro _;go_at_call 156;exact qC (lG _ _ _ _))|(intro _;go_at_call 35;exact qC (tF (HP2.out.ext eX) _ _ _ sv HSV))))|quiet_step (fail)));refine wpQuiet_nil ?_;rintro _ ⟨oq,nq,rfl⟩)
            go_wp2;go_ret;exact ⟨by rw [<-HV.out,hc,HSV.out];simp [hy],HX2.out.trans eX⟩
      · (refine qF ?_;rintro _ ⟨oq,nq,rfl⟩)
        go_wp2;go_ret;exact ⟨by rw [<-HV.out];simp [h3],HX2.out.trans eX⟩
theorem nD (n:Int) (w:World):Calls prog 114 #[vi n] w fun e w'=>e = .returned (.agg #[vi n,vi 1,vi 0])/\Ext w w':=spare_any n w
theorem wE (a b c:Int) (w:World) (h0:0<=c) (h1:c<=1) (h2:1<=a) (h3:a<=4):Calls prog 167 #[.agg #[vi a,vi b,vi c]] w (yE w (vN ⟨a,b,c⟩)):=bring_any ⟨a,b,c⟩ w h0 h1 h2 h3
theorem rM (a b c:Int) (w:World) (h0:0<=c) (h1:c<=1) (h2:1<=a) (h3:a<=4):Calls prog 116 #[.agg #[vi a,vi b,vi c]] w (yE w (fetch ⟨a,b,c⟩)):=fetch_any ⟨a,b,c⟩ w h0 h1 h2 h3
theorem loaded_none {b:gB} {n:Int} {p:dA} (ho:b.of p.lift=none):pE b n p=dF:=by unfold pE;rw [ho]
theorem loaded_is {b:gB} {n:Int} {p:dA} {x:sA} {jt:Int} {jf is:Bool} (ho:b.of p.lift=some x) (hf:pC (sB b p.bay)=(jt,jf,is)):
  pE b n p=if is&&jf&&jt==x.ticket&&p.bay==0 then dF else if (x.home.depth==1&&p.slots (aH x.home) != 0) || (is&&bE b p x ⟨jt,jf⟩) then vN (wH n) else vN x.home:=by
 unfold pE;rw [ho]
 cases hj:sB b p.bay with
 | none=>
  rw [hj] at hf;simp only [pC,Prod.mk.injEq] at hf;obtain ⟨rfl,rfl,rfl⟩:=hf;simp
 | some j=>
  rw [hj] at hf;simp only [pC,Prod.mk.injEq] at hf;obtain ⟨rfl,rfl,rfl⟩:=hf;simp
theorem of_where {b:gB} {id:Int}:(b.of id=none/\cC (fun s:sA=>s.car.id==id) b.stays=-1)\/∃ (i:Nat) (s:sA),cC (fun s:sA=>s.car.id==id) b.stays=(i:Int)/\b.stays[i]? = some s/\b.of id=some s:=by
 unfold gB.of cC;rw [List.find?_eq_bind_findIdx?_getElem?]
 cases hf:b.stays.findIdx? (fun s=>s.car.id==id) with
 | none=>exact Or.inl ⟨rfl,rfl⟩
 | some i=>
  obtain ⟨hi,-,-⟩:=List.findIdx?_eq_some_iff_getElem.1 hf;exact Or.inr ⟨i,b.stays[i],rfl,List.getElem?_eq_getElem hi,by simp [List.getElem?_eq_getElem hi]⟩
theorem loaded_any (last:Int) (a1:Option Addr) (m1 c1:Nat) (a2:Option Addr) (m2 c2:Nat) (lv:Int) (pb mb:Nat) (hh ee:Int) (dd:Bool) (pe li ba:Int) (f0 f1 f2:Bool) (l:List sA) (js:List Job) (p:dA) (w:World)
  (h:Sl w 8 iA l a1 m1 c1)
  (h2:Sl w 2 jA js a2 m2 c2) (hp:yA w pb mb p) (hj:Hid (∀ j∈js,∃ s∈l,s.ticket=j.ticket)) (hpl:Hid (∀ s∈l,uA s.home lv=0)) (hli:Hid (p.lift=li)) (hba:Hid (p.bay=ba)) (l1:1<=lv) (l4:lv<=4):
  Calls prog 112 #[turnV last a1 m1 c1 a2 m2 c2 lv pb hh ee dd pe li ba f0 f1 f2] w (yE w (pE ⟨last,l,js⟩ lv p)):=by
 have b1:=h.bound;have HF:=aA h;have HJ:=aA h2;have HP:=aA hp;have E1:=aA h.len;clear h h2 hp
 obtain ⟨⟨jt,jf,is⟩,HFJ⟩:∃ r,Hid (pC (sB ⟨last,l,js⟩ ba)=r):=⟨_,rfl⟩
 rcases of_where (b:=⟨last,l,js⟩) (id:=li) with ⟨ho,hi⟩|⟨si,⟨xt,⟨xi,⟨x1,x2,x3⟩⟩,⟨u1,u2,u3⟩⟩,hi,hsl,ho⟩
 ·have HI:Hid (cC (fun s:sA=>s.car.id==li) l=-1):=hi
  have HL:Hid (pE ⟨last,l,js⟩ lv p=dF):=loaded_none (by rw [hli.out];exact ho);clear hi ho;go_enter func112,ntmps112
  go_upto_region 1 with fail
  generalize hW:World.alloc _ _=w0;have t0:cI w0 w.heap.size 0 last:=cQ hW;have t1:cV w0 w.heap.size 1 (.slice a1 m1 c1):=cQ hW;have t2:cV w0 w.heap.size 2 (.slice a2 m2 c2):=cQ hW;have t3:cI w0 w.heap.size 3 lv:=cQ hW;have t4:cV w0 w.heap.size 4 (.pointer (some ⟨pb,0,none⟩)):=cQ hW;have t5:cI w0 w.heap.size 5 hh:=cQ hW;have t6:cI w0 w.heap.size 6 ee:=cQ hW;have t7:cV w0 w.heap.size 7 (.bool dd):=cQ hW;have t8:cI w0 w.heap.size 8 pe:=cQ hW;have t9:cI w0 w.heap.size 9 li:=cQ hW;have t10:cI w0 w.heap.size 10 ba:=cQ hW;have t11:cV w0 w.heap.size 11 (.bool f0):=cQ hW;have t12:cV w0 w.heap.size 12 (.bool f1):=cQ hW;have t13:cV w0 w.heap.size 13 (.bool f2):=cQ hW;have hx:Ext w w0:=xQ hW;have HS:=aA (Sl.below HF.out hx.below);have HK:=aA (Sl.below HJ.out hx.below);have HP1:=aA (HP.out.ext hx);have HX:=aA hx;have z1:=cA t0;clear hW hx HF HJ HP;go_wp2_with (first|(go_at_call 94;with_reducible refine mo (gO (-1) _ _ _ _ _ _ _ _ l _ (Sl.below HS.out (Ext.below eX)) HI) fun o1 n1=>?_)|(go_at_call 166;(with_reducible refine (giveOut_any _).mono ?_);rintro e wv ⟨v1,rfl,hown,hxv⟩));go_ret;exact ⟨v1,rfl,by rw [HL.out];exact mA hown (HX.out.trans eX).below.size,(HX.out.trans eX).trans hxv⟩
 ·have HI:Hid (cC (fun s:sA=>s.car.id==li) l=(si:Int)):=hi
  have HL:Hid (pE ⟨last,l,js⟩ lv p=if is&&jf&&jt==xt&&ba==0 then dF else if (u3==1&&p.slots ⟨u1,u2,0⟩ != 0) || (is&&bE ⟨last,l,js⟩ p ⟨xt,⟨xi,⟨x1,x2,x3⟩⟩,⟨u1,u2,u3⟩⟩ ⟨jt,jf⟩) then vN (wH lv) else vN ⟨u1,u2,u3⟩):=by
   unfold Hid;rw [loaded_is (jt:=jt) (jf:=jf) (is:=is) (by rw [hli.out];exact ho) (by rw [hba.out];exact HFJ.out),hba.out];rfl
  have hpf:=uC.1 (hpl.out _ (List.mem_of_getElem? hsl));obtain ⟨g1,g2,g3,g4,g5,g6⟩:=hpf;dsimp only at g1 g2 g3 g4 g5 g6
  have HJM:Hid (is=true->∃ s∈l,s.ticket=jt):=by
   intro hi;have hf:=HFJ.out
   cases hfj:sB ⟨last,l,js⟩ ba with
   | none=>rw [hfj] at hf;simp only [pC,Prod.mk.injEq] at hf;rw [hi] at hf;simp at hf
   | some j=>
    rw [hfj] at hf;simp only [pC,Prod.mk.injEq] at hf;rw [<-hf.1];exact hj.out j (first_mem hfj).1
  have hsm:si<m1:=by
   have:=E1.out;obtain ⟨h1,_⟩:=List.getElem?_eq_some_iff.1 hsl;dsimp only at h1;omega
  obtain ⟨b',q',s',rfl,hs',ds⟩:=HF.out.get hsm;rw [show l[si]? = _ from hsl] at hs';cases hs';have ds:=at8 ds;have hq2:=cA ds.1
  have hs0:(0:Int)<=(si:Int):=om
  have hs1:(si:Int)<(m1:Int):=om
  have hs2:(si:Int)<=(c1:Int):=om
  have hsn:¬ ((si:Int)<0):=om
  clear hi ho hsl;go_enter func112,ntmps112
  go_upto_region 1 with fail
  generalize hW:World.alloc _ _=w0;have t0:cI w0 w.heap.size 0 last:=cQ hW;have t1:cV w0 w.heap.size 1 (.slice (some ⟨b',q',none⟩) m1 c1):=cQ hW;have t2:cV w0 w.heap.size 2 (.slice a2 m2 c2):=cQ hW;have t3:cI w0 w.heap.size 3 lv:=cQ hW;have t4:cV w0 w.heap.size 4 (.pointer (some ⟨pb,0,none⟩)):=cQ hW;have t5:cI w0 w.heap.size 5 hh:=cQ hW;have t6:cI w0 w.heap.size 6 ee:=cQ hW;have t7:cV w0 w.heap.size 7 (.bool dd):=cQ hW;have t8:cI w0 w.heap.size 8 pe:=cQ hW;have t9:cI w0 w.heap.size 9 li:=cQ hW;have t10:cI w0 w.heap.size 10 ba:=cQ hW;have t11:cV w0 w.heap.size 11 (.bool f0):=cQ hW;have t12:cV w0 w.heap.size 12 (.bool f1):=cQ hW;have t13:cV w0 w.heap.size 13 (.bool f2):=cQ hW;have hx:Ext w w0:=xQ hW;have HS:=aA (Sl.below HF.out hx.below);have HK:=aA (Sl.below HJ.out hx.below);have HP1:=aA (HP.out.ext hx);have HX:=aA hx;have z1:=cA t0;have e0:=gA hx ds.1;have e1:=gA hx ds.2.1;have e2:=gA hx ds.2.2.1;have e3:=gA hx ds.2.2.2.1;have e4:=gA hx ds.2.2.2.2.1;have e5:=gA hx ds.2.2.2.2.2.1;have e6:=gA hx ds.2.2.2.2.2.2.1;have e7:=gA hx ds.2.2.2.2.2.2.2;have z2:=cA e0;clear hW hx HF HJ HP ds hq2
  go_upto_region 5 with ((go_at_call 94;with_reducible refine mo (gO (si:Int) _ _ _ _ _ _ _ _ l _ (Sl.below HS.out (Ext.below eX)) HI) fun o1 n1=>?_))
  generalize hW:World.alloc _ _=w2;generalize hA:w0.heap.size+_=A4;have hx2:Ext w0 w2:=xQ hW;have y0:cI w2 A4 0 xt:=cR hW hA;have y1:cI w2 A4 1 xi:=cR hW hA;have y2:cI w2 A4 2 x1:=cR hW hA;have y3:cI w2 A4 3 x2:=cR hW hA;have y4:cI w2 A4 4 x3:=cR hW hA;have y5:cI w2 A4 5 u1:=cR hW hA;have y6:cI w2 A4 6 u2:=cR hW hA;have y7:cI w2 A4 7 u3:=cR hW hA;obtain ⟨a0,a1',a2',a3,a4,a5,a6,a7,a8,a9,a10,a11⟩:=iF hx2 t0 t1 t2 t3 t4 t5 t6 t7 t8 t9 t10 t11;have a12:=gA hx2 t12;have a13:=gA hx2 t13;have HX2:=aA (HX.out.trans hx2);have HS2:=aA (Sl.below HS.out hx2.below);have HK2:=aA (Sl.below HK.out hx2.below);have HP2:=aA (HP1.out.ext hx2);have w1:=cA a0;have w2':=cA y0;clear hW hA hx2 HS HK HP1 HX t0 t1 t2 t3 t4 t5 t6 t7 t8 t9 t10 t11 t12 t13 z1 z2 e0 e1 e2 e3 e4 e5 e6 e7
  go_upto_region 6 with ((go_at_call 113;with_reducible refine mo (first_any jt jf is _ _ _ _ _ _ _ _ _ _ _ _ _ _ _ _ _ _ l js _ (Sl.below HS2.out (Ext.below eX)) (Sl.below HK2.out (Ext.below eX)) hj HFJ) fun o1 n1=>?_))
  generalize hW:World.alloc _ _=w3;generalize hA:w2.heap.size+_=A5;have hx3:Ext w2 w3:=xQ hW;have j0:cI w3 A5 0 jt:=cR hW hA;have j1:cV w3 A5 1 (.bool jf):=cR hW hA;have HX3:=aA (HX2.out.trans hx3);have HS3:=aA (Sl.below HS2.out hx3.below);have HP3:=aA (HP2.out.ext hx3);obtain ⟨b0,b1',b2',b3,b4,b5,b6,b7,b8,b9,b10,b11⟩:=iF hx3 a0 a1' a2' a3 a4 a5 a6 a7 a8 a9 a10 a11;obtain ⟨b12,b13,k0,k1,k2,k3,k4,k5,k6,k7⟩:=xe10 hx3 a12 a13 y0 y1 y2 y3 y4 y5 y6 y7;have v1':=cA b0;have v2':=cA k0;have v3':=cA j0;clear hW hA hx3 HX2 HS2 HK2 HP2 a0 a1' a2' a3 a4 a5 a6 a7 a8 a9 a10 a11 a12 a13 y0 y1 y2 y3 y4 y5 y6 y7 w1 w2';cases is
  ·by_cases hu:u3=1
   ·subst hu
    obtain ⟨sv,HSV⟩:∃ sv,Hid (p.slots ⟨u1,u2,0⟩=sv):=⟨_,rfl⟩
    by_cases hz:sv=0
    ·subst hz
     go_upto_region 8 with fail
     (refine rA kR kR ?_;(repeat (first|go_big_quiet_step ((first|(intro _;go_at_call 156;exact qC (lG _ _ _ _))|(intro _;go_at_call 35;exact qC (tF (HP3.out.ext eX) _ _ _ 0 HSV))))|quiet_step (fail)));refine wpQuiet_nil ?_;rintro _ ⟨oq,nq,rfl⟩)
     go_wp2_with (go_at_call 167;(with_reducible refine (wE _ _ _ _ (by first|omega|decide) (by first|omega|decide) om om).mono ?_);rintro e wv ⟨v1,rfl,hown,hxv⟩);go_ret;exact ⟨v1,rfl,by rw [HL.out];simp [HSV.out];exact mA hown (HX3.out.trans eX).below.size,(HX3.out.trans eX).trans hxv⟩
    ·go_upto_region 8 with fail
     (refine rA kR kR ?_;(repeat (first|go_big_quiet_step ((first|(intro _;go_at_call 156;exact qC (lG _ _ _ _))|(intro _;go_at_call 35;exact qC (tF (HP3.out.ext eX) _ _ _ sv HSV))))|quiet_step (fail)));refine wpQuiet_nil ?_;rintro _ ⟨oq,nq,rfl⟩)
     go_wp2_with (first|(go_at_call 114;with_reducible refine mo (nD _ _) fun o1 n1=>?_)|(go_at_call 167;(with_reducible refine (wE _ _ _ _ (by first|omega|decide) (by first|omega|decide) om om).mono ?_);rintro e wv ⟨v1,rfl,hown,hxv⟩));go_ret;exact ⟨v1,rfl,by rw [HL.out];simp [HSV.out,hz];exact mA hown (HX3.out.trans eX).below.size,(HX3.out.trans eX).trans hxv⟩
   ·go_upto_region 8 with fail
    (refine qF ?_;rintro _ ⟨oq,nq,rfl⟩)
    go_wp2_with (go_at_call 167;(with_reducible refine (wE _ _ _ _ (by first|omega|decide) (by first|omega|decide) om om).mono ?_);rintro e wv ⟨v1,rfl,hown,hxv⟩);go_ret;exact ⟨v1,rfl,by rw [HL.out];simp [hu];exact mA hown (HX3.out.trans eX).below.size,(HX3.out.trans eX).trans hxv⟩
  ·cases jf
   ·by_cases hu:u3=1
    ·subst hu
     obtain ⟨sv,HSV⟩:∃ sv,Hid (p.slots ⟨u1,u2,0⟩=sv):=⟨_,rfl⟩
     by_cases hz:sv=0
     ·subst hz
      go_upto_region 8 with fail
      (refine rA kR kR ?_;(repeat (first|go_big_quiet_step ((first|(intro _;go_at_call 156;exact qC (lG _ _ _ _))|(intro _;go_at_call 35;exact qC (tF (HP3.out.ext eX) _ _ _ 0 HSV))))|quiet_step (fail)));refine wpQuiet_nil ?_;rintro _ ⟨oq,nq,rfl⟩)
      have HJ1:=aA (HJM.out rfl)
      obtain ⟨V,HB⟩:∃ V,Hid (bE ⟨last,l,js⟩ p ⟨xt,⟨xi,⟨x1,x2,x3⟩⟩,⟨u1,u2,1⟩⟩ ⟨jt,false⟩=V):=⟨_,rfl⟩
      cases V
      ·go_wp2_with (first|(go_at_call 115;with_reducible refine mo (qD false xt xi x1 x2 x3 u1 u2 1 jt false _ _ _ _ _ _ _ _ pb mb _ _ _ _ _ _ _ _ _ l js p _ (Sl.below HS3.out (Ext.below eX)) (HP3.out.ext eX) HJ1 HB) fun o1 n1=>?_)|(go_at_call 167;(with_reducible refine (wE _ _ _ _ (by first|omega|decide) (by first|omega|decide) om om).mono ?_);rintro e wv ⟨v1,rfl,hown,hxv⟩))
       go_ret;exact ⟨v1,rfl,by rw [HL.out];simp [HSV.out,HB.out];exact mA hown (HX3.out.trans eX).below.size,(HX3.out.trans eX).trans hxv⟩
      ·go_wp2_with (first|(go_at_call 115;with_reducible refine mo (qD true xt xi x1 x2 x3 u1 u2 1 jt false _ _ _ _ _ _ _ _ pb mb _ _ _ _ _ _ _ _ _ l js p _ (Sl.below HS3.out (Ext.below eX)) (HP3.out.ext eX) HJ1 HB) fun o1 n1=>?_)|(go_at_call 114;with_reducible refine mo (nD _ _) fun o1 n1=>?_)|(go_at_call 167;(with_reducible refine (wE _ _ _ _ (by first|omega|decide) (by first|omega|decide) om om).mono ?_);rintro e wv ⟨v1,rfl,hown,hxv⟩))
       go_ret;exact ⟨v1,rfl,by rw [HL.out];simp [HSV.out,HB.out];exact mA hown (HX3.out.trans eX).below.size,(HX3.out.trans eX).trans hxv⟩
     ·go_upto_region 8 with fail
      (refine rA kR kR ?_;(repeat (first|go_big_quiet_step ((first|(intro _;go_at_call 156;exact qC (lG _ _ _ _))|(intro _;go_at_call 35;exact qC (tF (HP3.out.ext eX) _ _ _ sv HSV))))|quiet_step (fail)));refine wpQuiet_nil ?_;rintro _ ⟨oq,nq,rfl⟩)
      go_wp2_with (first|(go_at_call 114;with_reducible refine mo (nD _ _) fun o1 n1=>?_)|(go_at_call 167;(with_reducible refine (wE _ _ _ _ (by first|omega|decide) (by first|omega|decide) om om).mono ?_);rintro e wv ⟨v1,rfl,hown,hxv⟩));go_ret;exact ⟨v1,rfl,by rw [HL.out];simp [HSV.out,hz];exact mA hown (HX3.out.trans eX).below.size,(HX3.out.trans eX).trans hxv⟩
    ·go_upto_region 8 with fail
     (refine qF ?_;rintro _ ⟨oq,nq,rfl⟩)
     have HJ1:=aA (HJM.out rfl)
     obtain ⟨V,HB⟩:∃ V,Hid (bE ⟨last,l,js⟩ p ⟨xt,⟨xi,⟨x1,x2,x3⟩⟩,⟨u1,u2,u3⟩⟩ ⟨jt,false⟩=V):=⟨_,rfl⟩
     cases V
     ·go_wp2_with (first|(go_at_call 115;with_reducible refine mo (qD false xt xi x1 x2 x3 u1 u2 u3 jt false _ _ _ _ _ _ _ _ pb mb _ _ _ _ _ _ _ _ _ l js p _ (Sl.below HS3.out (Ext.below eX)) (HP3.out.ext eX) HJ1 HB) fun o1 n1=>?_)|(go_at_call 167;(with_reducible refine (wE _ _ _ _ (by first|omega|decide) (by first|omega|decide) om om).mono ?_);rintro e wv ⟨v1,rfl,hown,hxv⟩))
      go_ret;exact ⟨v1,rfl,by rw [HL.out];simp [hu,HB.out];exact mA hown (HX3.out.trans eX).below.size,(HX3.out.trans eX).trans hxv⟩
     ·go_wp2_with (first|(go_at_call 115;with_reducible refine mo (qD true xt xi x1 x2 x3 u1 u2 u3 jt false _ _ _ _ _ _ _ _ pb mb _ _ _ _ _ _ _ _ _ l js p _ (Sl.below HS3.out (Ext.below eX)) (HP3.out.ext eX) HJ1 HB) fun o1 n1=>?_)|(go_at_call 114;with_reducible refine mo (nD _ _) fun o1 n1=>?_)|(go_at_call 167;(with_reducible refine (wE _ _ _ _ (by first|omega|decide) (by first|omega|decide) om om).mono ?_);rintro e wv ⟨v1,rfl,hown,hxv⟩))
      go_ret;exact ⟨v1,rfl,by rw [HL.out];simp [hu,HB.out];exact mA hown (HX3.out.trans eX).below.size,(HX3.out.trans eX).trans hxv⟩
   ·by_cases hjt:jt=xt
    ·subst hjt
     by_cases hb0:ba=0
     ·subst hb0
      go_wp2_with (go_at_call 166;(with_reducible refine (giveOut_any _).mono ?_);rintro e wv ⟨v1,rfl,hown,hxv⟩);go_ret;exact ⟨v1,rfl,by rw [HL.out];simp [];exact mA hown (HX3.out.trans eX).below.size,(HX3.out.trans eX).trans hxv⟩
     ·by_cases hu:u3=1
      ·subst hu
       obtain ⟨sv,HSV⟩:∃ sv,Hid (p.slots ⟨u1,u2,0⟩=sv):=⟨_,rfl⟩
       by_cases hz:sv=0
       ·subst hz
        go_upto_region 8 with fail
        (refine rA kR kR ?_;(repeat (first|go_big_quiet_step ((first|(intro _;go_at_call 156;exact qC (lG _ _ _ _))|(intro _;go_at_call 35;exact qC (tF (HP3.out.ext eX) _ _ _ 0 HSV))))|quiet_step (fail)));refine wpQuiet_nil ?_;rintro _ ⟨oq,nq,rfl⟩)
        have HJ1:=aA (HJM.out rfl)
        obtain ⟨V,HB⟩:∃ V,Hid (bE ⟨last,l,js⟩ p ⟨jt,⟨xi,⟨x1,x2,x3⟩⟩,⟨u1,u2,1⟩⟩ ⟨jt,true⟩=V):=⟨_,rfl⟩
        cases V
        ·go_wp2_with (first|(go_at_call 115;with_reducible refine mo (qD false jt xi x1 x2 x3 u1 u2 1 jt true _ _ _ _ _ _ _ _ pb mb _ _ _ _ _ _ _ _ _ l js p _ (Sl.below HS3.out (Ext.below eX)) (HP3.out.ext eX) HJ1 HB) fun o1 n1=>?_)|(go_at_call 167;(with_reducible refine (wE _ _ _ _ (by first|omega|decide) (by first|omega|decide) om om).mono ?_);rintro e wv ⟨v1,rfl,hown,hxv⟩))
         go_ret;exact ⟨v1,rfl,by rw [HL.out];simp [hb0,HSV.out,HB.out];exact mA hown (HX3.out.trans eX).below.size,(HX3.out.trans eX).trans hxv⟩
        ·go_wp2_with (first|(go_at_call 115;with_reducible refine mo (qD true jt xi x1 x2 x3 u1 u2 1 jt true _ _ _ _ _ _ _ _ pb mb _ _ _ _ _ _ _ _ _ l js p _ (Sl.below HS3.out (Ext.below eX)) (HP3.out.ext eX) HJ1 HB) fun o1 n1=>?_)|(go_at_call 114;with_reducible refine mo (nD _ _) fun o1 n1=>?_)|(go_at_call 167;(with_reducible refine (wE _ _ _ _ (by first|omega|decide) (by first|omega|decide) om om).mono ?_);rintro e wv ⟨v1,rfl,hown,hxv⟩))
         go_ret;exact ⟨v1,rfl,by rw [HL.out];simp [hb0,HSV.out,HB.out];exact mA hown (HX3.out.trans eX).below.size,(HX3.out.trans eX).trans hxv⟩
       ·go_upto_region 8 with fail
        (refine rA kR kR ?_;(repeat (first|go_big_quiet_step ((first|(intro _;go_at_call 156;exact qC (lG _ _ _ _))|(intro _;go_at_call 35;exact qC (tF (HP3.out.ext eX) _ _ _ sv HSV))))|quiet_step (fail)));refine wpQuiet_nil ?_;rintro _ ⟨oq,nq,rfl⟩)
        go_wp2_with (first|(go_at_call 114;with_reducible refine mo (nD _ _) fun o1 n1=>?_)|(go_at_call 167;(with_reducible refine (wE _ _ _ _ (by first|omega|decide) (by first|omega|decide) om om).mono ?_);rintro e wv ⟨v1,rfl,hown,hxv⟩));go_ret;exact ⟨v1,rfl,by rw [HL.out];simp [hb0,HSV.out,hz];exact mA hown (HX3.out.trans eX).below.size,(HX3.out.trans eX).trans hxv⟩
      ·go_upto_region 8 with fail
       (refine qF ?_;rintro _ ⟨oq,nq,rfl⟩)
       have HJ1:=aA (HJM.out rfl)
       obtain ⟨V,HB⟩:∃ V,Hid (bE ⟨last,l,js⟩ p ⟨jt,⟨xi,⟨x1,x2,x3⟩⟩,⟨u1,u2,u3⟩⟩ ⟨jt,true⟩=V):=⟨_,rfl⟩
       cases V
       ·go_wp2_with (first|(go_at_call 115;with_reducible refine mo (qD false jt xi x1 x2 x3 u1 u2 u3 jt true _ _ _ _ _ _ _ _ pb mb _ _ _ _ _ _ _ _ _ l js p _ (Sl.below HS3.out (Ext.below eX)) (HP3.out.ext eX) HJ1 HB) fun o1 n1=>?_)|(go_at_call 167;(with_reducible refine (wE _ _ _ _ (by first|omega|decide) (by first|omega|decide) om om).mono ?_);rintro e wv ⟨v1,rfl,hown,hxv⟩))
        go_ret;exact ⟨v1,rfl,by rw [HL.out];simp [hb0,hu,HB.out];exact mA hown (HX3.out.trans eX).below.size,(HX3.out.trans eX).trans hxv⟩
       ·go_wp2_with (first|(go_at_call 115;with_reducible refine mo (qD true jt xi x1 x2 x3 u1 u2 u3 jt true _ _ _ _ _ _ _ _ pb mb _ _ _ _ _ _ _ _ _ l js p _ (Sl.below HS3.out (Ext.below eX)) (HP3.out.ext eX) HJ1 HB) fun o1 n1=>?_)|(go_at_call 114;with_reducible refine mo (nD _ _) fun o1 n1=>?_)|(go_at_call 167;(with_reducible refine (wE _ _ _ _ (by first|omega|decide) (by first|omega|decide) om om).mono ?_);rintro e wv ⟨v1,rfl,hown,hxv⟩))
        go_ret;exact ⟨v1,rfl,by rw [HL.out];simp [hb0,hu,HB.out];exact mA hown (HX3.out.trans eX).below.size,(HX3.out.trans eX).trans hxv⟩
    ·by_cases hu:u3=1
     ·subst hu
      obtain ⟨sv,HSV⟩:∃ sv,Hid (p.slots ⟨u1,u2,0⟩=sv):=⟨_,rfl⟩
      by_cases hz:sv=0
      ·subst hz
       go_upto_region 8 with fail
       (refine rA kR kR ?_;(repeat (first|go_big_quiet_step ((first|(intro _;go_at_call 156;exact qC (lG _ _ _ _))|(intro _;go_at_call 35;exact qC (tF (HP3.out.ext eX) _ _ _ 0 HSV))))|quiet_step (fail)));refine wpQuiet_nil ?_;rintro _ ⟨oq,nq,rfl⟩)
       have HJ1:=aA (HJM.out rfl)
       obtain ⟨V,HB⟩:∃ V,Hid (bE ⟨last,l,js⟩ p ⟨xt,⟨xi,⟨x1,x2,x3⟩⟩,⟨u1,u2,1⟩⟩ ⟨jt,true⟩=V):=⟨_,rfl⟩
       cases V
       ·go_wp2_with (first|(go_at_call 115;with_reducible refine mo (qD false xt xi x1 x2 x3 u1 u2 1 jt true _ _ _ _ _ _ _ _ pb mb _ _ _ _ _ _ _ _ _ l js p _ (Sl.below HS3.out (Ext.below eX)) (HP3.out.ext eX) HJ1 HB) fun o1 n1=>?_)|(go_at_call 167;(with_reducible refine (wE _ _ _ _ (by first|omega|decide) (by first|omega|decide) om om).mono ?_);rintro e wv ⟨v1,rfl,hown,hxv⟩))
        go_ret;exact ⟨v1,rfl,by rw [HL.out];simp [hjt,HSV.out,HB.out];exact mA hown (HX3.out.trans eX).below.size,(HX3.out.trans eX).trans hxv⟩
       ·go_wp2_with (first|(go_at_call 115;with_reducible refine mo (qD true xt xi x1 x2 x3 u1 u2 1 jt true _ _ _ _ _ _ _ _ pb mb _ _ _ _ _ _ _ _ _ l js p _ (Sl.below HS3.out (Ext.below eX)) (HP3.out.ext eX) HJ1 HB) fun o1 n1=>?_)|(go_at_call 114;with_reducible refine mo (nD _ _) fun o1 n1=>?_)|(go_at_call 167;(with_reducible refine (wE _ _ _ _ (by first|omega|decide) (by first|omega|decide) om om).mono ?_);rintro e wv ⟨v1,rfl,hown,hxv⟩))
        go_ret;exact ⟨v1,rfl,by rw [HL.out];simp [hjt,HSV.out,HB.out];exact mA hown (HX3.out.trans eX).below.size,(HX3.out.trans eX).trans hxv⟩
      ·go_upto_region 8 with fail
       (refine rA kR kR ?_;(repeat (first|go_big_quiet_step ((first|(intro _;go_at_call 156;exact qC (lG _ _ _ _))|(intro _;go_at_call 35;exact qC (tF (HP3.out.ext eX) _ _ _ sv HSV))))|quiet_step (fail)));refine wpQuiet_nil ?_;rintro _ ⟨oq,nq,rfl⟩)
       go_wp2_with (first|(go_at_call 114;with_reducible refine mo (nD _ _) fun o1 n1=>?_)|(go_at_call 167;(with_reducible refine (wE _ _ _ _ (by first|omega|decide) (by first|omega|decide) om om).mono ?_);rintro e wv ⟨v1,rfl,hown,hxv⟩));go_ret;exact ⟨v1,rfl,by rw [HL.out];simp [hjt,HSV.out,hz];exact mA hown (HX3.out.trans eX).below.size,(HX3.out.trans eX).trans hxv⟩
     ·go_upto_region 8 with fail
      (refine qF ?_;rintro _ ⟨oq,nq,rfl⟩)
      have HJ1:=aA (HJM.out rfl)
      obtain ⟨V,HB⟩:∃ V,Hid (bE ⟨last,l,js⟩ p ⟨xt,⟨xi,⟨x1,x2,x3⟩⟩,⟨u1,u2,u3⟩⟩ ⟨jt,true⟩=V):=⟨_,rfl⟩
      cases V
      ·go_wp2_with (first|(go_at_call 115;with_reducible refine mo (qD false xt xi x1 x2 x3 u1 u2 u3 jt true _ _ _ _ _ _ _ _ pb mb _ _ _ _ _ _ _ _ _ l js p _ (Sl.below HS3.out (Ext.below eX)) (HP3.out.ext eX) HJ1 HB) fun o1 n1=>?_)|(go_at_call 167;(with_reducible refine (wE _ _ _ _ (by first|omega|decide) (by first|omega|decide) om om).mono ?_);rintro e wv ⟨v1,rfl,hown,hxv⟩))
       go_ret;exact ⟨v1,rfl,by rw [HL.out];simp [hjt,hu,HB.out];exact mA hown (HX3.out.trans eX).below.size,(HX3.out.trans eX).trans hxv⟩
      ·go_wp2_with (first|(go_at_call 115;with_reducible refine mo (qD true xt xi x1 x2 x3 u1 u2 u3 jt true _ _ _ _ _ _ _ _ pb mb _ _ _ _ _ _ _ _ _ l js p _ (Sl.below HS3.out (Ext.below eX)) (HP3.out.ext eX) HJ1 HB) fun o1 n1=>?_)|(go_at_call 114;with_reducible refine mo (nD _ _) fun o1 n1=>?_)|(go_at_call 167;(with_reducible refine (wE _ _ _ _ (by first|omega|decide) (by first|omega|decide) om om).mono ?_);rintro e wv ⟨v1,rfl,hown,hxv⟩))
       go_ret;exact ⟨v1,rfl,by rw [HL.out];simp [hjt,hu,HB.out];exact mA hown (HX3.out.trans eX).below.size,(HX3.out.trans eX).trans hxv⟩
