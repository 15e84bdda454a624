import Derived.Test.YtplomeacjbkgnabGreatDoorZ16
import Derived.Test.YtplomeacjbkgnabGreatDoorZ13
import Derived.Test.YtplomeacjbkgnabGreatDoorZ14
set_option linter.all false
set_option maxRecDepth 100000
set_option maxHeartbeats 16000000
namespace Go.Proofs.YtplomeacjbkgnabGreatDoor
open Go.RowKit Tryz Ch
abbrev turnV (last:Int) (a1:Option Addr) (m1 c1:Nat) (a2:Option Addr) (m2 c2:Nat) (lv:Int) (pb:Nat) (hh ee:Int) (dd:Bool) (pe li ba:Int) (f0 f1 f2:Bool):Value:=
 .agg #[vi last,.slice a1 m1 c1,.slice a2 m2 c2,vi lv,.pointer (some ⟨pb,0,none⟩),vi hh,vi ee,.bool dd,vi pe,vi li,vi ba,.bool f0,.bool f1,.bool f2]
def pC (o:Option Job):Int×Bool×Bool:=match o with|some j=>(j.ticket,j.fetch,true)|none=>(0,false,false)
abbrev wM (b:gB) (ba:Int) (j:Job):Bool:=!j.fetch&&(b.stay j.ticket).car.id==ba
theorem first_hit {b:gB} {ba:Int} {j:Job} (h:b.jobs.find? (wM b ba)=some j):sB b ba=some j:=by
 unfold sB;rw [h]
theorem first_miss {b:gB} {ba:Int} (h:b.jobs.find? (wM b ba)=none):sB b ba=b.jobs.head?:=by
 unfold sB;rw [h]
theorem stay_at {last:Int} {l:List sA} {js:List Job} {t:Int} (h:∃ s∈l,s.ticket=t):
  ∃ (i:Nat) (s:sA),cC (fun s:sA=>s.ticket==t) l=(i:Int)/\l[i]? = some s/\(⟨last,l,js⟩:gB).stay t=s/\s.ticket=t:=by
 rcases hf:l.findIdx? (fun s:sA=>s.ticket==t) with _|i
 ·exfalso
  obtain ⟨s,hs,ht⟩:=h;have:=List.findIdx?_eq_none_iff.1 hf s hs;simp [ht] at this
 ·obtain ⟨hi,hp,-⟩:=List.findIdx?_eq_some_iff_getElem.1 hf
  refine ⟨i,l[i],?_,List.getElem?_eq_getElem hi,?_,by simpa using hp⟩
  ·unfold cC;rw [hf]
  ·unfold gB.stay gB.find
   dsimp only;rw [List.find?_eq_bind_findIdx?_getElem?,hf];simp [List.getElem?_eq_getElem hi]
theorem drop_atT {α:Type} {l:List α} {k:Nat} {x:α} (h:l[k]? = some x):l.drop k=x :: l.drop (k+1):=by
 obtain ⟨hk,e⟩:=List.getElem?_eq_some_iff.1 h;rw [List.drop_eq_getElem_cons hk,e]
theorem find_stay (v:Int) (last t:Int) (a1:Option Addr) (n1 c1:Nat) (a2:Option Addr) (n2 c2:Nat) (l:List sA) (w:World) (h:Sl w 8 iA l a1 n1 c1) (hv:Hid (cC (fun s:sA=>s.ticket==t) l=v)):
  Calls prog 102 #[lC last a1 n1 c1 a2 n2 c2,vi t] w fun e w'=>e = .returned (vi v)/\Ext w w':=by
 have:=find_any last t a1 n1 c1 a2 n2 c2 l w h;rw [hv.out] at this;exact this
theorem gO (v:Int) (last t:Int) (a1:Option Addr) (n1 c1:Nat) (a2:Option Addr) (n2 c2:Nat) (l:List sA) (w:World) (h:Sl w 8 iA l a1 n1 c1) (hv:Hid (cC (fun s:sA=>s.car.id==t) l=v)):
  Calls prog 94 #[lC last a1 n1 c1 a2 n2 c2,vi t] w fun e w'=>e = .returned (vi v)/\Ext w w':=by
 have:=of_any last t a1 n1 c1 a2 n2 c2 l w h;rw [hv.out] at this;exact this
theorem find_drop {α:Type} {P:α->Bool} {l:List α} {k:Nat} {x:α} (hx:l[k]? = some x):(l.drop k).find? P=if P x then some x else (l.drop (k+1)).find? P:=by
 rw [drop_atT hx,List.find?_cons]
 cases P x <;> rfl
theorem put2 {w a:World} {R:Nat} {x y x' y':Value} (hx:Ext w a) (hR:w.heap.size<=R) (c0:a.cell? ⟨R,0,none⟩=some x') (c1:a.cell? ⟨R,1,none⟩=some y'):
  ((a.setCell ⟨R,0,none⟩ x).setCell ⟨R,1,none⟩ y).cell? ⟨R,0,none⟩=some x/\((a.setCell ⟨R,0,none⟩ x).setCell ⟨R,1,none⟩ y).cell? ⟨R,1,none⟩=some y/\Ext w ((a.setCell ⟨R,0,none⟩ x).setCell ⟨R,1,none⟩ y):=by
 have n01:(⟨R,0,none⟩:Addr)≠⟨R,1,none⟩:=by intro e;cases e
 refine ⟨?_,?_,(hx.setCell hR _).setCell hR _⟩
 ·rw [World.cell?_setCell_other (h:=n01.symm),World.cell?_setCell_same (h:=c0)]
 ·rw [World.cell?_setCell_same (h:=(show (a.setCell ⟨R,0,none⟩ x).cell? ⟨R,1,none⟩=some y' by rw [World.cell?_setCell_other (h:=n01)];exact c1))]
theorem first_any (jt:Int) (jf is:Bool) (last:Int) (a1:Option Addr) (m1 c1:Nat) (a2:Option Addr) (m2 c2:Nat) (lv:Int) (pb:Nat) (hh ee:Int) (dd:Bool) (pe li ba:Int) (f0 f1 f2:Bool) (l:List sA) (js:List Job) (w:World)
  (h:Sl w 8 iA l a1 m1 c1) (h2:Sl w 2 jA js a2 m2 c2) (hj:Hid (∀ j∈js,∃ s∈l,s.ticket=j.ticket)) (hv:Hid (pC (sB ⟨last,l,js⟩ ba)=(jt,jf,is))):
  Calls prog 113 #[turnV last a1 m1 c1 a2 m2 c2 lv pb hh ee dd pe li ba f0 f1 f2] w fun e w'=>e = .returned (.tuple #[.agg #[vi jt,.bool jf],.bool is])/\Ext w w':=by
 have b1:=h.bound;have b2:=h2.bound;have HF:=aA h;have HJ:=aA h2;have E1:=aA h.len;have E2:=aA h2.len;clear h h2;go_enter func113,ntmps113
 go_upto_region 2 with fail
 generalize hW:World.alloc _ _=w0;have k0:cI w0 w.heap.size 0 last:=cQ hW;have k1:cV w0 w.heap.size 1 (.slice a1 m1 c1):=cQ hW;have k2:cV w0 w.heap.size 2 (.slice a2 m2 c2):=cQ hW;have k3:cI w0 w.heap.size 10 ba:=cQ hW;have r0:cI w0 (w.heap.size+1) 0 0:=cQ hW;have r1:cV w0 (w.heap.size+1) 1 (.bool false):=cQ hW
 have fz:∀ i,w0.frozen? ⟨w.heap.size+1,i,none⟩=false:=by intro i;rw [<-hW];simp [go_sem]
 have FZ:=aA fz;have hx:Ext w w0:=xQ hW;have HS:=aA (Sl.below HF.out hx.below);have HK:=aA (Sl.below HJ.out hx.below);have HX:=aA hx;have z1:=cA k0;have z2:=cA r0;clear hW hx HF HJ fz
 go_loopw [10] (fun i wr=>∃ k:Nat,k<=m2/\i = .int .i64 k/\Hid (js.find? (wM ⟨last,l,js⟩ ba)=(js.drop k).find? (wM ⟨last,l,js⟩ ba))/\Ext w0 wr) (fun i _=>m2 - (intOf i).toNat)
 case atStart=>exact ⟨0,om,rfl,by simp [Hid],eX⟩
 case round=>
  obtain ⟨k,hk,rfl,HT,o,m,rfl⟩:=hrel
  by_cases hlt:k<m2
  ·obtain ⟨b,q,j,rfl,hj',dj⟩:=HK.out.get hlt
   have dj:=at2 dj;have hq:=cA dj.1;obtain ⟨t,f⟩:=j;dsimp only at dj
   have hk0:(0:Int)<=(k:Int):=om
   have hk1:(k:Int)<=(m2:Int):=om
   have hk2:(k:Int)<=(c2:Int):=om
   have HT2:=find_drop (P:=wM ⟨last,l,js⟩ ba) hj';cases f
   ·obtain ⟨si,⟨st,⟨sid,⟨sl1,sl2,sl3⟩⟩,⟨sp1,sp2,sp3⟩⟩,hsi,hsl,hst,htt⟩:=stay_at (last:=last) (js:=js) (hj.out _ (List.mem_of_getElem? hj'))
    have hsm:si<m1:=by
     have:=E1.out;obtain ⟨h1,_⟩:=List.getElem?_eq_some_iff.1 hsl;omega
    have HI:Hid (cC (fun s:sA=>s.ticket==t) l=(si:Int)):=hsi;obtain ⟨b',q',s',rfl,hs',ds⟩:=HS.out.get hsm;rw [hsl] at hs';cases hs';have ds:=at8 ds;have hq2:=cA ds.1
    have hs0:(0:Int)<=(si:Int):=om
    have hs1:(si:Int)<(m1:Int):=om
    have hs2:(si:Int)<=(c1:Int):=om
    cases hb:decide (sid=ba)
    ·have hbb:¬ sid=ba:=of_decide_eq_false hb
     have HR:Hid (js.find? (wM ⟨last,l,js⟩ ba)=(js.drop (k+1)).find? (wM ⟨last,l,js⟩ ba)):=by
      unfold Hid;rw [HT.out,HT2,if_neg];simp [wM,hst,hbb]
     clear hb HT2 hj' hsl hst hsi HT
     go_upto_region 4 with fail
     generalize hW:World.alloc _ _=w3;have f0':w3.cell? ⟨w0.heap.size+o.size,0,none⟩=some (vi t):=cQ hW;have f1':w3.cell? ⟨w0.heap.size+o.size,1,none⟩=some (.bool false):=cQ hW;have hx3:Ext w0 w3:=xQ hW;have HX3:=aA hx3;obtain ⟨g0,g1,g2,g3,g4,g5⟩:=xe6 hx3 k0 k1 k2 k3 r0 r1;have y0:=kA hx3 (cA r0) (FZ.out 0);have y1:=kA hx3 (cA r0) (FZ.out 1);have gz:=cA f0';have gz0:=cA g0;have gz1:=cA g4;have e0:=gA hx3 ds.1;have e1:=gA hx3 ds.2.1;have gz2:=cA e0;clear hW hx3
     (refine rA kR kR ?_;(repeat (first|go_big_quiet_step ((first|(intro _;go_at_call 102;exact qC (find_stay (si:Int) _ _ _ _ _ _ _ _ l _ (Sl.below HS.out (HX3.out.trans eX).below) HI))))|quiet_step (fail)));refine wpQuiet_nil ?_;rintro _ ⟨oq,nq,rfl⟩)
     go_wp2;go_roundw
     case rel=>first|exact ⟨k+1,om,by go_num,by unfold Hid;rw [HR.out],HX3.out.trans eX⟩|(repeat apply Exists.intro;refine ⟨?_,rfl⟩;exact ⟨k+1,om,by go_num,by unfold Hid;rw [HR.out],HX3.out.trans eX⟩)
     case measure=>simp [intOf];omega
    ·have hbb:sid=ba:=of_decide_eq_true hb
     have hF:=hv.out;rw [first_hit (j:=⟨t,false⟩) (by rw [HT.out,HT2,if_pos];simp [wM,hst,hbb])] at hF;simp only [pC,Prod.mk.injEq] at hF;obtain ⟨rfl,rfl,rfl⟩:=hF;subst hbb;clear hb HT2 hj' hsl hst hsi HT
     go_upto_region 4 with fail
     generalize hW:World.alloc _ _=w3;have f0':w3.cell? ⟨w0.heap.size+o.size,0,none⟩=some (vi t):=cQ hW;have f1':w3.cell? ⟨w0.heap.size+o.size,1,none⟩=some (.bool false):=cQ hW;have hx3:Ext w0 w3:=xQ hW;have HX3:=aA hx3;obtain ⟨g0,g1,g2,g3,g4,g5⟩:=xe6 hx3 k0 k1 k2 k3 r0 r1;have y0:=kA hx3 (cA r0) (FZ.out 0);have y1:=kA hx3 (cA r0) (FZ.out 1);have gz:=cA f0';have gz0:=cA g0;have gz1:=cA g4;have e0:=gA hx3 ds.1;have e1:=gA hx3 ds.2.1;have gz2:=cA e0;clear hW hx3
     (refine rA kR kR ?_;(repeat (first|go_big_quiet_step ((first|(intro _;go_at_call 102;exact qC (find_stay (si:Int) _ _ _ _ _ _ _ _ l _ (Sl.below HS.out (HX3.out.trans eX).below) HI))))|quiet_step (fail)));refine wpQuiet_nil ?_;rintro _ ⟨oq,nq,rfl⟩)
     go_wp2;obtain ⟨p0,p1,px⟩:=put2 (w:=w) (x:=vi t) (y:=.bool false) (HX.out.trans (HX3.out.trans (show Ext w3 (w3.plus oq nq) from eX))) (show w.heap.size<=w.heap.size+1 by omega) (gA (show Ext w3 (w3.plus oq nq) from eX) g4) (gA (show Ext w3 (w3.plus oq nq) from eX) g5);refine bodyPost_ret (v:=.tuple #[.agg #[vi t,.bool false],.bool true]) (by simp [results,results113,go_sem,p0,p1]) rfl ⟨rfl,px⟩
   ·have HR:Hid (js.find? (wM ⟨last,l,js⟩ ba)=(js.drop (k+1)).find? (wM ⟨last,l,js⟩ ba)):=by
     unfold Hid;rw [HT.out,HT2,if_neg];simp [wM]
    clear HT2 hj' HT
    go_upto_region 4 with fail
    generalize hW:World.alloc _ _=w3;have f0':w3.cell? ⟨w0.heap.size+o.size,0,none⟩=some (vi t):=cQ hW;have f1':w3.cell? ⟨w0.heap.size+o.size,1,none⟩=some (.bool true):=cQ hW;have hx3:Ext w0 w3:=xQ hW;have HX3:=aA hx3;obtain ⟨g0,g1,g2,g3,g4,g5⟩:=xe6 hx3 k0 k1 k2 k3 r0 r1;have y0:=kA hx3 (cA r0) (FZ.out 0);have y1:=kA hx3 (cA r0) (FZ.out 1);have gz:=cA f0';have gz0:=cA g0;have gz1:=cA g4;clear hW hx3
    (refine qF ?_;rintro _ ⟨oq,nq,rfl⟩)
    go_wp2;go_roundw
    case rel=>first|exact ⟨k+1,om,by go_num,by unfold Hid;rw [HR.out],HX3.out.trans eX⟩|(repeat apply Exists.intro;refine ⟨?_,rfl⟩;exact ⟨k+1,om,by go_num,by unfold Hid;rw [HR.out],HX3.out.trans eX⟩)
    case measure=>simp [intOf];omega
  ·have y0:=FZ.out 0
   have y1:=FZ.out 1
   have hk':k=m2:=om
   have hF:=hv.out;rw [first_miss (by rw [HT.out,List.drop_of_length_le (by have:=E2.out;omega)];rfl)] at hF;clear HT
   cases js with
   | nil=>
    have hm0:m2=0:=by have:=E2.out;simpa using this.symm
    simp only [List.head?_nil,pC,Prod.mk.injEq] at hF;obtain ⟨rfl,rfl,rfl⟩:=hF;subst hm0;go_wp2;obtain ⟨p0,p1,px⟩:=put2 (w:=w) (x:=vi 0) (y:=.bool false) (HX.out.trans (show Ext w0 (w0.plus o m) from eX)) (show w.heap.size<=w.heap.size+1 by omega) (gA (show Ext w0 (w0.plus o m) from eX) r0) (gA (show Ext w0 (w0.plus o m) from eX) r1);refine bodyPost_ret (v:=.tuple #[.agg #[vi 0,.bool false],.bool false]) (by simp [results,results113,go_sem,p0,p1]) rfl ⟨rfl,px⟩
   | cons j js=>
    have hm0:0<m2:=by have:=E2.out;simp at this;omega
    simp only [List.head?_cons,pC,Prod.mk.injEq] at hF;obtain ⟨b,q,j',rfl,hj',dj⟩:=HK.out.get hm0;simp only [List.getElem?_cons_zero,Option.some.injEq] at hj';subst hj';obtain ⟨t,f⟩:=j;dsimp only at hF;obtain ⟨rfl,rfl,rfl⟩:=hF;have dj:=at2 dj;have hq:=cA dj.1
    have hmi:(0:Int)<(m2:Int):=om
    have hmn:¬ (m2:Int)=0:=om
    have hmc:(m2:Int)<=(c2:Int):=om
    simp only [Nat.zero_mul,Nat.add_zero] at dj;go_wp2;obtain ⟨p0,p1,px⟩:=put2 (w:=w) (x:=vi t) (y:=.bool f) (HX.out.trans (show Ext w0 (w0.plus o m) from eX)) (show w.heap.size<=w.heap.size+1 by omega) (gA (show Ext w0 (w0.plus o m) from eX) r0) (gA (show Ext w0 (w0.plus o m) from eX) r1);refine bodyPost_ret (v:=.tuple #[.agg #[vi t,.bool f],.bool true]) (by simp [results,results113,go_sem,p0,p1]) rfl ⟨rfl,px⟩
def qI (o:Option pB):Value:=.tuple #[pD (o.getD ⟨0,0,0⟩),.bool o.isSome]
theorem findw_next {α:Type} {P:α->Bool} {l:List α} {k:Nat} {x:α} (hx:l[k]? = some x):(l.drop k).find? P=if P x then some x else (l.drop (k+1)).find? P:=by
 have hk:k<l.length:=by
  rcases Nat.lt_or_ge k l.length with h1|h1
  ·exact h1
  ·rw [List.getElem?_eq_none h1] at hx;cases hx
 rw [List.drop_eq_getElem_cons hk,List.find?_cons];rw [List.getElem?_eq_getElem hk] at hx;cases hx
 cases P l[k] <;> rfl
def aF (p:dA) (id n:Int) (k:Nat):Option pB:=((dG n).drop k).find? (cH p id)
theorem tK {p:dA} {id n:Int} (h4:n<=4) {a s d:Nat} (ha:1<=a) (han:(a:Int)<=n) (hs:s<2) (hd:d<2) (hw:cH p id ⟨(a:Int),(s:Int),(d:Int)⟩=false):
  aF p id n (4 * (a - 1)+2 * s+d)=aF p id n (4 * (a - 1)+2 * s+(d+1)):=by
 have h:=place_nth h4 (k:=a - 1) (s:=s) (d:=d) om hs hd;rw [show ((a - 1:Nat):Int)+1=(a:Int) by omega] at h;unfold aF;rw [findw_next h,hw];rfl
theorem where_yes {p:dA} {id n:Int} (h4:n<=4) {a s d:Nat} (ha:1<=a) (han:(a:Int)<=n) (hs:s<2) (hd:d<2) (hw:cH p id ⟨(a:Int),(s:Int),(d:Int)⟩=true):
  aF p id n (4 * (a - 1)+2 * s+d)=some ⟨(a:Int),(s:Int),(d:Int)⟩:=by
 have h:=place_nth h4 (k:=a - 1) (s:=s) (d:=d) om hs hd;rw [show ((a - 1:Nat):Int)+1=(a:Int) by omega] at h;unfold aF;rw [findw_next h,hw];rfl
theorem put3w {w a:World} {R:Nat} {x y z x' y' z':Value} (hx:Ext w a) (hR:w.heap.size<=R) (c0:a.cell? ⟨R,0,none⟩=some x') (c1:a.cell? ⟨R,1,none⟩=some y') (c2:a.cell? ⟨R,2,none⟩=some z'):
  (((a.setCell ⟨R,0,none⟩ x).setCell ⟨R,1,none⟩ y).setCell ⟨R,2,none⟩ z).cell? ⟨R,0,none⟩=some x/\(((a.setCell ⟨R,0,none⟩ x).setCell ⟨R,1,none⟩ y).setCell ⟨R,2,none⟩ z).cell? ⟨R,1,none⟩=some y /\
  (((a.setCell ⟨R,0,none⟩ x).setCell ⟨R,1,none⟩ y).setCell ⟨R,2,none⟩ z).cell? ⟨R,2,none⟩=some z/\Ext w (((a.setCell ⟨R,0,none⟩ x).setCell ⟨R,1,none⟩ y).setCell ⟨R,2,none⟩ z):=by
 have n01:(⟨R,0,none⟩:Addr)≠⟨R,1,none⟩:=by intro e;cases e
 have n02:(⟨R,0,none⟩:Addr)≠⟨R,2,none⟩:=by intro e;cases e
 have n12:(⟨R,1,none⟩:Addr)≠⟨R,2,none⟩:=by intro e;cases e
 refine ⟨?_,?_,?_,?_⟩
 ·rw [World.cell?_setCell_other (h:=n02.symm),World.cell?_setCell_other (h:=n01.symm),World.cell?_setCell_same (h:=c0)]
 ·rw [World.cell?_setCell_other (h:=n12.symm),World.cell?_setCell_same (h:=(show (a.setCell ⟨R,0,none⟩ x).cell? ⟨R,1,none⟩=some y' by rw [World.cell?_setCell_other (h:=n01)];exact c1))]
 ·rw [World.cell?_setCell_same (h:=(show ((a.setCell ⟨R,0,none⟩ x).setCell ⟨R,1,none⟩ y).cell? ⟨R,2,none⟩=some z' by rw [World.cell?_setCell_other (h:=n12),World.cell?_setCell_other (h:=n02)];exact c2))]
 ·exact Ext.of_below (bF (S:=fun i=>w.heap.size<=i) (Ext.refl w).below (Nat.le_refl _) ((((fA.of_ext hx).setCell (Or.inl hR) _).setCell (Or.inl hR) _).setCell (Or.inl hR) _) (fun _ h=>h))
theorem where_any {pb mb:Nat} {p:dA} {w:World} (h:yA w pb mb p) (hp:p.WF) (id:Int):
  Calls prog 193 #[.pointer (some ⟨pb,0,none⟩),vi id] w fun e w'=>e = .returned (qI (p.where_ id))/\Ext w w':=by
 have HP0:=aA h;have hb:=h.lt;have hbw:=h.lt.1;have h4:(p.levels:Int)<=4:=hp.lv2;have h41:(1:Int)<=p.levels:=hp.lv1;have HW:Hid (p.where_ id=aF p id p.levels 0):=where_find p id;clear h;go_enter func193,ntmps193
 go_upto_region 1 with fail
 generalize hW:World.alloc _ _=w0;have r0:cI w0 w.heap.size 0 0:=cQ hW;have r1:cI w0 w.heap.size 1 0:=cQ hW;have r2:cI w0 w.heap.size 2 0:=cQ hW
 have fz:∀ i,w0.frozen? ⟨w.heap.size,i,none⟩=false:=by intro i;rw [<-hW];simp [go_sem]
 have hx:Ext w w0:=xQ hW;have HX:=aA hx;have HP:=aA (HP0.out.ext hx);have FZ:=aA fz;have hlev0:=HP.out.cells.1;have zlev:=cA hlev0;clear hW hx HP0 fz hb;go_wp2
 go_loopw [6] (fun i wr=>∃ a:Nat,1<=a/\(a:Int)<=p.levels+1/\i = .int .i64 (a:Int)/\Hid (p.where_ id=aF p id p.levels (4 * (a - 1)))/\Ext w0 wr) (fun i _=>(5 - intOf i).toNat)
 case atStart=>exact ⟨1,om,om,rfl,HW,eX⟩
 case round=>
  obtain ⟨a,ha,han',rfl,HR1,hxr⟩:=hrel;have HXR:=aA hxr;have hlev:=gA hxr hlev0;have zl:=cA hlev;clear hxr
  by_cases han:(a:Int)<=p.levels
  ·go_wp2
   go_loopw [18] (fun i wr=>∃ s:Nat,s<=2/\i = .int .i64 (s:Int)/\Hid (p.where_ id=aF p id p.levels (4 * (a - 1)+2 * s))/\Ext w0 wr) (fun i _=>(2 - intOf i).toNat)
   case atStart=>exact ⟨0,om,rfl,HR1,HXR.out.trans eX⟩
   case round=>
    obtain ⟨s,hs,rfl,HR2,hxr⟩:=hrel;have HXR:=aA hxr;clear hxr
    by_cases hs2:s<2
    ·have js:(s:Int)<2:=om
     go_wp2
     go_loopw [21] (fun i wr=>∃ d:Nat,d<=2/\i = .int .i64 (d:Int)/\Hid (p.where_ id=aF p id p.levels (4 * (a - 1)+2 * s+d))/\Ext w0 wr) (fun i _=>(2 - intOf i).toNat)
     case atStart=>exact ⟨0,om,rfl,HR2,HXR.out.trans eX⟩
     case round=>
      obtain ⟨d,hd,rfl,HR3,hxr⟩:=hrel;have HXR:=aA hxr;clear hxr;have hR:w.heap.size<w0.heap.size:=cA r0
      by_cases hlt:d<2
      ·have hcell:=(HP.out.ext HXR.out).cells.2.2.2.2.2.2.2.1
       have hlev:=(HP.out.ext HXR.out).cells.1
       have j2:(0:Int)<=(s:Int):=om
       have j3:(s:Int)<2:=om
       have j4:(0:Int)<=(d:Int):=om
       have j5:(d:Int)<2:=om
       have hbr:=(HP.out.ext HXR.out).lt.1
       have hlk:∀ o n,(Instr.lookup 93 (.map (some mb)) (.agg #[vi (a:Int),vi (s:Int),vi (d:Int)]) false).run prog (World.plus (wr.alloc (.cells #[vi (a:Int),vi (s:Int),vi (d:Int)] 89)) o n) = .ok (vi (p.slots ⟨(a:Int),(s:Int),(d:Int)⟩)) (World.plus (wr.alloc (.cells #[vi (a:Int),vi (s:Int),vi (d:Int)] 89)) o n):=fun o n=>by
        obtain ⟨l,k,hs⟩:=((HP.out.ext HXR.out).ext (w':=World.plus (wr.alloc (.cells #[vi (a:Int),vi (s:Int),vi (d:Int)] 89)) o n) eX).slots;exact hs.look ⟨(a:Int),(s:Int),(d:Int)⟩
       cases e0:(id != 0)
       ·have HNO:Hid (cH p id ⟨(a:Int),(s:Int),(d:Int)⟩=false):=by unfold Hid cH;rw [e0];rfl
        go_upto_region 11 with fail
        (refine qF ?_;rintro _ ⟨oq,nq,rfl⟩)
        go_wp2;go_roundw
        case rel=>first|exact ⟨d+1,om,by go_num,by unfold Hid;rw [HR3.out];exact tK h4 ha han hs2 hlt HNO.out,HXR.out.trans eX⟩|(repeat apply Exists.intro;refine ⟨?_,rfl⟩;exact ⟨d+1,om,by go_num,by unfold Hid;rw [HR3.out];exact tK h4 ha han hs2 hlt HNO.out,HXR.out.trans eX⟩)
        case measure=>simp [intOf];omega
       ·cases e1:(p.slots ⟨(a:Int),(s:Int),(d:Int)⟩==id)
        ·have HNO:Hid (cH p id ⟨(a:Int),(s:Int),(d:Int)⟩=false):=by unfold Hid cH;rw [e0,e1];rfl
         go_upto_region 11 with fail
         (refine qF ?_;rintro _ ⟨oq,nq,rfl⟩)
         go_wp2;go_roundw
         case rel=>first|exact ⟨d+1,om,by go_num,by unfold Hid;rw [HR3.out];exact tK h4 ha han hs2 hlt HNO.out,HXR.out.trans eX⟩|(repeat apply Exists.intro;refine ⟨?_,rfl⟩;exact ⟨d+1,om,by go_num,by unfold Hid;rw [HR3.out];exact tK h4 ha han hs2 hlt HNO.out,HXR.out.trans eX⟩)
         case measure=>simp [intOf];omega
        ·have HYES:Hid (p.where_ id=some ⟨(a:Int),(s:Int),(d:Int)⟩):=by unfold Hid;rw [HR3.out];exact where_yes h4 ha han hs2 hlt (by unfold cH;rw [e0,e1];rfl)
         go_upto_region 11 with fail
         (refine qF ?_;rintro _ ⟨oq,nq,rfl⟩)
         go_upto_region 12 with fail
         generalize hZ:World.plus _ _ _=wz;have hxz:Ext wr wz:=xQ hZ;have q0:cI wz wr.heap.size 0 (a:Int):=cQ hZ;have q1:cI wz wr.heap.size 1 (s:Int):=cQ hZ;have q2:cI wz wr.heap.size 2 (d:Int):=cQ hZ;clear hZ;have hlev:=gA hxz hlev;have zq:=cA q0;have zl:=cA hlev;have HXZ:=aA (HXR.out.trans hxz);clear hxz hcell hlk
         have HNIL:Hid (aC (uA ⟨(a:Int),(s:Int),(d:Int)⟩ p.levels) = .nilIface):=by unfold Hid;rw [where_ok HYES.out];rfl
         have y0:=kA HXZ.out hR (FZ.out 0);have y1:=kA HXZ.out hR (FZ.out 1);have y2:=kA HXZ.out hR (FZ.out 2);have t0:=gA HXZ.out r0;have t1:=gA HXZ.out r1;have t2:=gA HXZ.out r2
         have zr:w.heap.size<wz.heap.size:=by have:=HXZ.out.below.size;omega
         have u0:∀ o n,(wz.drew.plus o n).cell? ⟨w.heap.size,0,none⟩=some (vi 0):=fun o n=>gA (w:=wz) (Ext.plus (Ext.drew (Ext.refl _)) o n) t0
         have u1:∀ o n,(wz.drew.plus o n).cell? ⟨w.heap.size,1,none⟩=some (vi 0):=fun o n=>gA (w:=wz) (Ext.plus (Ext.drew (Ext.refl _)) o n) t1
         have u2:∀ o n,(wz.drew.plus o n).cell? ⟨w.heap.size,2,none⟩=some (vi 0):=fun o n=>gA (w:=wz) (Ext.plus (Ext.drew (Ext.refl _)) o n) t2
         have v0:∀ o n,(wz.drew.plus o n).frozen? ⟨w.heap.size,0,none⟩=false:=fun o n=>kA (w:=wz) (Ext.plus (Ext.drew (Ext.refl _)) o n) zr y0
         have v1:∀ o n,(wz.drew.plus o n).frozen? ⟨w.heap.size,1,none⟩=false:=fun o n=>kA (w:=wz) (Ext.plus (Ext.drew (Ext.refl _)) o n) zr y1
         have v2:∀ o n,(wz.drew.plus o n).frozen? ⟨w.heap.size,2,none⟩=false:=fun o n=>kA (w:=wz) (Ext.plus (Ext.drew (Ext.refl _)) o n) zr y2
         have zwr:w.heap.size<wr.heap.size:=by have:=HXR.out.below.size;omega
         have ne1:¬ wr.heap.size=w.heap.size:=om
         have ne2:¬ w.heap.size=wr.heap.size:=om
         have ne3:¬ pb=w.heap.size:=om
         have ne4:¬ w.heap.size=pb:=om
         have k0:∀ o n,(wz.drew.plus o n).cell? ⟨wr.heap.size,0,none⟩=some (vi (a:Int)):=fun o n=>gA (w:=wz) (Ext.plus (Ext.drew (Ext.refl _)) o n) q0
         have k1:∀ o n,(wz.drew.plus o n).cell? ⟨wr.heap.size,1,none⟩=some (vi (s:Int)):=fun o n=>gA (w:=wz) (Ext.plus (Ext.drew (Ext.refl _)) o n) q1
         have k2:∀ o n,(wz.drew.plus o n).cell? ⟨wr.heap.size,2,none⟩=some (vi (d:Int)):=fun o n=>gA (w:=wz) (Ext.plus (Ext.drew (Ext.refl _)) o n) q2
         have k3:∀ o n,(wz.drew.plus o n).cell? ⟨pb,0,none⟩=some (vi p.levels):=fun o n=>gA (w:=wz) (Ext.plus (Ext.drew (Ext.refl _)) o n) hlev
         have HU:=aA u0;have HU1:=aA u1;have HU2:=aA u2
         go_region_held3 (fun w'=>w'.cell? ⟨wr.heap.size,0,none⟩=some (vi (a:Int))/\w'.cell? ⟨wr.heap.size,1,none⟩=some (vi (s:Int))/\w'.cell? ⟨wr.heap.size,2,none⟩=some (vi (d:Int))/\w'.cell? ⟨pb,0,none⟩=some (vi p.levels))
          (first|go_keep|((try dsimp only);(repeat' apply And.intro) <;> (simp (disch:=(first|assumption|(simp;done)|(simp;omega))) [cB,go_sem, *];done)))
          (first|(go_simp;go_at_call 189;refine (sF (a:Int) (s:Int) (d:Int) p.levels _).mono ?_;rintro e w1 ⟨he1,o1,n1,rfl⟩;rw [HNIL.out] at he1;subst he1))
         go_wp2;obtain ⟨p0,p1,p2,px⟩:=put3w (w:=w) (a:=wz.drew.plus o1 n1) (R:=w.heap.size) (x:=vi (a:Int)) (y:=vi (s:Int)) (z:=vi (d:Int)) ((HX.out.trans HXZ.out).trans eX) (Nat.le_refl _) (HU.out _ _) (HU1.out _ _) (HU2.out _ _);exact bodyPost_ret (v:=.tuple #[.agg #[vi (a:Int),vi (s:Int),vi (d:Int)],.bool true]) (by simp [results,results193,go_sem,p0,p1,p2]) rfl ⟨by rw [HYES.out];rfl,px⟩
      ·have hd2:d=2:=om
       subst hd2;go_wp2;go_roundw
       case rel=>first|exact ⟨s+1,om,by go_num,by unfold Hid;rw [HR3.out];exact congrArg _ om,HXR.out.trans eX⟩|(repeat apply Exists.intro;refine ⟨?_,rfl⟩;exact ⟨s+1,om,by go_num,by unfold Hid;rw [HR3.out];exact congrArg _ om,HXR.out.trans eX⟩)
       case measure=>simp [intOf];omega
    ·have hs3:s=2:=om
     subst hs3;go_wp2;go_roundw
     case rel=>first|exact ⟨a+1,om,om,by go_num,by unfold Hid;rw [HR2.out];exact congrArg _ om,HXR.out.trans eX⟩|(repeat apply Exists.intro;refine ⟨?_,rfl⟩;exact ⟨a+1,om,om,by go_num,by unfold Hid;rw [HR2.out];exact congrArg _ om,HXR.out.trans eX⟩)
     case measure=>simp [intOf];omega
  ·have hend:Hid (p.where_ id=none):=by
    unfold Hid;rw [HR1.out];unfold aF;rw [List.drop_of_length_le (by rw [all_len om h4];omega)];rfl
   have y0:=kA HXR.out (cA r0) (FZ.out 0);have y1:=kA HXR.out (cA r0) (FZ.out 1);have y2:=kA HXR.out (cA r0) (FZ.out 2);have t0:=gA HXR.out r0;have t1:=gA HXR.out r1;have t2:=gA HXR.out r2;go_wp2;obtain ⟨p0,p1,p2,px⟩:=put3w (w:=w) (a:=wr) (R:=w.heap.size) (x:=vi 0) (y:=vi 0) (z:=vi 0) (HX.out.trans HXR.out) (Nat.le_refl _) t0 t1 t2;exact bodyPost_ret (v:=.tuple #[.agg #[vi 0,vi 0,vi 0],.bool false]) (by simp [results,results193,go_sem,p0,p1,p2]) rfl ⟨by rw [hend.out];rfl,px⟩
