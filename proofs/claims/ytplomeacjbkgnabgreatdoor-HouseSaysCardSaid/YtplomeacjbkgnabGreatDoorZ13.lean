import Derived.Test.YtplomeacjbkgnabGreatDoorZ12
set_option linter.all false
set_option maxRecDepth 100000
set_option maxHeartbeats 16000000
namespace Go.Proofs.YtplomeacjbkgnabGreatDoor
open Go.RowKit
def doP (l:List Ch.Stay) (js:List Ch.Job) (levels:List Ch.Size) (s:Ch.Size) (p:Ch.Place):Bool:=
 Ch.fits s (levels.getD (p.level - 1).toNat default)&&!hasB l p.level p.side p.depth&&!hasB l p.level p.side 0&&!waitsB l js p.level p.side p.depth
theorem pick_doP (last:Int) (l:List Ch.Stay) (js:List Ch.Job) (levels:List Ch.Size) (c:Ch.Car):Ch.pick ⟨last,l,js⟩ levels c=(Ch.places levels.length).find? (doP l js levels c.size):=by
 unfold Ch.pick
 congr 1
 funext p
 rw [hasB_home,hasB_home,waitsB_waits];rfl
def pickV (o:Option Ch.Place):Value:=.tuple #[eC (o.getD ⟨0,0,0⟩),.bool o.isSome]
theorem tG {α:Type} {P:α→Bool} {l:List α} {k:Nat} {x:α} (hx:l[k]? = some x) (h:P x=false):(l.drop k).find? P=(l.drop (k+1)).find? P:=by
 have hk:k<l.length:=by
  rcases Nat.lt_or_ge k l.length with h1|h1
  ·exact h1
  ·rw [List.getElem?_eq_none h1] at hx;cases hx
 rw [List.drop_eq_getElem_cons hk,List.find?_cons];rw [List.getElem?_eq_getElem hk] at hx;cases hx;rw [h]
theorem find_yes {α:Type} {P:α→Bool} {l:List α} {k:Nat} {x:α} (hx:l[k]? = some x) (h:P x=true):(l.drop k).find? P=some x:=by
 have hk:k<l.length:=by
  rcases Nat.lt_or_ge k l.length with h1|h1
  ·exact h1
  ·rw [List.getElem?_eq_none h1] at hx;cases hx
 rw [List.drop_eq_getElem_cons hk,List.find?_cons];rw [List.getElem?_eq_getElem hk] at hx;cases hx;rw [h]
theorem put3 {w a:World} {R:Nat} {x y z x' y' z':Value} (hx:Ext w a) (hR:w.heap.size≤R) (c0:a.cell? ⟨R,0,none⟩=some x') (c1:a.cell? ⟨R,1,none⟩=some y') (c2:a.cell? ⟨R,2,none⟩=some z'):
  (((a.setCell ⟨R,0,none⟩ x).setCell ⟨R,1,none⟩ y).setCell ⟨R,2,none⟩ z).cell? ⟨R,0,none⟩=some x∧(((a.setCell ⟨R,0,none⟩ x).setCell ⟨R,1,none⟩ y).setCell ⟨R,2,none⟩ z).cell? ⟨R,1,none⟩=some y ∧
  (((a.setCell ⟨R,0,none⟩ x).setCell ⟨R,1,none⟩ y).setCell ⟨R,2,none⟩ z).cell? ⟨R,2,none⟩=some z∧Ext w (((a.setCell ⟨R,0,none⟩ x).setCell ⟨R,1,none⟩ y).setCell ⟨R,2,none⟩ z):=by
 have n01:(⟨R,0,none⟩:Addr)≠⟨R,1,none⟩:=by intro e;cases e
 have n02:(⟨R,0,none⟩:Addr)≠⟨R,2,none⟩:=by intro e;cases e
 have n12:(⟨R,1,none⟩:Addr)≠⟨R,2,none⟩:=by intro e;cases e
 refine ⟨?_,?_,?_,?_⟩
 ·rw [World.cell?_setCell_other (h:=n02.symm),World.cell?_setCell_other (h:=n01.symm),World.cell?_setCell_same (h:=c0)]
 ·rw [World.cell?_setCell_other (h:=n12.symm),World.cell?_setCell_same (h:=(show (a.setCell ⟨R,0,none⟩ x).cell? ⟨R,1,none⟩=some y' by rw [World.cell?_setCell_other (h:=n01)];exact c1))]
 ·rw [World.cell?_setCell_same (h:=(show ((a.setCell ⟨R,0,none⟩ x).setCell ⟨R,1,none⟩ y).cell? ⟨R,2,none⟩=some z' by rw [World.cell?_setCell_other (h:=n12),World.cell?_setCell_other (h:=n02)];exact c2))]
 ·exact Ext.of_below (xD (S:=fun i=>w.heap.size≤i) (Ext.refl w).below (Nat.le_refl _) ((((mA.of_ext hx).setCell (Or.inl hR) _).setCell (Or.inl hR) _).setCell (Or.inl hR) _) (fun _ h=>h))
theorem pick_any (last id lo hi he:Int) (a1:Option Addr) (m1 c1:Nat) (a2:Option Addr) (m2 c2:Nat) (aL:Option Addr) (nL cL:Nat) (l:List Ch.Stay) (js:List Ch.Job) (ls:List Ch.Size) (w:World)
  (h:Sl w 8 gA l a1 m1 c1) (h2:Sl w 2 jA js a2 m2 c2) (hL:Sl w 3 lB ls aL nL cL) (n1':1≤nL) (n4:nL≤4):
  Calls Tryz.prog 95 #[rB last a1 m1 c1 a2 m2 c2,.slice aL nL cL,.agg #[vi id,vi lo,vi hi,vi he]] w fun e w'=>e = .returned (pickV (Ch.pick ⟨last,l,js⟩ ls ⟨id,⟨lo,hi,he⟩⟩))∧Ext w w':=by
 have b1:=hL.bound;have HF:=aA h;have HJ:=aA h2;have HL:=aA hL;have E3:=aA hL.len
 have i1:(1:Int)≤(nL:Int):=by omega
 have i4:(nL:Int)≤4:=by omega
 have hcf:∀ args w,(callFunc 152 args).run Tryz.prog w = .ok (.enter 152 args) w:=fun args w=>by kernel_rfl
 clear h h2 hL;go_enter Tryz.func95,Tryz.ntmps95
 go_upto_region 3 with (go_at_call 155;refine (oG _ _ i1 i4).mono ?_;rintro e w1 hh;obtain ⟨pa,pn,pc,rfl,hpl,oP,nP,rfl⟩:=dE.sl hh;clear hh)
 have hpb:=hpl.bound;have HPN:=aA hpl.len;have HPL0:=aA hpl;clear hpl
 generalize hW:World.plus _ _ _=w0 at HPL0 ⊢
 have k0:w0.cell? ⟨w.heap.size,0,none⟩=some (vi last):=by rw [←hW,yA _ _ _ _ _ _ (by first|(simp;done)|(simp;omega))];simp [go_sem]
 have k1:w0.cell? ⟨w.heap.size,1,none⟩=some (.slice a1 m1 c1):=by rw [←hW,yA _ _ _ _ _ _ (by first|(simp;done)|(simp;omega))];simp [go_sem]
 have k2:w0.cell? ⟨w.heap.size,2,none⟩=some (.slice a2 m2 c2):=by rw [←hW,yA _ _ _ _ _ _ (by first|(simp;done)|(simp;omega))];simp [go_sem]
 have q1:w0.cell? ⟨w.heap.size+1,1,none⟩=some (vi lo):=by rw [←hW,yA _ _ _ _ _ _ (by first|(simp;done)|(simp;omega))];simp [go_sem]
 have q2:w0.cell? ⟨w.heap.size+1,2,none⟩=some (vi hi):=by rw [←hW,yA _ _ _ _ _ _ (by first|(simp;done)|(simp;omega))];simp [go_sem]
 have q3:w0.cell? ⟨w.heap.size+1,3,none⟩=some (vi he):=by rw [←hW,yA _ _ _ _ _ _ (by first|(simp;done)|(simp;omega))];simp [go_sem]
 have r0:w0.cell? ⟨w.heap.size+1+1,0,none⟩=some (vi 0):=by rw [←hW,yA _ _ _ _ _ _ (by first|(simp;done)|(simp;omega))];simp [go_sem]
 have r1:w0.cell? ⟨w.heap.size+1+1,1,none⟩=some (vi 0):=by rw [←hW,yA _ _ _ _ _ _ (by first|(simp;done)|(simp;omega))];simp [go_sem]
 have r2:w0.cell? ⟨w.heap.size+1+1,2,none⟩=some (vi 0):=by rw [←hW,yA _ _ _ _ _ _ (by first|(simp;done)|(simp;omega))];simp [go_sem]
 have fz:∀ i,w0.frozen? ⟨w.heap.size+1+1,i,none⟩=false:=by intro i;rw [←hW,iI _ _ _ _ _ _ (by first|(simp;done)|(simp;omega))];simp [go_sem]
 have hx:Ext w w0:=xQ hW;have HX:=aA hx;have HS:=aA (Sl.below HF.out hx.below);have HK:=aA (Sl.below HJ.out hx.below);have HZ:=aA (Sl.below HL.out hx.below);have z1:=dA k0;have z2:=dA q1;have z3:=dA r0;have FZ:=aA fz;clear hW hx HF HJ HL fz
 have HPK:Hid (Ch.pick ⟨last,l,js⟩ ls ⟨id,⟨lo,hi,he⟩⟩=(Ch.places (nL:Int)).find? (doP l js ls ⟨lo,hi,he⟩)):=by unfold Hid;rw [pick_doP,E3.out]
 go_loopw [16] (fun i wr=>∃ k:Nat,k≤pn∧i = .int .i64 k∧Hid ((Ch.places (nL:Int)).find? (doP l js ls ⟨lo,hi,he⟩)=((Ch.places (nL:Int)).drop k).find? (doP l js ls ⟨lo,hi,he⟩))∧Ext w0 wr) (fun i _=>pn - (intOf i).toNat)
 case atStart=>exact ⟨0,by omega,rfl,by simp [Hid],eX⟩
 case round=>
  obtain ⟨k,hk,rfl,HT,o,m,rfl⟩:=hrel
  by_cases hlt:k<pn
  ·obtain ⟨b,q,x,rfl,hx,dx⟩:=HPL0.out.get hlt
   have dx:=at3 dx;have hq:=dA dx.1;have HXX:=aA hx;have hok:=Ch.places_ok (n:=(nL:Int)) i4 x (List.mem_of_getElem? hx);have hokk:=Ch.placeFault_iff.1 hok;obtain ⟨u,v,z⟩:=x;dsimp only at dx hokk
   obtain ⟨j,rfl⟩:∃ j:Nat,u=(j:Int)+1:=⟨(u - 1).toNat,by omega⟩
   have hjl:j<nL:=by omega
   have hj0:(0:Int)≤(j:Int):=by omega
   have hj1:(j:Int)<(nL:Int):=by omega
   have hw1:IntKind.i64.wrap (j:Int)=(j:Int):=IntWalk.i64_in _ (by omega)
   have hw2:IntKind.i64.wrap ((j:Int)+1 - 1)=(j:Int):=by rw [show (j:Int)+1 - 1=j by omega];exact hw1
   obtain ⟨lb,lq,s,rfl,hs,ds⟩:=HZ.out.get hjl;have ds:=at3 ds;have hlb:=dA ds.1;obtain ⟨s0,s1,s2⟩:=s;dsimp only at ds
   have HD:Hid (doP l js ls ⟨lo,hi,he⟩ ⟨(j:Int)+1,v,z⟩=(Ch.fits ⟨lo,hi,he⟩ ⟨s0,s1,s2⟩&&!hasB l ((j:Int)+1) v z&&!hasB l ((j:Int)+1) v 0&&!waitsB l js ((j:Int)+1) v z)):=by
    unfold Hid doP;dsimp only;rw [show ((j:Int)+1 - 1).toNat=j by omega,List.getD_eq_getElem?_getD,hs];rfl
   clear hx hok hokk hs;cases hf:Ch.fits ⟨lo,hi,he⟩ ⟨s0,s1,s2⟩
   ·have HNO:Hid (doP l js ls ⟨lo,hi,he⟩ ⟨(j:Int)+1,v,z⟩=false):=by unfold Hid;rw [HD.out,hf];rfl
    go_upto_region 5 with fail
    generalize hW:World.alloc _ _=w3;have f0:w3.cell? ⟨w0.heap.size+o.size,0,none⟩=some (vi ((j:Int)+1)):=cQ hW;have f1:w3.cell? ⟨w0.heap.size+o.size,1,none⟩=some (vi v):=cQ hW;have f2:w3.cell? ⟨w0.heap.size+o.size,2,none⟩=some (vi z):=cQ hW;have hx3:Ext w0 w3:=xQ hW;have HX3:=aA hx3;have g0:=iA hx3 k0;have g1:=iA hx3 k1;have g2:=iA hx3 k2;have gq1:=iA hx3 q1;have gq2:=iA hx3 q2;have gq3:=iA hx3 q3;have gr0:=iA hx3 r0;have gr1:=iA hx3 r1;have gr2:=iA hx3 r2;have gl0:=iA hx3 ds.1;have gl1:=iA hx3 ds.2.1;have gl2:=iA hx3 ds.2.2;have gz:=dA f0;have gz0:=dA g0;have gz1:=dA gq1;have gz2:=dA gr0;have gz3:=dA gl0;clear hW hx3
    (refine fA kR kR ?_;(repeat (first|go_big_quiet_step ((first|(intro _;go_at_call 88;exact qC (fits_f _ _ _ _ _ _ _))|(intro _;go_at_call 156;exact qC (jJ _ _ _ _))|(intro _;go_at_call 152;exact qC (vI _ _ _ w.heap.size a1 m1 c1 l _ (iA (w:=w3) eX g1) (Sl.below HS.out (HX3.out.trans eX).below)))|(intro _;go_at_call 157;exact qC (tI _ _ _ _ _ _ _ _ _ _ l js _ (Sl.below HS.out (HX3.out.trans eX).below) (Sl.below HK.out (HX3.out.trans eX).below)))))|quiet_step (fail)));refine wpQuiet_nil ?_;rintro _ ⟨oq,nq,rfl⟩)
    go_wp2;go_roundw
    case rel=>first|exact ⟨k+1,by omega,by go_num,by unfold Hid;rw [HT.out];exact tG HXX.out HNO.out,HX3.out.trans eX⟩|(repeat apply Exists.intro;refine ⟨?_,rfl⟩;exact ⟨k+1,by omega,by go_num,by unfold Hid;rw [HT.out];exact tG HXX.out HNO.out,HX3.out.trans eX⟩)
    case measure=>simp [intOf];omega
   ·cases hb1:hasB l ((j:Int)+1) v z
    ·cases hb2:hasB l ((j:Int)+1) v 0
     ·cases hb3:waitsB l js ((j:Int)+1) v z
      ·have HYES:Hid (doP l js ls ⟨lo,hi,he⟩ ⟨(j:Int)+1,v,z⟩=true):=by unfold Hid;rw [HD.out,hf,hb1,hb2,hb3];rfl
       go_upto_region 5 with fail
       generalize hW:World.alloc _ _=w3;have f0:w3.cell? ⟨w0.heap.size+o.size,0,none⟩=some (vi ((j:Int)+1)):=cQ hW;have f1:w3.cell? ⟨w0.heap.size+o.size,1,none⟩=some (vi v):=cQ hW;have f2:w3.cell? ⟨w0.heap.size+o.size,2,none⟩=some (vi z):=cQ hW;have hx3:Ext w0 w3:=xQ hW;have HX3:=aA hx3;have g0:=iA hx3 k0;have g1:=iA hx3 k1;have g2:=iA hx3 k2;have gq1:=iA hx3 q1;have gq2:=iA hx3 q2;have gq3:=iA hx3 q3;have gr0:=iA hx3 r0;have gr1:=iA hx3 r1;have gr2:=iA hx3 r2;have gl0:=iA hx3 ds.1;have gl1:=iA hx3 ds.2.1;have gl2:=iA hx3 ds.2.2;have gz:=dA f0;have gz0:=dA g0;have gz1:=dA gq1;have gz2:=dA gr0;have gz3:=dA gl0;clear hW hx3
       (refine fA kR kR ?_;(repeat (first|go_big_quiet_step ((first|(intro _;go_at_call 88;exact qC (fits_f _ _ _ _ _ _ _))|(intro _;go_at_call 156;exact qC (jJ _ _ _ _))|(intro _;go_at_call 152;exact qC (vI _ _ _ w.heap.size a1 m1 c1 l _ (iA (w:=w3) eX g1) (Sl.below HS.out (HX3.out.trans eX).below)))|(intro _;go_at_call 157;exact qC (tI _ _ _ _ _ _ _ _ _ _ l js _ (Sl.below HS.out (HX3.out.trans eX).below) (Sl.below HK.out (HX3.out.trans eX).below)))))|quiet_step (fail)));refine wpQuiet_nil ?_;rintro _ ⟨oq,nq,rfl⟩)
       have y0:=FZ.out 0;have y1:=FZ.out 1;have y2:=FZ.out 2;have x0:=kA HX3.out z3 y0;have x1:=kA HX3.out z3 y1;have x2:=kA HX3.out z3 y2;go_wp2;obtain ⟨p0,p1,p2,px⟩:=put3 (w:=w) (x:=.int .i64 ((j:Int)+1)) (y:=.int .i64 v) (z:=.int .i64 z) (HX.out.trans (HX3.out.trans (show Ext w3 (w3.plus oq nq) from eX))) (show w.heap.size≤w.heap.size+1+1 by omega) (iA (w:=w3) eX gr0) (iA (w:=w3) eX gr1) (iA (w:=w3) eX gr2);refine bodyPost_ret (v:=.tuple #[.agg #[vi ((j:Int)+1),vi v,vi z],.bool true]) (by simp [results,Tryz.results95,go_sem,p0,p1,p2]) rfl ⟨?_,px⟩;rw [HPK.out,HT.out,find_yes HXX.out HYES.out];rfl
      ·have HNO:Hid (doP l js ls ⟨lo,hi,he⟩ ⟨(j:Int)+1,v,z⟩=false):=by unfold Hid;rw [HD.out,hf,hb1,hb2,hb3];rfl
       go_upto_region 5 with fail
       generalize hW:World.alloc _ _=w3;have f0:w3.cell? ⟨w0.heap.size+o.size,0,none⟩=some (vi ((j:Int)+1)):=cQ hW;have f1:w3.cell? ⟨w0.heap.size+o.size,1,none⟩=some (vi v):=cQ hW;have f2:w3.cell? ⟨w0.heap.size+o.size,2,none⟩=some (vi z):=cQ hW;have hx3:Ext w0 w3:=xQ hW;have HX3:=aA hx3;have g0:=iA hx3 k0;have g1:=iA hx3 k1;have g2:=iA hx3 k2;have gq1:=iA hx3 q1;have gq2:=iA hx3 q2;have gq3:=iA hx3 q3;have gr0:=iA hx3 r0;have gr1:=iA hx3 r1;have gr2:=iA hx3 r2;have gl0:=iA hx3 ds.1;have gl1:=iA hx3 ds.2.1;have gl2:=iA hx3 ds.2.2;have gz:=dA f0;have gz0:=dA g0;have gz1:=dA gq1;have gz2:=dA gr0;have gz3:=dA gl0;clear hW hx3
       (refine fA kR kR ?_;(repeat (first|go_big_quiet_step ((first|(intro _;go_at_call 88;exact qC (fits_f _ _ _ _ _ _ _))|(intro _;go_at_call 156;exact qC (jJ _ _ _ _))|(intro _;go_at_call 152;exact qC (vI _ _ _ w.heap.size a1 m1 c1 l _ (iA (w:=w3) eX g1) (Sl.below HS.out (HX3.out.trans eX).below)))|(intro _;go_at_call 157;exact qC (tI _ _ _ _ _ _ _ _ _ _ l js _ (Sl.below HS.out (HX3.out.trans eX).below) (Sl.below HK.out (HX3.out.trans eX).below)))))|quiet_step (fail)));refine wpQuiet_nil ?_;rintro _ ⟨oq,nq,rfl⟩)
       go_wp2;go_roundw
       case rel=>first|exact ⟨k+1,by omega,by go_num,by unfold Hid;rw [HT.out];exact tG HXX.out HNO.out,HX3.out.trans eX⟩|(repeat apply Exists.intro;refine ⟨?_,rfl⟩;exact ⟨k+1,by omega,by go_num,by unfold Hid;rw [HT.out];exact tG HXX.out HNO.out,HX3.out.trans eX⟩)
       case measure=>simp [intOf];omega
     ·have HNO:Hid (doP l js ls ⟨lo,hi,he⟩ ⟨(j:Int)+1,v,z⟩=false):=by unfold Hid;rw [HD.out,hf,hb1,hb2];rfl
      go_upto_region 5 with fail
      generalize hW:World.alloc _ _=w3;have f0:w3.cell? ⟨w0.heap.size+o.size,0,none⟩=some (vi ((j:Int)+1)):=cQ hW;have f1:w3.cell? ⟨w0.heap.size+o.size,1,none⟩=some (vi v):=cQ hW;have f2:w3.cell? ⟨w0.heap.size+o.size,2,none⟩=some (vi z):=cQ hW;have hx3:Ext w0 w3:=xQ hW;have HX3:=aA hx3;have g0:=iA hx3 k0;have g1:=iA hx3 k1;have g2:=iA hx3 k2;have gq1:=iA hx3 q1;have gq2:=iA hx3 q2;have gq3:=iA hx3 q3;have gr0:=iA hx3 r0;have gr1:=iA hx3 r1;have gr2:=iA hx3 r2;have gl0:=iA hx3 ds.1;have gl1:=iA hx3 ds.2.1;have gl2:=iA hx3 ds.2.2;have gz:=dA f0;have gz0:=dA g0;have gz1:=dA gq1;have gz2:=dA gr0;have gz3:=dA gl0;clear hW hx3
      (refine fA kR kR ?_;(repeat (first|go_big_quiet_step ((first|(intro _;go_at_call 88;exact qC (fits_f _ _ _ _ _ _ _))|(intro _;go_at_call 156;exact qC (jJ _ _ _ _))|(intro _;go_at_call 152;exact qC (vI _ _ _ w.heap.size a1 m1 c1 l _ (iA (w:=w3) eX g1) (Sl.below HS.out (HX3.out.trans eX).below)))|(intro _;go_at_call 157;exact qC (tI _ _ _ _ _ _ _ _ _ _ l js _ (Sl.below HS.out (HX3.out.trans eX).below) (Sl.below HK.out (HX3.out.trans eX).below)))))|quiet_step (fail)));refine wpQuiet_nil ?_;rintro _ ⟨oq,nq,rfl⟩)
      go_wp2;go_roundw
      case rel=>first|exact ⟨k+1,by omega,by go_num,by unfold Hid;rw [HT.out];exact tG HXX.out HNO.out,HX3.out.trans eX⟩|(repeat apply Exists.intro;refine ⟨?_,rfl⟩;exact ⟨k+1,by omega,by go_num,by unfold Hid;rw [HT.out];exact tG HXX.out HNO.out,HX3.out.trans eX⟩)
      case measure=>simp [intOf];omega
    ·have HNO:Hid (doP l js ls ⟨lo,hi,he⟩ ⟨(j:Int)+1,v,z⟩=false):=by unfold Hid;rw [HD.out,hf,hb1];rfl
     go_upto_region 5 with fail
     generalize hW:World.alloc _ _=w3;have f0:w3.cell? ⟨w0.heap.size+o.size,0,none⟩=some (vi ((j:Int)+1)):=cQ hW;have f1:w3.cell? ⟨w0.heap.size+o.size,1,none⟩=some (vi v):=cQ hW;have f2:w3.cell? ⟨w0.heap.size+o.size,2,none⟩=some (vi z):=cQ hW;have hx3:Ext w0 w3:=xQ hW;have HX3:=aA hx3;have g0:=iA hx3 k0;have g1:=iA hx3 k1;have g2:=iA hx3 k2;have gq1:=iA hx3 q1;have gq2:=iA hx3 q2;have gq3:=iA hx3 q3;have gr0:=iA hx3 r0;have gr1:=iA hx3 r1;have gr2:=iA hx3 r2;have gl0:=iA hx3 ds.1;have gl1:=iA hx3 ds.2.1;have gl2:=iA hx3 ds.2.2;have gz:=dA f0;have gz0:=dA g0;have gz1:=dA gq1;have gz2:=dA gr0;have gz3:=dA gl0;clear hW hx3
     (refine fA kR kR ?_;(repeat (first|go_big_quiet_step ((first|(intro _;go_at_call 88;exact qC (fits_f _ _ _ _ _ _ _))|(intro _;go_at_call 156;exact qC (jJ _ _ _ _))|(intro _;go_at_call 152;exact qC (vI _ _ _ w.heap.size a1 m1 c1 l _ (iA (w:=w3) eX g1) (Sl.below HS.out (HX3.out.trans eX).below)))|(intro _;go_at_call 157;exact qC (tI _ _ _ _ _ _ _ _ _ _ l js _ (Sl.below HS.out (HX3.out.trans eX).below) (Sl.below HK.out (HX3.out.trans eX).below)))))|quiet_step (fail)));refine wpQuiet_nil ?_;rintro _ ⟨oq,nq,rfl⟩)
     go_wp2;go_roundw
     case rel=>first|exact ⟨k+1,by omega,by go_num,by unfold Hid;rw [HT.out];exact tG HXX.out HNO.out,HX3.out.trans eX⟩|(repeat apply Exists.intro;refine ⟨?_,rfl⟩;exact ⟨k+1,by omega,by go_num,by unfold Hid;rw [HT.out];exact tG HXX.out HNO.out,HX3.out.trans eX⟩)
     case measure=>simp [intOf];omega
  ·have y0:=FZ.out 0
   have y1:=FZ.out 1;have y2:=FZ.out 2;go_wp2;obtain ⟨p0,p1,p2,px⟩:=put3 (w:=w) (x:=.int .i64 0) (y:=.int .i64 0) (z:=.int .i64 0) (HX.out.trans (show Ext w0 (w0.plus o m) from eX)) (show w.heap.size≤w.heap.size+1+1 by omega) (iA (w:=w0) eX r0) (iA (w:=w0) eX r1) (iA (w:=w0) eX r2);refine bodyPost_ret (v:=.tuple #[.agg #[vi 0,vi 0,vi 0],.bool false]) (by simp [results,Tryz.results95,go_sem,p0,p1,p2]) rfl ⟨?_,px⟩;rw [HPK.out,HT.out,List.drop_of_length_le (by have:=HPN.out;omega)];rfl
