import Derived.Test.YtplomeacjbkgnabGreatDoorZ09
set_option linter.all false
set_option maxRecDepth 100000
set_option maxHeartbeats 16000000
namespace Go.Proofs.YtplomeacjbkgnabGreatDoor
open Go.RowKit Tryz
open Ch hiding Act
def kH (s x:sA):Bool:=decide (x.home=s.home) || x.car.id==s.car.id
theorem stays1_any (x s:sA) (B:Nat) (w:World) (h1:w.cell? ⟨B,1,none⟩=some (vi s.car.id)) (h5:w.cell? ⟨B,5,none⟩=some (vi s.home.level)) (h6:w.cell? ⟨B,6,none⟩=some (vi s.home.side)) (h7:w.cell? ⟨B,7,none⟩=some (vi s.home.depth)):
  Calls prog 191 #[stayA x,.pointer (some ⟨B,0,none⟩)] w fun e w'=>e = .returned (.bool (kH s x))/\Ext w w':=by
 have hB:=cA h1
 by_cases he:x.home=s.home
 ·have hq1:∀ w,(Go.binOp .eql 89 (.agg #[vi x.home.level,vi x.home.side,vi x.home.depth]) (.agg #[vi s.home.level,vi s.home.side,vi s.home.depth])).run prog w = .ok (.bool true) w:=fun w=>by rw [eI];simp [he]
  have HE:=aA he;clear he;go_enter func191,ntmps191;go_wp2;go_ret;exact ⟨by simp [kH,HE.out],eX⟩
 ·have hq1:∀ w,(Go.binOp .eql 89 (.agg #[vi x.home.level,vi x.home.side,vi x.home.depth]) (.agg #[vi s.home.level,vi s.home.side,vi s.home.depth])).run prog w = .ok (.bool false) w:=fun w=>by rw [eI];simp [he]
  have HE:=aA he;clear he;go_enter func191,ntmps191;go_wp2;go_ret;exact ⟨by simp [kH,HE.out],eX⟩
theorem stays_pred (s:sA) (B:Nat) (w:World) (h1:w.cell? ⟨B,1,none⟩=some (vi s.car.id)) (h5:w.cell? ⟨B,5,none⟩=some (vi s.home.level)) (h6:w.cell? ⟨B,6,none⟩=some (vi s.home.side)) (h7:w.cell? ⟨B,7,none⟩=some (vi s.home.depth)):
  bL w 191 #[.pointer (some ⟨B,0,none⟩)] (kH s) where
 enters:=fun args w=>by kernel_rfl
 answers:=fun x W ⟨o,n,hW⟩=>by
  subst hW;have hB:=cA h1;exact stays1_any x s B _ (by rw [cB _ _ _ _ _ _ hB];exact h1) (by rw [cB _ _ _ _ _ _ hB];exact h5) (by rw [cB _ _ _ _ _ _ hB];exact h6) (by rw [cB _ _ _ _ _ _ hB];exact h7)
theorem stays_at (L last:Int) {l:List sA} {k:Nat} {s:sA} (hs:l[k]? = some s):
  sC L last (l.take k) (l.drop k)=if qE L last (l.take k) s≠0 then qE L last (l.take k) s else sC L last (l.take (k+1)) (l.drop (k+1)):=by
 have hk:k<l.length:=by
  by_cases h:k<l.length
  ·exact h
  ·rw [List.getElem?_eq_none om] at hs;cases hs
 rw [List.drop_eq_getElem_cons hk,List.take_add_one,hs];rw [List.getElem?_eq_getElem hk] at hs;cases hs;rfl
theorem vL (L last f:Int) {l:List sA} {k:Nat} {s:sA} (hs:l[k]? = some s) (h:qE L last (l.take k) s=f) (hf:f≠0):sC L last (l.take k) (l.drop k)=f:=by
 rw [stays_at L last hs,h,if_pos hf]
theorem stays_go (L last:Int) {l:List sA} {k:Nat} {s:sA} (hs:l[k]? = some s) (h:qE L last (l.take k) s=0):sC L last (l.take k) (l.drop k)=sC L last (l.take (k+1)) (l.drop (k+1)):=by
 rw [stays_at L last hs,h];simp
theorem last_take {l:List sA} {k:Nat} {q:sA} (hq:l[k]? = some q):(l.take (k+1)).getLast? = some q:=by
 rw [List.take_add_one,hq];simp
theorem stayClash_any (before:List sA) (s:sA):before.any (fun x=>x.home==s.home || x.car.id==s.car.id)=before.any (kH s):=by
 congr 1
theorem sl_takeB {α:Type} {w:World} {c:Nat} {enc:α->List Value} {l:List α} {a:Option Addr} {n cap:Nat} (h:Sl w c enc l a n cap) {m:Nat} (hm:m<=n):Sl w c enc (l.take m) a m cap:=by
 refine ⟨by rw [List.length_take,h.1];omega,Nat.le_trans hm h.2.1,h.2.2.1,fun h0=>?_⟩;obtain ⟨b,o,e,f⟩:=h.2.2.2 om;refine ⟨b,o,e,fun i x hx j y hy=>f i x ?_ j y hy⟩;rw [List.getElem?_take] at hx
 split at hx
 ·exact hx
 ·cases hx
theorem car_bad {c:Car} (h:¬ gC c=0):gC c=1:=by
 unfold gC iC at *
 split <;> simp_all
set_option linter.unusedSimpArgs false in
theorem bookstays_any (last levels:Int) (a1:Option Addr) (m1 c1:Nat) (a2:Option Addr) (m2 c2:Nat) (l:List sA) (w:World) (h:Sl w 8 iA l a1 m1 c1) (hl4:levels<=4):
  Calls prog 160 #[lC last a1 m1 c1 a2 m2 c2,vi levels] w fun e w'=>e = .returned (aC (sC levels last [] l))/\Ext w w':=by
 have b1:=h.bound;have HF:=aA h;have E1:=aA h.len;clear h;go_enter func160,ntmps160;go_wp2;generalize hW:World.alloc _ _=w0;have k0:cI w0 w.heap.size 0 last:=cQ hW;have k1:cV w0 w.heap.size 1 (.slice a1 m1 c1):=cQ hW;have hx:Ext w w0:=xQ hW
 have HS:Hid (Sl w0 8 iA l a1 m1 c1):=by unfold Hid;exact Sl.below HF.out hx.below
 have HX:=aA hx;have z1:=cA k0;clear hW hx HF
 go_loopw [11] (fun i wr=>∃ k:Nat,k<=m1/\i = .int .i64 k/\Hid (sC levels last [] l=sC levels last (l.take k) (l.drop k))/\Ext w0 wr) (fun i _=>m1 - (intOf i).toNat)
 case atStart=>exact ⟨0,om,rfl,by simp [Hid],eX⟩
 case round =>
  obtain ⟨k,hk,rfl,HT,o,m,rfl⟩:=hrel
  by_cases hlt:k<m1
  ·obtain ⟨b,q,s,rfl,hs,ds⟩:=HS.out.get hlt
   have ds:=at8 ds;have hq:=cA ds.1;obtain ⟨t,⟨id,⟨lo,hi,he⟩⟩,⟨x,y,z⟩⟩:=s;dsimp only at ds;have HSS:=aA hs;clear hs
   by_cases h0:gC ⟨id,⟨lo,hi,he⟩⟩=0
   ·have H0 := aA h0
    have he1:aC (gC ⟨id,⟨lo,hi,he⟩⟩) = .nilIface:=by rw [h0];rfl
    clear h0
    by_cases hp:uA ⟨x,y,z⟩ levels=0
    ·have HP:=aA hp
     have HR:=aA (place_ok.mp hp)
     have he2:aC (uA ⟨x,y,z⟩ levels) = .nilIface:=by rw [hp];rfl
     clear hp
     by_cases ht:t<1\/last<t
     ·have HTT:=aA ht
      have hb:sC levels last (l.take k) (l.drop k)=1:=vL _ _ _ HSS.out (by simp only [qE,H0.out,HP.out,ne_eq,not_true_eq_false,if_false];rw [if_pos HTT.out]) dc;have HB:=aA hb;clear hb
      by_cases ht1:t<1
      ·clear ht
       go_wp2_with (first|(go_at_call 93;with_reducible refine mo (qG _ _ _ _ _) fun o1 n1=>?_)|(go_at_call 189;with_reducible refine mo (sF _ _ _ _ _) fun o1 n1=>?_));go_ret;exact ⟨by rw [HT.out,HB.out];rfl,HX.out.trans eX⟩
      ·have ht2:last<t:=om
       clear ht;go_wp2_with (first|(go_at_call 93;with_reducible refine mo (qG _ _ _ _ _) fun o1 n1=>?_)|(go_at_call 189;with_reducible refine mo (sF _ _ _ _ _) fun o1 n1=>?_));go_ret;exact ⟨by rw [HT.out,HB.out];rfl,HX.out.trans eX⟩
     ·have ht1:1<=t:=om
      have ht2:t<=last:=om
      have hf:qE levels last (l.take k) ⟨t,⟨id,⟨lo,hi,he⟩⟩,⟨x,y,z⟩⟩=if ¬ (⟨x,y,z⟩:pB)∈aE levels\/(∃ x∈(l.take k).getLast?,t<=x.ticket) then 3 else if (l.take k).any (kH ⟨t,⟨id,⟨lo,hi,he⟩⟩,⟨x,y,z⟩⟩) then 3 else 0:=by
       rw [<-stayClash_any];simp only [qE,H0.out,HP.out,ne_eq,not_true_eq_false,if_false];rw [if_neg ht]
      have HFF:=aA hf;clear hf ht;have hr1:=HR.out.1;have hr2:=HR.out.2.1
      by_cases hm:(⟨x,y,z⟩:pB)∈aE levels
      ·have HM:=aA hm
       have hm1:decide ((⟨x,y,z⟩:pB)∈aE levels)=true:=decide_eq_true hm;clear hm
       by_cases hk0:0<k
       ·obtain ⟨j,rfl⟩:∃ j,k=j+1:=⟨k - 1,om⟩
        obtain ⟨pv,hpv,dpv⟩:=HS.out.get' (show j<m1 by omega);have dpt:=(at8 dpv).1
        have hgj:(0:Int)<(j:Int)+1:=om
        have hgj2:(j:Int)<(m1:Int):=om
        have hgj3:(0:Int)<=(j:Int):=om
        have hw1:IntKind.i64.wrap (j:Int)=(j:Int):=IntWalk.i64_in _ om
        have hw2:IntKind.i64.wrap ((j:Int)+1 - 1)=(j:Int):=by rw [show (j:Int)+1 - 1=j by omega];exact hw1
        have HPV:=aA hpv;clear dpv hpv
        by_cases hor:t<=pv.ticket
        ·have HOR:=aA hor
         go_wp2_with (first|(go_at_call 93;with_reducible refine mo (qG _ _ _ _ _) fun o1 n1=>?_)|(go_at_call 189;with_reducible refine mo (sF _ _ _ _ _) fun o1 n1=>?_));generalize hW:World.plus _ _ _=w3
         have f0:w3.cell? ⟨w0.heap.size+o.size,0,none⟩=some (vi t):=by rw [<-hW,cB _ _ _ _ _ _ sp];simp [go_sem]
         have f1:w3.cell? ⟨w0.heap.size+o.size,1,none⟩=some (vi id):=by rw [<-hW,cB _ _ _ _ _ _ sp];simp [go_sem]
         have f5:w3.cell? ⟨w0.heap.size+o.size,5,none⟩=some (vi x):=by rw [<-hW,cB _ _ _ _ _ _ sp];simp [go_sem]
         have f6:w3.cell? ⟨w0.heap.size+o.size,6,none⟩=some (vi y):=by rw [<-hW,cB _ _ _ _ _ _ sp];simp [go_sem]
         have f7:w3.cell? ⟨w0.heap.size+o.size,7,none⟩=some (vi z):=by rw [<-hW,cB _ _ _ _ _ _ sp];simp [go_sem]
         have hx3:Ext w0 w3:=xQ hW;have HX3:=aA hx3;have g0:=eA hx3 k0;have g1:=eA hx3 k1;have gp:=eA hx3 dpt;have gz:=cA f0;have gz0:=cA g0;clear hW hx3
         go_region_held3 (fun w'=>w'.cell? ⟨w.heap.size,0,none⟩=some (vi last)/\w'.cell? ⟨w.heap.size,1,none⟩=some (.slice (some ⟨b,q,none⟩) m1 c1)/\w'.cell? ⟨w0.heap.size+o.size,0,none⟩=some (vi t)/\w'.cell? ⟨w0.heap.size+o.size,5,none⟩=some (vi x)/\w'.cell? ⟨w0.heap.size+o.size,6,none⟩=some (vi y)/\w'.cell? ⟨w0.heap.size+o.size,7,none⟩=some (vi z)/\w'.cell? ⟨b,q+j * 8,none⟩=some (vi pv.ticket))
           (first|((try dsimp only);(repeat' apply And.intro) <;> exact eA (w:=w3) eX (by assumption)))
           (first
           | (go_at_call 155;refine (jK _ _ om hl4).mono ?_;rintro e w1 hh;obtain ⟨pa,pn,pc,rfl,hsl,o1,n1',rfl⟩:=yG.sl hh;clear hh)
           | (go_at_call 190;refine (nG _ _ _ _ _ _ _ _ (by first|exact hsl|exact Sl.ext hsl _ _|exact Sl.below hsl (Ext.below eX))).mono ?_;rintro e w2 ⟨rfl,o2,n2',rfl⟩))
         go_wp2;go_ret;exact ⟨by rw [HT.out,vL _ _ 3 HSS.out (by rw [HFF.out,if_pos (Or.inr ⟨pv,last_take HPV.out,HOR.out⟩)]) dc];rfl,(HX.out.trans HX3.out).trans eX⟩
        ·have HFG:Hid (qE levels last (l.take (j+1)) ⟨t,⟨id,⟨lo,hi,he⟩⟩,⟨x,y,z⟩⟩=if (l.take (j+1)).any (kH ⟨t,⟨id,⟨lo,hi,he⟩⟩,⟨x,y,z⟩⟩) then 3 else 0):=by
          unfold Hid;rw [HFF.out,if_neg];rintro (hc|⟨v,hv,hc⟩)
          ·exact hc HM.out
          ·have:=last_take HPV.out
           rw [this] at hv;cases hv;exact hor hc
         cases hcl:(l.take (j+1)).any (kH ⟨t,⟨id,⟨lo,hi,he⟩⟩,⟨x,y,z⟩⟩)
         ·have HCLS:=aA hcl
          clear hcl;go_wp2_with (first|(go_at_call 93;with_reducible refine mo (qG _ _ _ _ _) fun o1 n1=>?_)|(go_at_call 189;with_reducible refine mo (sF _ _ _ _ _) fun o1 n1=>?_));generalize hW:World.plus _ _ _=w3
          have f0:w3.cell? ⟨w0.heap.size+o.size,0,none⟩=some (vi t):=by rw [<-hW,cB _ _ _ _ _ _ sp];simp [go_sem]
          have f1:w3.cell? ⟨w0.heap.size+o.size,1,none⟩=some (vi id):=by rw [<-hW,cB _ _ _ _ _ _ sp];simp [go_sem]
          have f5:w3.cell? ⟨w0.heap.size+o.size,5,none⟩=some (vi x):=by rw [<-hW,cB _ _ _ _ _ _ sp];simp [go_sem]
          have f6:w3.cell? ⟨w0.heap.size+o.size,6,none⟩=some (vi y):=by rw [<-hW,cB _ _ _ _ _ _ sp];simp [go_sem]
          have f7:w3.cell? ⟨w0.heap.size+o.size,7,none⟩=some (vi z):=by rw [<-hW,cB _ _ _ _ _ _ sp];simp [go_sem]
          have hx3:Ext w0 w3:=xQ hW;have HX3:=aA hx3;have g0:=eA hx3 k0;have g1:=eA hx3 k1;have gp:=eA hx3 dpt;have gz:=cA f0;have gz0:=cA g0;clear hW hx3
          go_region_held3 (fun w'=>w'.cell? ⟨w.heap.size,0,none⟩=some (vi last)/\w'.cell? ⟨w.heap.size,1,none⟩=some (.slice (some ⟨b,q,none⟩) m1 c1)/\w'.cell? ⟨w0.heap.size+o.size,0,none⟩=some (vi t)/\w'.cell? ⟨w0.heap.size+o.size,5,none⟩=some (vi x)/\w'.cell? ⟨w0.heap.size+o.size,6,none⟩=some (vi y)/\w'.cell? ⟨w0.heap.size+o.size,7,none⟩=some (vi z)/\w'.cell? ⟨b,q+j * 8,none⟩=some (vi pv.ticket))
            (first|((try dsimp only);(repeat' apply And.intro) <;> exact eA (w:=w3) eX (by assumption)))
            (first
            | (go_at_call 155;refine (jK _ _ om hl4).mono ?_;rintro e w1 hh;obtain ⟨pa,pn,pc,rfl,hsl,o1,n1',rfl⟩:=yG.sl hh;clear hh)
            | (go_at_call 190;refine (nG _ _ _ _ _ _ _ _ (by first|exact hsl|exact Sl.ext hsl _ _|exact Sl.below hsl (Ext.below eX))).mono ?_;rintro e w2 ⟨rfl,o2,n2',rfl⟩))
          go_wp2_with (go_at_call 153;refine (xG _ _ _ (l.take (j+1)) _ _ _ _ (sl_takeB (Sl.below HS.out (HX3.out.trans eX).below) om) (stays_pred ⟨t,⟨id,⟨lo,hi,he⟩⟩,⟨x,y,z⟩⟩ _ _ (eA (w:=w3) eX f1) (eA (w:=w3) eX f5) (eA (w:=w3) eX f6) (eA (w:=w3) eX f7))).mono ?_;rintro e w5 ⟨he,o5,n5,rfl⟩;rw [HCLS.out] at he;subst he);go_roundw
          case rel=>first|exact ⟨(j+1)+1,om,by go_num,by unfold Hid;rw [HT.out];exact stays_go _ _ HSS.out (by rw [HFG.out,HCLS.out];rfl),HX3.out.trans eX⟩|(repeat apply Exists.intro;refine ⟨?_,rfl⟩;exact ⟨(j+1)+1,om,by go_num,by unfold Hid;rw [HT.out];exact stays_go _ _ HSS.out (by rw [HFG.out,HCLS.out];rfl),HX3.out.trans eX⟩)
          case measure=>simp [intOf];omega
         ·have HCLS:=aA hcl
          clear hcl;go_wp2_with (first|(go_at_call 93;with_reducible refine mo (qG _ _ _ _ _) fun o1 n1=>?_)|(go_at_call 189;with_reducible refine mo (sF _ _ _ _ _) fun o1 n1=>?_));generalize hW:World.plus _ _ _=w3
          have f0:w3.cell? ⟨w0.heap.size+o.size,0,none⟩=some (vi t):=by rw [<-hW,cB _ _ _ _ _ _ sp];simp [go_sem]
          have f1:w3.cell? ⟨w0.heap.size+o.size,1,none⟩=some (vi id):=by rw [<-hW,cB _ _ _ _ _ _ sp];simp [go_sem]
          have f5:w3.cell? ⟨w0.heap.size+o.size,5,none⟩=some (vi x):=by rw [<-hW,cB _ _ _ _ _ _ sp];simp [go_sem]
          have f6:w3.cell? ⟨w0.heap.size+o.size,6,none⟩=some (vi y):=by rw [<-hW,cB _ _ _ _ _ _ sp];simp [go_sem]
          have f7:w3.cell? ⟨w0.heap.size+o.size,7,none⟩=some (vi z):=by rw [<-hW,cB _ _ _ _ _ _ sp];simp [go_sem]
          have hx3:Ext w0 w3:=xQ hW;have HX3:=aA hx3;have g0:=eA hx3 k0;have g1:=eA hx3 k1;have gp:=eA hx3 dpt;have gz:=cA f0;have gz0:=cA g0;clear hW hx3
          go_region_held3 (fun w'=>w'.cell? ⟨w.heap.size,0,none⟩=some (vi last)/\w'.cell? ⟨w.heap.size,1,none⟩=some (.slice (some ⟨b,q,none⟩) m1 c1)/\w'.cell? ⟨w0.heap.size+o.size,0,none⟩=some (vi t)/\w'.cell? ⟨w0.heap.size+o.size,5,none⟩=some (vi x)/\w'.cell? ⟨w0.heap.size+o.size,6,none⟩=some (vi y)/\w'.cell? ⟨w0.heap.size+o.size,7,none⟩=some (vi z)/\w'.cell? ⟨b,q+j * 8,none⟩=some (vi pv.ticket))
            (first|((try dsimp only);(repeat' apply And.intro) <;> exact eA (w:=w3) eX (by assumption)))
            (first
            | (go_at_call 155;refine (jK _ _ om hl4).mono ?_;rintro e w1 hh;obtain ⟨pa,pn,pc,rfl,hsl,o1,n1',rfl⟩:=yG.sl hh;clear hh)
            | (go_at_call 190;refine (nG _ _ _ _ _ _ _ _ (by first|exact hsl|exact Sl.ext hsl _ _|exact Sl.below hsl (Ext.below eX))).mono ?_;rintro e w2 ⟨rfl,o2,n2',rfl⟩))
          go_wp2_with (go_at_call 153;refine (xG _ _ _ (l.take (j+1)) _ _ _ _ (sl_takeB (Sl.below HS.out (HX3.out.trans eX).below) om) (stays_pred ⟨t,⟨id,⟨lo,hi,he⟩⟩,⟨x,y,z⟩⟩ _ _ (eA (w:=w3) eX f1) (eA (w:=w3) eX f5) (eA (w:=w3) eX f6) (eA (w:=w3) eX f7))).mono ?_;rintro e w5 ⟨he,o5,n5,rfl⟩;rw [HCLS.out] at he;subst he);go_ret;exact ⟨by rw [HT.out,vL _ _ 3 HSS.out (by rw [HFG.out,HCLS.out];rfl) dc];rfl,(HX.out.trans HX3.out).trans eX⟩
       ·obtain rfl:k=0:=om
        simp only [Nat.zero_mul,Nat.add_zero] at ds
        try simp only [Int.natCast_zero,Int.ofNat_zero]
        have HFG:Hid (qE levels last (l.take 0) ⟨t,⟨id,⟨lo,hi,he⟩⟩,⟨x,y,z⟩⟩=if (l.take 0).any (kH ⟨t,⟨id,⟨lo,hi,he⟩⟩,⟨x,y,z⟩⟩) then 3 else 0):=by
         unfold Hid;rw [HFF.out,if_neg];rintro (hc|⟨v,hv,hc⟩)
         ·exact hc HM.out
         ·simp at hv
        cases hcl:(l.take 0).any (kH ⟨t,⟨id,⟨lo,hi,he⟩⟩,⟨x,y,z⟩⟩)
        ·have HCLS:=aA hcl
         clear hcl;go_wp2_with (first|(go_at_call 93;with_reducible refine mo (qG _ _ _ _ _) fun o1 n1=>?_)|(go_at_call 189;with_reducible refine mo (sF _ _ _ _ _) fun o1 n1=>?_));generalize hW:World.plus _ _ _=w3
         have f0:w3.cell? ⟨w0.heap.size+o.size,0,none⟩=some (vi t):=by rw [<-hW,cB _ _ _ _ _ _ sp];simp [go_sem]
         have f1:w3.cell? ⟨w0.heap.size+o.size,1,none⟩=some (vi id):=by rw [<-hW,cB _ _ _ _ _ _ sp];simp [go_sem]
         have f5:w3.cell? ⟨w0.heap.size+o.size,5,none⟩=some (vi x):=by rw [<-hW,cB _ _ _ _ _ _ sp];simp [go_sem]
         have f6:w3.cell? ⟨w0.heap.size+o.size,6,none⟩=some (vi y):=by rw [<-hW,cB _ _ _ _ _ _ sp];simp [go_sem]
         have f7:w3.cell? ⟨w0.heap.size+o.size,7,none⟩=some (vi z):=by rw [<-hW,cB _ _ _ _ _ _ sp];simp [go_sem]
         have hx3:Ext w0 w3:=xQ hW;have HX3:=aA hx3;have g0:=eA hx3 k0;have g1:=eA hx3 k1;have gz:=cA f0;have gz0:=cA g0;clear hW hx3;refine wp_region_held_drew (S:=(fun w':World=>w'.cell? ⟨w.heap.size,0,none⟩=some (vi last)/\w'.cell? ⟨w.heap.size,1,none⟩=some (.slice (some ⟨b,q,none⟩) m1 c1)/\w'.cell? ⟨w0.heap.size+o.size,0,none⟩=some (vi t)/\w'.cell? ⟨w0.heap.size+o.size,5,none⟩=some (vi x)/\w'.cell? ⟨w0.heap.size+o.size,6,none⟩=some (vi y)/\w'.cell? ⟨w0.heap.size+o.size,7,none⟩=some (vi z))) kR ?_ (fun hHeld=>?_)
         ·(try dsimp only);(repeat' apply And.intro) <;> exact eA (w:=w3) eX (by assumption)
         refine wpAnyH_take (i:=0) (v:=?_) rfl kR kR kR (fun _ _ _ h=>h) (Or.inl ⟨by rfl,?_⟩) (by assumption) ?_
         case refine_2=>(intro w hSw;(try dsimp only at hSw);go_simp;try with_reducible rfl)
         try simp only [List.getElem_toArray,List.getElem_cons_succ,List.getElem_cons_zero,Act.put,bA]
         refine wpAnyH_take (i:=2) (v:=?_) rfl kR kR kR (fun _ _ _ h=>h) (Or.inl ⟨by rfl,?_⟩) (by assumption) ?_
         case refine_2=>(intro w hSw;(try dsimp only at hSw);go_simp;try with_reducible rfl)
         try simp only [List.getElem_toArray,List.getElem_cons_succ,List.getElem_cons_zero,Act.put,bA]
         refine wpAnyH_take (i:=3) (v:=?_) rfl kR kR kR (fun _ _ _ h=>h) (Or.inl ⟨by rfl,?_⟩) (by assumption) ?_
         case refine_2=>(intro w hSw;(try dsimp only at hSw);go_simp;try with_reducible rfl)
         try simp only [List.getElem_toArray,List.getElem_cons_succ,List.getElem_cons_zero,Act.put,bA]
         refine wpAnyH_ready (rs:=[1]) kR sp ?_;refine AllReadyH.cons rfl (fun K hK=>?_) AllReadyH.nil;go_simp
         go_at_call 155;refine (jK _ _ om hl4).mono ?_;rintro e w1 hh;obtain ⟨pa,pn,pc,rfl,hsl,o1,n1',rfl⟩:=yG.sl hh;clear hh
         (try go_wp2_with fail)
         refine hK.out _ _ ?_ (fun hHeld=>?_)
         ·(try dsimp only);(repeat' apply And.intro) <;> exact eA (w:=w3) eX (by assumption)
         clear hK K
         try simp only [List.getElem_toArray,List.getElem_cons_succ,List.getElem_cons_zero,Act.put,bA]
         refine wpAnyH_ready (rs:=[4]) kR sp ?_;refine AllReadyH.cons rfl (fun K hK=>?_) AllReadyH.nil;go_simp
         go_at_call 190;refine (nG _ _ _ _ _ _ _ _ (by first|exact hsl|exact Sl.ext hsl _ _|exact Sl.below hsl (Ext.below eX))).mono ?_;rintro e w2 ⟨rfl,o2,n2',rfl⟩
         (try go_wp2_with fail)
         refine hK.out _ _ ?_ (fun hHeld=>?_)
         ·(try dsimp only);(repeat' apply And.intro) <;> exact eA (w:=w3) eX (by assumption)
         clear hK K
         try simp only [List.getElem_toArray,List.getElem_cons_succ,List.getElem_cons_zero,Act.put,bA]
         refine wpAnyH_take (i:=5) (v:=?_) rfl kR kR kR (fun _ _ _ h=>h) (Or.inl ⟨by rfl,?_⟩) (by assumption) ?_
         case refine_2=>(intro w hSw;(try dsimp only at hSw);go_simp;try with_reducible rfl)
         try simp only [List.getElem_toArray,List.getElem_cons_succ,List.getElem_cons_zero,Act.put,bA]
         refine wpAnyH_take (i:=6) (v:=?_) rfl kR kR kR (fun _ _ _ h=>h) (Or.inl ⟨by rfl,?_⟩) (by assumption) ?_
         case refine_2=>(intro w hSw;(try dsimp only at hSw);go_simp;try with_reducible rfl)
         try simp only [List.getElem_toArray,List.getElem_cons_succ,List.getElem_cons_zero,Act.put,bA]
         refine wpAnyH_take (i:=7) (v:=?_) rfl kR kR kR (fun _ _ _ h=>h) (Or.inl ⟨by rfl,?_⟩) (by assumption) ?_
         case refine_2=>(intro w hSw;(try dsimp only at hSw);go_simp;try with_reducible rfl)
         try simp only [List.getElem_toArray,List.getElem_cons_succ,List.getElem_cons_zero,Act.put,bA]
         refine wpAnyH_take (i:=8) (v:=?_) rfl kR kR kR (fun _ _ _ h=>h) (Or.inl ⟨by rfl,?_⟩) (by assumption) ?_
         case refine_2=>(intro w hSw;(try dsimp only at hSw);go_simp;try with_reducible rfl)
         try simp only [List.getElem_toArray,List.getElem_cons_succ,List.getElem_cons_zero,Act.put,bA]
         refine wpAnyH_take (i:=9) (v:=?_) rfl kR kR kR (fun _ _ _ h=>h) (Or.inl ⟨by rfl,?_⟩) (by assumption) ?_
         case refine_2=>(intro w hSw;(try dsimp only at hSw);go_simp;try with_reducible rfl)
         try simp only [List.getElem_toArray,List.getElem_cons_succ,List.getElem_cons_zero,Act.put,bA]
         refine wpAnyH_take (i:=10) (v:=undef) rfl kR kR kR (fun _ _ _ h=>h) (Or.inr ⟨by rfl,rfl⟩) (by assumption) ?_
         try simp only [List.getElem_toArray,List.getElem_cons_succ,List.getElem_cons_zero,Act.put,bA]
         refine wpAnyH_take (i:=11) (v:=undef) rfl kR kR kR (fun _ _ _ h=>h) (Or.inr ⟨by rfl,rfl⟩) (by assumption) ?_
         try simp only [List.getElem_toArray,List.getElem_cons_succ,List.getElem_cons_zero,Act.put,bA]
         refine wpAnyH_take (i:=12) (v:=undef) rfl kR kR kR (fun _ _ _ h=>h) (Or.inr ⟨by rfl,rfl⟩) (by assumption) ?_
         try simp only [List.getElem_toArray,List.getElem_cons_succ,List.getElem_cons_zero,Act.put,bA]
         refine wpAnyH_take (i:=13) (v:=undef) rfl kR kR kR (fun _ _ _ h=>h) (Or.inr ⟨by rfl,rfl⟩) (by assumption) ?_
         try simp only [List.getElem_toArray,List.getElem_cons_succ,List.getElem_cons_zero,Act.put,bA]
         refine wpAnyH_take (i:=14) (v:=undef) rfl kR kR kR (fun _ _ _ h=>h) (Or.inr ⟨by rfl,rfl⟩) (by assumption) ?_
         try simp only [List.getElem_toArray,List.getElem_cons_succ,List.getElem_cons_zero,Act.put,bA]
         refine wpAnyH_take (i:=15) (v:=undef) rfl kR kR kR (fun _ _ _ h=>h) (Or.inr ⟨by rfl,rfl⟩) (by assumption) ?_
         try simp only [List.getElem_toArray,List.getElem_cons_succ,List.getElem_cons_zero,Act.put,bA]
         refine wpAnyH_take (i:=16) (v:=undef) rfl kR kR kR (fun _ _ _ h=>h) (Or.inr ⟨by rfl,rfl⟩) (by assumption) ?_
         try simp only [List.getElem_toArray,List.getElem_cons_succ,List.getElem_cons_zero,Act.put,bA]
         refine wpAnyH_take (i:=17) (v:=undef) rfl kR kR kR (fun _ _ _ h=>h) (Or.inr ⟨by rfl,rfl⟩) (by assumption) ?_
         try simp only [List.getElem_toArray,List.getElem_cons_succ,List.getElem_cons_zero,Act.put,bA]
         refine wpAnyH_take (i:=18) (v:=undef) rfl kR kR kR (fun _ _ _ h=>h) (Or.inr ⟨by rfl,rfl⟩) (by assumption) ?_
         try simp only [List.getElem_toArray,List.getElem_cons_succ,List.getElem_cons_zero,Act.put,bA]
         refine wpAnyH_take (i:=19) (v:=undef) rfl kR kR kR (fun _ _ _ h=>h) (Or.inr ⟨by rfl,rfl⟩) (by assumption) ?_
         try simp only [List.getElem_toArray,List.getElem_cons_succ,List.getElem_cons_zero,Act.put,bA]
         refine wpAnyH_take (i:=20) (v:=?_) rfl kR kR kR (fun _ _ _ h=>h) (Or.inl ⟨by rfl,?_⟩) (by assumption) ?_
         case refine_2=>(intro w hSw;(try dsimp only at hSw);go_simp;try with_reducible rfl)
         try simp only [List.getElem_toArray,List.getElem_cons_succ,List.getElem_cons_zero,Act.put,bA]
         refine wpAnyH_take (i:=21) (v:=?_) rfl kR kR kR (fun _ _ _ h=>h) (Or.inl ⟨by rfl,?_⟩) (by assumption) ?_
         case refine_2=>(intro w hSw;(try dsimp only at hSw);go_simp;try with_reducible rfl)
         try simp only [List.getElem_toArray,List.getElem_cons_succ,List.getElem_cons_zero,Act.put,bA]
         refine wpAnyH_done kR ?_ _;go_wp2_with (go_at_call 153;refine (xG _ _ _ (l.take 0) _ _ _ _ (sl_takeB (Sl.below HS.out (HX3.out.trans eX).below) om) (stays_pred ⟨t,⟨id,⟨lo,hi,he⟩⟩,⟨x,y,z⟩⟩ _ _ (eA (w:=w3) eX f1) (eA (w:=w3) eX f5) (eA (w:=w3) eX f6) (eA (w:=w3) eX f7))).mono ?_;rintro e w5 ⟨he,o5,n5,rfl⟩;rw [HCLS.out] at he;subst he);go_roundw
         case rel=>first|exact ⟨0+1,om,by go_num,by unfold Hid;rw [HT.out];exact stays_go _ _ HSS.out (by rw [HFG.out,HCLS.out];rfl),HX3.out.trans eX⟩|(repeat apply Exists.intro;refine ⟨?_,rfl⟩;exact ⟨0+1,om,by go_num,by unfold Hid;rw [HT.out];exact stays_go _ _ HSS.out (by rw [HFG.out,HCLS.out];rfl),HX3.out.trans eX⟩)
         case measure=>simp [intOf];omega
        ·exact absurd hcl sp
      ·have HM:=aA hm
       have hm1:decide ((⟨x,y,z⟩:pB)∈aE levels)=false:=decide_eq_false hm;clear hm;go_wp2_with (first|(go_at_call 93;with_reducible refine mo (qG _ _ _ _ _) fun o1 n1=>?_)|(go_at_call 189;with_reducible refine mo (sF _ _ _ _ _) fun o1 n1=>?_));generalize hW:World.plus _ _ _=w3
       have f0:w3.cell? ⟨w0.heap.size+o.size,0,none⟩=some (vi t):=by rw [<-hW,cB _ _ _ _ _ _ sp];simp [go_sem]
       have f1:w3.cell? ⟨w0.heap.size+o.size,1,none⟩=some (vi id):=by rw [<-hW,cB _ _ _ _ _ _ sp];simp [go_sem]
       have f5:w3.cell? ⟨w0.heap.size+o.size,5,none⟩=some (vi x):=by rw [<-hW,cB _ _ _ _ _ _ sp];simp [go_sem]
       have f6:w3.cell? ⟨w0.heap.size+o.size,6,none⟩=some (vi y):=by rw [<-hW,cB _ _ _ _ _ _ sp];simp [go_sem]
       have f7:w3.cell? ⟨w0.heap.size+o.size,7,none⟩=some (vi z):=by rw [<-hW,cB _ _ _ _ _ _ sp];simp [go_sem]
       have hx3:Ext w0 w3:=xQ hW;have HX3:=aA hx3;have g0:=eA hx3 k0;have g1:=eA hx3 k1;have gz:=cA f0;have gz0:=cA g0;clear hW hx3;refine wp_region_held_drew (S:=(fun w':World=>w'.cell? ⟨w.heap.size,0,none⟩=some (vi last)/\w'.cell? ⟨w.heap.size,1,none⟩=some (.slice (some ⟨b,q,none⟩) m1 c1)/\w'.cell? ⟨w0.heap.size+o.size,0,none⟩=some (vi t)/\w'.cell? ⟨w0.heap.size+o.size,5,none⟩=some (vi x)/\w'.cell? ⟨w0.heap.size+o.size,6,none⟩=some (vi y)/\w'.cell? ⟨w0.heap.size+o.size,7,none⟩=some (vi z))) kR ?_ (fun hHeld=>?_)
       ·(try dsimp only);(repeat' apply And.intro) <;> exact eA (w:=w3) eX (by assumption)
       refine wpAnyH_take (i:=0) (v:=?_) rfl kR kR kR (fun _ _ _ h=>h) (Or.inl ⟨by rfl,?_⟩) (by assumption) ?_
       case refine_2=>(intro w hSw;(try dsimp only at hSw);go_simp;try with_reducible rfl)
       try simp only [List.getElem_toArray,List.getElem_cons_succ,List.getElem_cons_zero,Act.put,bA]
       refine wpAnyH_take (i:=2) (v:=?_) rfl kR kR kR (fun _ _ _ h=>h) (Or.inl ⟨by rfl,?_⟩) (by assumption) ?_
       case refine_2=>(intro w hSw;(try dsimp only at hSw);go_simp;try with_reducible rfl)
       try simp only [List.getElem_toArray,List.getElem_cons_succ,List.getElem_cons_zero,Act.put,bA]
       refine wpAnyH_take (i:=3) (v:=?_) rfl kR kR kR (fun _ _ _ h=>h) (Or.inl ⟨by rfl,?_⟩) (by assumption) ?_
       case refine_2=>(intro w hSw;(try dsimp only at hSw);go_simp;try with_reducible rfl)
       try simp only [List.getElem_toArray,List.getElem_cons_succ,List.getElem_cons_zero,Act.put,bA]
       refine wpAnyH_ready (rs:=[1]) kR sp ?_;refine AllReadyH.cons rfl (fun K hK=>?_) AllReadyH.nil;go_simp
       go_at_call 155;refine (jK _ _ om hl4).mono ?_;rintro e w1 hh;obtain ⟨pa,pn,pc,rfl,hsl,o1,n1',rfl⟩:=yG.sl hh;clear hh
       (try go_wp2_with fail)
       refine hK.out _ _ ?_ (fun hHeld=>?_)
       ·(try dsimp only);(repeat' apply And.intro) <;> exact eA (w:=w3) eX (by assumption)
       clear hK K
       try simp only [List.getElem_toArray,List.getElem_cons_succ,List.getElem_cons_zero,Act.put,bA]
       refine wpAnyH_ready (rs:=[4]) kR sp ?_;refine AllReadyH.cons rfl (fun K hK=>?_) AllReadyH.nil;go_simp
       go_at_call 190;refine (nG _ _ _ _ _ _ _ _ (by first|exact hsl|exact Sl.ext hsl _ _|exact Sl.below hsl (Ext.below eX))).mono ?_;rintro e w2 ⟨rfl,o2,n2',rfl⟩
       (try go_wp2_with fail)
       refine hK.out _ _ ?_ (fun hHeld=>?_)
       ·(try dsimp only);(repeat' apply And.intro) <;> exact eA (w:=w3) eX (by assumption)
       clear hK K
       try simp only [List.getElem_toArray,List.getElem_cons_succ,List.getElem_cons_zero,Act.put,bA]
       refine wpAnyH_take (i:=5) (v:=?_) rfl kR kR kR (fun _ _ _ h=>h) (Or.inl ⟨by rfl,?_⟩) (by assumption) ?_
       case refine_2=>(intro w hSw;(try dsimp only at hSw);go_simp;try with_reducible rfl)
       try simp only [List.getElem_toArray,List.getElem_cons_succ,List.getElem_cons_zero,Act.put,bA]
       refine wpAnyH_take (i:=6) (v:=?_) rfl kR kR kR (fun _ _ _ h=>h) (Or.inl ⟨by rfl,?_⟩) (by assumption) ?_
       case refine_2=>(intro w hSw;(try dsimp only at hSw);go_simp;try with_reducible rfl)
       try simp only [List.getElem_toArray,List.getElem_cons_succ,List.getElem_cons_zero,Act.put,bA]
       refine wpAnyH_take (i:=7) (v:=undef) rfl kR kR kR (fun _ _ _ h=>h) (Or.inr ⟨by rfl,rfl⟩) (by assumption) ?_
       try simp only [List.getElem_toArray,List.getElem_cons_succ,List.getElem_cons_zero,Act.put,bA]
       refine wpAnyH_take (i:=8) (v:=undef) rfl kR kR kR (fun _ _ _ h=>h) (Or.inr ⟨by rfl,rfl⟩) (by assumption) ?_
       try simp only [List.getElem_toArray,List.getElem_cons_succ,List.getElem_cons_zero,Act.put,bA]
       refine wpAnyH_take (i:=9) (v:=undef) rfl kR kR kR (fun _ _ _ h=>h) (Or.inr ⟨by rfl,rfl⟩) (by assumption) ?_
       try simp only [List.getElem_toArray,List.getElem_cons_succ,List.getElem_cons_zero,Act.put,bA]
       refine wpAnyH_take (i:=10) (v:=undef) rfl kR kR kR (fun _ _ _ h=>h) (Or.inr ⟨by rfl,rfl⟩) (by assumption) ?_
       try simp only [List.getElem_toArray,List.getElem_cons_succ,List.getElem_cons_zero,Act.put,bA]
       refine wpAnyH_take (i:=11) (v:=undef) rfl kR kR kR (fun _ _ _ h=>h) (Or.inr ⟨by rfl,rfl⟩) (by assumption) ?_
       try simp only [List.getElem_toArray,List.getElem_cons_succ,List.getElem_cons_zero,Act.put,bA]
       refine wpAnyH_take (i:=12) (v:=undef) rfl kR kR kR (fun _ _ _ h=>h) (Or.inr ⟨by rfl,rfl⟩) (by assumption) ?_
       try simp only [List.getElem_toArray,List.getElem_cons_succ,List.getElem_cons_zero,Act.put,bA]
       refine wpAnyH_take (i:=13) (v:=undef) rfl kR kR kR (fun _ _ _ h=>h) (Or.inr ⟨by rfl,rfl⟩) (by assumption) ?_
       try simp only [List.getElem_toArray,List.getElem_cons_succ,List.getElem_cons_zero,Act.put,bA]
       refine wpAnyH_take (i:=14) (v:=undef) rfl kR kR kR (fun _ _ _ h=>h) (Or.inr ⟨by rfl,rfl⟩) (by assumption) ?_
       try simp only [List.getElem_toArray,List.getElem_cons_succ,List.getElem_cons_zero,Act.put,bA]
       refine wpAnyH_take (i:=15) (v:=undef) rfl kR kR kR (fun _ _ _ h=>h) (Or.inr ⟨by rfl,rfl⟩) (by assumption) ?_
       try simp only [List.getElem_toArray,List.getElem_cons_succ,List.getElem_cons_zero,Act.put,bA]
       refine wpAnyH_take (i:=16) (v:=undef) rfl kR kR kR (fun _ _ _ h=>h) (Or.inr ⟨by rfl,rfl⟩) (by assumption) ?_
       try simp only [List.getElem_toArray,List.getElem_cons_succ,List.getElem_cons_zero,Act.put,bA]
       refine wpAnyH_take (i:=17) (v:=undef) rfl kR kR kR (fun _ _ _ h=>h) (Or.inr ⟨by rfl,rfl⟩) (by assumption) ?_
       try simp only [List.getElem_toArray,List.getElem_cons_succ,List.getElem_cons_zero,Act.put,bA]
       refine wpAnyH_take (i:=18) (v:=undef) rfl kR kR kR (fun _ _ _ h=>h) (Or.inr ⟨by rfl,rfl⟩) (by assumption) ?_
       try simp only [List.getElem_toArray,List.getElem_cons_succ,List.getElem_cons_zero,Act.put,bA]
       refine wpAnyH_take (i:=19) (v:=undef) rfl kR kR kR (fun _ _ _ h=>h) (Or.inr ⟨by rfl,rfl⟩) (by assumption) ?_
       try simp only [List.getElem_toArray,List.getElem_cons_succ,List.getElem_cons_zero,Act.put,bA]
       refine wpAnyH_take (i:=20) (v:=undef) rfl kR kR kR (fun _ _ _ h=>h) (Or.inr ⟨by rfl,rfl⟩) (by assumption) ?_
       try simp only [List.getElem_toArray,List.getElem_cons_succ,List.getElem_cons_zero,Act.put,bA]
       refine wpAnyH_take (i:=21) (v:=?_) rfl kR kR kR (fun _ _ _ h=>h) (Or.inl ⟨by rfl,?_⟩) (by assumption) ?_
       case refine_2=>(intro w hSw;(try dsimp only at hSw);go_simp;try with_reducible rfl)
       try simp only [List.getElem_toArray,List.getElem_cons_succ,List.getElem_cons_zero,Act.put,bA]
       refine wpAnyH_done kR ?_ _;go_wp2;go_ret;exact ⟨by rw [HT.out,vL _ _ 3 HSS.out (by rw [HFF.out,if_pos (Or.inl HM.out)]) dc];rfl,(HX.out.trans HX3.out).trans eX⟩
    ·have HP:=aA (place_bad hp)
     have he2:aC (uA ⟨x,y,z⟩ levels) = .iface 92 (vi 1):=by rw [place_bad hp];rfl
     clear hp;go_wp2_with (first|(go_at_call 93;with_reducible refine mo (qG _ _ _ _ _) fun o1 n1=>?_)|(go_at_call 189;with_reducible refine mo (sF _ _ _ _ _) fun o1 n1=>?_));go_ret;exact ⟨by rw [HT.out,vL _ _ 1 HSS.out (by simp [qE,H0.out,HP.out]) dc];rfl,HX.out.trans eX⟩
   ·have H0:=aA (car_bad h0)
    have he1:aC (gC ⟨id,⟨lo,hi,he⟩⟩) = .iface 92 (vi 1):=by rw [car_bad h0];rfl
    clear h0;go_wp2_with (go_at_call 93;with_reducible refine mo (qG _ _ _ _ _) fun o1 n1=>?_);go_ret;exact ⟨by rw [HT.out,vL _ _ 1 HSS.out (by simp [qE,H0.out]) dc];rfl,HX.out.trans eX⟩
  ·go_wp2
   go_ret;refine ⟨?_,HX.out.trans eX⟩;rw [HT.out,List.drop_of_length_le (by have:=E1.out;omega)];rfl
