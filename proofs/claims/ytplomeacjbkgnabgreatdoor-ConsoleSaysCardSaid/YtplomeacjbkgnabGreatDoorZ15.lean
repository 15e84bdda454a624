import Derived.Test.YtplomeacjbkgnabGreatDoorZ10
set_option linter.all false
set_option maxRecDepth 100000
set_option maxHeartbeats 16000000
namespace Go.Proofs.YtplomeacjbkgnabGreatDoor
open Go.RowKit Tryz Ch
theorem jobs_at (st:List sA) {l:List Job} {k:Nat} {j:Job} (hj:l[k]? = some j):
  vD st (l.take k) (l.drop k)=if (st.any fun s=>s.ticket==j.ticket)=false\/j∈l.take k then 3 else vD st (l.take (k+1)) (l.drop (k+1)):=by
 have hk:k<l.length:=by
  by_cases h:k<l.length
  ·exact h
  ·rw [List.getElem?_eq_none om] at hj;cases hj
 rw [List.drop_eq_getElem_cons hk,List.take_add_one,hj];rw [List.getElem?_eq_getElem hk] at hj;cases hj;rfl
theorem index_none {l:List sA} {p:sA->Bool} (h:l.any p=false):cC p l=-1:=by
 unfold cC
 have:l.findIdx? p=none:=by
  rw [List.findIdx?_eq_none_iff];intro x hx;have h2:=List.any_eq_false.1 h x hx
  simpa using h2
 rw [this]
theorem index_some {l:List sA} {p:sA->Bool} (h:l.any p=true):∃ i:Nat,cC p l=i:=by
 unfold cC
 cases h2:l.findIdx? p with
 | none=>
  rw [List.findIdx?_eq_none_iff] at h2;obtain ⟨x,hx,hp⟩:=List.any_eq_true.1 h;have:=h2 x hx;rw [hp] at this;cases this
 | some i=>exact ⟨i,rfl⟩
theorem pO (fi last t:Int) (a1:Option Addr) (m1 c1:Nat) (a2:Option Addr) (m2 c2:Nat) (l:List sA) (w:World) (h:Sl w 8 iA l a1 m1 c1) (hf:Hid (cC (fun s=>s.ticket==t) l=fi)):
  Calls prog 102 #[lC last a1 m1 c1 a2 m2 c2,vi t] w fun e w'=>e = .returned (vi fi)/\Ext w w':=by
 have:=find_any last t a1 m1 c1 a2 m2 c2 l w h;rw [hf.out] at this;exact this
theorem gI (bb:Bool) (a:Option Addr) (n cap:Nat) (l:List Job) (t:Int) (f:Bool) (w:World) (h:Sl w 2 jA l a n cap) (hb:Hid (decide ((⟨t,f⟩:Job)∈l)=bb)):
  Calls prog 103 #[.slice a n cap,.agg #[vi t,.bool f]] w fun e w'=>e = .returned (.bool bb)/\Ext w w':=by
 have:=gL a n cap l t f w h;rw [hb.out] at this;exact this
theorem bookcheck_any (last levels:Int) (a1:Option Addr) (m1 c1:Nat) (a2:Option Addr) (m2 c2:Nat) (l:List sA) (js:List Job) (w:World) (h:Sl w 8 iA l a1 m1 c1) (h2:Sl w 2 jA js a2 m2 c2) (hl4:levels<=4):
  Calls prog 97 #[lC last a1 m1 c1 a2 m2 c2,vi levels] w fun e w'=>e = .returned (aC (fC ⟨last,l,js⟩ levels))/\Ext w w':=by
 have b1:=h.bound;have b2:=h2.bound;have HF:=aA h;have HJ:=aA h2;have E1:=aA h.len;have E2:=aA h2.len;clear h h2
 by_cases hl:last<0\/999999<last
 ·have HB:Hid (fC ⟨last,l,js⟩ levels=1):=by unfold Hid fC;rw [if_pos hl]
  by_cases hl1:last<0
  ·clear hl
   go_enter func97,ntmps97;go_wp2;go_ret;exact ⟨by rw [HB.out];rfl,eX⟩
  ·have hl2:999999<last:=om
   clear hl;go_enter func97,ntmps97;go_wp2;go_ret;exact ⟨by rw [HB.out];rfl,eX⟩
 ·have hl1:0<=last:=om
  have hl2:last<=999999:=om
  by_cases hm:16<m1\/8<m2
  ·have HB:Hid (fC ⟨last,l,js⟩ levels=2):=by unfold Hid fC;rw [if_neg hl];dsimp only;rw [E1.out,E2.out,if_pos hm]
   by_cases hm1:16<m1
   ·have hm1':(16:Int)<(m1:Int):=om
    clear hl hm;go_enter func97,ntmps97;go_wp2;go_ret;exact ⟨by rw [HB.out];rfl,eX⟩
   ·have hm1':(m1:Int)<=16:=om
    have hm2':(8:Int)<(m2:Int):=om
    clear hl hm;go_enter func97,ntmps97;go_wp2;go_ret;exact ⟨by rw [HB.out];rfl,eX⟩
  ·have hm1':(m1:Int)<=16:=om
   have hm2':(m2:Int)<=8:=om
   by_cases hs:sC levels last [] l=0
   ·have HB:Hid (fC ⟨last,l,js⟩ levels=vD l [] js):=by
     unfold Hid fC;rw [if_neg hl];dsimp only;rw [E1.out,E2.out,if_neg hm,if_neg (by rw [hs];decide)]
    have HE:Hid (aC (sC levels last [] l) = .nilIface):=by unfold Hid;rw [hs];rfl
    clear hl hm hs;go_enter func97,ntmps97;go_wp2_with (go_at_call 160;(with_reducible refine (bookstays_any last levels a1 m1 c1 a2 m2 c2 l _ (Sl.below HF.out (Ext.below eX)) hl4).mono ?_);rintro e w1 ⟨he,oS,nS,rfl⟩;rw [HE.out] at he;subst he);generalize hW:World.plus _ _ _=w0;have k0:cI w0 w.heap.size 0 last:=cQ hW;have k1:cV w0 w.heap.size 1 (.slice a1 m1 c1):=cQ hW;have k2:cV w0 w.heap.size 2 (.slice a2 m2 c2):=cQ hW;have hx:Ext w w0:=xQ hW;have HS:=aA (Sl.below HF.out hx.below);have HK:=aA (Sl.below HJ.out hx.below);have HX:=aA hx;have z1:=cA k0;clear hW hx HF HJ
    go_loopw [37] (fun i wr=>∃ k:Nat,k<=m2/\i = .int .i64 k/\Hid (vD l [] js=vD l (js.take k) (js.drop k))/\Ext w0 wr) (fun i _=>m2 - (intOf i).toNat)
    case atStart=>exact ⟨0,om,rfl,by simp [Hid],eX⟩
    case round=>
     obtain ⟨k,hk,rfl,HT,o,m,rfl⟩:=hrel
     by_cases hlt:k<m2
     ·obtain ⟨b,q,j,rfl,hj,dj⟩:=HK.out.get hlt
      have dj:=at2 dj;have hq:=cA dj.1;obtain ⟨t,f⟩:=j;dsimp only at dj;have HJJ:=aA hj
      have hk0:(0:Int)<=(k:Int):=om
      have hk1:(k:Int)<=(m2:Int):=om
      have hk2:(k:Int)<=(c2:Int):=om
      clear hj;have HA:Hid (vD l (js.take k) (js.drop k)=if (l.any fun s=>s.ticket==t)=false\/(⟨t,f⟩:Job)∈js.take k then 3 else vD l (js.take (k+1)) (js.drop (k+1))):=jobs_at l HJJ.out
      cases ha:(l.any fun s=>s.ticket==t)
      ·have HI:Hid (cC (fun s:sA=>s.ticket==t) l=-1):=index_none ha
       have HR:Hid (vD l (js.take k) (js.drop k)=3):=by unfold Hid;rw [HA.out,if_pos (Or.inl ha)]
       clear ha
       go_upto_region 11 with fail
       generalize hW:World.alloc _ _=w3;have f0:w3.cell? ⟨w0.heap.size+o.size,0,none⟩=some (vi t):=cQ hW;have f1:w3.cell? ⟨w0.heap.size+o.size,1,none⟩=some (.bool f):=cQ hW;have hx3:Ext w0 w3:=xQ hW;have HX3:=aA hx3;have g0:=eA hx3 k0;have g1:=eA hx3 k1;have g2:=eA hx3 k2;have gz:=cA f0;have gz0:=cA g0;clear hW hx3
       (refine rA kR kR ?_;(repeat (first|go_big_quiet_step ((first|(intro _;go_at_call 102;exact qC (pO (-1) _ _ _ _ _ _ _ _ l _ (Sl.below HS.out (HX3.out.trans eX).below) HI))))|quiet_step (fail)));refine wpQuiet_nil ?_;rintro _ ⟨oq,nq,rfl⟩)
       go_wp2;go_ret;exact ⟨by rw [HB.out,HT.out,HR.out];rfl,(HX.out.trans HX3.out).trans eX⟩
      ·obtain ⟨fi,hfi⟩:=index_some ha
       have HI:Hid (cC (fun s:sA=>s.ticket==t) l=(fi:Int)):=hfi;have HAY:=aA ha
       have hfi0:¬ ((fi:Int)<0):=om
       clear ha hfi;cases hc:decide ((⟨t,f⟩:Job)∈js.take k)
       ·have HC:=aA hc
        have HR:Hid (vD l (js.take k) (js.drop k)=vD l (js.take (k+1)) (js.drop (k+1))):=by
         unfold Hid;rw [HA.out,if_neg];rintro (h1|h1)
         ·rw [HAY.out] at h1;cases h1
         ·exact of_decide_eq_false hc h1
        clear hc
        go_upto_region 11 with fail
        generalize hW:World.alloc _ _=w3;have f0:w3.cell? ⟨w0.heap.size+o.size,0,none⟩=some (vi t):=cQ hW;have f1:w3.cell? ⟨w0.heap.size+o.size,1,none⟩=some (.bool f):=cQ hW;have hx3:Ext w0 w3:=xQ hW;have HX3:=aA hx3;have g0:=eA hx3 k0;have g1:=eA hx3 k1;have g2:=eA hx3 k2;have gz:=cA f0;have gz0:=cA g0;clear hW hx3
        (refine rA kR kR ?_;(repeat (first|go_big_quiet_step ((first|(intro _;go_at_call 102;exact qC (pO (fi:Int) _ _ _ _ _ _ _ _ l _ (Sl.below HS.out (HX3.out.trans eX).below) HI))|(intro _;go_at_call 103;exact ext_callG (gI false _ _ _ (js.take k) _ _ _ (sl_takeB (Sl.below HK.out (HX3.out.trans eX).below) om) HC) (by rintro w' ⟨o',n',rfl⟩;exact ⟨_,n',by first|(simp only [lE];rfl)|(simp only [lE,Array.append_assoc];rfl)|rfl⟩))))|quiet_step (fail)));refine wpQuiet_nil ?_;rintro _ ⟨oq,nq,rfl⟩)
        go_wp2;go_roundw
        case rel=>first|exact ⟨k+1,om,by go_num,by unfold Hid;rw [HT.out,HR.out],HX3.out.trans eX⟩|(repeat apply Exists.intro;refine ⟨?_,rfl⟩;exact ⟨k+1,om,by go_num,by unfold Hid;rw [HT.out,HR.out],HX3.out.trans eX⟩)
        case measure=>simp [intOf];omega
       ·have HC:=aA hc
        have HR:Hid (vD l (js.take k) (js.drop k)=3):=by unfold Hid;rw [HA.out,if_pos (Or.inr (of_decide_eq_true hc))]
        clear hc
        go_upto_region 11 with fail
        generalize hW:World.alloc _ _=w3;have f0:w3.cell? ⟨w0.heap.size+o.size,0,none⟩=some (vi t):=cQ hW;have f1:w3.cell? ⟨w0.heap.size+o.size,1,none⟩=some (.bool f):=cQ hW;have hx3:Ext w0 w3:=xQ hW;have HX3:=aA hx3;have g0:=eA hx3 k0;have g1:=eA hx3 k1;have g2:=eA hx3 k2;have gz:=cA f0;have gz0:=cA g0;clear hW hx3
        (refine rA kR kR ?_;(repeat (first|go_big_quiet_step ((first|(intro _;go_at_call 102;exact qC (pO (fi:Int) _ _ _ _ _ _ _ _ l _ (Sl.below HS.out (HX3.out.trans eX).below) HI))|(intro _;go_at_call 103;exact ext_callG (gI true _ _ _ (js.take k) _ _ _ (sl_takeB (Sl.below HK.out (HX3.out.trans eX).below) om) HC) (by rintro w' ⟨o',n',rfl⟩;exact ⟨_,n',by first|(simp only [lE];rfl)|(simp only [lE,Array.append_assoc];rfl)|rfl⟩))))|quiet_step (fail)));refine wpQuiet_nil ?_;rintro _ ⟨oq,nq,rfl⟩)
        go_wp2;go_ret;exact ⟨by rw [HB.out,HT.out,HR.out];rfl,(HX.out.trans HX3.out).trans eX⟩
     ·go_wp2
      go_ret;refine ⟨?_,HX.out.trans eX⟩;rw [HB.out,HT.out,List.drop_of_length_le (by have:=E2.out;omega)];rfl
   ·have HB:Hid (fC ⟨last,l,js⟩ levels=sC levels last [] l):=by
     unfold Hid fC;rw [if_neg hl];dsimp only;rw [E1.out,E2.out,if_neg hm,if_pos hs]
    obtain ⟨E,HE⟩:∃ E,Hid (aC (sC levels last [] l) = .iface 92 (vi E)):=⟨_,by unfold Hid aC;rw [if_neg hs]⟩
    clear hl hm hs;go_enter func97,ntmps97;go_wp2_with (go_at_call 160;(with_reducible refine (bookstays_any last levels a1 m1 c1 a2 m2 c2 l _ (Sl.below HF.out (Ext.below eX)) hl4).mono ?_);rintro e w1 ⟨he,oS,nS,rfl⟩;rw [HE.out] at he;subst he);go_ret;exact ⟨by rw [HB.out,HE.out];rfl,eX⟩
def hasB (l:List sA) (a b c:Int):Bool:=l.any fun s=>decide (s.home=⟨a,b,c⟩)
theorem hasB_home (last:Int) (l:List sA) (js:List Job) (p:pB):hasHome ⟨last,l,js⟩ p=hasB l p.level p.side p.depth:=rfl
def tN (js:List Job) (a b c:Int) (s:sA):Bool:=!decide (s.home=⟨a,b,c⟩)&&decide (aH s.home=⟨a,b,c⟩)&&decide ((⟨s.ticket,false⟩:Job)∈js)
def waitsB (l:List sA) (js:List Job) (a b c:Int):Bool:=l.any (tN js a b c)
theorem waitsB_waits (last:Int) (l:List sA) (js:List Job) (p:pB):waits ⟨last,l,js⟩ p=waitsB l js p.level p.side p.depth:=by
 unfold waits waitsB
 congr 1
 funext s
 unfold tN;simp only [List.contains_eq_mem];rfl
theorem pick11_any (x:sA) (a b c:Int) (B:Nat) (w:World) (h0:w.cell? ⟨B,0,none⟩=some (vi a)) (h1:w.cell? ⟨B,1,none⟩=some (vi b)) (h2:w.cell? ⟨B,2,none⟩=some (vi c)):
  Calls prog 154 #[stayA x,.pointer (some ⟨B,0,none⟩)] w fun e w'=>e = .returned (.bool (decide (x.home=⟨a,b,c⟩)))/\Ext w w':=by
 have hB:=cA h0
 have hq1:∀ w,(Go.binOp .eql 89 (.agg #[vi x.home.level,vi x.home.side,vi x.home.depth]) (.agg #[vi a,vi b,vi c])).run prog w = .ok (.bool (decide (x.home=⟨a,b,c⟩))) w:=fun w=>by rw [eI]
 go_enter func154,ntmps154;go_wp2;go_ret;exact ⟨rfl,eX⟩
theorem home_pred (a b c:Int) (B:Nat) (w:World) (h0:w.cell? ⟨B,0,none⟩=some (vi a)) (h1:w.cell? ⟨B,1,none⟩=some (vi b)) (h2:w.cell? ⟨B,2,none⟩=some (vi c)):
  bL w 154 #[.pointer (some ⟨B,0,none⟩)] (fun s=>decide (s.home=⟨a,b,c⟩)) where
 enters:=fun args w=>by kernel_rfl
 answers:=fun x W hx=>pick11_any x a b c B _ (eA hx h0) (eA hx h1) (eA hx h2)
theorem uN (a b c:Int) (BB:Nat) (a1:Option Addr) (m1 c1:Nat) (l:List sA) (w:World) (hc:w.cell? ⟨BB,1,none⟩=some (.slice a1 m1 c1)) (h:Sl w 8 iA l a1 m1 c1):
  Calls prog 152 #[.agg #[vi a,vi b,vi c],.pointer (some ⟨BB,0,none⟩)] w fun e w'=>e = .returned (.bool (hasB l a b c))/\Ext w w':=by
 have HF:=aA h;have hB:=cA hc;clear h;go_enter func152,ntmps152;go_wp2_with (go_at_call 153;refine (xG _ _ _ l _ _ _ _ (Sl.below HF.out (Ext.below eX)) (home_pred a b c _ _ (by simp [go_sem]) (by simp [go_sem]) (by simp [go_sem]))).mono ?_;rintro e w5 ⟨rfl,o5,n5,rfl⟩);go_ret;exact ⟨rfl,eX⟩
theorem waits1_any (x:sA) (a b c:Int) (B BB:Nat) (a2:Option Addr) (m2 c2:Nat) (js:List Job) (w:World) (h0:w.cell? ⟨B,0,none⟩=some (vi a)) (h1:w.cell? ⟨B,1,none⟩=some (vi b)) (h2:w.cell? ⟨B,2,none⟩=some (vi c))
  (hc:w.cell? ⟨BB,2,none⟩=some (.slice a2 m2 c2)) (h:Sl w 2 jA js a2 m2 c2):
  Calls prog 188 #[stayA x,.pointer (some ⟨B,0,none⟩),.pointer (some ⟨BB,0,none⟩)] w fun e w'=>e = .returned (.bool (tN js a b c x))/\Ext w w':=by
 obtain ⟨t,⟨id,⟨lo,hi,he⟩⟩,⟨y0,y1,y2⟩⟩:=x;have HF:=aA h;have hB:=cA h0;have hBB:=cA hc;clear h
 by_cases e1:(⟨y0,y1,y2⟩:pB)=⟨a,b,c⟩
 ·have HR:Hid (tN js a b c ⟨t,⟨id,⟨lo,hi,he⟩⟩,⟨y0,y1,y2⟩⟩=false):=by unfold Hid tN;rw [decide_eq_true e1];rfl
  have hq1:∀ w,(Go.binOp .neq 89 (.agg #[vi y0,vi y1,vi y2]) (.agg #[vi a,vi b,vi c])).run prog w = .ok (.bool false) w:=fun w=>by rw [neqStruct w (fN w 9998 ⟨y0,y1,y2⟩ ⟨a,b,c⟩)];simp [e1]
  clear e1;go_enter func188,ntmps188
  go_upto_region 1 with fail
  (refine qF ?_;rintro _ ⟨oq,nq,rfl⟩)
  go_wp2;go_ret;exact ⟨by rw [HR.out];rfl,eX⟩
 ·have hq1:∀ w,(Go.binOp .neq 89 (.agg #[vi y0,vi y1,vi y2]) (.agg #[vi a,vi b,vi c])).run prog w = .ok (.bool true) w:=fun w=>by rw [neqStruct w (fN w 9998 ⟨y0,y1,y2⟩ ⟨a,b,c⟩)];simp [e1]
  by_cases e2:(⟨y0,y1,0⟩:pB)=⟨a,b,c⟩
  ·have hq2:∀ w,(Go.binOp .eql 89 (.agg #[vi y0,vi y1,vi 0]) (.agg #[vi a,vi b,vi c])).run prog w = .ok (.bool true) w:=fun w=>by rw [eI w y0 y1 0 a b c,decide_eq_true e2]
   have HR:Hid (tN js a b c ⟨t,⟨id,⟨lo,hi,he⟩⟩,⟨y0,y1,y2⟩⟩=decide ((⟨t,false⟩:Job)∈js)):=by
    have hf:aH ⟨y0,y1,y2⟩=⟨y0,y1,0⟩:=rfl;unfold Hid tN;simp only [hf];simp [e1,e2]
   clear e1 e2;go_enter func188,ntmps188
   go_upto_region 1 with fail
   (refine rA kR kR ?_;(repeat (first|go_big_quiet_step ((first|(intro _;go_at_call 156;exact qC (oO _ _ _ _))|(intro _;go_at_call 103;exact qC (gL _ _ _ js _ _ _ (Sl.below HF.out (Ext.below eX))))))|quiet_step (fail)));refine wpQuiet_nil ?_;rintro _ ⟨oq,nq,rfl⟩)
   go_wp2;go_ret;exact ⟨by rw [HR.out];rfl,eX⟩
  ·have hq2:∀ w,(Go.binOp .eql 89 (.agg #[vi y0,vi y1,vi 0]) (.agg #[vi a,vi b,vi c])).run prog w = .ok (.bool false) w:=fun w=>by rw [eI w y0 y1 0 a b c,decide_eq_false e2]
   have HR:Hid (tN js a b c ⟨t,⟨id,⟨lo,hi,he⟩⟩,⟨y0,y1,y2⟩⟩=false):=by
    have hf:aH ⟨y0,y1,y2⟩=⟨y0,y1,0⟩:=rfl;unfold Hid tN;simp only [hf];simp [e1,e2]
   clear e1 e2;go_enter func188,ntmps188
   go_upto_region 1 with fail
   (refine rA kR kR ?_;(repeat (first|go_big_quiet_step ((first|(intro _;go_at_call 156;exact qC (oO _ _ _ _))|(intro _;go_at_call 103;exact qC (gL _ _ _ js _ _ _ (Sl.below HF.out (Ext.below eX))))))|quiet_step (fail)));refine wpQuiet_nil ?_;rintro _ ⟨oq,nq,rfl⟩)
   go_wp2;go_ret;exact ⟨by rw [HR.out];rfl,eX⟩
theorem wait_pred (a b c:Int) (B BB:Nat) (a2:Option Addr) (m2 c2:Nat) (js:List Job) (w:World) (h0:w.cell? ⟨B,0,none⟩=some (vi a)) (h1:w.cell? ⟨B,1,none⟩=some (vi b)) (h2:w.cell? ⟨B,2,none⟩=some (vi c))
  (hc:w.cell? ⟨BB,2,none⟩=some (.slice a2 m2 c2)) (h:Sl w 2 jA js a2 m2 c2):
  bL w 188 #[.pointer (some ⟨B,0,none⟩),.pointer (some ⟨BB,0,none⟩)] (tN js a b c) where
 enters:=fun args w=>by kernel_rfl
 answers:=fun x W hx=>waits1_any x a b c B BB a2 m2 c2 js _ (eA hx h0) (eA hx h1) (eA hx h2) (eA hx hc) (Sl.below h hx.below)
theorem sN (last a b c:Int) (a1:Option Addr) (m1 c1:Nat) (a2:Option Addr) (m2 c2:Nat) (l:List sA) (js:List Job) (w:World) (h:Sl w 8 iA l a1 m1 c1) (h2:Sl w 2 jA js a2 m2 c2):
  Calls prog 157 #[lC last a1 m1 c1 a2 m2 c2,.agg #[vi a,vi b,vi c]] w fun e w'=>e = .returned (.bool (waitsB l js a b c))/\Ext w w':=by
 have HF:=aA h;have HJ:=aA h2;clear h h2;go_enter func157,ntmps157;go_wp2_with (go_at_call 153;refine (xG _ _ _ l _ _ _ _ (Sl.below HF.out (Ext.below eX)) (wait_pred a b c _ _ a2 m2 c2 js _ (by simp [go_sem]) (by simp [go_sem]) (by simp [go_sem]) (by simp [go_sem]) (Sl.below HJ.out (Ext.below eX)))).mono ?_;rintro e w5 ⟨rfl,o5,n5,rfl⟩);go_ret;exact ⟨rfl,eX⟩
def doP (l:List sA) (js:List Job) (levels:List dD) (s:dD) (p:pB):Bool:=
 pM s (levels.getD (p.level - 1).toNat default)&&!hasB l p.level p.side p.depth&&!hasB l p.level p.side 0&&!waitsB l js p.level p.side p.depth
theorem pick_doP (last:Int) (l:List sA) (js:List Job) (levels:List dD) (c:Car):pick ⟨last,l,js⟩ levels c=(aE levels.length).find? (doP l js levels c.size):=by
 unfold pick
 congr 1
 funext p
 rw [hasB_home,hasB_home,waitsB_waits];rfl
def pickV (o:Option pB):Value:=.tuple #[pD (o.getD ⟨0,0,0⟩),.bool o.isSome]
theorem sK {α:Type} {P:α->Bool} {l:List α} {k:Nat} {x:α} (hx:l[k]? = some x) (h:P x=false):(l.drop k).find? P=(l.drop (k+1)).find? P:=by
 have hk:k<l.length:=by
  rcases Nat.lt_or_ge k l.length with h1|h1
  ·exact h1
  ·rw [List.getElem?_eq_none h1] at hx;cases hx
 rw [List.drop_eq_getElem_cons hk,List.find?_cons];rw [List.getElem?_eq_getElem hk] at hx;cases hx;rw [h]
theorem find_yes {α:Type} {P:α->Bool} {l:List α} {k:Nat} {x:α} (hx:l[k]? = some x) (h:P x=true):(l.drop k).find? P=some x:=by
 have hk:k<l.length:=by
  rcases Nat.lt_or_ge k l.length with h1|h1
  ·exact h1
  ·rw [List.getElem?_eq_none h1] at hx;cases hx
 rw [List.drop_eq_getElem_cons hk,List.find?_cons];rw [List.getElem?_eq_getElem hk] at hx;cases hx;rw [h]
theorem put3 {w a:World} {R:Nat} {x y z x' y' z':Value} (hx:Ext w a) (hR:w.heap.size<=R) (c0:a.cell? ⟨R,0,none⟩=some x') (c1:a.cell? ⟨R,1,none⟩=some y') (c2:a.cell? ⟨R,2,none⟩=some z'):
  (((a.setCell ⟨R,0,none⟩ x).setCell ⟨R,1,none⟩ y).setCell ⟨R,2,none⟩ z).cell? ⟨R,0,none⟩=some x/\(((a.setCell ⟨R,0,none⟩ x).setCell ⟨R,1,none⟩ y).setCell ⟨R,2,none⟩ z).cell? ⟨R,1,none⟩=some y /\
  (((a.setCell ⟨R,0,none⟩ x).setCell ⟨R,1,none⟩ y).setCell ⟨R,2,none⟩ z).cell? ⟨R,2,none⟩=some z/\Ext w (((a.setCell ⟨R,0,none⟩ x).setCell ⟨R,1,none⟩ y).setCell ⟨R,2,none⟩ z):=by
 have n01:(⟨R,0,none⟩:Addr)≠⟨R,1,none⟩:=by intro e;cases e
 have n02:(⟨R,0,none⟩:Addr)≠⟨R,2,none⟩:=by intro e;cases e
 have n12:(⟨R,1,none⟩:Addr)≠⟨R,2,none⟩:=by intro e;cases e
 refine ⟨?_,?_,?_,?_⟩
 ·rw [World.cell?_setCell_other (h:=n02.symm),World.cell?_setCell_other (h:=n01.symm),World.cell?_setCell_same (h:=c0)]
 ·rw [World.cell?_setCell_other (h:=n12.symm),World.cell?_setCell_same (h:=(show (a.setCell ⟨R,0,none⟩ x).cell? ⟨R,1,none⟩=some y' by rw [World.cell?_setCell_other (h:=n01)];exact c1))]
 ·rw [World.cell?_setCell_same (h:=(show ((a.setCell ⟨R,0,none⟩ x).setCell ⟨R,1,none⟩ y).cell? ⟨R,2,none⟩=some z' by rw [World.cell?_setCell_other (h:=n12),World.cell?_setCell_other (h:=n02)];exact c2))]
 ·exact Ext.of_below (bF (S:=fun i=>w.heap.size<=i) (Ext.refl w).below (Nat.le_refl _) ((((fA.of_ext hx).setCell (Or.inl hR) _).setCell (Or.inl hR) _).setCell (Or.inl hR) _) (fun _ h=>h))
theorem pick_any (last id lo hi he:Int) (a1:Option Addr) (m1 c1:Nat) (a2:Option Addr) (m2 c2:Nat) (aL:Option Addr) (nL cL:Nat) (l:List sA) (js:List Job) (ls:List dD) (w:World)
  (h:Sl w 8 iA l a1 m1 c1) (h2:Sl w 2 jA js a2 m2 c2) (hL:Sl w 3 yB ls aL nL cL) (n1':1<=nL) (n4:nL<=4):
  Calls prog 95 #[lC last a1 m1 c1 a2 m2 c2,.slice aL nL cL,.agg #[vi id,vi lo,vi hi,vi he]] w fun e w'=>e = .returned (pickV (pick ⟨last,l,js⟩ ls ⟨id,⟨lo,hi,he⟩⟩))/\Ext w w':=by
 have b1:=hL.bound;have HF:=aA h;have HJ:=aA h2;have HL:=aA hL;have E3:=aA hL.len
 have i1:(1:Int)<=(nL:Int):=om
 have i4:(nL:Int)<=4:=om
 have hcf:∀ args w,(callFunc 152 args).run prog w = .ok (.enter 152 args) w:=fun args w=>by kernel_rfl
 clear h h2 hL;go_enter func95,ntmps95
 go_upto_region 3 with (go_at_call 155;refine (jK _ _ i1 i4).mono ?_;rintro e w1 hh;obtain ⟨pa,pn,pc,rfl,hpl,oP,nP,rfl⟩:=yG.sl hh;clear hh)
 have hpb:=hpl.bound;have HPN:=aA hpl.len;have HPL0:=aA hpl;clear hpl
 generalize hW:World.plus _ _ _=w0 at HPL0 ⊢
 have k0:w0.cell? ⟨w.heap.size,0,none⟩=some (vi last):=by rw [<-hW,cB _ _ _ _ _ _ so];simp [go_sem]
 have k1:w0.cell? ⟨w.heap.size,1,none⟩=some (.slice a1 m1 c1):=by rw [<-hW,cB _ _ _ _ _ _ so];simp [go_sem]
 have k2:w0.cell? ⟨w.heap.size,2,none⟩=some (.slice a2 m2 c2):=by rw [<-hW,cB _ _ _ _ _ _ so];simp [go_sem]
 have q1:w0.cell? ⟨w.heap.size+1,1,none⟩=some (vi lo):=by rw [<-hW,cB _ _ _ _ _ _ so];simp [go_sem]
 have q2:w0.cell? ⟨w.heap.size+1,2,none⟩=some (vi hi):=by rw [<-hW,cB _ _ _ _ _ _ so];simp [go_sem]
 have q3:w0.cell? ⟨w.heap.size+1,3,none⟩=some (vi he):=by rw [<-hW,cB _ _ _ _ _ _ so];simp [go_sem]
 have r0:w0.cell? ⟨w.heap.size+1+1,0,none⟩=some (vi 0):=by rw [<-hW,cB _ _ _ _ _ _ so];simp [go_sem]
 have r1:w0.cell? ⟨w.heap.size+1+1,1,none⟩=some (vi 0):=by rw [<-hW,cB _ _ _ _ _ _ so];simp [go_sem]
 have r2:w0.cell? ⟨w.heap.size+1+1,2,none⟩=some (vi 0):=by rw [<-hW,cB _ _ _ _ _ _ so];simp [go_sem]
 have fz:∀ i,w0.frozen? ⟨w.heap.size+1+1,i,none⟩=false:=by intro i;rw [<-hW,bN _ _ _ _ _ _ so];simp [go_sem]
 have hx:Ext w w0:=xQ hW;have HX:=aA hx;have HS:=aA (Sl.below HF.out hx.below);have HK:=aA (Sl.below HJ.out hx.below);have HZ:=aA (Sl.below HL.out hx.below);have z1:=cA k0;have z2:=cA q1;have z3:=cA r0;have FZ:=aA fz;clear hW hx HF HJ HL fz
 have HPK:Hid (pick ⟨last,l,js⟩ ls ⟨id,⟨lo,hi,he⟩⟩=(aE (nL:Int)).find? (doP l js ls ⟨lo,hi,he⟩)):=by unfold Hid;rw [pick_doP,E3.out]
 go_loopw [16] (fun i wr=>∃ k:Nat,k<=pn/\i = .int .i64 k/\Hid ((aE (nL:Int)).find? (doP l js ls ⟨lo,hi,he⟩)=((aE (nL:Int)).drop k).find? (doP l js ls ⟨lo,hi,he⟩))/\Ext w0 wr) (fun i _=>pn - (intOf i).toNat)
 case atStart=>exact ⟨0,om,rfl,by simp [Hid],eX⟩
 case round=>
  obtain ⟨k,hk,rfl,HT,o,m,rfl⟩:=hrel
  by_cases hlt:k<pn
  ·obtain ⟨b,q,x,rfl,hx,dx⟩:=HPL0.out.get hlt
   have dx:=at3 dx;have hq:=cA dx.1;have HXX:=aA hx;have hok:=places_ok (n:=(nL:Int)) i4 x (List.mem_of_getElem? hx);have hokk:=uC.1 hok;obtain ⟨u,v,z⟩:=x;dsimp only at dx hokk
   obtain ⟨j,rfl⟩:∃ j:Nat,u=(j:Int)+1:=⟨(u - 1).toNat,om⟩
   have hjl:j<nL:=om
   have hj0:(0:Int)<=(j:Int):=om
   have hj1:(j:Int)<(nL:Int):=om
   have hw1:IntKind.i64.wrap (j:Int)=(j:Int):=IntWalk.i64_in _ om
   have hw2:IntKind.i64.wrap ((j:Int)+1 - 1)=(j:Int):=by rw [show (j:Int)+1 - 1=j by omega];exact hw1
   obtain ⟨lb,lq,s,rfl,hs,ds⟩:=HZ.out.get hjl;have ds:=at3 ds;have hlb:=cA ds.1;obtain ⟨s0,s1,s2⟩:=s;dsimp only at ds
   have HD:Hid (doP l js ls ⟨lo,hi,he⟩ ⟨(j:Int)+1,v,z⟩=(pM ⟨lo,hi,he⟩ ⟨s0,s1,s2⟩&&!hasB l ((j:Int)+1) v z&&!hasB l ((j:Int)+1) v 0&&!waitsB l js ((j:Int)+1) v z)):=by
    unfold Hid doP;dsimp only;rw [show ((j:Int)+1 - 1).toNat=j by omega,List.getD_eq_getElem?_getD,hs];rfl
   clear hx hok hokk hs;cases hf:pM ⟨lo,hi,he⟩ ⟨s0,s1,s2⟩
   ·have HNO:Hid (doP l js ls ⟨lo,hi,he⟩ ⟨(j:Int)+1,v,z⟩=false):=by unfold Hid;rw [HD.out,hf];rfl
    go_upto_region 5 with fail
    generalize hW:World.alloc _ _=w3;have f0:w3.cell? ⟨w0.heap.size+o.size,0,none⟩=some (vi ((j:Int)+1)):=cQ hW;have f1:w3.cell? ⟨w0.heap.size+o.size,1,none⟩=some (vi v):=cQ hW;have f2:w3.cell? ⟨w0.heap.size+o.size,2,none⟩=some (vi z):=cQ hW;have hx3:Ext w0 w3:=xQ hW;have HX3:=aA hx3;have g0:=eA hx3 k0;have g1:=eA hx3 k1;have g2:=eA hx3 k2;have gq1:=eA hx3 q1;have gq2:=eA hx3 q2;have gq3:=eA hx3 q3;have gr0:=eA hx3 r0;have gr1:=eA hx3 r1;have gr2:=eA hx3 r2;have gl0:=eA hx3 ds.1;have gl1:=eA hx3 ds.2.1;have gl2:=eA hx3 ds.2.2;have gz:=cA f0;have gz0:=cA g0;have gz1:=cA gq1;have gz2:=cA gr0;have gz3:=cA gl0;clear hW hx3
    (refine rA kR kR ?_;(repeat (first|go_big_quiet_step ((first|(intro _;go_at_call 88;exact qC (fits_f _ _ _ _ _ _ _))|(intro _;go_at_call 156;exact qC (oO _ _ _ _))|(intro _;go_at_call 152;exact qC (uN _ _ _ w.heap.size a1 m1 c1 l _ (eA (w:=w3) eX g1) (Sl.below HS.out (HX3.out.trans eX).below)))|(intro _;go_at_call 157;exact qC (sN _ _ _ _ _ _ _ _ _ _ l js _ (Sl.below HS.out (HX3.out.trans eX).below) (Sl.below HK.out (HX3.out.trans eX).below)))))|quiet_step (fail)));refine wpQuiet_nil ?_;rintro _ ⟨oq,nq,rfl⟩)
    go_wp2;go_roundw
    case rel=>first|exact ⟨k+1,om,by go_num,by unfold Hid;rw [HT.out];exact sK HXX.out HNO.out,HX3.out.trans eX⟩|(repeat apply Exists.intro;refine ⟨?_,rfl⟩;exact ⟨k+1,om,by go_num,by unfold Hid;rw [HT.out];exact sK HXX.out HNO.out,HX3.out.trans eX⟩)
    case measure=>simp [intOf];omega
   ·cases hb1:hasB l ((j:Int)+1) v z
    ·cases hb2:hasB l ((j:Int)+1) v 0
     ·cases hb3:waitsB l js ((j:Int)+1) v z
      ·have HYES:Hid (doP l js ls ⟨lo,hi,he⟩ ⟨(j:Int)+1,v,z⟩=true):=by unfold Hid;rw [HD.out,hf,hb1,hb2,hb3];rfl
       go_upto_region 5 with fail
       generalize hW:World.alloc _ _=w3;have f0:w3.cell? ⟨w0.heap.size+o.size,0,none⟩=some (vi ((j:Int)+1)):=cQ hW;have f1:w3.cell? ⟨w0.heap.size+o.size,1,none⟩=some (vi v):=cQ hW;have f2:w3.cell? ⟨w0.heap.size+o.size,2,none⟩=some (vi z):=cQ hW;have hx3:Ext w0 w3:=xQ hW;have HX3:=aA hx3;have g0:=eA hx3 k0;have g1:=eA hx3 k1;have g2:=eA hx3 k2;have gq1:=eA hx3 q1;have gq2:=eA hx3 q2;have gq3:=eA hx3 q3;have gr0:=eA hx3 r0;have gr1:=eA hx3 r1;have gr2:=eA hx3 r2;have gl0:=eA hx3 ds.1;have gl1:=eA hx3 ds.2.1;have gl2:=eA hx3 ds.2.2;have gz:=cA f0;have gz0:=cA g0;have gz1:=cA gq1;have gz2:=cA gr0;have gz3:=cA gl0;clear hW hx3
       (refine rA kR kR ?_;(repeat (first|go_big_quiet_step ((first|(intro _;go_at_call 88;exact qC (fits_f _ _ _ _ _ _ _))|(intro _;go_at_call 156;exact qC (oO _ _ _ _))|(intro _;go_at_call 152;exact qC (uN _ _ _ w.heap.size a1 m1 c1 l _ (eA (w:=w3) eX g1) (Sl.below HS.out (HX3.out.trans eX).below)))|(intro _;go_at_call 157;exact qC (sN _ _ _ _ _ _ _ _ _ _ l js _ (Sl.below HS.out (HX3.out.trans eX).below) (Sl.below HK.out (HX3.out.trans eX).below)))))|quiet_step (fail)));refine wpQuiet_nil ?_;rintro _ ⟨oq,nq,rfl⟩)
       have y0:=FZ.out 0;have y1:=FZ.out 1;have y2:=FZ.out 2;have x0:=kA HX3.out z3 y0;have x1:=kA HX3.out z3 y1;have x2:=kA HX3.out z3 y2;go_wp2;obtain ⟨p0,p1,p2,px⟩:=put3 (w:=w) (x:=.int .i64 ((j:Int)+1)) (y:=.int .i64 v) (z:=.int .i64 z) (HX.out.trans (HX3.out.trans (show Ext w3 (w3.plus oq nq) from eX))) (show w.heap.size<=w.heap.size+1+1 by omega) (eA (w:=w3) eX gr0) (eA (w:=w3) eX gr1) (eA (w:=w3) eX gr2);refine bodyPost_ret (v:=.tuple #[.agg #[vi ((j:Int)+1),vi v,vi z],.bool true]) (by simp [results,results95,go_sem,p0,p1,p2]) rfl ⟨?_,px⟩;rw [HPK.out,HT.out,find_yes HXX.out HYES.out];rfl
      ·have HNO:Hid (doP l js ls ⟨lo,hi,he⟩ ⟨(j:Int)+1,v,z⟩=false):=by unfold Hid;rw [HD.out,hf,hb1,hb2,hb3];rfl
       go_upto_region 5 with fail
       generalize hW:World.alloc _ _=w3;have f0:w3.cell? ⟨w0.heap.size+o.size,0,none⟩=some (vi ((j:Int)+1)):=cQ hW;have f1:w3.cell? ⟨w0.heap.size+o.size,1,none⟩=some (vi v):=cQ hW;have f2:w3.cell? ⟨w0.heap.size+o.size,2,none⟩=some (vi z):=cQ hW;have hx3:Ext w0 w3:=xQ hW;have HX3:=aA hx3;have g0:=eA hx3 k0;have g1:=eA hx3 k1;have g2:=eA hx3 k2;have gq1:=eA hx3 q1;have gq2:=eA hx3 q2;have gq3:=eA hx3 q3;have gr0:=eA hx3 r0;have gr1:=eA hx3 r1;have gr2:=eA hx3 r2;have gl0:=eA hx3 ds.1;have gl1:=eA hx3 ds.2.1;have gl2:=eA hx3 ds.2.2;have gz:=cA f0;have gz0:=cA g0;have gz1:=cA gq1;have gz2:=cA gr0;have gz3:=cA gl0;clear hW hx3
       (refine rA kR kR ?_;(repeat (first|go_big_quiet_step ((first|(intro _;go_at_call 88;exact qC (fits_f _ _ _ _ _ _ _))|(intro _;go_at_call 156;exact qC (oO _ _ _ _))|(intro _;go_at_call 152;exact qC (uN _ _ _ w.heap.size a1 m1 c1 l _ (eA (w:=w3) eX g1) (Sl.below HS.out (HX3.out.trans eX).below)))|(intro _;go_at_call 157;exact qC (sN _ _ _ _ _ _ _ _ _ _ l js _ (Sl.below HS.out (HX3.out.trans eX).below) (Sl.below HK.out (HX3.out.trans eX).below)))))|quiet_step (fail)));refine wpQuiet_nil ?_;rintro _ ⟨oq,nq,rfl⟩)
       go_wp2;go_roundw
       case rel=>first|exact ⟨k+1,om,by go_num,by unfold Hid;rw [HT.out];exact sK HXX.out HNO.out,HX3.out.trans eX⟩|(repeat apply Exists.intro;refine ⟨?_,rfl⟩;exact ⟨k+1,om,by go_num,by unfold Hid;rw [HT.out];exact sK HXX.out HNO.out,HX3.out.trans eX⟩)
       case measure=>simp [intOf];omega
     ·have HNO:Hid (doP l js ls ⟨lo,hi,he⟩ ⟨(j:Int)+1,v,z⟩=false):=by unfold Hid;rw [HD.out,hf,hb1,hb2];rfl
      go_upto_region 5 with fail
      generalize hW:World.alloc _ _=w3;have f0:w3.cell? ⟨w0.heap.size+o.size,0,none⟩=some (vi ((j:Int)+1)):=cQ hW;have f1:w3.cell? ⟨w0.heap.size+o.size,1,none⟩=some (vi v):=cQ hW;have f2:w3.cell? ⟨w0.heap.size+o.size,2,none⟩=some (vi z):=cQ hW;have hx3:Ext w0 w3:=xQ hW;have HX3:=aA hx3;have g0:=eA hx3 k0;have g1:=eA hx3 k1;have g2:=eA hx3 k2;have gq1:=eA hx3 q1;have gq2:=eA hx3 q2;have gq3:=eA hx3 q3;have gr0:=eA hx3 r0;have gr1:=eA hx3 r1;have gr2:=eA hx3 r2;have gl0:=eA hx3 ds.1;have gl1:=eA hx3 ds.2.1;have gl2:=eA hx3 ds.2.2;have gz:=cA f0;have gz0:=cA g0;have gz1:=cA gq1;have gz2:=cA gr0;have gz3:=cA gl0;clear hW hx3
      (refine rA kR kR ?_;(repeat (first|go_big_quiet_step ((first|(intro _;go_at_call 88;exact qC (fits_f _ _ _ _ _ _ _))|(intro _;go_at_call 156;exact qC (oO _ _ _ _))|(intro _;go_at_call 152;exact qC (uN _ _ _ w.heap.size a1 m1 c1 l _ (eA (w:=w3) eX g1) (Sl.below HS.out (HX3.out.trans eX).below)))|(intro _;go_at_call 157;exact qC (sN _ _ _ _ _ _ _ _ _ _ l js _ (Sl.below HS.out (HX3.out.trans eX).below) (Sl.below HK.out (HX3.out.trans eX).below)))))|quiet_step (fail)));refine wpQuiet_nil ?_;rintro _ ⟨oq,nq,rfl⟩)
      go_wp2;go_roundw
      case rel=>first|exact ⟨k+1,om,by go_num,by unfold Hid;rw [HT.out];exact sK HXX.out HNO.out,HX3.out.trans eX⟩|(repeat apply Exists.intro;refine ⟨?_,rfl⟩;exact ⟨k+1,om,by go_num,by unfold Hid;rw [HT.out];exact sK HXX.out HNO.out,HX3.out.trans eX⟩)
      case measure=>simp [intOf];omega
    ·have HNO:Hid (doP l js ls ⟨lo,hi,he⟩ ⟨(j:Int)+1,v,z⟩=false):=by unfold Hid;rw [HD.out,hf,hb1];rfl
     go_upto_region 5 with fail
     generalize hW:World.alloc _ _=w3;have f0:w3.cell? ⟨w0.heap.size+o.size,0,none⟩=some (vi ((j:Int)+1)):=cQ hW;have f1:w3.cell? ⟨w0.heap.size+o.size,1,none⟩=some (vi v):=cQ hW;have f2:w3.cell? ⟨w0.heap.size+o.size,2,none⟩=some (vi z):=cQ hW;have hx3:Ext w0 w3:=xQ hW;have HX3:=aA hx3;have g0:=eA hx3 k0;have g1:=eA hx3 k1;have g2:=eA hx3 k2;have gq1:=eA hx3 q1;have gq2:=eA hx3 q2;have gq3:=eA hx3 q3;have gr0:=eA hx3 r0;have gr1:=eA hx3 r1;have gr2:=eA hx3 r2;have gl0:=eA hx3 ds.1;have gl1:=eA hx3 ds.2.1;have gl2:=eA hx3 ds.2.2;have gz:=cA f0;have gz0:=cA g0;have gz1:=cA gq1;have gz2:=cA gr0;have gz3:=cA gl0;clear hW hx3
     (refine rA kR kR ?_;(repeat (first|go_big_quiet_step ((first|(intro _;go_at_call 88;exact qC (fits_f _ _ _ _ _ _ _))|(intro _;go_at_call 156;exact qC (oO _ _ _ _))|(intro _;go_at_call 152;exact qC (uN _ _ _ w.heap.size a1 m1 c1 l _ (eA (w:=w3) eX g1) (Sl.below HS.out (HX3.out.trans eX).below)))|(intro _;go_at_call 157;exact qC (sN _ _ _ _ _ _ _ _ _ _ l js _ (Sl.below HS.out (HX3.out.trans eX).below) (Sl.below HK.out (HX3.out.trans eX).below)))))|quiet_step (fail)));refine wpQuiet_nil ?_;rintro _ ⟨oq,nq,rfl⟩)
     go_wp2;go_roundw
     case rel=>first|exact ⟨k+1,om,by go_num,by unfold Hid;rw [HT.out];exact sK HXX.out HNO.out,HX3.out.trans eX⟩|(repeat apply Exists.intro;refine ⟨?_,rfl⟩;exact ⟨k+1,om,by go_num,by unfold Hid;rw [HT.out];exact sK HXX.out HNO.out,HX3.out.trans eX⟩)
     case measure=>simp [intOf];omega
  ·have y0:=FZ.out 0
   have y1:=FZ.out 1;have y2:=FZ.out 2;go_wp2;obtain ⟨p0,p1,p2,px⟩:=put3 (w:=w) (x:=.int .i64 0) (y:=.int .i64 0) (z:=.int .i64 0) (HX.out.trans (show Ext w0 (w0.plus o m) from eX)) (show w.heap.size<=w.heap.size+1+1 by omega) (eA (w:=w0) eX r0) (eA (w:=w0) eX r1) (eA (w:=w0) eX r2);refine bodyPost_ret (v:=.tuple #[.agg #[vi 0,vi 0,vi 0],.bool false]) (by simp [results,results95,go_sem,p0,p1,p2]) rfl ⟨?_,px⟩;rw [HPK.out,HT.out,List.drop_of_length_le (by have:=HPN.out;omega)];rfl
