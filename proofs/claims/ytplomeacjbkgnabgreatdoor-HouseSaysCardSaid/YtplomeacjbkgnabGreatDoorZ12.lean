import Derived.Test.YtplomeacjbkgnabGreatDoorZ11
set_option linter.all false
set_option maxRecDepth 100000
set_option maxHeartbeats 16000000
namespace Go.Proofs.YtplomeacjbkgnabGreatDoor
open Go.RowKit
theorem jobs_at (st:List Ch.Stay) {l:List Ch.Job} {k:Nat} {j:Ch.Job} (hj:l[k]? = some j):
  Ch.jobsFault st (l.take k) (l.drop k)=if (st.any fun s=>s.ticket==j.ticket)=false∨j∈l.take k then 3 else Ch.jobsFault st (l.take (k+1)) (l.drop (k+1)):=by
 have hk:k<l.length:=by
  by_cases h:k<l.length
  ·exact h
  ·rw [List.getElem?_eq_none (by omega)] at hj;cases hj
 rw [List.drop_eq_getElem_cons hk,List.take_add_one,hj];rw [List.getElem?_eq_getElem hk] at hj;cases hj;rfl
theorem index_none {l:List Ch.Stay} {p:Ch.Stay→Bool} (h:l.any p=false):Ch.indexOf p l=-1:=by
 unfold Ch.indexOf
 have:l.findIdx? p=none:=by
  rw [List.findIdx?_eq_none_iff];intro x hx;have h2:=List.any_eq_false.1 h x hx
  simpa using h2
 rw [this]
theorem index_some {l:List Ch.Stay} {p:Ch.Stay→Bool} (h:l.any p=true):∃ i:Nat,Ch.indexOf p l=i:=by
 unfold Ch.indexOf
 cases h2:l.findIdx? p with
 | none=>
  rw [List.findIdx?_eq_none_iff] at h2;obtain ⟨x,hx,hp⟩:=List.any_eq_true.1 h;have:=h2 x hx;rw [hp] at this;cases this
 | some i=>exact ⟨i,rfl⟩
theorem kJ (fi last t:Int) (a1:Option Addr) (m1 c1:Nat) (a2:Option Addr) (m2 c2:Nat) (l:List Ch.Stay) (w:World) (h:Sl w 8 gA l a1 m1 c1) (hf:Hid (Ch.indexOf (fun s=>s.ticket==t) l=fi)):
  Calls Tryz.prog 102 #[rB last a1 m1 c1 a2 m2 c2,vi t] w fun e w'=>e = .returned (vi fi)∧Ext w w':=by
 have:=find_any last t a1 m1 c1 a2 m2 c2 l w h;rw [hf.out] at this;exact this
theorem dF (bb:Bool) (a:Option Addr) (n cap:Nat) (l:List Ch.Job) (t:Int) (f:Bool) (w:World) (h:Sl w 2 jA l a n cap) (hb:Hid (decide ((⟨t,f⟩:Ch.Job)∈l)=bb)):
  Calls Tryz.prog 103 #[.slice a n cap,.agg #[vi t,.bool f]] w fun e w'=>e = .returned (.bool bb)∧Ext w w':=by
 have:=fH a n cap l t f w h;rw [hb.out] at this;exact this
theorem bookcheck_any (last levels:Int) (a1:Option Addr) (m1 c1:Nat) (a2:Option Addr) (m2 c2:Nat) (l:List Ch.Stay) (js:List Ch.Job) (w:World) (h:Sl w 8 gA l a1 m1 c1) (h2:Sl w 2 jA js a2 m2 c2) (hl4:levels≤4):
  Calls Tryz.prog 97 #[rB last a1 m1 c1 a2 m2 c2,vi levels] w fun e w'=>e = .returned (kB (Ch.bookFault ⟨last,l,js⟩ levels))∧Ext w w':=by
 have b1:=h.bound;have b2:=h2.bound;have HF:=aA h;have HJ:=aA h2;have E1:=aA h.len;have E2:=aA h2.len;clear h h2
 by_cases hl:last<0∨999999<last
 ·have HB:Hid (Ch.bookFault ⟨last,l,js⟩ levels=1):=by unfold Hid Ch.bookFault;rw [if_pos hl]
  by_cases hl1:last<0
  ·clear hl
   go_enter Tryz.func97,Tryz.ntmps97;go_wp2;go_ret;exact ⟨by rw [HB.out];rfl,eX⟩
  ·have hl2:999999<last:=by omega
   clear hl;go_enter Tryz.func97,Tryz.ntmps97;go_wp2;go_ret;exact ⟨by rw [HB.out];rfl,eX⟩
 ·have hl1:0≤last:=by omega
  have hl2:last≤999999:=by omega
  by_cases hm:16<m1∨8<m2
  ·have HB:Hid (Ch.bookFault ⟨last,l,js⟩ levels=2):=by unfold Hid Ch.bookFault;rw [if_neg hl];dsimp only;rw [E1.out,E2.out,if_pos hm]
   by_cases hm1:16<m1
   ·have hm1':(16:Int)<(m1:Int):=by omega
    clear hl hm;go_enter Tryz.func97,Tryz.ntmps97;go_wp2;go_ret;exact ⟨by rw [HB.out];rfl,eX⟩
   ·have hm1':(m1:Int)≤16:=by omega
    have hm2':(8:Int)<(m2:Int):=by omega
    clear hl hm;go_enter Tryz.func97,Tryz.ntmps97;go_wp2;go_ret;exact ⟨by rw [HB.out];rfl,eX⟩
  ·have hm1':(m1:Int)≤16:=by omega
   have hm2':(m2:Int)≤8:=by omega
   by_cases hs:Ch.staysFault levels last [] l=0
   ·have HB:Hid (Ch.bookFault ⟨last,l,js⟩ levels=Ch.jobsFault l [] js):=by
     unfold Hid Ch.bookFault;rw [if_neg hl];dsimp only;rw [E1.out,E2.out,if_neg hm,if_neg (by rw [hs];decide)]
    have HE:Hid (kB (Ch.staysFault levels last [] l) = .nilIface):=by unfold Hid;rw [hs];rfl
    clear hl hm hs;go_enter Tryz.func97,Tryz.ntmps97;go_wp2_with (go_at_call 160;(with_reducible refine (bookstays_any last levels a1 m1 c1 a2 m2 c2 l _ (Sl.below HF.out (Ext.below eX)) hl4).mono ?_);rintro e w1 ⟨he,oS,nS,rfl⟩;rw [HE.out] at he;subst he);generalize hW:World.plus _ _ _=w0;have k0:w0.cell? ⟨w.heap.size,0,none⟩=some (vi last):=cQ hW;have k1:w0.cell? ⟨w.heap.size,1,none⟩=some (.slice a1 m1 c1):=cQ hW;have k2:w0.cell? ⟨w.heap.size,2,none⟩=some (.slice a2 m2 c2):=cQ hW;have hx:Ext w w0:=xQ hW;have HS:=aA (Sl.below HF.out hx.below);have HK:=aA (Sl.below HJ.out hx.below);have HX:=aA hx;have z1:=dA k0;clear hW hx HF HJ
    go_loopw [37] (fun i wr=>∃ k:Nat,k≤m2∧i = .int .i64 k∧Hid (Ch.jobsFault l [] js=Ch.jobsFault l (js.take k) (js.drop k))∧Ext w0 wr) (fun i _=>m2 - (intOf i).toNat)
    case atStart=>exact ⟨0,by omega,rfl,by simp [Hid],eX⟩
    case round=>
     obtain ⟨k,hk,rfl,HT,o,m,rfl⟩:=hrel
     by_cases hlt:k<m2
     ·obtain ⟨b,q,j,rfl,hj,dj⟩:=HK.out.get hlt
      have dj:=at2 dj;have hq:=dA dj.1;obtain ⟨t,f⟩:=j;dsimp only at dj;have HJJ:=aA hj
      have hk0:(0:Int)≤(k:Int):=by omega
      have hk1:(k:Int)≤(m2:Int):=by omega
      have hk2:(k:Int)≤(c2:Int):=by omega
      clear hj;have HA:Hid (Ch.jobsFault l (js.take k) (js.drop k)=if (l.any fun s=>s.ticket==t)=false∨(⟨t,f⟩:Ch.Job)∈js.take k then 3 else Ch.jobsFault l (js.take (k+1)) (js.drop (k+1))):=jobs_at l HJJ.out
      cases ha:(l.any fun s=>s.ticket==t)
      ·have HI:Hid (Ch.indexOf (fun s:Ch.Stay=>s.ticket==t) l=-1):=index_none ha
       have HR:Hid (Ch.jobsFault l (js.take k) (js.drop k)=3):=by unfold Hid;rw [HA.out,if_pos (Or.inl ha)]
       clear ha
       go_upto_region 11 with fail
       generalize hW:World.alloc _ _=w3;have f0:w3.cell? ⟨w0.heap.size+o.size,0,none⟩=some (vi t):=cQ hW;have f1:w3.cell? ⟨w0.heap.size+o.size,1,none⟩=some (.bool f):=cQ hW;have hx3:Ext w0 w3:=xQ hW;have HX3:=aA hx3;have g0:=iA hx3 k0;have g1:=iA hx3 k1;have g2:=iA hx3 k2;have gz:=dA f0;have gz0:=dA g0;clear hW hx3
       (refine fA kR kR ?_;(repeat (first|go_big_quiet_step ((first|(intro _;go_at_call 102;exact qC (kJ (-1) _ _ _ _ _ _ _ _ l _ (Sl.below HS.out (HX3.out.trans eX).below) HI))))|quiet_step (fail)));refine wpQuiet_nil ?_;rintro _ ⟨oq,nq,rfl⟩)
       go_wp2;go_ret;exact ⟨by rw [HB.out,HT.out,HR.out];rfl,(HX.out.trans HX3.out).trans eX⟩
      ·obtain ⟨fi,hfi⟩:=index_some ha
       have HI:Hid (Ch.indexOf (fun s:Ch.Stay=>s.ticket==t) l=(fi:Int)):=hfi;have HAY:=aA ha
       have hfi0:¬ ((fi:Int)<0):=by omega
       clear ha hfi;cases hc:decide ((⟨t,f⟩:Ch.Job)∈js.take k)
       ·have HC:=aA hc
        have HR:Hid (Ch.jobsFault l (js.take k) (js.drop k)=Ch.jobsFault l (js.take (k+1)) (js.drop (k+1))):=by
         unfold Hid;rw [HA.out,if_neg];rintro (h1|h1)
         ·rw [HAY.out] at h1;cases h1
         ·exact of_decide_eq_false hc h1
        clear hc
        go_upto_region 11 with fail
        generalize hW:World.alloc _ _=w3;have f0:w3.cell? ⟨w0.heap.size+o.size,0,none⟩=some (vi t):=cQ hW;have f1:w3.cell? ⟨w0.heap.size+o.size,1,none⟩=some (.bool f):=cQ hW;have hx3:Ext w0 w3:=xQ hW;have HX3:=aA hx3;have g0:=iA hx3 k0;have g1:=iA hx3 k1;have g2:=iA hx3 k2;have gz:=dA f0;have gz0:=dA g0;clear hW hx3
        (refine fA kR kR ?_;(repeat (first|go_big_quiet_step ((first|(intro _;go_at_call 102;exact qC (kJ (fi:Int) _ _ _ _ _ _ _ _ l _ (Sl.below HS.out (HX3.out.trans eX).below) HI))|(intro _;go_at_call 103;exact ext_callG (dF false _ _ _ (js.take k) _ _ _ (sl_takeB (Sl.below HK.out (HX3.out.trans eX).below) (by omega)) HC) (by rintro w' ⟨o',n',rfl⟩;exact ⟨_,n',by first|(simp only [rC];rfl)|(simp only [rC,Array.append_assoc];rfl)|rfl⟩))))|quiet_step (fail)));refine wpQuiet_nil ?_;rintro _ ⟨oq,nq,rfl⟩)
        go_wp2;go_roundw
        case rel=>first|exact ⟨k+1,by omega,by go_num,by unfold Hid;rw [HT.out,HR.out],HX3.out.trans eX⟩|(repeat apply Exists.intro;refine ⟨?_,rfl⟩;exact ⟨k+1,by omega,by go_num,by unfold Hid;rw [HT.out,HR.out],HX3.out.trans eX⟩)
        case measure=>simp [intOf];omega
       ·have HC:=aA hc
        have HR:Hid (Ch.jobsFault l (js.take k) (js.drop k)=3):=by unfold Hid;rw [HA.out,if_pos (Or.inr (of_decide_eq_true hc))]
        clear hc
        go_upto_region 11 with fail
        generalize hW:World.alloc _ _=w3;have f0:w3.cell? ⟨w0.heap.size+o.size,0,none⟩=some (vi t):=cQ hW;have f1:w3.cell? ⟨w0.heap.size+o.size,1,none⟩=some (.bool f):=cQ hW;have hx3:Ext w0 w3:=xQ hW;have HX3:=aA hx3;have g0:=iA hx3 k0;have g1:=iA hx3 k1;have g2:=iA hx3 k2;have gz:=dA f0;have gz0:=dA g0;clear hW hx3
        (refine fA kR kR ?_;(repeat (first|go_big_quiet_step ((first|(intro _;go_at_call 102;exact qC (kJ (fi:Int) _ _ _ _ _ _ _ _ l _ (Sl.below HS.out (HX3.out.trans eX).below) HI))|(intro _;go_at_call 103;exact ext_callG (dF true _ _ _ (js.take k) _ _ _ (sl_takeB (Sl.below HK.out (HX3.out.trans eX).below) (by omega)) HC) (by rintro w' ⟨o',n',rfl⟩;exact ⟨_,n',by first|(simp only [rC];rfl)|(simp only [rC,Array.append_assoc];rfl)|rfl⟩))))|quiet_step (fail)));refine wpQuiet_nil ?_;rintro _ ⟨oq,nq,rfl⟩)
        go_wp2;go_ret;exact ⟨by rw [HB.out,HT.out,HR.out];rfl,(HX.out.trans HX3.out).trans eX⟩
     ·go_wp2
      go_ret;refine ⟨?_,HX.out.trans eX⟩;rw [HB.out,HT.out,List.drop_of_length_le (by have:=E2.out;omega)];rfl
   ·have HB:Hid (Ch.bookFault ⟨last,l,js⟩ levels=Ch.staysFault levels last [] l):=by
     unfold Hid Ch.bookFault;rw [if_neg hl];dsimp only;rw [E1.out,E2.out,if_neg hm,if_pos hs]
    obtain ⟨E,HE⟩:∃ E,Hid (kB (Ch.staysFault levels last [] l) = .iface 92 (vi E)):=⟨_,by unfold Hid kB;rw [if_neg hs]⟩
    clear hl hm hs;go_enter Tryz.func97,Tryz.ntmps97;go_wp2_with (go_at_call 160;(with_reducible refine (bookstays_any last levels a1 m1 c1 a2 m2 c2 l _ (Sl.below HF.out (Ext.below eX)) hl4).mono ?_);rintro e w1 ⟨he,oS,nS,rfl⟩;rw [HE.out] at he;subst he);go_ret;exact ⟨by rw [HB.out,HE.out];rfl,eX⟩
def hasB (l:List Ch.Stay) (a b c:Int):Bool:=l.any fun s=>decide (s.home=⟨a,b,c⟩)
theorem hasB_home (last:Int) (l:List Ch.Stay) (js:List Ch.Job) (p:Ch.Place):Ch.hasHome ⟨last,l,js⟩ p=hasB l p.level p.side p.depth:=rfl
def uI (js:List Ch.Job) (a b c:Int) (s:Ch.Stay):Bool:=!decide (s.home=⟨a,b,c⟩)&&decide (Ch.front s.home=⟨a,b,c⟩)&&decide ((⟨s.ticket,false⟩:Ch.Job)∈js)
def waitsB (l:List Ch.Stay) (js:List Ch.Job) (a b c:Int):Bool:=l.any (uI js a b c)
theorem waitsB_waits (last:Int) (l:List Ch.Stay) (js:List Ch.Job) (p:Ch.Place):Ch.waits ⟨last,l,js⟩ p=waitsB l js p.level p.side p.depth:=by
 unfold Ch.waits waitsB
 congr 1
 funext s
 unfold uI;simp only [List.contains_eq_mem];rfl
theorem pick11_any (x:Ch.Stay) (a b c:Int) (B:Nat) (w:World) (h0:w.cell? ⟨B,0,none⟩=some (vi a)) (h1:w.cell? ⟨B,1,none⟩=some (vi b)) (h2:w.cell? ⟨B,2,none⟩=some (vi c)):
  Calls Tryz.prog 154 #[stayA x,.pointer (some ⟨B,0,none⟩)] w fun e w'=>e = .returned (.bool (decide (x.home=⟨a,b,c⟩)))∧Ext w w':=by
 have hB:=dA h0
 have hq1:∀ w,(Go.binOp .eql 89 (.agg #[vi x.home.level,vi x.home.side,vi x.home.depth]) (.agg #[vi a,vi b,vi c])).run Tryz.prog w = .ok (.bool (decide (x.home=⟨a,b,c⟩))) w:=fun w=>by rw [bF]
 go_enter Tryz.func154,Tryz.ntmps154;go_wp2;go_ret;exact ⟨rfl,eX⟩
theorem home_pred (a b c:Int) (B:Nat) (w:World) (h0:w.cell? ⟨B,0,none⟩=some (vi a)) (h1:w.cell? ⟨B,1,none⟩=some (vi b)) (h2:w.cell? ⟨B,2,none⟩=some (vi c)):
  bH w 154 #[.pointer (some ⟨B,0,none⟩)] (fun s=>decide (s.home=⟨a,b,c⟩)) where
 enters:=fun args w=>by kernel_rfl
 answers:=fun x W hx=>pick11_any x a b c B _ (iA hx h0) (iA hx h1) (iA hx h2)
theorem vI (a b c:Int) (BB:Nat) (a1:Option Addr) (m1 c1:Nat) (l:List Ch.Stay) (w:World) (hc:w.cell? ⟨BB,1,none⟩=some (.slice a1 m1 c1)) (h:Sl w 8 gA l a1 m1 c1):
  Calls Tryz.prog 152 #[.agg #[vi a,vi b,vi c],.pointer (some ⟨BB,0,none⟩)] w fun e w'=>e = .returned (.bool (hasB l a b c))∧Ext w w':=by
 have HF:=aA h;have hB:=dA hc;clear h;go_enter Tryz.func152,Tryz.ntmps152;go_wp2_with (go_at_call 153;refine (bE _ _ _ l _ _ _ _ (Sl.below HF.out (Ext.below eX)) (home_pred a b c _ _ (by simp [go_sem]) (by simp [go_sem]) (by simp [go_sem]))).mono ?_;rintro e w5 ⟨rfl,o5,n5,rfl⟩);go_ret;exact ⟨rfl,eX⟩
theorem waits1_any (x:Ch.Stay) (a b c:Int) (B BB:Nat) (a2:Option Addr) (m2 c2:Nat) (js:List Ch.Job) (w:World) (h0:w.cell? ⟨B,0,none⟩=some (vi a)) (h1:w.cell? ⟨B,1,none⟩=some (vi b)) (h2:w.cell? ⟨B,2,none⟩=some (vi c))
  (hc:w.cell? ⟨BB,2,none⟩=some (.slice a2 m2 c2)) (h:Sl w 2 jA js a2 m2 c2):
  Calls Tryz.prog 188 #[stayA x,.pointer (some ⟨B,0,none⟩),.pointer (some ⟨BB,0,none⟩)] w fun e w'=>e = .returned (.bool (uI js a b c x))∧Ext w w':=by
 obtain ⟨t,⟨id,⟨lo,hi,he⟩⟩,⟨y0,y1,y2⟩⟩:=x;have HF:=aA h;have hB:=dA h0;have hBB:=dA hc;clear h
 by_cases e1:(⟨y0,y1,y2⟩:Ch.Place)=⟨a,b,c⟩
 ·have HR:Hid (uI js a b c ⟨t,⟨id,⟨lo,hi,he⟩⟩,⟨y0,y1,y2⟩⟩=false):=by unfold Hid uI;rw [decide_eq_true e1];rfl
  have hq1:∀ w,(Go.binOp .neq 89 (.agg #[vi y0,vi y1,vi y2]) (.agg #[vi a,vi b,vi c])).run Tryz.prog w = .ok (.bool false) w:=fun w=>by rw [gF w (oH w 9998 ⟨y0,y1,y2⟩ ⟨a,b,c⟩)];simp [e1]
  clear e1;go_enter Tryz.func188,Tryz.ntmps188
  go_upto_region 1 with fail
  (refine fA kR kR ?_;(repeat (first|go_big_quiet_step (fail)|quiet_step (fail)));refine wpQuiet_nil ?_;rintro _ ⟨oq,nq,rfl⟩)
  go_wp2;go_ret;exact ⟨by rw [HR.out];rfl,eX⟩
 ·have hq1:∀ w,(Go.binOp .neq 89 (.agg #[vi y0,vi y1,vi y2]) (.agg #[vi a,vi b,vi c])).run Tryz.prog w = .ok (.bool true) w:=fun w=>by rw [gF w (oH w 9998 ⟨y0,y1,y2⟩ ⟨a,b,c⟩)];simp [e1]
  by_cases e2:(⟨y0,y1,0⟩:Ch.Place)=⟨a,b,c⟩
  ·have hq2:∀ w,(Go.binOp .eql 89 (.agg #[vi y0,vi y1,vi 0]) (.agg #[vi a,vi b,vi c])).run Tryz.prog w = .ok (.bool true) w:=fun w=>by rw [bF w y0 y1 0 a b c,decide_eq_true e2]
   have HR:Hid (uI js a b c ⟨t,⟨id,⟨lo,hi,he⟩⟩,⟨y0,y1,y2⟩⟩=decide ((⟨t,false⟩:Ch.Job)∈js)):=by
    have hf:Ch.front ⟨y0,y1,y2⟩=⟨y0,y1,0⟩:=rfl;unfold Hid uI;simp only [hf];simp [e1,e2]
   clear e1 e2;go_enter Tryz.func188,Tryz.ntmps188
   go_upto_region 1 with fail
   (refine fA kR kR ?_;(repeat (first|go_big_quiet_step ((first|(intro _;go_at_call 156;exact qC (jJ _ _ _ _))|(intro _;go_at_call 103;exact qC (fH _ _ _ js _ _ _ (Sl.below HF.out (Ext.below eX))))))|quiet_step (fail)));refine wpQuiet_nil ?_;rintro _ ⟨oq,nq,rfl⟩)
   go_wp2;go_ret;exact ⟨by rw [HR.out];rfl,eX⟩
  ·have hq2:∀ w,(Go.binOp .eql 89 (.agg #[vi y0,vi y1,vi 0]) (.agg #[vi a,vi b,vi c])).run Tryz.prog w = .ok (.bool false) w:=fun w=>by rw [bF w y0 y1 0 a b c,decide_eq_false e2]
   have HR:Hid (uI js a b c ⟨t,⟨id,⟨lo,hi,he⟩⟩,⟨y0,y1,y2⟩⟩=false):=by
    have hf:Ch.front ⟨y0,y1,y2⟩=⟨y0,y1,0⟩:=rfl;unfold Hid uI;simp only [hf];simp [e1,e2]
   clear e1 e2;go_enter Tryz.func188,Tryz.ntmps188
   go_upto_region 1 with fail
   (refine fA kR kR ?_;(repeat (first|go_big_quiet_step ((first|(intro _;go_at_call 156;exact qC (jJ _ _ _ _))|(intro _;go_at_call 103;exact qC (fH _ _ _ js _ _ _ (Sl.below HF.out (Ext.below eX))))))|quiet_step (fail)));refine wpQuiet_nil ?_;rintro _ ⟨oq,nq,rfl⟩)
   go_wp2;go_ret;exact ⟨by rw [HR.out];rfl,eX⟩
theorem wait_pred (a b c:Int) (B BB:Nat) (a2:Option Addr) (m2 c2:Nat) (js:List Ch.Job) (w:World) (h0:w.cell? ⟨B,0,none⟩=some (vi a)) (h1:w.cell? ⟨B,1,none⟩=some (vi b)) (h2:w.cell? ⟨B,2,none⟩=some (vi c))
  (hc:w.cell? ⟨BB,2,none⟩=some (.slice a2 m2 c2)) (h:Sl w 2 jA js a2 m2 c2):
  bH w 188 #[.pointer (some ⟨B,0,none⟩),.pointer (some ⟨BB,0,none⟩)] (uI js a b c) where
 enters:=fun args w=>by kernel_rfl
 answers:=fun x W hx=>waits1_any x a b c B BB a2 m2 c2 js _ (iA hx h0) (iA hx h1) (iA hx h2) (iA hx hc) (Sl.below h hx.below)
theorem tI (last a b c:Int) (a1:Option Addr) (m1 c1:Nat) (a2:Option Addr) (m2 c2:Nat) (l:List Ch.Stay) (js:List Ch.Job) (w:World) (h:Sl w 8 gA l a1 m1 c1) (h2:Sl w 2 jA js a2 m2 c2):
  Calls Tryz.prog 157 #[rB last a1 m1 c1 a2 m2 c2,.agg #[vi a,vi b,vi c]] w fun e w'=>e = .returned (.bool (waitsB l js a b c))∧Ext w w':=by
 have HF:=aA h;have HJ:=aA h2;clear h h2;go_enter Tryz.func157,Tryz.ntmps157;go_wp2_with (go_at_call 153;refine (bE _ _ _ l _ _ _ _ (Sl.below HF.out (Ext.below eX)) (wait_pred a b c _ _ a2 m2 c2 js _ (by simp [go_sem]) (by simp [go_sem]) (by simp [go_sem]) (by simp [go_sem]) (Sl.below HJ.out (Ext.below eX)))).mono ?_;rintro e w5 ⟨rfl,o5,n5,rfl⟩);go_ret;exact ⟨rfl,eX⟩
