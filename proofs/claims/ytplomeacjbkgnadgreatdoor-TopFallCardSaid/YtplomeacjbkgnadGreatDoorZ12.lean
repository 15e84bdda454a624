import Derived.Test.YtplomeacjbkgnadGreatDoorZ11
set_option linter.all false
set_option maxRecDepth 100000
set_option maxHeartbeats 16000000
namespace Go.Proofs.YtplomeacjbkgnadGreatDoor
open Go.RowKit
theorem jobs_at (st:List Ch.Stay) {l:List Ch.Job} {k:Nat} {j:Ch.Job} (hj:l[k]? = some j):
  Ch.jobsFault st (l.take k) (l.drop k)=if (st.any fun s=>s.ticket==j.ticket)=false∨j∈l.take k then 3 else Ch.jobsFault st (l.take (k+1)) (l.drop (k+1)):=by
 have hk:k<l.length:=by
  by_cases h:k<l.length
  ·exact h
  ·rw [List.getElem?_eq_none (by omega)] at hj;cases hj
 rw [List.drop_eq_getElem_cons hk,List.take_add_one,hj];rw [List.getElem?_eq_getElem hk] at hj;cases hj;rfl
theorem index_none {l:List Ch.Stay} {p:Ch.Stay→Bool} (h:l.any p=false):Ch.indexOf p l=-1:=by
 unfold Ch.indexOf
 have:l.findIdx? p=none:=by
  rw [List.findIdx?_eq_none_iff];intro x hx;have h2:=List.any_eq_false.1 h x hx
  simpa using h2
 rw [this]
theorem index_some {l:List Ch.Stay} {p:Ch.Stay→Bool} (h:l.any p=true):∃ i:Nat,Ch.indexOf p l=i:=by
 unfold Ch.indexOf
 cases h2:l.findIdx? p with
 | none=>
  rw [List.findIdx?_eq_none_iff] at h2;obtain ⟨x,hx,hp⟩:=List.any_eq_true.1 h;have:=h2 x hx;rw [hp] at this;cases this
 | some i=>exact ⟨i,rfl⟩
theorem find_at (fi last t:Int) (a1:Option Addr) (m1 c1:Nat) (a2:Option Addr) (m2 c2:Nat) (l:List Ch.Stay) (w:World) (h:Sl w 8 stayCells l a1 m1 c1) (hf:Hid (Ch.indexOf (fun s=>s.ticket==t) l=fi)):
  Calls Tryz.prog 32 #[bookA last a1 m1 c1 a2 m2 c2,vi t] w fun e w'=>e = .returned (vi fi)∧Ext w w':=by
 have:=find_any last t a1 m1 c1 a2 m2 c2 l w h;rw [hf.out] at this;exact this
theorem containsJob_at (bb:Bool) (a:Option Addr) (n cap:Nat) (l:List Ch.Job) (t:Int) (f:Bool) (w:World) (h:Sl w 2 jobCells l a n cap) (hb:Hid (decide ((⟨t,f⟩:Ch.Job)∈l)=bb)):
  Calls Tryz.prog 58 #[.slice a n cap,.agg #[vi t,.bool f]] w fun e w'=>e = .returned (.bool bb)∧Ext w w':=by
 have:=containsJob_any a n cap l t f w h;rw [hb.out] at this;exact this
theorem bookcheck_any (last levels:Int) (a1:Option Addr) (m1 c1:Nat) (a2:Option Addr) (m2 c2:Nat) (l:List Ch.Stay) (js:List Ch.Job) (w:World) (h:Sl w 8 stayCells l a1 m1 c1) (h2:Sl w 2 jobCells js a2 m2 c2) (hl4:levels≤4):
  Calls Tryz.prog 59 #[bookA last a1 m1 c1 a2 m2 c2,vi levels] w fun e w'=>e = .returned (errV (Ch.bookFault ⟨last,l,js⟩ levels))∧Ext w w':=by
 have b1:=h.bound;have b2:=h2.bound;have HF:=Lib.hid h;have HJ:=Lib.hid h2;have E1:=Lib.hid h.len;have E2:=Lib.hid h2.len;clear h h2
 by_cases hl:last<0∨999999<last
 ·have HB:Hid (Ch.bookFault ⟨last,l,js⟩ levels=1):=by unfold Hid Ch.bookFault;rw [if_pos hl]
  by_cases hl1:last<0
  ·clear hl
   go_enter Tryz.func59,Tryz.ntmps59;go_wp2;go_ret;exact ⟨by rw [HB.out];rfl,(by simp (maxDischargeDepth:=60))⟩
  ·have hl2:999999<last:=by omega
   clear hl;go_enter Tryz.func59,Tryz.ntmps59;go_wp2;go_ret;exact ⟨by rw [HB.out];rfl,(by simp (maxDischargeDepth:=60))⟩
 ·have hl1:0≤last:=by omega
  have hl2:last≤999999:=by omega
  by_cases hm:16<m1∨8<m2
  ·have HB:Hid (Ch.bookFault ⟨last,l,js⟩ levels=2):=by unfold Hid Ch.bookFault;rw [if_neg hl];dsimp only;rw [E1.out,E2.out,if_pos hm]
   by_cases hm1:16<m1
   ·have hm1':(16:Int)<(m1:Int):=by omega
    clear hl hm;go_enter Tryz.func59,Tryz.ntmps59;go_wp2;go_ret;exact ⟨by rw [HB.out];rfl,(by simp (maxDischargeDepth:=60))⟩
   ·have hm1':(m1:Int)≤16:=by omega
    have hm2':(8:Int)<(m2:Int):=by omega
    clear hl hm;go_enter Tryz.func59,Tryz.ntmps59;go_wp2;go_ret;exact ⟨by rw [HB.out];rfl,(by simp (maxDischargeDepth:=60))⟩
  ·have hm1':(m1:Int)≤16:=by omega
   have hm2':(m2:Int)≤8:=by omega
   by_cases hs:Ch.staysFault levels last [] l=0
   ·have HB:Hid (Ch.bookFault ⟨last,l,js⟩ levels=Ch.jobsFault l [] js):=by
     unfold Hid Ch.bookFault;rw [if_neg hl];dsimp only;rw [E1.out,E2.out,if_neg hm,if_neg (by rw [hs];decide)]
    have HE:Hid (errV (Ch.staysFault levels last [] l) = .nilIface):=by unfold Hid;rw [hs];rfl
    clear hl hm hs;go_enter Tryz.func59,Tryz.ntmps59;go_wp2_with (go_at_call 96;(with_reducible refine (bookstays_any last levels a1 m1 c1 a2 m2 c2 l _ (Sl.below HF.out (Ext.below (by simp (maxDischargeDepth:=60)))) hl4).mono ?_);rintro e w1 ⟨he,oS,nS,rfl⟩;rw [HE.out] at he;subst he);generalize hW:World.plus _ _ _=w0
    have k0:w0.cell? ⟨w.heap.size,0,none⟩=some (vi last):=by rw [←hW];simp [go_sem]
    have k1:w0.cell? ⟨w.heap.size,1,none⟩=some (.slice a1 m1 c1):=by rw [←hW];simp [go_sem]
    have k2:w0.cell? ⟨w.heap.size,2,none⟩=some (.slice a2 m2 c2):=by rw [←hW];simp [go_sem]
    have hx:Ext w w0:=by rw [←hW];exact (by simp (maxDischargeDepth:=60))
    have HS:=Lib.hid (Sl.below HF.out hx.below);have HK:=Lib.hid (Sl.below HJ.out hx.below);have HX:=Lib.hid hx;have z1:=cell_lt k0;clear hW hx HF HJ
    go_loopw [37] (fun i wr=>∃ k:Nat,k≤m2∧i = .int .i64 k∧Hid (Ch.jobsFault l [] js=Ch.jobsFault l (js.take k) (js.drop k))∧Ext w0 wr) (fun i _=>m2 - (intOf i).toNat)
    case atStart=>exact ⟨0,by omega,rfl,by simp [Hid],(by simp (maxDischargeDepth:=60))⟩
    case round=>
     obtain ⟨k,hk,rfl,HT,o,m,rfl⟩:=hrel
     by_cases hlt:k<m2
     ·obtain ⟨b,q,j,rfl,hj,dj⟩:=HK.out.get hlt
      have dj:=at2 dj;have hq:=cell_lt dj.1;obtain ⟨t,f⟩:=j;dsimp only at dj;have HJJ:=Lib.hid hj
      have hk0:(0:Int)≤(k:Int):=by omega
      have hk1:(k:Int)≤(m2:Int):=by omega
      have hk2:(k:Int)≤(c2:Int):=by omega
      clear hj;have HA:Hid (Ch.jobsFault l (js.take k) (js.drop k)=if (l.any fun s=>s.ticket==t)=false∨(⟨t,f⟩:Ch.Job)∈js.take k then 3 else Ch.jobsFault l (js.take (k+1)) (js.drop (k+1))):=jobs_at l HJJ.out
      cases ha:(l.any fun s=>s.ticket==t)
      ·have HI:Hid (Ch.indexOf (fun s:Ch.Stay=>s.ticket==t) l=-1):=index_none ha
       have HR:Hid (Ch.jobsFault l (js.take k) (js.drop k)=3):=by unfold Hid;rw [HA.out,if_pos (Or.inl ha)]
       clear ha
       go_upto_region 11 with fail
       generalize hW:World.alloc _ _=w3
       have f0:w3.cell? ⟨w0.heap.size+o.size,0,none⟩=some (vi t):=by rw [←hW];simp [go_sem]
       have f1:w3.cell? ⟨w0.heap.size+o.size,1,none⟩=some (.bool f):=by rw [←hW];simp [go_sem]
       have hx3:Ext w0 w3:=by rw [←hW];exact (by simp (maxDischargeDepth:=60))
       have HX3:=Lib.hid hx3;have g0:=ext_cell hx3 k0;have g1:=ext_cell hx3 k1;have g2:=ext_cell hx3 k2;have gz:=cell_lt f0;have gz0:=cell_lt g0;clear hW hx3
       (refine wp_region_ext (by kernel_rfl) (by kernel_rfl) ?_;(repeat (first|go_big_quiet_step ((first|(intro _;go_at_call 32;exact ext_callG (find_at (-1) _ _ _ _ _ _ _ _ l _ (Sl.below HS.out (HX3.out.trans (by simp (maxDischargeDepth:=60))).below) HI) (by rintro w' ⟨o',n',rfl⟩;exact ⟨_,n',by first|(simp only [plus_plus];rfl)|(simp only [plus_plus,Array.append_assoc];rfl)|rfl⟩))))|quiet_step ((first|(intro _;go_at_call 32;exact ext_callG (find_at (-1) _ _ _ _ _ _ _ _ l _ (Sl.below HS.out (HX3.out.trans (by simp (maxDischargeDepth:=60))).below) HI) (by rintro w' ⟨o',n',rfl⟩;exact ⟨_,n',by first|(simp only [plus_plus];rfl)|(simp only [plus_plus,Array.append_assoc];rfl)|rfl⟩))))));refine wpQuiet_nil ?_;intro _ hw';obtain ⟨oq,nq,hw''⟩:=hw';subst hw'')
       go_wp2;go_ret;exact ⟨by rw [HB.out,HT.out,HR.out];rfl,(HX.out.trans HX3.out).trans (by simp (maxDischargeDepth:=60))⟩
      ·obtain ⟨fi,hfi⟩:=index_some ha
       have HI:Hid (Ch.indexOf (fun s:Ch.Stay=>s.ticket==t) l=(fi:Int)):=hfi;have HAY:=Lib.hid ha
       have hfi0:¬ ((fi:Int)<0):=by omega
       clear ha hfi;cases hc:decide ((⟨t,f⟩:Ch.Job)∈js.take k)
       ·have HC:=Lib.hid hc
        have HR:Hid (Ch.jobsFault l (js.take k) (js.drop k)=Ch.jobsFault l (js.take (k+1)) (js.drop (k+1))):=by
         unfold Hid;rw [HA.out,if_neg];rintro (h1|h1)
         ·rw [HAY.out] at h1;cases h1
         ·exact of_decide_eq_false hc h1
        clear hc
        go_upto_region 11 with fail
        generalize hW:World.alloc _ _=w3
        have f0:w3.cell? ⟨w0.heap.size+o.size,0,none⟩=some (vi t):=by rw [←hW];simp [go_sem]
        have f1:w3.cell? ⟨w0.heap.size+o.size,1,none⟩=some (.bool f):=by rw [←hW];simp [go_sem]
        have hx3:Ext w0 w3:=by rw [←hW];exact (by simp (maxDischargeDepth:=60))
        have HX3:=Lib.hid hx3;have g0:=ext_cell hx3 k0;have g1:=ext_cell hx3 k1;have g2:=ext_cell hx3 k2;have gz:=cell_lt f0;have gz0:=cell_lt g0;clear hW hx3
        (refine wp_region_ext (by kernel_rfl) (by kernel_rfl) ?_;(repeat (first|go_big_quiet_step ((first|(intro _;go_at_call 32;exact ext_callG (find_at (fi:Int) _ _ _ _ _ _ _ _ l _ (Sl.below HS.out (HX3.out.trans (by simp (maxDischargeDepth:=60))).below) HI) (by rintro w' ⟨o',n',rfl⟩;exact ⟨_,n',by first|(simp only [plus_plus];rfl)|(simp only [plus_plus,Array.append_assoc];rfl)|rfl⟩))|(intro _;go_at_call 58;exact ext_callG (containsJob_at false _ _ _ (js.take k) _ _ _ (sl_takeB (Sl.below HK.out (HX3.out.trans (by simp (maxDischargeDepth:=60))).below) (by omega)) HC) (by rintro w' ⟨o',n',rfl⟩;exact ⟨_,n',by first|(simp only [plus_plus];rfl)|(simp only [plus_plus,Array.append_assoc];rfl)|rfl⟩))))|quiet_step ((first|(intro _;go_at_call 32;exact ext_callG (find_at (fi:Int) _ _ _ _ _ _ _ _ l _ (Sl.below HS.out (HX3.out.trans (by simp (maxDischargeDepth:=60))).below) HI) (by rintro w' ⟨o',n',rfl⟩;exact ⟨_,n',by first|(simp only [plus_plus];rfl)|(simp only [plus_plus,Array.append_assoc];rfl)|rfl⟩))|(intro _;go_at_call 58;exact ext_callG (containsJob_at false _ _ _ (js.take k) _ _ _ (sl_takeB (Sl.below HK.out (HX3.out.trans (by simp (maxDischargeDepth:=60))).below) (by omega)) HC) (by rintro w' ⟨o',n',rfl⟩;exact ⟨_,n',by first|(simp only [plus_plus];rfl)|(simp only [plus_plus,Array.append_assoc];rfl)|rfl⟩))))));refine wpQuiet_nil ?_;intro _ hw';obtain ⟨oq,nq,hw''⟩:=hw';subst hw'')
        go_wp2;go_roundw
        case rel=>first|exact ⟨k+1,by omega,by go_num,by unfold Hid;rw [HT.out,HR.out],HX3.out.trans (by simp (maxDischargeDepth:=60))⟩|(repeat apply Exists.intro;refine ⟨?_,rfl⟩;exact ⟨k+1,by omega,by go_num,by unfold Hid;rw [HT.out,HR.out],HX3.out.trans (by simp (maxDischargeDepth:=60))⟩)
        case measure=>simp [intOf];omega
       ·have HC:=Lib.hid hc
        have HR:Hid (Ch.jobsFault l (js.take k) (js.drop k)=3):=by unfold Hid;rw [HA.out,if_pos (Or.inr (of_decide_eq_true hc))]
        clear hc
        go_upto_region 11 with fail
        generalize hW:World.alloc _ _=w3
        have f0:w3.cell? ⟨w0.heap.size+o.size,0,none⟩=some (vi t):=by rw [←hW];simp [go_sem]
        have f1:w3.cell? ⟨w0.heap.size+o.size,1,none⟩=some (.bool f):=by rw [←hW];simp [go_sem]
        have hx3:Ext w0 w3:=by rw [←hW];exact (by simp (maxDischargeDepth:=60))
        have HX3:=Lib.hid hx3;have g0:=ext_cell hx3 k0;have g1:=ext_cell hx3 k1;have g2:=ext_cell hx3 k2;have gz:=cell_lt f0;have gz0:=cell_lt g0;clear hW hx3
        (refine wp_region_ext (by kernel_rfl) (by kernel_rfl) ?_;(repeat (first|go_big_quiet_step ((first|(intro _;go_at_call 32;exact ext_callG (find_at (fi:Int) _ _ _ _ _ _ _ _ l _ (Sl.below HS.out (HX3.out.trans (by simp (maxDischargeDepth:=60))).below) HI) (by rintro w' ⟨o',n',rfl⟩;exact ⟨_,n',by first|(simp only [plus_plus];rfl)|(simp only [plus_plus,Array.append_assoc];rfl)|rfl⟩))|(intro _;go_at_call 58;exact ext_callG (containsJob_at true _ _ _ (js.take k) _ _ _ (sl_takeB (Sl.below HK.out (HX3.out.trans (by simp (maxDischargeDepth:=60))).below) (by omega)) HC) (by rintro w' ⟨o',n',rfl⟩;exact ⟨_,n',by first|(simp only [plus_plus];rfl)|(simp only [plus_plus,Array.append_assoc];rfl)|rfl⟩))))|quiet_step ((first|(intro _;go_at_call 32;exact ext_callG (find_at (fi:Int) _ _ _ _ _ _ _ _ l _ (Sl.below HS.out (HX3.out.trans (by simp (maxDischargeDepth:=60))).below) HI) (by rintro w' ⟨o',n',rfl⟩;exact ⟨_,n',by first|(simp only [plus_plus];rfl)|(simp only [plus_plus,Array.append_assoc];rfl)|rfl⟩))|(intro _;go_at_call 58;exact ext_callG (containsJob_at true _ _ _ (js.take k) _ _ _ (sl_takeB (Sl.below HK.out (HX3.out.trans (by simp (maxDischargeDepth:=60))).below) (by omega)) HC) (by rintro w' ⟨o',n',rfl⟩;exact ⟨_,n',by first|(simp only [plus_plus];rfl)|(simp only [plus_plus,Array.append_assoc];rfl)|rfl⟩))))));refine wpQuiet_nil ?_;intro _ hw';obtain ⟨oq,nq,hw''⟩:=hw';subst hw'')
        go_wp2;go_ret;exact ⟨by rw [HB.out,HT.out,HR.out];rfl,(HX.out.trans HX3.out).trans (by simp (maxDischargeDepth:=60))⟩
     ·go_wp2
      go_ret;refine ⟨?_,HX.out.trans (by simp (maxDischargeDepth:=60))⟩;rw [HB.out,HT.out,List.drop_of_length_le (by have:=E2.out;omega)];rfl
   ·have HB:Hid (Ch.bookFault ⟨last,l,js⟩ levels=Ch.staysFault levels last [] l):=by
     unfold Hid Ch.bookFault;rw [if_neg hl];dsimp only;rw [E1.out,E2.out,if_neg hm,if_pos hs]
    obtain ⟨E,HE⟩:∃ E,Hid (errV (Ch.staysFault levels last [] l) = .iface 114 (vi E)):=⟨_,by unfold Hid errV;rw [if_neg hs]⟩
    clear hl hm hs;go_enter Tryz.func59,Tryz.ntmps59;go_wp2_with (go_at_call 96;(with_reducible refine (bookstays_any last levels a1 m1 c1 a2 m2 c2 l _ (Sl.below HF.out (Ext.below (by simp (maxDischargeDepth:=60)))) hl4).mono ?_);rintro e w1 ⟨he,oS,nS,rfl⟩;rw [HE.out] at he;subst he);go_ret;exact ⟨by rw [HB.out,HE.out];rfl,(by simp (maxDischargeDepth:=60))⟩
def hasB (l:List Ch.Stay) (a b c:Int):Bool:=l.any fun s=>decide (s.home=⟨a,b,c⟩)
theorem hasB_home (last:Int) (l:List Ch.Stay) (js:List Ch.Job) (p:Ch.Place):Ch.hasHome ⟨last,l,js⟩ p=hasB l p.level p.side p.depth:=rfl
def waitB (js:List Ch.Job) (a b c:Int) (s:Ch.Stay):Bool:=!decide (s.home=⟨a,b,c⟩)&&decide (Ch.front s.home=⟨a,b,c⟩)&&decide ((⟨s.ticket,false⟩:Ch.Job)∈js)
def waitsB (l:List Ch.Stay) (js:List Ch.Job) (a b c:Int):Bool:=l.any (waitB js a b c)
theorem waitsB_waits (last:Int) (l:List Ch.Stay) (js:List Ch.Job) (p:Ch.Place):Ch.waits ⟨last,l,js⟩ p=waitsB l js p.level p.side p.depth:=by
 unfold Ch.waits waitsB
 congr 1
 funext s
 unfold waitB;simp only [List.contains_eq_mem];rfl
theorem pick11_any (x:Ch.Stay) (a b c:Int) (B:Nat) (w:World) (h0:w.cell? ⟨B,0,none⟩=some (vi a)) (h1:w.cell? ⟨B,1,none⟩=some (vi b)) (h2:w.cell? ⟨B,2,none⟩=some (vi c)):
  Calls Tryz.prog 116 #[stayA x,.pointer (some ⟨B,0,none⟩)] w fun e w'=>e = .returned (.bool (decide (x.home=⟨a,b,c⟩)))∧Ext w w':=by
 have hB:=cell_lt h0
 have hq1:∀ w,(Go.binOp .eql 47 (.agg #[vi x.home.level,vi x.home.side,vi x.home.depth]) (.agg #[vi a,vi b,vi c])).run Tryz.prog w = .ok (.bool (decide (x.home=⟨a,b,c⟩))) w:=fun w=>by rw [eqlPlace_of]
 go_enter Tryz.func116,Tryz.ntmps116;go_wp2;go_ret;exact ⟨rfl,(by simp (maxDischargeDepth:=60))⟩
theorem home_pred (a b c:Int) (B:Nat) (w:World) (h0:w.cell? ⟨B,0,none⟩=some (vi a)) (h1:w.cell? ⟨B,1,none⟩=some (vi b)) (h2:w.cell? ⟨B,2,none⟩=some (vi c)):
  StayPred w 116 #[.pointer (some ⟨B,0,none⟩)] (fun s=>decide (s.home=⟨a,b,c⟩)) where
 enters:=fun args w=>by kernel_rfl
 answers:=fun x W hx=>pick11_any x a b c B _ (ext_cell hx h0) (ext_cell hx h1) (ext_cell hx h2)
theorem pick1_any (a b c:Int) (BB:Nat) (a1:Option Addr) (m1 c1:Nat) (l:List Ch.Stay) (w:World) (hc:w.cell? ⟨BB,1,none⟩=some (.slice a1 m1 c1)) (h:Sl w 8 stayCells l a1 m1 c1):
  Calls Tryz.prog 114 #[.agg #[vi a,vi b,vi c],.pointer (some ⟨BB,0,none⟩)] w fun e w'=>e = .returned (.bool (hasB l a b c))∧Ext w w':=by
 have HF:=Lib.hid h;have hB:=cell_lt hc;clear h;go_enter Tryz.func114,Tryz.ntmps114;go_wp2_with (go_at_call 115;refine (containsStay_any _ _ _ l _ _ _ _ (Sl.below HF.out (Ext.below (by simp (maxDischargeDepth:=60)))) (home_pred a b c _ _ (by simp [go_sem]) (by simp [go_sem]) (by simp [go_sem]))).mono ?_;rintro e w5 ⟨rfl,o5,n5,rfl⟩);go_ret;exact ⟨rfl,(by simp (maxDischargeDepth:=60))⟩
theorem waits1_any (x:Ch.Stay) (a b c:Int) (B BB:Nat) (a2:Option Addr) (m2 c2:Nat) (js:List Ch.Job) (w:World) (h0:w.cell? ⟨B,0,none⟩=some (vi a)) (h1:w.cell? ⟨B,1,none⟩=some (vi b)) (h2:w.cell? ⟨B,2,none⟩=some (vi c))
  (hc:w.cell? ⟨BB,2,none⟩=some (.slice a2 m2 c2)) (h:Sl w 2 jobCells js a2 m2 c2):
  Calls Tryz.prog 135 #[stayA x,.pointer (some ⟨B,0,none⟩),.pointer (some ⟨BB,0,none⟩)] w fun e w'=>e = .returned (.bool (waitB js a b c x))∧Ext w w':=by
 obtain ⟨t,⟨id,⟨lo,hi,he⟩⟩,⟨y0,y1,y2⟩⟩:=x;have HF:=Lib.hid h;have hB:=cell_lt h0;have hBB:=cell_lt hc;clear h
 by_cases e1:(⟨y0,y1,y2⟩:Ch.Place)=⟨a,b,c⟩
 ·have HR:Hid (waitB js a b c ⟨t,⟨id,⟨lo,hi,he⟩⟩,⟨y0,y1,y2⟩⟩=false):=by unfold Hid waitB;rw [decide_eq_true e1];rfl
  have hq1:∀ w,(Go.binOp .neq 47 (.agg #[vi y0,vi y1,vi y2]) (.agg #[vi a,vi b,vi c])).run Tryz.prog w = .ok (.bool false) w:=fun w=>by rw [neqStruct w (eqPlace w 9998 ⟨y0,y1,y2⟩ ⟨a,b,c⟩)];simp [e1]
  clear e1;go_enter Tryz.func135,Tryz.ntmps135
  go_upto_region 1 with fail
  (refine wp_region_ext (by kernel_rfl) (by kernel_rfl) ?_;(repeat (first|go_big_quiet_step (fail)|quiet_step (fail)));refine wpQuiet_nil ?_;intro _ hw';obtain ⟨oq,nq,hw''⟩:=hw';subst hw'')
  go_wp2;go_ret;exact ⟨by rw [HR.out];rfl,(by simp (maxDischargeDepth:=60))⟩
 ·have hq1:∀ w,(Go.binOp .neq 47 (.agg #[vi y0,vi y1,vi y2]) (.agg #[vi a,vi b,vi c])).run Tryz.prog w = .ok (.bool true) w:=fun w=>by rw [neqStruct w (eqPlace w 9998 ⟨y0,y1,y2⟩ ⟨a,b,c⟩)];simp [e1]
  by_cases e2:(⟨y0,y1,0⟩:Ch.Place)=⟨a,b,c⟩
  ·have hq2:∀ w,(Go.binOp .eql 47 (.agg #[vi y0,vi y1,vi 0]) (.agg #[vi a,vi b,vi c])).run Tryz.prog w = .ok (.bool true) w:=fun w=>by rw [eqlPlace_of w y0 y1 0 a b c,decide_eq_true e2]
   have HR:Hid (waitB js a b c ⟨t,⟨id,⟨lo,hi,he⟩⟩,⟨y0,y1,y2⟩⟩=decide ((⟨t,false⟩:Ch.Job)∈js)):=by
    have hf:Ch.front ⟨y0,y1,y2⟩=⟨y0,y1,0⟩:=rfl;unfold Hid waitB;simp only [hf];simp [e1,e2]
   clear e1 e2;go_enter Tryz.func135,Tryz.ntmps135
   go_upto_region 1 with fail
   (refine wp_region_ext (by kernel_rfl) (by kernel_rfl) ?_;(repeat (first|go_big_quiet_step ((first|(intro _;go_at_call 102;exact ext_callG (front_f _ _ _ _) (by rintro w' ⟨o',n',rfl⟩;exact ⟨_,n',by first|(simp only [plus_plus];rfl)|(simp only [plus_plus,Array.append_assoc];rfl)|rfl⟩))|(intro _;go_at_call 58;exact ext_callG (containsJob_any _ _ _ js _ _ _ (Sl.below HF.out (Ext.below (by simp (maxDischargeDepth:=60))))) (by rintro w' ⟨o',n',rfl⟩;exact ⟨_,n',by first|(simp only [plus_plus];rfl)|(simp only [plus_plus,Array.append_assoc];rfl)|rfl⟩))))|quiet_step ((first|(intro _;go_at_call 102;exact ext_callG (front_f _ _ _ _) (by rintro w' ⟨o',n',rfl⟩;exact ⟨_,n',by first|(simp only [plus_plus];rfl)|(simp only [plus_plus,Array.append_assoc];rfl)|rfl⟩))|(intro _;go_at_call 58;exact ext_callG (containsJob_any _ _ _ js _ _ _ (Sl.below HF.out (Ext.below (by simp (maxDischargeDepth:=60))))) (by rintro w' ⟨o',n',rfl⟩;exact ⟨_,n',by first|(simp only [plus_plus];rfl)|(simp only [plus_plus,Array.append_assoc];rfl)|rfl⟩))))));refine wpQuiet_nil ?_;intro _ hw';obtain ⟨oq,nq,hw''⟩:=hw';subst hw'')
   go_wp2;go_ret;exact ⟨by rw [HR.out];rfl,(by simp (maxDischargeDepth:=60))⟩
  ·have hq2:∀ w,(Go.binOp .eql 47 (.agg #[vi y0,vi y1,vi 0]) (.agg #[vi a,vi b,vi c])).run Tryz.prog w = .ok (.bool false) w:=fun w=>by rw [eqlPlace_of w y0 y1 0 a b c,decide_eq_false e2]
   have HR:Hid (waitB js a b c ⟨t,⟨id,⟨lo,hi,he⟩⟩,⟨y0,y1,y2⟩⟩=false):=by
    have hf:Ch.front ⟨y0,y1,y2⟩=⟨y0,y1,0⟩:=rfl;unfold Hid waitB;simp only [hf];simp [e1,e2]
   clear e1 e2;go_enter Tryz.func135,Tryz.ntmps135
   go_upto_region 1 with fail
   (refine wp_region_ext (by kernel_rfl) (by kernel_rfl) ?_;(repeat (first|go_big_quiet_step ((first|(intro _;go_at_call 102;exact ext_callG (front_f _ _ _ _) (by rintro w' ⟨o',n',rfl⟩;exact ⟨_,n',by first|(simp only [plus_plus];rfl)|(simp only [plus_plus,Array.append_assoc];rfl)|rfl⟩))|(intro _;go_at_call 58;exact ext_callG (containsJob_any _ _ _ js _ _ _ (Sl.below HF.out (Ext.below (by simp (maxDischargeDepth:=60))))) (by rintro w' ⟨o',n',rfl⟩;exact ⟨_,n',by first|(simp only [plus_plus];rfl)|(simp only [plus_plus,Array.append_assoc];rfl)|rfl⟩))))|quiet_step ((first|(intro _;go_at_call 102;exact ext_callG (front_f _ _ _ _) (by rintro w' ⟨o',n',rfl⟩;exact ⟨_,n',by first|(simp only [plus_plus];rfl)|(simp only [plus_plus,Array.append_assoc];rfl)|rfl⟩))|(intro _;go_at_call 58;exact ext_callG (containsJob_any _ _ _ js _ _ _ (Sl.below HF.out (Ext.below (by simp (maxDischargeDepth:=60))))) (by rintro w' ⟨o',n',rfl⟩;exact ⟨_,n',by first|(simp only [plus_plus];rfl)|(simp only [plus_plus,Array.append_assoc];rfl)|rfl⟩))))));refine wpQuiet_nil ?_;intro _ hw';obtain ⟨oq,nq,hw''⟩:=hw';subst hw'')
   go_wp2;go_ret;exact ⟨by rw [HR.out];rfl,(by simp (maxDischargeDepth:=60))⟩
theorem wait_pred (a b c:Int) (B BB:Nat) (a2:Option Addr) (m2 c2:Nat) (js:List Ch.Job) (w:World) (h0:w.cell? ⟨B,0,none⟩=some (vi a)) (h1:w.cell? ⟨B,1,none⟩=some (vi b)) (h2:w.cell? ⟨B,2,none⟩=some (vi c))
  (hc:w.cell? ⟨BB,2,none⟩=some (.slice a2 m2 c2)) (h:Sl w 2 jobCells js a2 m2 c2):
  StayPred w 135 #[.pointer (some ⟨B,0,none⟩),.pointer (some ⟨BB,0,none⟩)] (waitB js a b c) where
 enters:=fun args w=>by kernel_rfl
 answers:=fun x W hx=>waits1_any x a b c B BB a2 m2 c2 js _ (ext_cell hx h0) (ext_cell hx h1) (ext_cell hx h2) (ext_cell hx hc) (Sl.below h hx.below)
theorem waits_any (last a b c:Int) (a1:Option Addr) (m1 c1:Nat) (a2:Option Addr) (m2 c2:Nat) (l:List Ch.Stay) (js:List Ch.Job) (w:World) (h:Sl w 8 stayCells l a1 m1 c1) (h2:Sl w 2 jobCells js a2 m2 c2):
  Calls Tryz.prog 118 #[bookA last a1 m1 c1 a2 m2 c2,.agg #[vi a,vi b,vi c]] w fun e w'=>e = .returned (.bool (waitsB l js a b c))∧Ext w w':=by
 have HF:=Lib.hid h;have HJ:=Lib.hid h2;clear h h2;go_enter Tryz.func118,Tryz.ntmps118;go_wp2_with (go_at_call 115;refine (containsStay_any _ _ _ l _ _ _ _ (Sl.below HF.out (Ext.below (by simp (maxDischargeDepth:=60)))) (wait_pred a b c _ _ a2 m2 c2 js _ (by simp [go_sem]) (by simp [go_sem]) (by simp [go_sem]) (by simp [go_sem]) (Sl.below HJ.out (Ext.below (by simp (maxDischargeDepth:=60)))))).mono ?_;rintro e w5 ⟨rfl,o5,n5,rfl⟩);go_ret;exact ⟨rfl,(by simp (maxDischargeDepth:=60))⟩
end Go.Proofs.YtplomeacjbkgnadGreatDoor
