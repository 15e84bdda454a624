import Derived.Test.YtplomeacjbkgnaaZ04
set_option linter.all false
set_option maxRecDepth 100000
set_option maxHeartbeats 16000000
namespace Go.Proofs.Ytplomeacjbkgnaa
open Go.RowKit
theorem ext_cell {w w':World} (h:Ext w w') {b o:Nat} {v:Value} (hc:w.cell? ⟨b,o,none⟩=some v):w'.cell? ⟨b,o,none⟩=some v:=by
 obtain ⟨o',n,rfl⟩:=h;rw [plus_cell _ _ _ _ _ _ (cell_lt hc)];exact hc
structure StayPred (w:World) (K:Nat) (caps:Array Value) (pred:Ch.Stay→Bool):Prop where
 enters:∀ args w,(callFunc K args).run Try.prog w = .ok (.enter K args) w
 answers:∀ (s:Ch.Stay) (W:World),Ext w W→Calls Try.prog K (#[stayA s]++caps) W fun e w'=>e = .returned (.bool (pred s))∧Ext W w'
theorem indexOf_some {α:Type} {p:α→Bool} {l:List α} {k:Nat} {s:α} (hs:l[k]? = some s) (hp:p s=true) (hb:∀ j s,j<k→l[j]? = some s→p s=false):Ch.indexOf p l=k:=by
 unfold Ch.indexOf
 have hk:k<l.length:=by
  by_cases h:k<l.length
  ·exact h
  ·rw [List.getElem?_eq_none (by omega)] at hs;cases hs
 have hs':l[k]=s:=by rw [List.getElem?_eq_getElem hk] at hs;exact Option.some.inj hs
 have:l.findIdx? p=some k:=by
  rw [List.findIdx?_eq_some_iff_getElem];refine ⟨hk,by rw [hs'];exact hp,fun j hj=>?_⟩;have:=hb j (l[j]'(by omega)) hj (by simp);simp [this]
 rw [this]
theorem before_step {α:Type} {p:α→Bool} {l:List α} {k:Nat} {s:α} (hs:l[k]? = some s) (hp:p s=false) (hb:∀ j s,j<k→l[j]? = some s→p s=false):∀ j s,j<k+1→l[j]? = some s→p s=false:=by
 intro j s' hj hs'
 by_cases hjk:j<k
 ·exact hb j s' hjk hs'
 ·have e:j=k:=by omega
  rw [e,hs] at hs';cases hs';exact hp
theorem indexOf_none {α:Type} {p:α→Bool} {l:List α} (hb:∀ j s,j<l.length→l[j]? = some s→p s=false):Ch.indexOf p l=-1:=by
 unfold Ch.indexOf
 have:l.findIdx? p=none:=by
  rw [List.findIdx?_eq_none_iff];intro x hx;obtain ⟨j,hj,rfl⟩:=List.getElem_of_mem hx;exact hb j _ hj (by simp)
 rw [this]
theorem indexStay_any (a:Option Addr) (n cap:Nat) (l:List Ch.Stay) (K:Nat) (caps:Array Value) (pred:Ch.Stay→Bool) (w:World) (h:Sl w 8 stayCells l a n cap) (hp:StayPred w K caps pred):
  Calls Try.prog 136 #[.slice a n cap,.func (.func K) #[] caps] w fun e w'=>e = .returned (vi (Ch.indexOf pred l))∧Ext w w':=by
 have HF:=Lib.hid h;have HP:=Lib.hid hp;have hb:=h.bound;have hl:=h.len;have HL:=Lib.hid hl;clear h hp hl;go_enter Try.func136,Try.ntmps136;go_wp2
 go_loopw [8] (fun i wr=>∃ k:Nat,k≤n∧i = .int .i64 k∧Hid (∀ j s,j<k→l[j]? = some s→pred s=false)∧Ext w wr) (fun i _=>n - (intOf i).toNat)
 case atStart=>exact ⟨0,by omega,rfl,by intro j s hj;omega,(by simp (maxDischargeDepth:=60))⟩
 case round=>
  obtain ⟨k,hk,rfl,HT,o,m,rfl⟩:=hrel
  by_cases hlt:k<n
  ·obtain ⟨b,q,s,rfl,hs,ds⟩:=HF.out.get hlt
   have ds:=at8 ds;have hq:=cell_lt ds.1;have HS:=Lib.hid hs;clear hs;have HR:=HP.out.enters;cases hps:pred s
   ·have HQ:=Lib.hid hps
    go_wp2_with ((with_reducible refine (HP.out.answers s _ (by simp (maxDischargeDepth:=60))).mono ?_);rintro e w1 ⟨rfl,o1,n1,rfl⟩);go_roundw
    case rel=>exact ⟨k+1,by omega,by go_num,before_step HS.out HQ.out HT.out,(by simp (maxDischargeDepth:=60))⟩
    case measure=>simp [intOf];omega
   ·have HQ:=Lib.hid hps
    go_wp2_with ((with_reducible refine (HP.out.answers s _ (by simp (maxDischargeDepth:=60))).mono ?_);rintro e w1 ⟨rfl,o1,n1,rfl⟩);go_ret;exact ⟨by rw [indexOf_some HS.out HQ.out HT.out];rfl,(by simp (maxDischargeDepth:=60))⟩
  ·go_wp2
   go_ret;exact ⟨by rw [indexOf_none (fun j s hj hs=>HT.out j s (by have:=HL.out;omega) hs)];rfl,(by simp (maxDischargeDepth:=60))⟩
theorem eqlJob_of (w:World) (a a':Int) (b b':Bool):(Go.binOp .eql 94 (.agg #[vi a,.bool b]) (.agg #[vi a',.bool b'])).run Try.prog w = .ok (.bool (decide ((⟨a,b⟩:Ch.Job)=⟨a',b'⟩))) w:=
 eqlStruct w (eqJob w 9998 ⟨a,b⟩ ⟨a',b'⟩)
abbrev bookA (last:Int) (a1:Option Addr) (n1 c1:Nat) (a2:Option Addr) (n2 c2:Nat):Value:=.agg #[vi last,.slice a1 n1 c1,.slice a2 n2 c2]
theorem find1_any (s0 s1 s2 s3 s4 s5 s6 s7 t:Int) (B:Nat) (w:World) (hc:w.cell? ⟨B,0,none⟩=some (vi t)):
  Calls Try.prog 141 #[.agg #[vi s0,vi s1,vi s2,vi s3,vi s4,vi s5,vi s6,vi s7],.pointer (some ⟨B,0,none⟩)] w fun e w'=>e = .returned (.bool (s0==t))∧Ext w w':=by
 have hB:=cell_lt hc;go_enter Try.func141,Try.ntmps141;go_wp2;go_ret;exact ⟨rfl,(by simp (maxDischargeDepth:=60))⟩
theorem of1_any (s0 s1 s2 s3 s4 s5 s6 s7 t:Int) (B:Nat) (w:World) (hc:w.cell? ⟨B,0,none⟩=some (vi t)):
  Calls Try.prog 138 #[.agg #[vi s0,vi s1,vi s2,vi s3,vi s4,vi s5,vi s6,vi s7],.pointer (some ⟨B,0,none⟩)] w fun e w'=>e = .returned (.bool (s1==t))∧Ext w w':=by
 have hB:=cell_lt hc;go_enter Try.func138,Try.ntmps138;go_wp2;go_ret;exact ⟨rfl,(by simp (maxDischargeDepth:=60))⟩
theorem find_pred (t:Int) (B:Nat) (w:World) (hc:w.cell? ⟨B,0,none⟩=some (vi t)):StayPred w 141 #[.pointer (some ⟨B,0,none⟩)] (fun s=>s.ticket==t) where
 enters:=fun args w=>by kernel_rfl
 answers:=fun s W ⟨o,n,hW⟩=>by
  subst hW;exact find1_any _ _ _ _ _ _ _ _ t B _ (by rw [plus_cell _ _ _ _ _ _ (cell_lt hc)];exact hc)
theorem of_pred (t:Int) (B:Nat) (w:World) (hc:w.cell? ⟨B,0,none⟩=some (vi t)):StayPred w 138 #[.pointer (some ⟨B,0,none⟩)] (fun s=>s.car.id==t) where
 enters:=fun args w=>by kernel_rfl
 answers:=fun s W ⟨o,n,hW⟩=>by
  subst hW;exact of1_any _ _ _ _ _ _ _ _ t B _ (by rw [plus_cell _ _ _ _ _ _ (cell_lt hc)];exact hc)
theorem find_any (last t:Int) (a1:Option Addr) (n1 c1:Nat) (a2:Option Addr) (n2 c2:Nat) (l:List Ch.Stay) (w:World) (h:Sl w 8 stayCells l a1 n1 c1):
  Calls Try.prog 108 #[bookA last a1 n1 c1 a2 n2 c2,vi t] w fun e w'=>e = .returned (vi (Ch.indexOf (fun s=>s.ticket==t) l))∧Ext w w':=by
 have HF:=Lib.hid h;clear h;go_enter Try.func108,Try.ntmps108;go_wp2_with fail;refine (indexStay_any _ _ _ l _ _ _ _ (Sl.below HF.out (Ext.below (by simp (maxDischargeDepth:=60)))) (find_pred t _ _ (by simp [go_sem]))).mono ?_;rintro e w1 ⟨rfl,o1,n1,rfl⟩;go_wp2_with fail;go_ret;exact ⟨rfl,(by simp (maxDischargeDepth:=60))⟩
theorem of_any (last t:Int) (a1:Option Addr) (n1 c1:Nat) (a2:Option Addr) (n2 c2:Nat) (l:List Ch.Stay) (w:World) (h:Sl w 8 stayCells l a1 n1 c1):
  Calls Try.prog 105 #[bookA last a1 n1 c1 a2 n2 c2,vi t] w fun e w'=>e = .returned (vi (Ch.indexOf (fun s=>s.car.id==t) l))∧Ext w w':=by
 have HF:=Lib.hid h;clear h;go_enter Try.func105,Try.ntmps105;go_wp2_with fail;refine (indexStay_any _ _ _ l _ _ _ _ (Sl.below HF.out (Ext.below (by simp (maxDischargeDepth:=60)))) (of_pred t _ _ (by simp [go_sem]))).mono ?_;rintro e w1 ⟨rfl,o1,n1,rfl⟩;go_wp2_with fail;go_ret;exact ⟨rfl,(by simp (maxDischargeDepth:=60))⟩
end Go.Proofs.Ytplomeacjbkgnaa
