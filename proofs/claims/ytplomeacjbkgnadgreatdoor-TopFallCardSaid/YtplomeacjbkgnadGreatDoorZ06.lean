import Derived.Test.YtplomeacjbkgnadGreatDoorZ05
import Derived.Shelf.Strconv.Itoa3
import Derived.Shelf.Strconv.ErrVarAll
import Derived.Shelf.Strings.SplitShaped
set_option linter.all false
set_option maxRecDepth 100000
set_option maxHeartbeats 16000000
namespace Go.Proofs.YtplomeacjbkgnadGreatDoor
open Go.RowKit
theorem ext_cell {w w':World} (h:Ext w w') {b o:Nat} {v:Value} (hc:w.cell? ⟨b,o,none⟩=some v):w'.cell? ⟨b,o,none⟩=some v:=by
 obtain ⟨o',n,rfl⟩:=h;rw [plus_cell _ _ _ _ _ _ (cell_lt hc)];exact hc
structure StayPred (w:World) (K:Nat) (caps:Array Value) (pred:Ch.Stay→Bool):Prop where
 enters:∀ args w,(callFunc K args).run Tryz.prog w = .ok (.enter K args) w
 answers:∀ (s:Ch.Stay) (W:World),Ext w W→Calls Tryz.prog K (#[stayA s]++caps) W fun e w'=>e = .returned (.bool (pred s))∧Ext W w'
theorem indexOf_some {α:Type} {p:α→Bool} {l:List α} {k:Nat} {s:α} (hs:l[k]? = some s) (hp:p s=true) (hb:∀ j s,j<k→l[j]? = some s→p s=false):Ch.indexOf p l=k:=by
 unfold Ch.indexOf
 have hk:k<l.length:=by
  by_cases h:k<l.length
  ·exact h
  ·rw [List.getElem?_eq_none (by omega)] at hs;cases hs
 have hs':l[k]=s:=by rw [List.getElem?_eq_getElem hk] at hs;exact Option.some.inj hs
 have:l.findIdx? p=some k:=by
  rw [List.findIdx?_eq_some_iff_getElem];refine ⟨hk,by rw [hs'];exact hp,fun j hj=>?_⟩;have:=hb j (l[j]'(by omega)) hj (by simp);simp [this]
 rw [this]
theorem before_step {α:Type} {p:α→Bool} {l:List α} {k:Nat} {s:α} (hs:l[k]? = some s) (hp:p s=false) (hb:∀ j s,j<k→l[j]? = some s→p s=false):∀ j s,j<k+1→l[j]? = some s→p s=false:=by
 intro j s' hj hs'
 by_cases hjk:j<k
 ·exact hb j s' hjk hs'
 ·have e:j=k:=by omega
  rw [e,hs] at hs';cases hs';exact hp
theorem indexOf_none {α:Type} {p:α→Bool} {l:List α} (hb:∀ j s,j<l.length→l[j]? = some s→p s=false):Ch.indexOf p l=-1:=by
 unfold Ch.indexOf
 have:l.findIdx? p=none:=by
  rw [List.findIdx?_eq_none_iff];intro x hx;obtain ⟨j,hj,rfl⟩:=List.getElem_of_mem hx;exact hb j _ hj (by simp)
 rw [this]
theorem indexStay_any (a:Option Addr) (n cap:Nat) (l:List Ch.Stay) (K:Nat) (caps:Array Value) (pred:Ch.Stay→Bool) (w:World) (h:Sl w 8 stayCells l a n cap) (hp:StayPred w K caps pred):
  Calls Tryz.prog 55 #[.slice a n cap,.func (.func K) #[] caps] w fun e w'=>e = .returned (vi (Ch.indexOf pred l))∧Ext w w':=by
 have HF:=Lib.hid h;have HP:=Lib.hid hp;have hb:=h.bound;have hl:=h.len;have HL:=Lib.hid hl;clear h hp hl;go_enter Tryz.func55,Tryz.ntmps55;go_wp2
 go_loopw [8] (fun i wr=>∃ k:Nat,k≤n∧i = .int .i64 k∧Hid (∀ j s,j<k→l[j]? = some s→pred s=false)∧Ext w wr) (fun i _=>n - (intOf i).toNat)
 case atStart=>exact ⟨0,by omega,rfl,by intro j s hj;omega,(by simp (maxDischargeDepth:=60))⟩
 case round=>
  obtain ⟨k,hk,rfl,HT,o,m,rfl⟩:=hrel
  by_cases hlt:k<n
  ·obtain ⟨b,q,s,rfl,hs,ds⟩:=HF.out.get hlt
   have ds:=at8 ds;have hq:=cell_lt ds.1;have HS:=Lib.hid hs;clear hs;have HR:=HP.out.enters;cases hps:pred s
   ·have HQ:=Lib.hid hps
    go_wp2_with ((with_reducible refine (HP.out.answers s _ (by simp (maxDischargeDepth:=60))).mono ?_);rintro e w1 ⟨rfl,o1,n1,rfl⟩);go_roundw
    case rel=>exact ⟨k+1,by omega,by go_num,before_step HS.out HQ.out HT.out,(by simp (maxDischargeDepth:=60))⟩
    case measure=>simp [intOf];omega
   ·have HQ:=Lib.hid hps
    go_wp2_with ((with_reducible refine (HP.out.answers s _ (by simp (maxDischargeDepth:=60))).mono ?_);rintro e w1 ⟨rfl,o1,n1,rfl⟩);go_ret;exact ⟨by rw [indexOf_some HS.out HQ.out HT.out];rfl,(by simp (maxDischargeDepth:=60))⟩
  ·go_wp2
   go_ret;exact ⟨by rw [indexOf_none (fun j s hj hs=>HT.out j s (by have:=HL.out;omega) hs)];rfl,(by simp (maxDischargeDepth:=60))⟩
theorem indexOf_nn {α:Type} (p:α→Bool) (l:List α):decide (0≤Ch.indexOf p l)=l.any p:=by
 unfold Ch.indexOf
 cases h:l.findIdx? p with
 | none=>
  rw [List.findIdx?_eq_none_iff] at h
  have:l.any p=false:=by
   rw [List.any_eq_false];intro x hx;simp [h x hx]
  rw [this];rfl
 | some i=>
  rw [List.findIdx?_eq_some_iff_getElem] at h;obtain ⟨hi,hp,_⟩:=h;have:l.any p=true:=List.any_eq_true.2 ⟨_,List.getElem_mem hi,hp⟩;rw [this];simp
theorem containsStay_any (a:Option Addr) (n cap:Nat) (l:List Ch.Stay) (K:Nat) (caps:Array Value) (pred:Ch.Stay→Bool) (w:World) (h:Sl w 8 stayCells l a n cap) (hp:StayPred w K caps pred):
  Calls Tryz.prog 115 #[.slice a n cap,.func (.func K) #[] caps] w fun e w'=>e = .returned (.bool (l.any pred))∧Ext w w':=by
 have HF:=Lib.hid h;have HP:=Lib.hid hp;clear h hp;go_enter Tryz.func115,Tryz.ntmps115;go_wp2_with (go_at_call 55;refine (indexStay_any _ _ _ l _ _ pred _ HF.out HP.out).mono ?_;rintro e w1 ⟨rfl,o1,n1,rfl⟩);go_ret;exact ⟨by rw [←indexOf_nn];rfl,(by simp (maxDischargeDepth:=60))⟩
theorem eqlJob_of (w:World) (a a':Int) (b b':Bool):(Go.binOp .eql 76 (.agg #[vi a,.bool b]) (.agg #[vi a',.bool b'])).run Tryz.prog w = .ok (.bool (decide ((⟨a,b⟩:Ch.Job)=⟨a',b'⟩))) w:=
 eqlStruct w (eqJob w 9998 ⟨a,b⟩ ⟨a',b'⟩)
theorem indexJob_any (a:Option Addr) (n cap:Nat) (l:List Ch.Job) (t:Int) (f:Bool) (w:World) (h:Sl w 2 jobCells l a n cap):
  Calls Tryz.prog 95 #[.slice a n cap,.agg #[vi t,.bool f]] w fun e w'=>e = .returned (vi (Ch.indexOf (fun j=>decide (j=⟨t,f⟩)) l))∧Ext w w':=by
 have HF:=Lib.hid h;have hb:=h.bound;have HL:=Lib.hid h.len;clear h;go_enter Tryz.func95,Tryz.ntmps95;go_wp2;generalize hW:World.alloc _ _=w0
 have k0:w0.cell? ⟨w.heap.size,0,none⟩=some (vi t):=by rw [←hW];simp [go_sem]
 have k1:w0.cell? ⟨w.heap.size,1,none⟩=some (.bool f):=by rw [←hW];simp [go_sem]
 have hx:Ext w w0:=by rw [←hW];exact (by simp (maxDischargeDepth:=60))
 have HS:Hid (Sl w0 2 jobCells l a n cap):=by unfold Hid;exact Sl.below HF.out hx.below
 have HX:=Lib.hid hx;have z1:=cell_lt k0;clear hW hx HF
 go_loopw [8] (fun i wr=>∃ k:Nat,k≤n∧i = .int .i64 k∧Hid (∀ j s,j<k→l[j]? = some s→decide (s=(⟨t,f⟩:Ch.Job))=false)∧Ext w0 wr) (fun i _=>n - (intOf i).toNat)
 case atStart=>exact ⟨0,by omega,rfl,by intro j s hj;omega,(by simp (maxDischargeDepth:=60))⟩
 case round=>
  obtain ⟨k,hk,rfl,HT,o,m,rfl⟩:=hrel
  by_cases hlt:k<n
  ·obtain ⟨b,q,s,rfl,hs,ds⟩:=HS.out.get hlt
   have ds:=at2 ds;have hq:=cell_lt ds.1;have HSS:=Lib.hid hs;clear hs
   by_cases he:s=⟨t,f⟩
   ·have HQ:=Lib.hid he
    have hq1:∀ w,(Go.binOp .eql 76 (.agg #[vi t,.bool f]) (.agg #[vi s.ticket,.bool s.fetch])).run Tryz.prog w = .ok (.bool true) w:=fun w=>by rw [eqlJob_of];simp [he]
    clear he;go_wp2
    (refine wp_region_ext (by kernel_rfl) (by kernel_rfl) ?_;(repeat (first|go_big_quiet_step (fail)|quiet_step (fail)));refine wpQuiet_nil ?_;intro _ hw';obtain ⟨oq,nq,hw''⟩:=hw';subst hw'')
    go_wp2;go_ret;exact ⟨by rw [indexOf_some HSS.out (by simp [HQ.out]) HT.out];rfl,HX.out.trans (by simp (maxDischargeDepth:=60))⟩
   ·have HQ:=Lib.hid he
    have hq1:∀ w,(Go.binOp .eql 76 (.agg #[vi t,.bool f]) (.agg #[vi s.ticket,.bool s.fetch])).run Tryz.prog w = .ok (.bool false) w:=fun w=>by rw [eqlJob_of];congr 2;exact decide_eq_false fun h=>he h.symm
    clear he;go_wp2
    (refine wp_region_ext (by kernel_rfl) (by kernel_rfl) ?_;(repeat (first|go_big_quiet_step (fail)|quiet_step (fail)));refine wpQuiet_nil ?_;intro _ hw';obtain ⟨oq,nq,hw''⟩:=hw';subst hw'')
    go_wp2;go_roundw
    case rel=>exact ⟨k+1,by omega,by go_num,before_step HSS.out (by simp [HQ.out]) HT.out,(by simp (maxDischargeDepth:=60))⟩
    case measure=>simp [intOf];omega
  ·go_wp2
   go_ret;exact ⟨by rw [indexOf_none (fun j s hj hs=>HT.out j s (by have:=HL.out;omega) hs)];rfl,HX.out.trans (by simp (maxDischargeDepth:=60))⟩
theorem containsJob_any (a:Option Addr) (n cap:Nat) (l:List Ch.Job) (t:Int) (f:Bool) (w:World) (h:Sl w 2 jobCells l a n cap):
  Calls Tryz.prog 58 #[.slice a n cap,.agg #[vi t,.bool f]] w fun e w'=>e = .returned (.bool (decide ((⟨t,f⟩:Ch.Job)∈l)))∧Ext w w':=by
 have HF:=Lib.hid h;clear h;go_enter Tryz.func58,Tryz.ntmps58;go_wp2_with (go_at_call 95;refine (indexJob_any _ _ _ l t f _ (Sl.below HF.out (Ext.below (by simp (maxDischargeDepth:=60))))).mono ?_;rintro e w1 ⟨rfl,o1,n1,rfl⟩);go_ret
 have e:decide ((⟨t,f⟩:Ch.Job)∈l)=decide (0≤Ch.indexOf (fun j=>decide (j=(⟨t,f⟩:Ch.Job))) l):=by
  rw [indexOf_nn,Bool.eq_iff_iff];simp [List.any_eq_true]
 exact ⟨by rw [e];rfl,(by simp (maxDischargeDepth:=60))⟩
theorem eqlPlace_of (w:World) (a b c a' b' c':Int):(Go.binOp .eql 47 (.agg #[vi a,vi b,vi c]) (.agg #[vi a',vi b',vi c'])).run Tryz.prog w = .ok (.bool (decide ((⟨a,b,c⟩:Ch.Place)=⟨a',b',c'⟩))) w:=
 eqlStruct w (eqPlace w 9998 ⟨a,b,c⟩ ⟨a',b',c'⟩)
theorem indexPlace_any (a:Option Addr) (n cap:Nat) (l:List Ch.Place) (x y z:Int) (w:World) (h:Sl w 3 placeCells l a n cap):
  Calls Tryz.prog 136 #[.slice a n cap,.agg #[vi x,vi y,vi z]] w fun e w'=>e = .returned (vi (Ch.indexOf (fun j=>decide (j=⟨x,y,z⟩)) l))∧Ext w w':=by
 have HF:=Lib.hid h;have hb:=h.bound;have HL:=Lib.hid h.len;clear h;go_enter Tryz.func136,Tryz.ntmps136;go_wp2;generalize hW:World.alloc _ _=w0
 have k0:w0.cell? ⟨w.heap.size,0,none⟩=some (vi x):=by rw [←hW];simp [go_sem]
 have k1:w0.cell? ⟨w.heap.size,1,none⟩=some (vi y):=by rw [←hW];simp [go_sem]
 have k2:w0.cell? ⟨w.heap.size,2,none⟩=some (vi z):=by rw [←hW];simp [go_sem]
 have hx:Ext w w0:=by rw [←hW];exact (by simp (maxDischargeDepth:=60))
 have HS:Hid (Sl w0 3 placeCells l a n cap):=by unfold Hid;exact Sl.below HF.out hx.below
 have HX:=Lib.hid hx;have z1:=cell_lt k0;clear hW hx HF
 go_loopw [8] (fun i wr=>∃ k:Nat,k≤n∧i = .int .i64 k∧Hid (∀ j s,j<k→l[j]? = some s→decide (s=(⟨x,y,z⟩:Ch.Place))=false)∧Ext w0 wr) (fun i _=>n - (intOf i).toNat)
 case atStart=>exact ⟨0,by omega,rfl,by intro j s hj;omega,(by simp (maxDischargeDepth:=60))⟩
 case round=>
  obtain ⟨k,hk,rfl,HT,o,m,rfl⟩:=hrel
  by_cases hlt:k<n
  ·obtain ⟨b,q,s,rfl,hs,ds⟩:=HS.out.get hlt
   have ds:=at3 ds;have hq:=cell_lt ds.1;have HSS:=Lib.hid hs;clear hs
   by_cases he:s=⟨x,y,z⟩
   ·have HQ:=Lib.hid he
    have hq1:∀ w,(Go.binOp .eql 47 (.agg #[vi x,vi y,vi z]) (.agg #[vi s.level,vi s.side,vi s.depth])).run Tryz.prog w = .ok (.bool true) w:=fun w=>by rw [eqlPlace_of];simp [he]
    clear he;go_wp2
    (refine wp_region_ext (by kernel_rfl) (by kernel_rfl) ?_;(repeat (first|go_big_quiet_step (fail)|quiet_step (fail)));refine wpQuiet_nil ?_;intro _ hw';obtain ⟨oq,nq,hw''⟩:=hw';subst hw'')
    go_wp2;go_ret;exact ⟨by rw [indexOf_some HSS.out (by simp [HQ.out]) HT.out];rfl,HX.out.trans (by simp (maxDischargeDepth:=60))⟩
   ·have HQ:=Lib.hid he
    have hq1:∀ w,(Go.binOp .eql 47 (.agg #[vi x,vi y,vi z]) (.agg #[vi s.level,vi s.side,vi s.depth])).run Tryz.prog w = .ok (.bool false) w:=fun w=>by rw [eqlPlace_of];congr 2;exact decide_eq_false fun h=>he h.symm
    clear he;go_wp2
    (refine wp_region_ext (by kernel_rfl) (by kernel_rfl) ?_;(repeat (first|go_big_quiet_step (fail)|quiet_step (fail)));refine wpQuiet_nil ?_;intro _ hw';obtain ⟨oq,nq,hw''⟩:=hw';subst hw'')
    go_wp2;go_roundw
    case rel=>exact ⟨k+1,by omega,by go_num,before_step HSS.out (by simp [HQ.out]) HT.out,(by simp (maxDischargeDepth:=60))⟩
    case measure=>simp [intOf];omega
  ·go_wp2
   go_ret;exact ⟨by rw [indexOf_none (fun j s hj hs=>HT.out j s (by have:=HL.out;omega) hs)];rfl,HX.out.trans (by simp (maxDischargeDepth:=60))⟩
theorem containsPlace_any (a:Option Addr) (n cap:Nat) (l:List Ch.Place) (x y z:Int) (w:World) (h:Sl w 3 placeCells l a n cap):
  Calls Tryz.prog 120 #[.slice a n cap,.agg #[vi x,vi y,vi z]] w fun e w'=>e = .returned (.bool (decide ((⟨x,y,z⟩:Ch.Place)∈l)))∧Ext w w':=by
 have HF:=Lib.hid h;clear h;go_enter Tryz.func120,Tryz.ntmps120;go_wp2_with (go_at_call 136;refine (indexPlace_any _ _ _ l x y z _ (Sl.below HF.out (Ext.below (by simp (maxDischargeDepth:=60))))).mono ?_;rintro e w1 ⟨rfl,o1,n1,rfl⟩);go_ret
 have e:decide ((⟨x,y,z⟩:Ch.Place)∈l)=decide (0≤Ch.indexOf (fun j=>decide (j=(⟨x,y,z⟩:Ch.Place))) l):=by
  rw [indexOf_nn,Bool.eq_iff_iff];simp [List.any_eq_true]
 exact ⟨by rw [e];rfl,(by simp (maxDischargeDepth:=60))⟩
abbrev bookA (last:Int) (a1:Option Addr) (n1 c1:Nat) (a2:Option Addr) (n2 c2:Nat):Value:=.agg #[vi last,.slice a1 n1 c1,.slice a2 n2 c2]
theorem find1_any (s0 s1 s2 s3 s4 s5 s6 s7 t:Int) (B:Nat) (w:World) (hc:w.cell? ⟨B,0,none⟩=some (vi t)):
  Calls Tryz.prog 56 #[.agg #[vi s0,vi s1,vi s2,vi s3,vi s4,vi s5,vi s6,vi s7],.pointer (some ⟨B,0,none⟩)] w fun e w'=>e = .returned (.bool (s0==t))∧Ext w w':=by
 have hB:=cell_lt hc;go_enter Tryz.func56,Tryz.ntmps56;go_wp2;go_ret;exact ⟨rfl,(by simp (maxDischargeDepth:=60))⟩
theorem of1_any (s0 s1 s2 s3 s4 s5 s6 s7 t:Int) (B:Nat) (w:World) (hc:w.cell? ⟨B,0,none⟩=some (vi t)):
  Calls Tryz.prog 104 #[.agg #[vi s0,vi s1,vi s2,vi s3,vi s4,vi s5,vi s6,vi s7],.pointer (some ⟨B,0,none⟩)] w fun e w'=>e = .returned (.bool (s1==t))∧Ext w w':=by
 have hB:=cell_lt hc;go_enter Tryz.func104,Tryz.ntmps104;go_wp2;go_ret;exact ⟨rfl,(by simp (maxDischargeDepth:=60))⟩
theorem find_pred (t:Int) (B:Nat) (w:World) (hc:w.cell? ⟨B,0,none⟩=some (vi t)):StayPred w 56 #[.pointer (some ⟨B,0,none⟩)] (fun s=>s.ticket==t) where
 enters:=fun args w=>by kernel_rfl
 answers:=fun s W ⟨o,n,hW⟩=>by
  subst hW;exact find1_any _ _ _ _ _ _ _ _ t B _ (by rw [plus_cell _ _ _ _ _ _ (cell_lt hc)];exact hc)
theorem of_pred (t:Int) (B:Nat) (w:World) (hc:w.cell? ⟨B,0,none⟩=some (vi t)):StayPred w 104 #[.pointer (some ⟨B,0,none⟩)] (fun s=>s.car.id==t) where
 enters:=fun args w=>by kernel_rfl
 answers:=fun s W ⟨o,n,hW⟩=>by
  subst hW;exact of1_any _ _ _ _ _ _ _ _ t B _ (by rw [plus_cell _ _ _ _ _ _ (cell_lt hc)];exact hc)
theorem find_any (last t:Int) (a1:Option Addr) (n1 c1:Nat) (a2:Option Addr) (n2 c2:Nat) (l:List Ch.Stay) (w:World) (h:Sl w 8 stayCells l a1 n1 c1):
  Calls Tryz.prog 32 #[bookA last a1 n1 c1 a2 n2 c2,vi t] w fun e w'=>e = .returned (vi (Ch.indexOf (fun s=>s.ticket==t) l))∧Ext w w':=by
 have HF:=Lib.hid h;clear h;go_enter Tryz.func32,Tryz.ntmps32;go_wp2_with fail;refine (indexStay_any _ _ _ l _ _ _ _ (Sl.below HF.out (Ext.below (by simp (maxDischargeDepth:=60)))) (find_pred t _ _ (by simp [go_sem]))).mono ?_;rintro e w1 ⟨rfl,o1,n1,rfl⟩;go_wp2_with fail;go_ret;exact ⟨rfl,(by simp (maxDischargeDepth:=60))⟩
theorem of_any (last t:Int) (a1:Option Addr) (n1 c1:Nat) (a2:Option Addr) (n2 c2:Nat) (l:List Ch.Stay) (w:World) (h:Sl w 8 stayCells l a1 n1 c1):
  Calls Tryz.prog 67 #[bookA last a1 n1 c1 a2 n2 c2,vi t] w fun e w'=>e = .returned (vi (Ch.indexOf (fun s=>s.car.id==t) l))∧Ext w w':=by
 have HF:=Lib.hid h;clear h;go_enter Tryz.func67,Tryz.ntmps67;go_wp2_with fail;refine (indexStay_any _ _ _ l _ _ _ _ (Sl.below HF.out (Ext.below (by simp (maxDischargeDepth:=60)))) (of_pred t _ _ (by simp [go_sem]))).mono ?_;rintro e w1 ⟨rfl,o1,n1,rfl⟩;go_wp2_with fail;go_ret;exact ⟨rfl,(by simp (maxDischargeDepth:=60))⟩
end Go.Proofs.YtplomeacjbkgnadGreatDoor
namespace Go.Proofs
open Go.Shelf
def Tryz.laysM171_ren:Go.Shelf.Ren:=⟨fun|171=>97|243=>122|246=>137|283=>147|284=>148|285=>149|286=>150|129=>159|317=>158|318=>160|319=>161|320=>162|337=>170|338=>171|n=>n,fun|3=>3|9=>9|2=>2|4=>4|171=>204|0=>0|53=>35|37=>130|5=>5|173=>207|212=>219|51=>188|20=>20|213=>220|46=>171|232=>234|233=>235|n=>n,fun|17=>2|18=>6|19=>7|n=>n⟩
theorem Tryz.laysM171:Go.Proofs.LaysM.n171 Tryz.prog Tryz.laysM171_ren:={
 mixed:=by kernel_rfl
 f129:=Tryz.func159.trans (congrArg some (by kernel_rfl))
 f171:=Tryz.func97.trans (congrArg some (by kernel_rfl))
 f243:=Tryz.func122.trans (congrArg some (by kernel_rfl))
 f246:=Tryz.func137.trans (congrArg some (by kernel_rfl))
 f283:=Tryz.func147.trans (congrArg some (by kernel_rfl))
 f284:=Tryz.func148.trans (congrArg some (by kernel_rfl))
 f285:=Tryz.func149.trans (congrArg some (by kernel_rfl))
 f286:=Tryz.func150.trans (congrArg some (by kernel_rfl))
 f317:=Tryz.func158.trans (congrArg some (by kernel_rfl))
 f318:=Tryz.func160.trans (congrArg some (by kernel_rfl))
 f319:=Tryz.func161.trans (congrArg some (by kernel_rfl))
 f320:=Tryz.func162.trans (congrArg some (by kernel_rfl))
 f337:=Tryz.func170.trans (congrArg some (by kernel_rfl))
 f338:=Tryz.func171.trans (congrArg some (by kernel_rfl))
 t0:=Tryz.underlying0
 a0:=Tryz.isAgg0
 z0:=Tryz.sizeOf0
 v0:=Tryz.zeroValue0
 t2:=Tryz.underlying2
 a2:=Tryz.isAgg2
 z2:=Tryz.sizeOf2
 v2:=Tryz.zeroValue2
 t3:=Tryz.underlying3
 a3:=Tryz.isAgg3
 z3:=Tryz.sizeOf3
 v3:=Tryz.zeroValue3
 t4:=Tryz.underlying4
 a4:=Tryz.isAgg4
 z4:=Tryz.sizeOf4
 v4:=Tryz.zeroValue4
 t5:=Tryz.underlying5
 a5:=Tryz.isAgg5
 z5:=Tryz.sizeOf5
 v5:=Tryz.zeroValue5
 t9:=Tryz.underlying9
 a9:=Tryz.isAgg9
 z9:=Tryz.sizeOf9
 v9:=Tryz.zeroValue9
 t20:=Tryz.underlying20
 a20:=Tryz.isAgg20
 z20:=Tryz.sizeOf20
 v20:=Tryz.zeroValue20
 t37:=Tryz.underlying130
 a37:=Tryz.isAgg130
 z37:=Tryz.sizeOf130
 v37:=Tryz.zeroValue130
 t46:=Tryz.underlying171
 a46:=Tryz.isAgg171
 z46:=Tryz.sizeOf171
 v46:=Tryz.zeroValue171
 t51:=Tryz.underlying188
 a51:=Tryz.isAgg188
 z51:=Tryz.sizeOf188
 v51:=Tryz.zeroValue188
 t53:=Tryz.underlying35
 a53:=Tryz.isAgg35
 z53:=Tryz.sizeOf35
 v53:=Tryz.zeroValue35
 t171:=Tryz.underlying204
 a171:=Tryz.isAgg204
 z171:=Tryz.sizeOf204
 v171:=Tryz.zeroValue204
 t173:=Tryz.underlying207
 a173:=Tryz.isAgg207
 z173:=Tryz.sizeOf207
 v173:=Tryz.zeroValue207
 t212:=Tryz.underlying219
 a212:=Tryz.isAgg219
 z212:=Tryz.sizeOf219
 v212:=Tryz.zeroValue219
 t213:=Tryz.underlying220
 a213:=Tryz.isAgg220
 z213:=Tryz.sizeOf220
 t232:=Tryz.underlying234
 a232:=Tryz.isAgg234
 z232:=Tryz.sizeOf234
 v232:=Tryz.zeroValue234
 t233:=Tryz.underlying235
 a233:=Tryz.isAgg235
 z233:=Tryz.sizeOf235
 v233:=Tryz.zeroValue235
 g17:=by kernel_rfl
 g18:=by kernel_rfl
 g19:=by kernel_rfl
 i0:=by kernel_rfl
 i2:=by kernel_rfl
 i3:=by kernel_rfl
 i4:=by kernel_rfl
 i5:=by kernel_rfl
 i9:=by kernel_rfl
 i20:=by kernel_rfl
 i37:=by kernel_rfl
 i46:=by kernel_rfl
 i51:=by kernel_rfl
 i53:=by kernel_rfl
 i171:=by kernel_rfl
 i173:=by kernel_rfl
 i212:=by kernel_rfl
 i232:=by kernel_rfl
 i233:=by kernel_rfl
 m17:=by kernel_rfl
 m18:=by kernel_rfl
 m19:=by kernel_rfl }
def Tryz.laysC172_ren:Go.Shelf.Ren:=⟨fun|172=>112|244=>131|245=>132|247=>142|279=>143|280=>144|281=>145|282=>146|287=>155|316=>156|171=>97|205=>157|321=>168|322=>169|243=>122|246=>137|283=>147|284=>148|285=>149|286=>150|129=>159|317=>158|318=>160|319=>161|320=>162|337=>170|338=>171|n=>n,fun|9=>9|3=>3|75=>51|76=>69|4=>4|5=>5|167=>198|37=>130|0=>0|85=>199|2=>2|168=>201|53=>35|175=>212|46=>171|210=>215|127=>224|145=>227|143=>225|21=>21|171=>204|173=>207|212=>219|51=>188|20=>20|213=>220|232=>234|233=>235|80=>236|n=>n,fun|15=>0|16=>1|17=>2|18=>6|19=>7|n=>n⟩
theorem Tryz.laysC172:Go.Proofs.LaysC.n172 Tryz.prog Tryz.laysC172_ren:={
 mixed:=by kernel_rfl
 f129:=Tryz.func159.trans (congrArg some (by kernel_rfl))
 f171:=Tryz.func97.trans (congrArg some (by kernel_rfl))
 f172:=Tryz.func112.trans (congrArg some (by kernel_rfl))
 f205:=Tryz.func157.trans (congrArg some (by kernel_rfl))
 f243:=Tryz.func122.trans (congrArg some (by kernel_rfl))
 f244:=Tryz.func131.trans (congrArg some (by kernel_rfl))
 f245:=Tryz.func132.trans (congrArg some (by kernel_rfl))
 f246:=Tryz.func137.trans (congrArg some (by kernel_rfl))
 f247:=Tryz.func142.trans (congrArg some (by kernel_rfl))
 f279:=Tryz.func143.trans (congrArg some (by kernel_rfl))
 f280:=Tryz.func144.trans (congrArg some (by kernel_rfl))
 f281:=Tryz.func145.trans (congrArg some (by kernel_rfl))
 f282:=Tryz.func146.trans (congrArg some (by kernel_rfl))
 f283:=Tryz.func147.trans (congrArg some (by kernel_rfl))
 f284:=Tryz.func148.trans (congrArg some (by kernel_rfl))
 f285:=Tryz.func149.trans (congrArg some (by kernel_rfl))
 f286:=Tryz.func150.trans (congrArg some (by kernel_rfl))
 f287:=Tryz.func155.trans (congrArg some (by kernel_rfl))
 f316:=Tryz.func156.trans (congrArg some (by kernel_rfl))
 f317:=Tryz.func158.trans (congrArg some (by kernel_rfl))
 f318:=Tryz.func160.trans (congrArg some (by kernel_rfl))
 f319:=Tryz.func161.trans (congrArg some (by kernel_rfl))
 f320:=Tryz.func162.trans (congrArg some (by kernel_rfl))
 f321:=Tryz.func168.trans (congrArg some (by kernel_rfl))
 f322:=Tryz.func169.trans (congrArg some (by kernel_rfl))
 f337:=Tryz.func170.trans (congrArg some (by kernel_rfl))
 f338:=Tryz.func171.trans (congrArg some (by kernel_rfl))
 t0:=Tryz.underlying0
 a0:=Tryz.isAgg0
 z0:=Tryz.sizeOf0
 v0:=Tryz.zeroValue0
 t2:=Tryz.underlying2
 a2:=Tryz.isAgg2
 z2:=Tryz.sizeOf2
 v2:=Tryz.zeroValue2
 t3:=Tryz.underlying3
 a3:=Tryz.isAgg3
 z3:=Tryz.sizeOf3
 v3:=Tryz.zeroValue3
 t4:=Tryz.underlying4
 a4:=Tryz.isAgg4
 z4:=Tryz.sizeOf4
 v4:=Tryz.zeroValue4
 t5:=Tryz.underlying5
 a5:=Tryz.isAgg5
 z5:=Tryz.sizeOf5
 v5:=Tryz.zeroValue5
 t9:=Tryz.underlying9
 a9:=Tryz.isAgg9
 z9:=Tryz.sizeOf9
 v9:=Tryz.zeroValue9
 t20:=Tryz.underlying20
 a20:=Tryz.isAgg20
 z20:=Tryz.sizeOf20
 v20:=Tryz.zeroValue20
 t21:=Tryz.underlying21
 a21:=Tryz.isAgg21
 z21:=Tryz.sizeOf21
 v21:=Tryz.zeroValue21
 t37:=Tryz.underlying130
 a37:=Tryz.isAgg130
 z37:=Tryz.sizeOf130
 v37:=Tryz.zeroValue130
 t46:=Tryz.underlying171
 a46:=Tryz.isAgg171
 z46:=Tryz.sizeOf171
 v46:=Tryz.zeroValue171
 t51:=Tryz.underlying188
 a51:=Tryz.isAgg188
 z51:=Tryz.sizeOf188
 v51:=Tryz.zeroValue188
 t53:=Tryz.underlying35
 a53:=Tryz.isAgg35
 z53:=Tryz.sizeOf35
 v53:=Tryz.zeroValue35
 t75:=Tryz.underlying51
 a75:=Tryz.isAgg51
 z75:=Tryz.sizeOf51
 v75:=Tryz.zeroValue51
 t76:=Tryz.underlying69
 a76:=Tryz.isAgg69
 z76:=Tryz.sizeOf69
 v76:=Tryz.zeroValue69
 t85:=Tryz.underlying199
 a85:=Tryz.isAgg199
 z85:=Tryz.sizeOf199
 v85:=Tryz.zeroValue199
 t127:=Tryz.underlying224
 a127:=Tryz.isAgg224
 z127:=Tryz.sizeOf224
 v127:=Tryz.zeroValue224
 t143:=Tryz.underlying225
 a143:=Tryz.isAgg225
 z143:=Tryz.sizeOf225
 v143:=Tryz.zeroValue225
 t145:=Tryz.underlying227
 a145:=Tryz.isAgg227
 z145:=Tryz.sizeOf227
 v145:=Tryz.zeroValue227
 t167:=Tryz.underlying198
 a167:=Tryz.isAgg198
 z167:=Tryz.sizeOf198
 v167:=Tryz.zeroValue198
 t168:=Tryz.underlying201
 a168:=Tryz.isAgg201
 z168:=Tryz.sizeOf201
 v168:=Tryz.zeroValue201
 t171:=Tryz.underlying204
 a171:=Tryz.isAgg204
 z171:=Tryz.sizeOf204
 v171:=Tryz.zeroValue204
 t173:=Tryz.underlying207
 a173:=Tryz.isAgg207
 z173:=Tryz.sizeOf207
 v173:=Tryz.zeroValue207
 t175:=Tryz.underlying212
 a175:=Tryz.isAgg212
 z175:=Tryz.sizeOf212
 v175:=Tryz.zeroValue212
 t210:=Tryz.underlying215
 a210:=Tryz.isAgg215
 z210:=Tryz.sizeOf215
 v210:=Tryz.zeroValue215
 t212:=Tryz.underlying219
 a212:=Tryz.isAgg219
 z212:=Tryz.sizeOf219
 v212:=Tryz.zeroValue219
 t213:=Tryz.underlying220
 a213:=Tryz.isAgg220
 z213:=Tryz.sizeOf220
 t232:=Tryz.underlying234
 a232:=Tryz.isAgg234
 z232:=Tryz.sizeOf234
 v232:=Tryz.zeroValue234
 t233:=Tryz.underlying235
 a233:=Tryz.isAgg235
 z233:=Tryz.sizeOf235
 v233:=Tryz.zeroValue235
 g15:=by kernel_rfl
 g16:=by kernel_rfl
 g17:=by kernel_rfl
 g18:=by kernel_rfl
 g19:=by kernel_rfl
 t80:=Tryz.underlying236
 a80:=Tryz.isAgg236
 z80:=Tryz.sizeOf236
 v80:=Tryz.zeroValue236
 i0:=by kernel_rfl
 i2:=by kernel_rfl
 i3:=by kernel_rfl
 i4:=by kernel_rfl
 i5:=by kernel_rfl
 i9:=by kernel_rfl
 i20:=by kernel_rfl
 i21:=by kernel_rfl
 i37:=by kernel_rfl
 i46:=by kernel_rfl
 i51:=by kernel_rfl
 i53:=by kernel_rfl
 i75:=by kernel_rfl
 i76:=by kernel_rfl
 i80:=by kernel_rfl
 i85:=by kernel_rfl
 i127:=by kernel_rfl
 i143:=by kernel_rfl
 i145:=by kernel_rfl
 i167:=by kernel_rfl
 i168:=by kernel_rfl
 i171:=by kernel_rfl
 i173:=by kernel_rfl
 i175:=by kernel_rfl
 i210:=by kernel_rfl
 i212:=by kernel_rfl
 i232:=by kernel_rfl
 i233:=by kernel_rfl
 m15:=by kernel_rfl
 m16:=by kernel_rfl
 m17:=by kernel_rfl
 m18:=by kernel_rfl
 m19:=by kernel_rfl
 c0:=by kernel_rfl
 c2:=by kernel_rfl
 c3:=by kernel_rfl
 c4:=by kernel_rfl
 c5:=by kernel_rfl
 c9:=by kernel_rfl
 c20:=by kernel_rfl
 c21:=by kernel_rfl
 c37:=by kernel_rfl
 c46:=by kernel_rfl
 c51:=by kernel_rfl
 c53:=by kernel_rfl
 c75:=by kernel_rfl
 c76:=by kernel_rfl
 c80:=by kernel_rfl
 c85:=by kernel_rfl
 c127:=by kernel_rfl
 c143:=by kernel_rfl
 c145:=by kernel_rfl
 c167:=by kernel_rfl
 c168:=by kernel_rfl
 c171:=by kernel_rfl
 c173:=by kernel_rfl
 c175:=by kernel_rfl
 c210:=by kernel_rfl
 c212:=by kernel_rfl
 c213:=by kernel_rfl
 c232:=by kernel_rfl
 c233:=by kernel_rfl }
def Tryz.laysM146_ren:Go.Shelf.Ren:=⟨fun|146=>111|221=>130|268=>139|138=>140|143=>141|195=>151|197=>152|218=>153|219=>154|260=>163|217=>164|225=>165|224=>166|267=>167|266=>172|314=>173|n=>n,fun|9=>9|31=>103|3=>3|4=>4|0=>0|105=>209|21=>21|5=>5|46=>171|119=>229|139=>232|138=>231|146=>189|51=>188|n=>n,fun|1=>3|3=>4|4=>5|n=>n⟩
theorem Tryz.laysM146:Go.Proofs.LaysM.n146 Tryz.prog Tryz.laysM146_ren:={
 mixed:=by kernel_rfl
 f138:=Tryz.func140.trans (congrArg some (by kernel_rfl))
 f143:=Tryz.func141.trans (congrArg some (by kernel_rfl))
 f146:=Tryz.func111.trans (congrArg some (by kernel_rfl))
 f195:=Tryz.func151.trans (congrArg some (by kernel_rfl))
 f197:=Tryz.func152.trans (congrArg some (by kernel_rfl))
 f217:=Tryz.func164.trans (congrArg some (by kernel_rfl))
 f218:=Tryz.func153.trans (congrArg some (by kernel_rfl))
 f219:=Tryz.func154.trans (congrArg some (by kernel_rfl))
 f221:=Tryz.func130.trans (congrArg some (by kernel_rfl))
 f224:=Tryz.func166.trans (congrArg some (by kernel_rfl))
 f225:=Tryz.func165.trans (congrArg some (by kernel_rfl))
 f260:=Tryz.func163.trans (congrArg some (by kernel_rfl))
 f266:=Tryz.func172.trans (congrArg some (by kernel_rfl))
 f267:=Tryz.func167.trans (congrArg some (by kernel_rfl))
 f268:=Tryz.func139.trans (congrArg some (by kernel_rfl))
 f314:=Tryz.func173.trans (congrArg some (by kernel_rfl))
 t0:=Tryz.underlying0
 a0:=Tryz.isAgg0
 z0:=Tryz.sizeOf0
 v0:=Tryz.zeroValue0
 t3:=Tryz.underlying3
 a3:=Tryz.isAgg3
 z3:=Tryz.sizeOf3
 v3:=Tryz.zeroValue3
 t4:=Tryz.underlying4
 a4:=Tryz.isAgg4
 z4:=Tryz.sizeOf4
 v4:=Tryz.zeroValue4
 t5:=Tryz.underlying5
 a5:=Tryz.isAgg5
 z5:=Tryz.sizeOf5
 v5:=Tryz.zeroValue5
 t9:=Tryz.underlying9
 a9:=Tryz.isAgg9
 z9:=Tryz.sizeOf9
 v9:=Tryz.zeroValue9
 t21:=Tryz.underlying21
 a21:=Tryz.isAgg21
 z21:=Tryz.sizeOf21
 v21:=Tryz.zeroValue21
 t31:=Tryz.underlying103
 a31:=Tryz.isAgg103
 z31:=Tryz.sizeOf103
 v31:=Tryz.zeroValue103
 t46:=Tryz.underlying171
 a46:=Tryz.isAgg171
 z46:=Tryz.sizeOf171
 v46:=Tryz.zeroValue171
 t51:=Tryz.underlying188
 a51:=Tryz.isAgg188
 z51:=Tryz.sizeOf188
 v51:=Tryz.zeroValue188
 t105:=Tryz.underlying209
 a105:=Tryz.isAgg209
 z105:=Tryz.sizeOf209
 v105:=Tryz.zeroValue209
 t119:=Tryz.underlying229
 a119:=Tryz.isAgg229
 z119:=Tryz.sizeOf229
 t138:=Tryz.underlying231
 a138:=Tryz.isAgg231
 z138:=Tryz.sizeOf231
 v138:=Tryz.zeroValue231
 t139:=Tryz.underlying232
 a139:=Tryz.isAgg232
 z139:=Tryz.sizeOf232
 v139:=Tryz.zeroValue232
 t146:=Tryz.underlying189
 a146:=Tryz.isAgg189
 z146:=Tryz.sizeOf189
 v146:=Tryz.zeroValue189
 g1:=by kernel_rfl
 g3:=by kernel_rfl
 g4:=by kernel_rfl
 i0:=by kernel_rfl
 i3:=by kernel_rfl
 i4:=by kernel_rfl
 i5:=by kernel_rfl
 i9:=by kernel_rfl
 i21:=by kernel_rfl
 i31:=by kernel_rfl
 i46:=by kernel_rfl
 i51:=by kernel_rfl
 i105:=by kernel_rfl
 i138:=by kernel_rfl
 i139:=by kernel_rfl
 i146:=by kernel_rfl
 m1:=by kernel_rfl
 s1_3:=fun w h=>Go.Proofs.cell_of_shapedOpen_int (zero:=#[.int .i64 0]) (t:=3) h (of_decide_eq_true (by kernel_rfl)) (by kernel_rfl) rfl (by kernel_rfl) (by kernel_rfl) Tryz.underlying3
 m3:=by kernel_rfl
 m4:=by kernel_rfl }
end Go.Proofs
