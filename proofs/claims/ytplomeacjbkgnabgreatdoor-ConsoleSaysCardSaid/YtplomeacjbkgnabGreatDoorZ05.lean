import Derived.Test.YtplomeacjbkgnabGreatDoorZ04
import Derived.Shelf.Strconv.Itoa3
import Derived.Shelf.Strconv.ErrVarAll
import Derived.Shelf.Strings.SplitShaped
set_option linter.all false
set_option maxRecDepth 100000
set_option maxHeartbeats 16000000
namespace Go.Proofs.YtplomeacjbkgnabGreatDoor
open Go.RowKit Tryz Ch
theorem eA {w w':World} (h:Ext w w') {b o:Nat} {v:Value} (hc:w.cell? ⟨b,o,none⟩=some v):w'.cell? ⟨b,o,none⟩=some v:=by
 obtain ⟨o',n,rfl⟩:=h;rw [cB _ _ _ _ _ _ (cA hc)];exact hc
structure bL (w:World) (K:Nat) (caps:Array Value) (pred:sA->Bool):Prop where
 enters:∀ args w,(callFunc K args).run prog w = .ok (.enter K args) w
 answers:∀ (s:sA) (W:World),Ext w W->Calls prog K (#[stayA s]++caps) W fun e w'=>e = .returned (.bool (pred s))/\Ext W w'
theorem sL {α:Type} {p:α->Bool} {l:List α} {k:Nat} {s:α} (hs:l[k]? = some s) (hp:p s=true) (hb:∀ j s,j<k->l[j]? = some s->p s=false):cC p l=k:=by
 unfold cC
 have hk:k<l.length:=by
  by_cases h:k<l.length
  ·exact h
  ·rw [List.getElem?_eq_none om] at hs;cases hs
 have hs':l[k]=s:=by rw [List.getElem?_eq_getElem hk] at hs;exact Option.some.inj hs
 have:l.findIdx? p=some k:=by
  rw [List.findIdx?_eq_some_iff_getElem];refine ⟨hk,by rw [hs'];exact hp,fun j hj=>?_⟩;have:=hb j (l[j]'om) hj sp;simp [this]
 rw [this]
theorem jN {α:Type} {p:α->Bool} {l:List α} {k:Nat} {s:α} (hs:l[k]? = some s) (hp:p s=false) (hb:∀ j s,j<k->l[j]? = some s->p s=false):∀ j s,j<k+1->l[j]? = some s->p s=false:=by
 intro j s' hj hs'
 by_cases hjk:j<k
 ·exact hb j s' hjk hs'
 ·have e:j=k:=om
  rw [e,hs] at hs';cases hs';exact hp
theorem tL {α:Type} {p:α->Bool} {l:List α} (hb:∀ j s,j<l.length->l[j]? = some s->p s=false):cC p l=-1:=by
 unfold cC
 have:l.findIdx? p=none:=by
  rw [List.findIdx?_eq_none_iff];intro x hx;obtain ⟨j,hj,rfl⟩:=List.getElem_of_mem hx;exact hb j _ hj sp
 rw [this]
theorem wI (a:Option Addr) (n cap:Nat) (l:List sA) (K:Nat) (caps:Array Value) (pred:sA->Bool) (w:World) (h:Sl w 8 iA l a n cap) (hp:bL w K caps pred):
  Calls prog 150 #[.slice a n cap,.func (.func K) #[] caps] w fun e w'=>e = .returned (vi (cC pred l))/\Ext w w':=by
 have HF:=aA h;have HP:=aA hp;have hb:=h.bound;have hl:=h.len;have HL:=aA hl;clear h hp hl;go_enter func150,ntmps150;go_wp2
 go_loopw [8] (fun i wr=>∃ k:Nat,k<=n/\i = .int .i64 k/\Hid (∀ j s,j<k->l[j]? = some s->pred s=false)/\Ext w wr) (fun i _=>n - (intOf i).toNat)
 case atStart=>exact ⟨0,om,rfl,by intro j s hj;omega,eX⟩
 case round=>
  obtain ⟨k,hk,rfl,HT,o,m,rfl⟩:=hrel
  by_cases hlt:k<n
  ·obtain ⟨b,q,s,rfl,hs,ds⟩:=HF.out.get hlt
   have ds:=at8 ds;have hq:=cA ds.1;have HS:=aA hs;clear hs;have HR:=HP.out.enters;cases hps:pred s
   ·have HQ:=aA hps
    go_wp2_with (with_reducible refine mo (HP.out.answers s _ eX) fun o1 n1=>?_);go_roundw
    case rel=>exact ⟨k+1,om,by go_num,jN HS.out HQ.out HT.out,eX⟩
    case measure=>simp [intOf];omega
   ·have HQ:=aA hps
    go_wp2_with (with_reducible refine mo (HP.out.answers s _ eX) fun o1 n1=>?_);go_ret;exact ⟨by rw [sL HS.out HQ.out HT.out];rfl,eX⟩
  ·go_wp2
   go_ret;exact ⟨by rw [tL (fun j s hj hs=>HT.out j s (by have:=HL.out;omega) hs)];rfl,eX⟩
theorem indexOf_nn {α:Type} (p:α->Bool) (l:List α):decide (0<=cC p l)=l.any p:=by
 unfold cC
 cases h:l.findIdx? p with
 | none=>
  rw [List.findIdx?_eq_none_iff] at h
  have:l.any p=false:=by
   rw [List.any_eq_false];intro x hx;simp [h x hx]
  rw [this];rfl
 | some i=>
  rw [List.findIdx?_eq_some_iff_getElem] at h;obtain ⟨hi,hp,_⟩:=h;have:l.any p=true:=List.any_eq_true.2 ⟨_,List.getElem_mem hi,hp⟩;rw [this];simp
theorem xG (a:Option Addr) (n cap:Nat) (l:List sA) (K:Nat) (caps:Array Value) (pred:sA->Bool) (w:World) (h:Sl w 8 iA l a n cap) (hp:bL w K caps pred):
  Calls prog 153 #[.slice a n cap,.func (.func K) #[] caps] w fun e w'=>e = .returned (.bool (l.any pred))/\Ext w w':=by
 have HF:=aA h;have HP:=aA hp;clear h hp;go_enter func153,ntmps153;go_wp2_with (go_at_call 150;refine (wI _ _ _ l _ _ pred _ HF.out HP.out).mono ?_;rintro e w1 ⟨rfl,o1,n1,rfl⟩);go_ret;exact ⟨by rw [<-indexOf_nn];rfl,eX⟩
theorem eqlJob_of (w:World) (a a':Int) (b b':Bool):(Go.binOp .eql 143 (.agg #[vi a,.bool b]) (.agg #[vi a',.bool b'])).run prog w = .ok (.bool (decide ((⟨a,b⟩:Job)=⟨a',b'⟩))) w:=
 mJ w (eqJob w 9998 ⟨a,b⟩ ⟨a',b'⟩)
theorem indexJob_any (a:Option Addr) (n cap:Nat) (l:List Job) (t:Int) (f:Bool) (w:World) (h:Sl w 2 jA l a n cap):
  Calls prog 164 #[.slice a n cap,.agg #[vi t,.bool f]] w fun e w'=>e = .returned (vi (cC (fun j=>decide (j=⟨t,f⟩)) l))/\Ext w w':=by
 have HF:=aA h;have hb:=h.bound;have HL:=aA h.len;clear h;go_enter func164,ntmps164;go_wp2;generalize hW:World.alloc _ _=w0;have k0:cI w0 w.heap.size 0 t:=cQ hW;have k1:cV w0 w.heap.size 1 (.bool f):=cQ hW;have hx:Ext w w0:=xQ hW
 have HS:Hid (Sl w0 2 jA l a n cap):=by unfold Hid;exact Sl.below HF.out hx.below
 have HX:=aA hx;have z1:=cA k0;clear hW hx HF
 go_loopw [8] (fun i wr=>∃ k:Nat,k<=n/\i = .int .i64 k/\Hid (∀ j s,j<k->l[j]? = some s->decide (s=(⟨t,f⟩:Job))=false)/\Ext w0 wr) (fun i _=>n - (intOf i).toNat)
 case atStart=>exact ⟨0,om,rfl,by intro j s hj;omega,eX⟩
 case round=>
  obtain ⟨k,hk,rfl,HT,o,m,rfl⟩:=hrel
  by_cases hlt:k<n
  ·obtain ⟨b,q,s,rfl,hs,ds⟩:=HS.out.get hlt
   have ds:=at2 ds;have hq:=cA ds.1;have HSS:=aA hs;clear hs
   by_cases he:s=⟨t,f⟩
   ·have HQ:=aA he
    have hq1:∀ w,(Go.binOp .eql 143 (.agg #[vi t,.bool f]) (.agg #[vi s.ticket,.bool s.fetch])).run prog w = .ok (.bool true) w:=fun w=>by rw [eqlJob_of];simp [he]
    clear he;go_wp2
    (refine qF ?_;rintro _ ⟨oq,nq,rfl⟩)
    go_wp2;go_ret;exact ⟨by rw [sL HSS.out (by simp [HQ.out]) HT.out];rfl,HX.out.trans eX⟩
   ·have HQ:=aA he
    have hq1:∀ w,(Go.binOp .eql 143 (.agg #[vi t,.bool f]) (.agg #[vi s.ticket,.bool s.fetch])).run prog w = .ok (.bool false) w:=fun w=>by rw [eqlJob_of];congr 2;exact decide_eq_false fun h=>he h.symm
    clear he;go_wp2
    (refine qF ?_;rintro _ ⟨oq,nq,rfl⟩)
    go_wp2;go_roundw
    case rel=>exact ⟨k+1,om,by go_num,jN HSS.out (by simp [HQ.out]) HT.out,eX⟩
    case measure=>simp [intOf];omega
  ·go_wp2
   go_ret;exact ⟨by rw [tL (fun j s hj hs=>HT.out j s (by have:=HL.out;omega) hs)];rfl,HX.out.trans eX⟩
theorem gL (a:Option Addr) (n cap:Nat) (l:List Job) (t:Int) (f:Bool) (w:World) (h:Sl w 2 jA l a n cap):
  Calls prog 103 #[.slice a n cap,.agg #[vi t,.bool f]] w fun e w'=>e = .returned (.bool (decide ((⟨t,f⟩:Job)∈l)))/\Ext w w':=by
 have HF:=aA h;clear h;go_enter func103,ntmps103;go_wp2_with (go_at_call 164;refine (indexJob_any _ _ _ l t f _ (Sl.below HF.out (Ext.below eX))).mono ?_;rintro e w1 ⟨rfl,o1,n1,rfl⟩);go_ret
 have e:decide ((⟨t,f⟩:Job)∈l)=decide (0<=cC (fun j=>decide (j=(⟨t,f⟩:Job))) l):=by
  rw [indexOf_nn,Bool.eq_iff_iff];simp [List.any_eq_true]
 exact ⟨by rw [e];rfl,eX⟩
theorem eI (w:World) (a b c a' b' c':Int):(Go.binOp .eql 89 (.agg #[vi a,vi b,vi c]) (.agg #[vi a',vi b',vi c'])).run prog w = .ok (.bool (decide ((⟨a,b,c⟩:pB)=⟨a',b',c'⟩))) w:=
 mJ w (fN w 9998 ⟨a,b,c⟩ ⟨a',b',c'⟩)
theorem indexPlace_any (a:Option Addr) (n cap:Nat) (l:List pB) (x y z:Int) (w:World) (h:Sl w 3 xF l a n cap):
  Calls prog 214 #[.slice a n cap,.agg #[vi x,vi y,vi z]] w fun e w'=>e = .returned (vi (cC (fun j=>decide (j=⟨x,y,z⟩)) l))/\Ext w w':=by
 have HF:=aA h;have hb:=h.bound;have HL:=aA h.len;clear h;go_enter func214,ntmps214;go_wp2;generalize hW:World.alloc _ _=w0;have k0:cI w0 w.heap.size 0 x:=cQ hW;have k1:cI w0 w.heap.size 1 y:=cQ hW;have k2:cI w0 w.heap.size 2 z:=cQ hW;have hx:Ext w w0:=xQ hW
 have HS:Hid (Sl w0 3 xF l a n cap):=by unfold Hid;exact Sl.below HF.out hx.below
 have HX:=aA hx;have z1:=cA k0;clear hW hx HF
 go_loopw [8] (fun i wr=>∃ k:Nat,k<=n/\i = .int .i64 k/\Hid (∀ j s,j<k->l[j]? = some s->decide (s=(⟨x,y,z⟩:pB))=false)/\Ext w0 wr) (fun i _=>n - (intOf i).toNat)
 case atStart=>exact ⟨0,om,rfl,by intro j s hj;omega,eX⟩
 case round=>
  obtain ⟨k,hk,rfl,HT,o,m,rfl⟩:=hrel
  by_cases hlt:k<n
  ·obtain ⟨b,q,s,rfl,hs,ds⟩:=HS.out.get hlt
   have ds:=at3 ds;have hq:=cA ds.1;have HSS:=aA hs;clear hs
   by_cases he:s=⟨x,y,z⟩
   ·have HQ:=aA he
    have hq1:∀ w,(Go.binOp .eql 89 (.agg #[vi x,vi y,vi z]) (.agg #[vi s.level,vi s.side,vi s.depth])).run prog w = .ok (.bool true) w:=fun w=>by rw [eI];simp [he]
    clear he;go_wp2
    (refine qF ?_;rintro _ ⟨oq,nq,rfl⟩)
    go_wp2;go_ret;exact ⟨by rw [sL HSS.out (by simp [HQ.out]) HT.out];rfl,HX.out.trans eX⟩
   ·have HQ:=aA he
    have hq1:∀ w,(Go.binOp .eql 89 (.agg #[vi x,vi y,vi z]) (.agg #[vi s.level,vi s.side,vi s.depth])).run prog w = .ok (.bool false) w:=fun w=>by rw [eI];congr 2;exact decide_eq_false fun h=>he h.symm
    clear he;go_wp2
    (refine qF ?_;rintro _ ⟨oq,nq,rfl⟩)
    go_wp2;go_roundw
    case rel=>exact ⟨k+1,om,by go_num,jN HSS.out (by simp [HQ.out]) HT.out,eX⟩
    case measure=>simp [intOf];omega
  ·go_wp2
   go_ret;exact ⟨by rw [tL (fun j s hj hs=>HT.out j s (by have:=HL.out;omega) hs)];rfl,HX.out.trans eX⟩
theorem nG (a:Option Addr) (n cap:Nat) (l:List pB) (x y z:Int) (w:World) (h:Sl w 3 xF l a n cap):
  Calls prog 190 #[.slice a n cap,.agg #[vi x,vi y,vi z]] w fun e w'=>e = .returned (.bool (decide ((⟨x,y,z⟩:pB)∈l)))/\Ext w w':=by
 have HF:=aA h;clear h;go_enter func190,ntmps190;go_wp2_with (go_at_call 214;refine (indexPlace_any _ _ _ l x y z _ (Sl.below HF.out (Ext.below eX))).mono ?_;rintro e w1 ⟨rfl,o1,n1,rfl⟩);go_ret
 have e:decide ((⟨x,y,z⟩:pB)∈l)=decide (0<=cC (fun j=>decide (j=(⟨x,y,z⟩:pB))) l):=by
  rw [indexOf_nn,Bool.eq_iff_iff];simp [List.any_eq_true]
 exact ⟨by rw [e];rfl,eX⟩
abbrev lC (last:Int) (a1:Option Addr) (n1 c1:Nat) (a2:Option Addr) (n2 c2:Nat):Value:=.agg #[vi last,.slice a1 n1 c1,.slice a2 n2 c2]
theorem find1_any (s0 s1 s2 s3 s4 s5 s6 s7 t:Int) (B:Nat) (w:World) (hc:w.cell? ⟨B,0,none⟩=some (vi t)):
  Calls prog 163 #[.agg #[vi s0,vi s1,vi s2,vi s3,vi s4,vi s5,vi s6,vi s7],.pointer (some ⟨B,0,none⟩)] w fun e w'=>e = .returned (.bool (s0==t))/\Ext w w':=by
 have hB:=cA hc;go_enter func163,ntmps163;go_wp2;go_ret;exact ⟨rfl,eX⟩
theorem of1_any (s0 s1 s2 s3 s4 s5 s6 s7 t:Int) (B:Nat) (w:World) (hc:w.cell? ⟨B,0,none⟩=some (vi t)):
  Calls prog 151 #[.agg #[vi s0,vi s1,vi s2,vi s3,vi s4,vi s5,vi s6,vi s7],.pointer (some ⟨B,0,none⟩)] w fun e w'=>e = .returned (.bool (s1==t))/\Ext w w':=by
 have hB:=cA hc;go_enter func151,ntmps151;go_wp2;go_ret;exact ⟨rfl,eX⟩
theorem find_pred (t:Int) (B:Nat) (w:World) (hc:w.cell? ⟨B,0,none⟩=some (vi t)):bL w 163 #[.pointer (some ⟨B,0,none⟩)] (fun s=>s.ticket==t) where
 enters:=fun args w=>by kernel_rfl
 answers:=fun s W ⟨o,n,hW⟩=>by
  subst hW;exact find1_any _ _ _ _ _ _ _ _ t B _ (by rw [cB _ _ _ _ _ _ (cA hc)];exact hc)
theorem of_pred (t:Int) (B:Nat) (w:World) (hc:w.cell? ⟨B,0,none⟩=some (vi t)):bL w 151 #[.pointer (some ⟨B,0,none⟩)] (fun s=>s.car.id==t) where
 enters:=fun args w=>by kernel_rfl
 answers:=fun s W ⟨o,n,hW⟩=>by
  subst hW;exact of1_any _ _ _ _ _ _ _ _ t B _ (by rw [cB _ _ _ _ _ _ (cA hc)];exact hc)
theorem find_any (last t:Int) (a1:Option Addr) (n1 c1:Nat) (a2:Option Addr) (n2 c2:Nat) (l:List sA) (w:World) (h:Sl w 8 iA l a1 n1 c1):
  Calls prog 102 #[lC last a1 n1 c1 a2 n2 c2,vi t] w fun e w'=>e = .returned (vi (cC (fun s=>s.ticket==t) l))/\Ext w w':=by
 have HF:=aA h;clear h;go_enter func102,ntmps102;go_wp2_with fail;refine (wI _ _ _ l _ _ _ _ (Sl.below HF.out (Ext.below eX)) (find_pred t _ _ (by simp [go_sem]))).mono ?_;rintro e w1 ⟨rfl,o1,n1,rfl⟩;go_wp2_with fail;go_ret;exact ⟨rfl,eX⟩
theorem of_any (last t:Int) (a1:Option Addr) (n1 c1:Nat) (a2:Option Addr) (n2 c2:Nat) (l:List sA) (w:World) (h:Sl w 8 iA l a1 n1 c1):
  Calls prog 94 #[lC last a1 n1 c1 a2 n2 c2,vi t] w fun e w'=>e = .returned (vi (cC (fun s=>s.car.id==t) l))/\Ext w w':=by
 have HF:=aA h;clear h;go_enter func94,ntmps94;go_wp2_with fail;refine (wI _ _ _ l _ _ _ _ (Sl.below HF.out (Ext.below eX)) (of_pred t _ _ (by simp [go_sem]))).mono ?_;rintro e w1 ⟨rfl,o1,n1,rfl⟩;go_wp2_with fail;go_ret;exact ⟨rfl,eX⟩
end Go.Proofs.YtplomeacjbkgnabGreatDoor
namespace Go.Proofs
open Go.Shelf
def Tryz.laysM171_ren:Go.Shelf.Ren:=⟨fun|171=>84|243=>148|246=>185|283=>205|284=>206|285=>207|286=>208|129=>222|317=>221|318=>223|319=>224|320=>225|337=>237|338=>238|n=>n,fun|3=>3|9=>9|2=>2|4=>4|171=>246|0=>0|53=>57|37=>155|5=>5|173=>249|212=>264|51=>209|20=>20|213=>265|46=>152|232=>287|233=>288|n=>n,fun|17=>0|18=>6|19=>7|n=>n⟩
theorem Tryz.laysM171:Go.Proofs.LaysM.n171 Tryz.prog Tryz.laysM171_ren:={
 mixed:=by kernel_rfl
 f129:=Tryz.func222.trans (congrArg some (by kernel_rfl))
 f171:=Tryz.func84.trans (congrArg some (by kernel_rfl))
 f243:=Tryz.func148.trans (congrArg some (by kernel_rfl))
 f246:=Tryz.func185.trans (congrArg some (by kernel_rfl))
 f283:=Tryz.func205.trans (congrArg some (by kernel_rfl))
 f284:=Tryz.func206.trans (congrArg some (by kernel_rfl))
 f285:=Tryz.func207.trans (congrArg some (by kernel_rfl))
 f286:=Tryz.func208.trans (congrArg some (by kernel_rfl))
 f317:=Tryz.func221.trans (congrArg some (by kernel_rfl))
 f318:=Tryz.func223.trans (congrArg some (by kernel_rfl))
 f319:=Tryz.func224.trans (congrArg some (by kernel_rfl))
 f320:=Tryz.func225.trans (congrArg some (by kernel_rfl))
 f337:=Tryz.func237.trans (congrArg some (by kernel_rfl))
 f338:=Tryz.func238.trans (congrArg some (by kernel_rfl))
 t0:=Tryz.underlying0
 a0:=Tryz.isAgg0
 z0:=Tryz.sizeOf0
 v0:=Tryz.zeroValue0
 t2:=Tryz.underlying2
 a2:=Tryz.isAgg2
 z2:=Tryz.sizeOf2
 v2:=Tryz.zeroValue2
 t3:=Tryz.underlying3
 a3:=Tryz.isAgg3
 z3:=Tryz.sizeOf3
 v3:=Tryz.zeroValue3
 t4:=Tryz.underlying4
 a4:=Tryz.isAgg4
 z4:=Tryz.sizeOf4
 v4:=Tryz.zeroValue4
 t5:=Tryz.underlying5
 a5:=Tryz.isAgg5
 z5:=Tryz.sizeOf5
 v5:=Tryz.zeroValue5
 t9:=Tryz.underlying9
 a9:=Tryz.isAgg9
 z9:=Tryz.sizeOf9
 v9:=Tryz.zeroValue9
 t20:=Tryz.underlying20
 a20:=Tryz.isAgg20
 z20:=Tryz.sizeOf20
 v20:=Tryz.zeroValue20
 t37:=Tryz.underlying155
 a37:=Tryz.isAgg155
 z37:=Tryz.sizeOf155
 v37:=Tryz.zeroValue155
 t46:=Tryz.underlying152
 a46:=Tryz.isAgg152
 z46:=Tryz.sizeOf152
 v46:=Tryz.zeroValue152
 t51:=Tryz.underlying209
 a51:=Tryz.isAgg209
 z51:=Tryz.sizeOf209
 v51:=Tryz.zeroValue209
 t53:=Tryz.underlying57
 a53:=Tryz.isAgg57
 z53:=Tryz.sizeOf57
 v53:=Tryz.zeroValue57
 t171:=Tryz.underlying246
 a171:=Tryz.isAgg246
 z171:=Tryz.sizeOf246
 v171:=Tryz.zeroValue246
 t173:=Tryz.underlying249
 a173:=Tryz.isAgg249
 z173:=Tryz.sizeOf249
 v173:=Tryz.zeroValue249
 t212:=Tryz.underlying264
 a212:=Tryz.isAgg264
 z212:=Tryz.sizeOf264
 v212:=Tryz.zeroValue264
 t213:=Tryz.underlying265
 a213:=Tryz.isAgg265
 z213:=Tryz.sizeOf265
 t232:=Tryz.underlying287
 a232:=Tryz.isAgg287
 z232:=Tryz.sizeOf287
 v232:=Tryz.zeroValue287
 t233:=Tryz.underlying288
 a233:=Tryz.isAgg288
 z233:=Tryz.sizeOf288
 v233:=Tryz.zeroValue288
 g17:=by kernel_rfl
 g18:=by kernel_rfl
 g19:=by kernel_rfl
 i0:=by kernel_rfl
 i2:=by kernel_rfl
 i3:=by kernel_rfl
 i4:=by kernel_rfl
 i5:=by kernel_rfl
 i9:=by kernel_rfl
 i20:=by kernel_rfl
 i37:=by kernel_rfl
 i46:=by kernel_rfl
 i51:=by kernel_rfl
 i53:=by kernel_rfl
 i171:=by kernel_rfl
 i173:=by kernel_rfl
 i212:=by kernel_rfl
 i232:=by kernel_rfl
 i233:=by kernel_rfl
 m17:=by kernel_rfl
 m18:=by kernel_rfl
 m19:=by kernel_rfl }
def Tryz.laysC172_ren:Go.Shelf.Ren:=⟨fun|172=>149|244=>186|245=>187|247=>209|279=>210|280=>211|281=>212|282=>213|287=>226|316=>227|171=>84|205=>228|321=>239|322=>240|243=>148|246=>185|283=>205|284=>206|285=>207|286=>208|129=>222|317=>221|318=>223|319=>224|320=>225|337=>237|338=>238|n=>n,fun|9=>9|3=>3|75=>29|76=>60|4=>4|5=>5|167=>251|37=>155|0=>0|85=>252|2=>2|168=>254|53=>57|175=>267|46=>152|210=>270|127=>278|145=>281|143=>279|21=>21|171=>246|173=>249|212=>264|51=>209|20=>20|213=>265|232=>287|233=>288|80=>233|n=>n,fun|15=>1|16=>2|17=>0|18=>6|19=>7|n=>n⟩
theorem Tryz.laysC172:Go.Proofs.LaysC.n172 Tryz.prog Tryz.laysC172_ren:={
 mixed:=by kernel_rfl
 f129:=Tryz.func222.trans (congrArg some (by kernel_rfl))
 f171:=Tryz.func84.trans (congrArg some (by kernel_rfl))
 f172:=Tryz.func149.trans (congrArg some (by kernel_rfl))
 f205:=Tryz.func228.trans (congrArg some (by kernel_rfl))
 f243:=Tryz.func148.trans (congrArg some (by kernel_rfl))
 f244:=Tryz.func186.trans (congrArg some (by kernel_rfl))
 f245:=Tryz.func187.trans (congrArg some (by kernel_rfl))
 f246:=Tryz.func185.trans (congrArg some (by kernel_rfl))
 f247:=Tryz.func209.trans (congrArg some (by kernel_rfl))
 f279:=Tryz.func210.trans (congrArg some (by kernel_rfl))
 f280:=Tryz.func211.trans (congrArg some (by kernel_rfl))
 f281:=Tryz.func212.trans (congrArg some (by kernel_rfl))
 f282:=Tryz.func213.trans (congrArg some (by kernel_rfl))
 f283:=Tryz.func205.trans (congrArg some (by kernel_rfl))
 f284:=Tryz.func206.trans (congrArg some (by kernel_rfl))
 f285:=Tryz.func207.trans (congrArg some (by kernel_rfl))
 f286:=Tryz.func208.trans (congrArg some (by kernel_rfl))
 f287:=Tryz.func226.trans (congrArg some (by kernel_rfl))
 f316:=Tryz.func227.trans (congrArg some (by kernel_rfl))
 f317:=Tryz.func221.trans (congrArg some (by kernel_rfl))
 f318:=Tryz.func223.trans (congrArg some (by kernel_rfl))
 f319:=Tryz.func224.trans (congrArg some (by kernel_rfl))
 f320:=Tryz.func225.trans (congrArg some (by kernel_rfl))
 f321:=Tryz.func239.trans (congrArg some (by kernel_rfl))
 f322:=Tryz.func240.trans (congrArg some (by kernel_rfl))
 f337:=Tryz.func237.trans (congrArg some (by kernel_rfl))
 f338:=Tryz.func238.trans (congrArg some (by kernel_rfl))
 t0:=Tryz.underlying0
 a0:=Tryz.isAgg0
 z0:=Tryz.sizeOf0
 v0:=Tryz.zeroValue0
 t2:=Tryz.underlying2
 a2:=Tryz.isAgg2
 z2:=Tryz.sizeOf2
 v2:=Tryz.zeroValue2
 t3:=Tryz.underlying3
 a3:=Tryz.isAgg3
 z3:=Tryz.sizeOf3
 v3:=Tryz.zeroValue3
 t4:=Tryz.underlying4
 a4:=Tryz.isAgg4
 z4:=Tryz.sizeOf4
 v4:=Tryz.zeroValue4
 t5:=Tryz.underlying5
 a5:=Tryz.isAgg5
 z5:=Tryz.sizeOf5
 v5:=Tryz.zeroValue5
 t9:=Tryz.underlying9
 a9:=Tryz.isAgg9
 z9:=Tryz.sizeOf9
 v9:=Tryz.zeroValue9
 t20:=Tryz.underlying20
 a20:=Tryz.isAgg20
 z20:=Tryz.sizeOf20
 v20:=Tryz.zeroValue20
 t21:=Tryz.underlying21
 a21:=Tryz.isAgg21
 z21:=Tryz.sizeOf21
 v21:=Tryz.zeroValue21
 t37:=Tryz.underlying155
 a37:=Tryz.isAgg155
 z37:=Tryz.sizeOf155
 v37:=Tryz.zeroValue155
 t46:=Tryz.underlying152
 a46:=Tryz.isAgg152
 z46:=Tryz.sizeOf152
 v46:=Tryz.zeroValue152
 t51:=Tryz.underlying209
 a51:=Tryz.isAgg209
 z51:=Tryz.sizeOf209
 v51:=Tryz.zeroValue209
 t53:=Tryz.underlying57
 a53:=Tryz.isAgg57
 z53:=Tryz.sizeOf57
 v53:=Tryz.zeroValue57
 t75:=Tryz.underlying29
 a75:=Tryz.isAgg29
 z75:=Tryz.sizeOf29
 v75:=Tryz.zeroValue29
 t76:=Tryz.underlying60
 a76:=Tryz.isAgg60
 z76:=Tryz.sizeOf60
 v76:=Tryz.zeroValue60
 t85:=Tryz.underlying252
 a85:=Tryz.isAgg252
 z85:=Tryz.sizeOf252
 v85:=Tryz.zeroValue252
 t127:=Tryz.underlying278
 a127:=Tryz.isAgg278
 z127:=Tryz.sizeOf278
 v127:=Tryz.zeroValue278
 t143:=Tryz.underlying279
 a143:=Tryz.isAgg279
 z143:=Tryz.sizeOf279
 v143:=Tryz.zeroValue279
 t145:=Tryz.underlying281
 a145:=Tryz.isAgg281
 z145:=Tryz.sizeOf281
 v145:=Tryz.zeroValue281
 t167:=Tryz.underlying251
 a167:=Tryz.isAgg251
 z167:=Tryz.sizeOf251
 v167:=Tryz.zeroValue251
 t168:=Tryz.underlying254
 a168:=Tryz.isAgg254
 z168:=Tryz.sizeOf254
 v168:=Tryz.zeroValue254
 t171:=Tryz.underlying246
 a171:=Tryz.isAgg246
 z171:=Tryz.sizeOf246
 v171:=Tryz.zeroValue246
 t173:=Tryz.underlying249
 a173:=Tryz.isAgg249
 z173:=Tryz.sizeOf249
 v173:=Tryz.zeroValue249
 t175:=Tryz.underlying267
 a175:=Tryz.isAgg267
 z175:=Tryz.sizeOf267
 v175:=Tryz.zeroValue267
 t210:=Tryz.underlying270
 a210:=Tryz.isAgg270
 z210:=Tryz.sizeOf270
 v210:=Tryz.zeroValue270
 t212:=Tryz.underlying264
 a212:=Tryz.isAgg264
 z212:=Tryz.sizeOf264
 v212:=Tryz.zeroValue264
 t213:=Tryz.underlying265
 a213:=Tryz.isAgg265
 z213:=Tryz.sizeOf265
 t232:=Tryz.underlying287
 a232:=Tryz.isAgg287
 z232:=Tryz.sizeOf287
 v232:=Tryz.zeroValue287
 t233:=Tryz.underlying288
 a233:=Tryz.isAgg288
 z233:=Tryz.sizeOf288
 v233:=Tryz.zeroValue288
 g15:=by kernel_rfl
 g16:=by kernel_rfl
 g17:=by kernel_rfl
 g18:=by kernel_rfl
 g19:=by kernel_rfl
 t80:=Tryz.underlying233
 a80:=Tryz.isAgg233
 z80:=Tryz.sizeOf233
 v80:=Tryz.zeroValue233
 i0:=by kernel_rfl
 i2:=by kernel_rfl
 i3:=by kernel_rfl
 i4:=by kernel_rfl
 i5:=by kernel_rfl
 i9:=by kernel_rfl
 i20:=by kernel_rfl
 i21:=by kernel_rfl
 i37:=by kernel_rfl
 i46:=by kernel_rfl
 i51:=by kernel_rfl
 i53:=by kernel_rfl
 i75:=by kernel_rfl
 i76:=by kernel_rfl
 i80:=by kernel_rfl
 i85:=by kernel_rfl
 i127:=by kernel_rfl
 i143:=by kernel_rfl
 i145:=by kernel_rfl
 i167:=by kernel_rfl
 i168:=by kernel_rfl
 i171:=by kernel_rfl
 i173:=by kernel_rfl
 i175:=by kernel_rfl
 i210:=by kernel_rfl
 i212:=by kernel_rfl
 i232:=by kernel_rfl
 i233:=by kernel_rfl
 m15:=by kernel_rfl
 m16:=by kernel_rfl
 m17:=by kernel_rfl
 m18:=by kernel_rfl
 m19:=by kernel_rfl
 c0:=by kernel_rfl
 c2:=by kernel_rfl
 c3:=by kernel_rfl
 c4:=by kernel_rfl
 c5:=by kernel_rfl
 c9:=by kernel_rfl
 c20:=by kernel_rfl
 c21:=by kernel_rfl
 c37:=by kernel_rfl
 c46:=by kernel_rfl
 c51:=by kernel_rfl
 c53:=by kernel_rfl
 c75:=by kernel_rfl
 c76:=by kernel_rfl
 c80:=by kernel_rfl
 c85:=by kernel_rfl
 c127:=by kernel_rfl
 c143:=by kernel_rfl
 c145:=by kernel_rfl
 c167:=by kernel_rfl
 c168:=by kernel_rfl
 c171:=by kernel_rfl
 c173:=by kernel_rfl
 c175:=by kernel_rfl
 c210:=by kernel_rfl
 c212:=by kernel_rfl
 c213:=by kernel_rfl
 c232:=by kernel_rfl
 c233:=by kernel_rfl }
def Tryz.laysM146_ren:Go.Shelf.Ren:=⟨fun|146=>135|221=>175|268=>199|138=>200|143=>201|195=>216|197=>217|218=>218|219=>219|260=>229|217=>230|225=>231|224=>232|267=>233|266=>241|314=>242|n=>n,fun|9=>9|31=>77|3=>3|4=>4|0=>0|105=>259|21=>21|5=>5|46=>152|119=>282|139=>285|138=>284|146=>210|51=>209|n=>n,fun|1=>3|3=>4|4=>5|n=>n⟩
theorem Tryz.laysM146:Go.Proofs.LaysM.n146 Tryz.prog Tryz.laysM146_ren:={
 mixed:=by kernel_rfl
 f138:=Tryz.func200.trans (congrArg some (by kernel_rfl))
 f143:=Tryz.func201.trans (congrArg some (by kernel_rfl))
 f146:=Tryz.func135.trans (congrArg some (by kernel_rfl))
 f195:=Tryz.func216.trans (congrArg some (by kernel_rfl))
 f197:=Tryz.func217.trans (congrArg some (by kernel_rfl))
 f217:=Tryz.func230.trans (congrArg some (by kernel_rfl))
 f218:=Tryz.func218.trans (congrArg some (by kernel_rfl))
 f219:=Tryz.func219.trans (congrArg some (by kernel_rfl))
 f221:=Tryz.func175.trans (congrArg some (by kernel_rfl))
 f224:=Tryz.func232.trans (congrArg some (by kernel_rfl))
 f225:=Tryz.func231.trans (congrArg some (by kernel_rfl))
 f260:=Tryz.func229.trans (congrArg some (by kernel_rfl))
 f266:=Tryz.func241.trans (congrArg some (by kernel_rfl))
 f267:=Tryz.func233.trans (congrArg some (by kernel_rfl))
 f268:=Tryz.func199.trans (congrArg some (by kernel_rfl))
 f314:=Tryz.func242.trans (congrArg some (by kernel_rfl))
 t0:=Tryz.underlying0
 a0:=Tryz.isAgg0
 z0:=Tryz.sizeOf0
 v0:=Tryz.zeroValue0
 t3:=Tryz.underlying3
 a3:=Tryz.isAgg3
 z3:=Tryz.sizeOf3
 v3:=Tryz.zeroValue3
 t4:=Tryz.underlying4
 a4:=Tryz.isAgg4
 z4:=Tryz.sizeOf4
 v4:=Tryz.zeroValue4
 t5:=Tryz.underlying5
 a5:=Tryz.isAgg5
 z5:=Tryz.sizeOf5
 v5:=Tryz.zeroValue5
 t9:=Tryz.underlying9
 a9:=Tryz.isAgg9
 z9:=Tryz.sizeOf9
 v9:=Tryz.zeroValue9
 t21:=Tryz.underlying21
 a21:=Tryz.isAgg21
 z21:=Tryz.sizeOf21
 v21:=Tryz.zeroValue21
 t31:=Tryz.underlying77
 a31:=Tryz.isAgg77
 z31:=Tryz.sizeOf77
 v31:=Tryz.zeroValue77
 t46:=Tryz.underlying152
 a46:=Tryz.isAgg152
 z46:=Tryz.sizeOf152
 v46:=Tryz.zeroValue152
 t51:=Tryz.underlying209
 a51:=Tryz.isAgg209
 z51:=Tryz.sizeOf209
 v51:=Tryz.zeroValue209
 t105:=Tryz.underlying259
 a105:=Tryz.isAgg259
 z105:=Tryz.sizeOf259
 v105:=Tryz.zeroValue259
 t119:=Tryz.underlying282
 a119:=Tryz.isAgg282
 z119:=Tryz.sizeOf282
 t138:=Tryz.underlying284
 a138:=Tryz.isAgg284
 z138:=Tryz.sizeOf284
 v138:=Tryz.zeroValue284
 t139:=Tryz.underlying285
 a139:=Tryz.isAgg285
 z139:=Tryz.sizeOf285
 v139:=Tryz.zeroValue285
 t146:=Tryz.underlying210
 a146:=Tryz.isAgg210
 z146:=Tryz.sizeOf210
 v146:=Tryz.zeroValue210
 g1:=by kernel_rfl
 g3:=by kernel_rfl
 g4:=by kernel_rfl
 i0:=by kernel_rfl
 i3:=by kernel_rfl
 i4:=by kernel_rfl
 i5:=by kernel_rfl
 i9:=by kernel_rfl
 i21:=by kernel_rfl
 i31:=by kernel_rfl
 i46:=by kernel_rfl
 i51:=by kernel_rfl
 i105:=by kernel_rfl
 i138:=by kernel_rfl
 i139:=by kernel_rfl
 i146:=by kernel_rfl
 m1:=by kernel_rfl
 s1_3:=fun w h=>Go.Proofs.cell_of_shapedOpen_int (zero:=#[.int .i64 0]) (t:=3) h (of_decide_eq_true (by kernel_rfl)) (by kernel_rfl) rfl (by kernel_rfl) (by kernel_rfl) Tryz.underlying3
 m3:=by kernel_rfl
 m4:=by kernel_rfl }
end Go.Proofs
