import Derived.Test.YtplomeacjbkgnabGreatDoorZ24
import Derived.Deep.DeepCutAuto
set_option linter.all false
set_option maxRecDepth 100000
set_option maxHeartbeats 16000000
namespace Go.Proofs.YtplomeacjbkgnabGreatDoor
open Go.RowKit
theorem find_none {l:List Ch.Stay} {t:Int} {last:Int} {js:List Ch.Job} (h:((⟨last,l,js⟩:Ch.Book).find t).isNone=true):Ch.indexOf (fun s:Ch.Stay=>s.ticket==t) l=-1:=by
 apply index_none
 simpa [Ch.Book.find] using h
theorem find_some {l:List Ch.Stay} {t:Int} {last:Int} {js:List Ch.Job} (h:((⟨last,l,js⟩:Ch.Book).find t).isNone=false):∃ i:Nat,Ch.indexOf (fun s:Ch.Stay=>s.ticket==t) l=i:=by
 apply index_some
 have h2:((⟨last,l,js⟩:Ch.Book).find t).isSome=true:=by cases h3:(⟨last,l,js⟩:Ch.Book).find t <;> rw [h3] at h <;> simp at h ⊢
 simpa [Ch.Book.find] using h2
abbrev wantErrV (f:Int):Value:=.tuple #[rB 0 none 0 0 none 0 0,kB f]
theorem want_err (f last t:Int) (a1:Option Addr) (m1 c1:Nat) (a2:Option Addr) (m2 c2:Nat) (l:List Ch.Stay) (js:List Ch.Job) (w:World)
  (h:Sl w 8 gA l a1 m1 c1) (h2:Sl w 2 jA js a2 m2 c2) (hp:Hid (Ch.want ⟨last,l,js⟩ t = .error f)):
  Calls Tryz.prog 54 #[rB last a1 m1 c1 a2 m2 c2,vi t] w fun e w'=>e = .returned (wantErrV f)∧Ext w w':=by
 have b1:=h.bound;have b2:=h2.bound;have HF:=aA h;have HJ:=aA h2;have E2:=aA h2.len;clear h h2;cases ho:((⟨last,l,js⟩:Ch.Book).find t).isNone
 ·obtain ⟨fi,hfi⟩:=find_some ho
  have HO:Hid (Ch.indexOf (fun s:Ch.Stay=>s.ticket==t) l=(fi:Int)):=hfi
  have hfi0:¬ ((fi:Int)<0):=by omega
  cases hc:decide ((⟨t,true⟩:Ch.Job)∈js)
  ·have HC:=aA hc
   have HE:Hid (f=8∧js.length=8):=by
    have e:=hp.out;unfold Ch.want at e;rw [if_neg (by rw [ho];simp),if_neg (by simpa using of_decide_eq_false hc)] at e
    split at e
    ·rename_i h8;cases e;exact ⟨rfl,h8⟩
    ·cases e
   have hm:((m2:Int)==8)=true:=by
    have e:=E2.out;have e2:=HE.out.2;simp;omega
   clear ho hc hfi;go_enter Tryz.func54,Tryz.ntmps54
   go_wp2_with (first
    | (go_at_call 102;(with_reducible refine (kJ _ _ _ _ _ _ _ _ _ l _ (Sl.below HF.out (Ext.below eX)) HO).mono ?_);rintro e w1 ⟨rfl,o1,n1,rfl⟩)
    | (go_at_call 103;(with_reducible refine (dF _ _ _ _ js _ _ _ (Sl.below HJ.out (Ext.below eX)) HC).mono ?_);rintro e w1 ⟨rfl,o1,n1,rfl⟩))
   exact bodyPost_ret (v:=wantErrV 8) (by simp [results,Tryz.results54,go_sem];rfl) rfl ⟨by rw [HE.out.1],(by repeat' (first|(with_reducible refine Ext.alloc ?_ _)|(with_reducible refine Ext.plus ?_ _ _)|(with_reducible refine Ext.setCell ?_ (by first|omega|(dsimp only;omega)) _)|(with_reducible refine Ext.drew ?_)|(with_reducible assumption)|(with_reducible exact Ext.refl _)))⟩
  ·have HC:=aA hc
   have HE:Hid (f=6):=by
    have e:=hp.out;unfold Ch.want at e;rw [if_neg (by rw [ho];simp),if_pos (by simpa using of_decide_eq_true hc)] at e;cases e;rfl
   clear ho hc hfi;go_enter Tryz.func54,Tryz.ntmps54
   go_wp2_with (first
    | (go_at_call 102;(with_reducible refine (kJ _ _ _ _ _ _ _ _ _ l _ (Sl.below HF.out (Ext.below eX)) HO).mono ?_);rintro e w1 ⟨rfl,o1,n1,rfl⟩)
    | (go_at_call 103;(with_reducible refine (dF _ _ _ _ js _ _ _ (Sl.below HJ.out (Ext.below eX)) HC).mono ?_);rintro e w1 ⟨rfl,o1,n1,rfl⟩))
   exact bodyPost_ret (v:=wantErrV 6) (by simp [results,Tryz.results54,go_sem];rfl) rfl ⟨by rw [HE.out],(by repeat' (first|(with_reducible refine Ext.alloc ?_ _)|(with_reducible refine Ext.plus ?_ _ _)|(with_reducible refine Ext.setCell ?_ (by first|omega|(dsimp only;omega)) _)|(with_reducible refine Ext.drew ?_)|(with_reducible assumption)|(with_reducible exact Ext.refl _)))⟩
 ·have HO:Hid (Ch.indexOf (fun s:Ch.Stay=>s.ticket==t) l=-1):=find_none ho
  have HE:Hid (f=5):=by
   have e:=hp.out;unfold Ch.want at e;rw [if_pos ho] at e;cases e;rfl
  clear ho;go_enter Tryz.func54,Tryz.ntmps54
  go_wp2_with (first
   | (go_at_call 102;(with_reducible refine (kJ _ _ _ _ _ _ _ _ _ l _ (Sl.below HF.out (Ext.below eX)) HO).mono ?_);rintro e w1 ⟨rfl,o1,n1,rfl⟩))
  exact bodyPost_ret (v:=wantErrV 5) (by simp [results,Tryz.results54,go_sem];rfl) rfl ⟨by rw [HE.out],(by repeat' (first|(with_reducible refine Ext.alloc ?_ _)|(with_reducible refine Ext.plus ?_ _ _)|(with_reducible refine Ext.setCell ?_ (by first|omega|(dsimp only;omega)) _)|(with_reducible refine Ext.drew ?_)|(with_reducible assumption)|(with_reducible exact Ext.refl _)))⟩
theorem want_any (x:Ch.Book) (last t:Int) (a1:Option Addr) (m1 c1:Nat) (a2:Option Addr) (m2 c2:Nat) (l:List Ch.Stay) (js:List Ch.Job) (w:World)
  (h:Sl w 8 gA l a1 m1 c1) (h2:Sl w 2 jA js a2 m2 c2) (hm1:m1≤100) (hm2:m2≤100) (hp:Hid (Ch.want ⟨last,l,js⟩ t = .ok x)):
  Calls Tryz.prog 54 #[rB last a1 m1 c1 a2 m2 c2,vi t] w (kE w x (fun b=>.tuple #[b,.nilIface])):=by
 obtain ⟨j0,hj0,hy0,hy1,hy2⟩:=info_parts fJ;have b1:=h.bound;have b2:=h2.bound;have HF:=aA h;have HJ:=aA h2;have E1:=aA h.len;have E2:=aA h2.len;clear h h2
 obtain ⟨ho,hc,h8,hx⟩:((⟨last,l,js⟩:Ch.Book).find t).isNone=false∧decide ((⟨t,true⟩:Ch.Job)∈js)=false∧js.length≠8∧x=⟨last,l,js++[⟨t,true⟩]⟩:=by
  have e:=hp.out;unfold Ch.want at e;cases ho:((⟨last,l,js⟩:Ch.Book).find t).isNone
  ·rw [if_neg (by rw [ho];simp)] at e
   split at e
   ·cases e
   ·rename_i hc
    split at e
    ·cases e
    ·rename_i h8
     cases e;exact ⟨rfl,by simpa using hc,h8,rfl⟩
  ·rw [if_pos ho] at e;cases e
 obtain ⟨fi,hfi⟩:=find_some ho;have HO:Hid (Ch.indexOf (fun s:Ch.Stay=>s.ticket==t) l=(fi:Int)):=hfi
 have hfi0:¬ ((fi:Int)<0):=by omega
 have HC:=aA hc
 have hm8:((m2:Int)==8)=false:=by
  have e:=E2.out;simp;omega
 have HXX:=aA hx;clear ho hc hfi h8 hx hp;go_enter Tryz.func54,Tryz.ntmps54
 go_upto_region 8 with (first
  | (go_at_call 102;(with_reducible refine (kJ _ _ _ _ _ _ _ _ _ l _ (Sl.below HF.out (Ext.below eX)) HO).mono ?_);rintro e w1 ⟨rfl,oA,nA,rfl⟩)
  | (go_at_call 103;(with_reducible refine (dF _ _ _ _ js _ _ _ (Sl.below HJ.out (Ext.below eX)) HC).mono ?_);rintro e w1 ⟨rfl,oB,nB,rfl⟩))
 generalize hW:World.plus _ _ _=w0
 have kb:aB w0 w.heap.size (vi last) (.slice a1 m1 c1) (.slice a2 m2 c2):=by
  rw [←hW];exact ⟨by simp [go_sem],by simp [go_sem],by simp [go_sem],by simp [go_sem]⟩
 have kr:aB w0 (w.heap.size+1) (vi 0) (.slice none 0 0) (.slice none 0 0):=by
  rw [←hW];exact ⟨by simp [go_sem],by simp [go_sem],by simp [go_sem],by simp [go_sem]⟩
 have q0:w0.cell? ⟨w.heap.size+1+1,0,none⟩=some (vi t):=cQ hW;have q1:w0.cell? ⟨w.heap.size+1+1,1,none⟩=some (.bool true):=cQ hW;have hx:Ext w w0:=xQ hW;have HX:=aA hx;have HKB:=aA kb;have HKR:=aA kr;have HS:=aA (Sl.below HF.out hx.below);have HK:=aA (Sl.below HJ.out hx.below);have z0:=dA q0;obtain ⟨k0,k1,k2,kf⟩:=kb;clear hW hx kr HF HJ
 go_upto_region 9 with (go_at_call 96;(with_reducible refine (copy_any last a1 m1 c1 a2 m2 c2 l js _ HS.out HK.out (by omega) (by omega)).mono ?_);rintro e wc ⟨v1,v2,rfl,hob,hxc⟩;obtain ⟨g1,d1,rfl,-⟩:=Sl.of_owns (c:=8) (enc:=gA) hob.stays (by decide) (fun _=>rfl);obtain ⟨g2,d2,rfl,-⟩:=Sl.of_owns (c:=2) (enc:=jA) hob.jobs (by decide) (fun _=>rfl);obtain ⟨kc0,kc1,kc2,kcf⟩:=HKB.out.ext hxc;have zc:=dA kc0)
 have hl100:l.length≤100:=by rw [E1.out];exact hm1
 have hj100:js.length≤100:=by rw [E2.out];exact hm2
 generalize hW:World.setCell (World.setCell (World.setCell _ _ _) _ _) _ _=wd
 have kd:aB wd w.heap.size (vi last) (.slice g1 l.length d1) (.slice g2 js.length d2):=by
  rw [←hW];exact aB.set ⟨kc0,kc1,kc2,kcf⟩ _ _ _
 have K1:mA (Is w.heap.size) w0 wd:=by
  rw [←hW];exact (((mA.of_ext hxc).put 0 _).put 1 _).put 2 _
 have nb:∀ k,(Value.slice g1 l.length d1).ownBlock=some k→w0.heap.size≤k:=uA hob.stays
 have nb2:∀ k,(Value.slice g2 js.length d2).ownBlock=some k→w0.heap.size≤k:=uA hob.jobs
 have os1:wd.ownsRow w0.heap.size 141 8 (.slice g1 l.length d1) l.length (l.flatMap gA):=by
  rw [←hW]
  refine pA (pA (pA hob.stays _ ?_) _ ?_) _ ?_ <;> (intro e;have:=nb _ e;(try dsimp only at this);omega)
 have oj1:wd.ownsRow w0.heap.size 143 2 (.slice g2 js.length d2) js.length (js.flatMap jA):=by
  rw [←hW]
  refine pA (pA (pA hob.jobs _ ?_) _ ?_) _ ?_ <;> (intro e;have:=nb2 _ e;(try dsimp only at this);omega)
 have qd0:=K1.cell q0 (by omega);have qd1:=K1.cell q1 (by omega);have HAP:=aA hob.apart;have HN1:=aA nb;have HN2:=aA nb2;have HOS1:=aA os1;have HOJ1:=aA oj1;have HK1:=aA K1;have HKD:=aA kd;obtain ⟨kd0,kd1,kd2,kdf⟩:=kd;have zd:=dA kd0;have zd2:=dA qd0;have zs:=K1.size;clear hW hob hxc kc0 kc1 kc2 kcf zc K1 nb nb2 os1 oj1 k0 k1 k2 kf q0 q1
 go_upto_region 10 with (at_builtin;refine wpList_append_lies _ rfl _ _ _ rfl w0.heap.size 143 j0 _ 2 16 Tryz.underlying47 hj0 hy0 hy1 hy2 rfl (by decide) (.slice g2 js.length d2) js.length (js.flatMap jA) rfl (fB HOJ1.out _) _ 1 1 [vi t,.bool true] rfl rfl (World.news_of_block (sA _ _ _ (by simp))) (by simp [Value.oneCell']) (by decide) (by unfold maxLen;omega) (by omega) (by first|(simp;done)|(simp;omega)) _ rfl ?_;intro gg2 cap2 w3 hown3 hgrow3 hat3 hlt3;obtain ⟨kg0,kg1,kg2,kgf⟩:=(HKD.out.ext (w':=wd.alloc _) eX).grown hgrow3 (by intro e;have:=HN2.out _ e;(try dsimp only at this);omega))
 have zg:=dA kg0;generalize hW:World.setCell _ _ _=wh
 have kh:aB wh w.heap.size (vi last) (.slice g1 l.length d1) (.slice (some ⟨gg2,0,none⟩) (js.length+1) cap2):=by
  rw [←hW];exact aB.set2 ⟨kg0,kg1,kg2,kgf⟩ _
 have K4:mA (Is w.heap.size) w0 wh:=by
  rw [←hW];exact ((HK1.out.ext (c:=wd.alloc _) eX).grown hgrow3 HN2.out).put 2 _
 have nb4:∀ k,(Value.slice (some ⟨gg2,0,none⟩) (js.length+1) cap2).ownBlock=some k→w0.heap.size≤k:=uA hown3
 have hap4:(Value.slice g1 l.length d1).ownBlock≠some gg2:=by
  intro e
  rcases hat3 with h|h
  ·exact HAP.out gg2 e h
  ·have:=(iD HOS1.out e).2
   simp at h;omega
 have os4:wh.ownsRow w0.heap.size 141 8 (.slice g1 l.length d1) l.length (l.flatMap gA):=by
  rw [←hW];exact pA ((fB HOS1.out _).kept hgrow3 (by cases hg:(Value.slice g1 l.length d1).ownBlock with|none=>exact Or.inl rfl|some k=>exact Or.inr (fun e=>HAP.out k hg e.symm))) _ (by intro e;have:=HN1.out _ e;(try dsimp only at this);omega)
 have oj4:wh.ownsRow w0.heap.size 143 2 (.slice (some ⟨gg2,0,none⟩) (js.length+1) cap2) (js.length+1) (js.flatMap jA++[vi t,.bool true]):=by
  rw [←hW];exact pA hown3 _ (by intro e;have:=nb4 _ e;(try dsimp only at this);omega)
 have kr:=HKR.out.same (K4.other HKR.out.lt (by omega));obtain ⟨kr0,kr1,kr2,krf⟩:=kr;obtain ⟨kh0,kh1,kh2,khf⟩:=kh;have zh0:=dA kh0;have zh1:=dA kr0;have zhs:=K4.size;have HNB4:=aA nb4;have HAP4:=aA hap4;have HOS4:=aA os4;have HOJ4:=aA oj4;have HXH:=aA (K4.widen HX.out (Nat.le_refl _));clear hW hown3 hgrow3 hat3 hlt3 nb4 os4 oj4 K4 hap4 kd0 kd1 kd2 kdf zd kg0 kg1 kg2 kgf zg qd0 qd1 zd2;have kq:=aB.set ⟨kr0,kr1,kr2,krf⟩ (vi last) (.slice g1 l.length d1) (.slice (some ⟨gg2,0,none⟩) (js.length+1) cap2);obtain ⟨p0,p1,p2,pf⟩:=kq;go_wp2;refine bodyPost_ret (v:=.tuple #[.agg #[vi last,.slice g1 l.length d1,.slice (some ⟨gg2,0,none⟩) (js.length+1) cap2],.nilIface]) (by simp [results,Tryz.results54,go_sem,p0,p1,p2]) rfl ?_;have e:=HXX.out;subst e;have zx:=HX.out.below.size;refine ⟨_,_,rfl,⟨?_,?_,?_⟩,?_⟩
 ·refine rA (pA (pA (pA HOS4.out _ ?_) _ ?_) _ ?_) zx <;> (intro e;have:=HN1.out _ e;(try dsimp only at this);omega)
 ·rw [List.length_append,List.flatMap_append]
  refine rA (pA (pA (pA HOJ4.out _ ?_) _ ?_) _ ?_) zx <;> (intro e;have:=HNB4.out _ e;(try dsimp only at this);omega)
 ·intro k hk1 hk2
  rw [←hk2] at hk1;exact HAP4.out hk1
 ·have hxh:=HXH.out
  exact Ext.setCell (Ext.setCell (Ext.setCell hxh (by dsimp only;omega) _) (by dsimp only;omega) _) (by dsimp only;omega) _
theorem same_yes (n:Int) (w:World) (h:0≤n):Calls Tryz.prog 12 #[kB n,vi n] w fun e w'=>e = .returned (.bool true)∧Ext w w':=by
 by_cases h0:n=0
 ·subst h0
  show Calls _ _ #[.nilIface,vi 0] _ _;go_enter Tryz.func12,Tryz.ntmps12;go_wp2;go_ret;exact ⟨by simp,eX⟩
 ·rw [errV_pos h0]
  have h1:0<n:=by omega
  have ht:∀ w,(Instr.typeAssert (.iface 92 (vi n)) 29 92 true).run Tryz.prog w = .ok (.tuple #[vi n,.bool true]) w:=fun w=>by kernel_rfl
  clear h h0;go_enter Tryz.func12,Tryz.ntmps12;go_wp2;go_ret;exact ⟨by simp,eX⟩
theorem sizeFault_nn (s:Ch.Size):0≤Ch.sizeFault s:=by unfold Ch.sizeFault;split <;> omega
theorem carFault_nn (c:Ch.Car):0≤Ch.carFault c:=by unfold Ch.carFault;split;omega;exact sizeFault_nn _
theorem levelsFrom_nn (last:Ch.Size):∀ l,0≤Ch.levelsFaultFrom last l
 | []=>by simp [Ch.levelsFaultFrom]
 | s :: l=>by
  have h:=levelsFrom_nn last l;have h2:=sizeFault_nn s;unfold Ch.levelsFaultFrom
  split
  ·exact h2
  ·split
   ·omega
   ·exact h
theorem levelsFault_nn (l:List Ch.Size):0≤Ch.levelsFault l:=by
 unfold Ch.levelsFault
 split
 ·omega
 ·exact levelsFrom_nn _ _
/-! ### answers, an error's or not, in one form -/
def parkR (r:Except Int (Ch.Book×Int)):Ch.Book×Int×Int:=match r with | .error f=>(⟨0,[],[]⟩,0,f) | .ok x=>(x.1,x.2,0)
def wantR (r:Except Int Ch.Book):Ch.Book×Int:=match r with | .error f=>(⟨0,[],[]⟩,f) | .ok x=>(x,0)
def Back (A:Option Addr) (w:World) (x:Ch.Book) (r:Value→Value) (e:Ending) (w':World):Prop:=
 ∃ y1 d1 y2 d2,e = .returned (r (rB x.last y1 x.stays.length d1 y2 x.jobs.length d2))∧Sl w' 8 gA x.stays y1 x.stays.length d1∧Sl w' 2 jA x.jobs y2 x.jobs.length d2∧Ext w w' ∧
  (∀ b o,y1=some ⟨b,o,none⟩→w.heap.size≤b∨y1=A)∧(∀ b o,y2=some ⟨b,o,none⟩→w.heap.size≤b)
theorem qE {w:World} {base e size cap n m:Nat} {y:Option Addr} {xs:List Value} (h:w.ownsRow base e size (.slice y n cap) m xs):∀ b o,y=some ⟨b,o,none⟩→base≤b:=by
 intro b o e;subst e
 rcases h.2 with ⟨h2,_⟩|⟨g,cap',cur,h2,hb,_⟩
 ·cases h2
 ·cases h2;exact hb
theorem Sl.kept {α:Type} {w w':World} {c:Nat} {enc:α→List Value} {l:List α} {a:Option Addr} {n cap T:Nat} (h:Sl w c enc l a n cap) (k:mA (Is T) w w') (hn:0<n→∀ b o,a=some ⟨b,o,none⟩→b≠T):Sl w' c enc l a n cap:=
 ⟨h.1,h.2.1,h.2.2.1,fun hp=>let ⟨b,o,e,f⟩:=h.2.2.2 hp;⟨b,o,e,fun i x hx j y hy=>k.cell (f i x hx j y hy) (hn hp b o e)⟩⟩
theorem kE.back {A:Option Addr} {w:World} {x:Ch.Book} {r:Value→Value} {e:Ending} {w':World} (h:kE w x r e w'):Back A w x r e w':=by
 obtain ⟨v1,v2,rfl,hob,hx⟩:=h;obtain ⟨y1,d1,rfl,s1⟩:=Sl.of_owns (c:=8) (enc:=gA) hob.stays (by decide) (fun _=>rfl);obtain ⟨y2,d2,rfl,s2⟩:=Sl.of_owns (c:=2) (enc:=jA) hob.jobs (by decide) (fun _=>rfl);exact ⟨y1,d1,y2,d2,rfl,s1,s2,hx,fun b o e=>Or.inl (qE hob.stays b o e),qE hob.jobs⟩
theorem park_back (last id lo hi he:Int) (a1:Option Addr) (m1 c1:Nat) (a2:Option Addr) (m2 c2:Nat) (aL:Option Addr) (nL cL:Nat) (l:List Ch.Stay) (js:List Ch.Job) (ls:List Ch.Size) (w:World)
  (h:Sl w 8 gA l a1 m1 c1) (h2:Sl w 2 jA js a2 m2 c2) (hL:Sl w 3 lB ls aL nL cL) (n1':1≤nL) (n4:nL≤4) (hm1:m1≤100) (hm2:m2≤100) (l0:0≤last) (l9:last≤999999)
  (x:Ch.Book) (kk f:Int) (hp:Hid (parkR (Ch.park ⟨last,l,js⟩ ls ⟨id,⟨lo,hi,he⟩⟩)=(x,kk,f))):
  Calls Tryz.prog 50 #[rB last a1 m1 c1 a2 m2 c2,.slice aL nL cL,.agg #[vi id,vi lo,vi hi,vi he]] w (Back none w x (fun b=>.tuple #[b,vi kk,kB f])):=by
 cases hpk:Ch.park ⟨last,l,js⟩ ls ⟨id,⟨lo,hi,he⟩⟩ with
 | error g=>
  have e:=hp.out;rw [hpk] at e;simp only [parkR,Prod.mk.injEq] at e;obtain ⟨rfl,rfl,rfl⟩:=e;refine (park_err g last id lo hi he a1 m1 c1 a2 m2 c2 aL nL cL l js ls w h h2 hL n1' n4 hpk).mono ?_;rintro e w' ⟨rfl,hx⟩;exact ⟨none,0,none,0,rfl,Sl.nil _ _ _,Sl.nil _ _ _,hx,(fun _ _ e=>by cases e),(fun _ _ e=>by cases e)⟩
 | ok r=>
  obtain ⟨x',k'⟩:=r;have e:=hp.out;rw [hpk] at e;simp only [parkR,Prod.mk.injEq] at e;obtain ⟨rfl,rfl,rfl⟩:=e;exact (park_any x' k' last id lo hi he a1 m1 c1 a2 m2 c2 aL nL cL l js ls w h h2 hL n1' n4 hm1 hm2 l0 l9 hpk).mono (fun _ _ hh=>kE.back hh)
theorem want_back (last t:Int) (a1:Option Addr) (m1 c1:Nat) (a2:Option Addr) (m2 c2:Nat) (l:List Ch.Stay) (js:List Ch.Job) (w:World)
  (h:Sl w 8 gA l a1 m1 c1) (h2:Sl w 2 jA js a2 m2 c2) (hm1:m1≤100) (hm2:m2≤100) (x:Ch.Book) (f:Int) (hp:Hid (wantR (Ch.want ⟨last,l,js⟩ t)=(x,f))):
  Calls Tryz.prog 54 #[rB last a1 m1 c1 a2 m2 c2,vi t] w (Back none w x (fun b=>.tuple #[b,kB f])):=by
 cases hpk:Ch.want ⟨last,l,js⟩ t with
 | error g=>
  have e:=hp.out;rw [hpk] at e;simp only [wantR,Prod.mk.injEq] at e;obtain ⟨rfl,rfl⟩:=e;refine (want_err g last t a1 m1 c1 a2 m2 c2 l js w h h2 hpk).mono ?_;rintro e w' ⟨rfl,hx⟩;exact ⟨none,0,none,0,rfl,Sl.nil _ _ _,Sl.nil _ _ _,hx,(fun _ _ e=>by cases e),(fun _ _ e=>by cases e)⟩
 | ok x'=>
  have e:=hp.out;rw [hpk] at e;simp only [wantR,Prod.mk.injEq] at e;obtain ⟨rfl,rfl⟩:=e;exact (want_any x' last t a1 m1 c1 a2 m2 c2 l js w h h2 hm1 hm2 hpk).mono (fun _ _ hh=>kE.back hh)
theorem park_nn (b:Ch.Book) (ls:List Ch.Size) (c:Ch.Car):0≤(parkR (Ch.park b ls c)).2.2:=by
 have hc:=carFault_nn c;unfold Ch.park
 split
 ·exact hc
 ·split
  ·exact (by decide:(0:Int)≤6)
  ·split
   ·exact (by decide:(0:Int)≤8)
   ·split
    ·exact (by decide:(0:Int)≤8)
    ·exact (by decide:(0:Int)≤0)
theorem want_nn (b:Ch.Book) (t:Int):0≤(wantR (Ch.want b t)).2:=by
 unfold Ch.want
 split
 ·exact (by decide:(0:Int)≤5)
 ·split
  ·exact (by decide:(0:Int)≤6)
  ·split
   ·exact (by decide:(0:Int)≤8)
   ·exact (by decide:(0:Int)≤0)
end Go.Proofs.YtplomeacjbkgnabGreatDoor
namespace Ch
def staysKept (j:Job) (gone:Bool) (s:Stay):Bool:=!((j.fetch || gone)&&s.ticket==j.ticket)
def jobsKept (j:Job) (gone:Bool) (x:Job):Bool:=!(x==j || ((j.fetch || gone)&&x.ticket==j.ticket))
theorem done_stays (b:Book) (j:Job) (gone:Bool):(doneWith b j gone).stays=b.stays.filter (staysKept j gone):=by
 unfold doneWith staysKept;cases (j.fetch || gone)
 ·simp only [Bool.false_and,Bool.not_false,Bool.false_eq_true,if_false]
  exact (List.filter_eq_self.2 (fun _ _=>rfl)).symm
 ·simp
theorem done_jobs (b:Book) (j:Job) (gone:Bool):(doneWith b j gone).jobs=b.jobs.filter (jobsKept j gone):=rfl
/-! ### two lists of jobs, side by side -/
end Ch
namespace Go.Proofs.YtplomeacjbkgnabGreatDoor
open Go.RowKit
theorem filter_yes {α:Type} {l:List α} {j:Nat} {v:α} (q:α→Bool) (h:l[j]? = some v) (hq:q v=true):(l.take (j+1)).filter q=(l.take j).filter q++[v]:=by rw [gE q h,if_pos hq]
theorem filter_no {α:Type} {l:List α} {j:Nat} {v:α} (q:α→Bool) (h:l[j]? = some v) (hq:q v=false):(l.take (j+1)).filter q=(l.take j).filter q:=by rw [gE q h,if_neg (by simp [hq]),List.append_nil]
theorem rdone_filters (last jt:Int) (jf gone:Bool) (a1:Option Addr) (m1 c1:Nat) (a2:Option Addr) (m2 c2:Nat) (l:List Ch.Stay) (js:List Ch.Job) (w:World)
  (h:Sl w 8 gA l a1 m1 c1) (h2:Sl w 2 jA js a2 m2 c2) (hm1:m1≤100) (hm2:m2≤100):
  Calls Tryz.prog 130 #[rB last a1 m1 c1 a2 m2 c2,.agg #[vi jt,.bool jf],.bool gone] w (kE w ⟨last,l.filter (fun s:Ch.Stay=>!((jf || gone)&&s.ticket==jt)),js.filter (fun x:Ch.Job=>!tF jt jf (jf || gone) x)⟩ (fun b=>b)):=by
 obtain ⟨i0,hi0,hz0,hz1,hz2⟩:=info_parts infoStay;obtain ⟨j0,hj0,hy0,hy1,hy2⟩:=info_parts fJ;have b1:=h.bound;have b2:=h2.bound;have HF:=aA h;have HJ:=aA h2;have E1:=aA h.len;have E2:=aA h2.len;clear h h2;go_enter Tryz.func130,Tryz.ntmps130
 go_upto_region 2 with fail
 generalize hO:w.heap.size+1+1+1=O
 have hO3:w.heap.size+2<O:=by omega
 generalize hW:World.alloc _ _=w1;have k0:w1.cell? ⟨w.heap.size,0,none⟩=some (vi last):=cQ hW;have k1:w1.cell? ⟨w.heap.size,1,none⟩=some (.slice a1 m1 c1):=cQ hW;have k2:w1.cell? ⟨w.heap.size,2,none⟩=some (.slice a2 m2 c2):=cQ hW;have q0:w1.cell? ⟨w.heap.size+1,0,none⟩=some (vi jt):=cQ hW;have q1:w1.cell? ⟨w.heap.size+1,1,none⟩=some (.bool jf):=cQ hW
 have kr:aB w1 (w.heap.size+1+1) (vi 0) (.slice none 0 0) (.slice none 0 0):=by
  rw [←hW];exact ⟨by simp [go_sem],by simp [go_sem],by simp [go_sem],by simp [go_sem]⟩
 have ko:aB w1 O (vi last) (.slice none 0 0) (.slice none 0 0):=by
  rw [←hW,←hO];exact ⟨by simp [go_sem],by simp [go_sem],by simp [go_sem],by simp [go_sem]⟩
 have hx:Ext w w1:=xQ hW;have HX:=aA hx;have hOw:=ko.lt;have K0:=aA k0;have K1:=aA k1;have K2:=aA k2;have Q0:=aA q0;have Q1:=aA q1;have KR:=aA kr
 have G0:Hid (jE w1 O last [] [] (.slice none 0 0) (.slice none 0 0) w1):=⟨ko,mA.refl _ _,World.ownsRow_nil _ _ _ _,World.ownsRow_nil _ _ _ _,by intro k hk;cases hk⟩
 clear hW hx hO k0 k1 k2 q0 q1 kr ko;go_wp2
 go_loopw [8] (fun i wr=>∃ (k:Nat) (dl:List Ch.Stay) (g1:Option Addr) (d1:Nat),k≤m1∧i = .int .i64 k∧Hid (dl=(l.take k).filter (fun s:Ch.Stay=>!((jf || gone)&&s.ticket==jt)))∧jE w1 O last dl [] (.slice g1 dl.length d1) (.slice none 0 0) wr) (fun i _=>m1 - (intOf i).toNat)
 case atStart=>exact ⟨0,[],none,0,by omega,rfl,by simp [Hid],G0.out⟩
 case round=>
  obtain ⟨k,dl,g1,d1,hk,rfl,HL,hgat⟩:=hrel;have GAT:=aA hgat
  have hdl:dl.length≤100:=by rw [HL.out];have:=List.length_filter_le (fun s:Ch.Stay=>!((jf || gone)&&s.ticket==jt)) (l.take k);have:=List.length_take_le k l;omega
  clear hgat;have HXW:=aA (GAT.out.kept.widen HX.out (by omega));obtain ⟨o0,o1,o2,of⟩:=GAT.out.cell;have zo:=dA o0;have kb0:=GAT.out.kept.cell K0.out (by omega);have kb1:=GAT.out.kept.cell K1.out (by omega);have kb2:=GAT.out.kept.cell K2.out (by omega);have q0:=GAT.out.kept.cell Q0.out (by omega);have q1:=GAT.out.kept.cell Q1.out (by omega);have zb:=dA kb0;have zq:=dA q0
  by_cases hlt:k<m1
  ·obtain ⟨b,q,s,rfl,hs,ds⟩:=(Sl.below HF.out HXW.out.below).get hlt
   have ds:=at8 ds;have hq:=dA ds.1;obtain ⟨t,⟨ci,⟨cx,cy,cz⟩⟩,⟨h0,h1,h2⟩⟩:=s;dsimp only at ds
   have hkj:(k:Int)<(m1:Int):=by omega
   obtain ⟨B,HB⟩:∃ B,Hid ((!((jf || gone)&&t==jt))=B):=⟨_,rfl⟩
   replace hs:=aA hs
   go_upto_region 5 with fail
   go_cut [37] (fun c wx=>c = .bool B∧Ext wr wx)
   case first=>
    have hg:=HB.out;cases jf
    ·cases gone
     ·(refine fA kR kR ?_;(repeat (first|go_big_quiet_step (fail)|quiet_step (fail)));refine wpQuiet_nil ?_;rintro _ ⟨oq,nq,rfl⟩)
      go_wp2_with fail;go_meet;exact ⟨congrArg Value.bool (by rw [←hg];simp),eX⟩
     cases ht:(t==jt)
     ·(refine fA kR kR ?_;(repeat (first|go_big_quiet_step (fail)|quiet_step (fail)));refine wpQuiet_nil ?_;rintro _ ⟨oq,nq,rfl⟩)
      go_wp2_with fail;go_meet;exact ⟨congrArg Value.bool (by rw [←hg];rfl),eX⟩
     (refine fA kR kR ?_;(repeat (first|go_big_quiet_step (fail)|quiet_step (fail)));refine wpQuiet_nil ?_;rintro _ ⟨oq,nq,rfl⟩)
     go_wp2_with fail;go_meet;exact ⟨congrArg Value.bool (by rw [←hg];rfl),eX⟩
    cases ht:(t==jt)
    ·(refine fA kR kR ?_;(repeat (first|go_big_quiet_step (fail)|quiet_step (fail)));refine wpQuiet_nil ?_;rintro _ ⟨oq,nq,rfl⟩)
     go_wp2_with fail;go_meet;exact ⟨congrArg Value.bool (by rw [←hg];rfl),eX⟩
    (refine fA kR kR ?_;(repeat (first|go_big_quiet_step (fail)|quiet_step (fail)));refine wpQuiet_nil ?_;rintro _ ⟨oq,nq,rfl⟩)
    go_wp2_with fail;go_meet;exact ⟨congrArg Value.bool (by rw [←hg];rfl),eX⟩
   case rest=>
    obtain ⟨rfl,o5,n5,rfl⟩:=hcut;replace hs:=hs.out;cases B
    ·have HNX:Hid ((l.take (k+1)).filter (fun s:Ch.Stay=>!((jf || gone)&&s.ticket==jt))=dl):=by unfold Hid;rw [filter_no (fun s:Ch.Stay=>!((jf || gone)&&s.ticket==jt)) hs HB.out,HL.out]
     clear hs;go_wp2;go_roundw
     case rel=>first|exact ⟨k+1,dl,g1,d1,by omega,by go_num,HNX.out.symm,GAT.out.ext eX⟩|(repeat apply Exists.intro;refine ⟨?_,rfl⟩;exact ⟨k+1,dl,g1,d1,by omega,by go_num,HNX.out.symm,GAT.out.ext eX⟩)
     case measure=>simp [intOf];omega
    ·have HNX:Hid ((l.take (k+1)).filter (fun s:Ch.Stay=>!((jf || gone)&&s.ticket==jt))=dl++[⟨t,⟨ci,⟨cx,cy,cz⟩⟩,⟨h0,h1,h2⟩⟩]):=by unfold Hid;rw [filter_yes (fun s:Ch.Stay=>!((jf || gone)&&s.ticket==jt)) hs HB.out,HL.out]
     clear hs
     go_upto_region 6 with fail
     generalize hW:World.plus _ _ _=wp;have hxp:Ext wr wp:=xQ hW;have GP:=GAT.out.ext hxp;obtain ⟨p0,p1,p2,pf⟩:=GP.cell;have zp:=dA p0;have kp1:=iA hxp kb1;have e1':=iA hxp ds.1;have e2':=iA hxp ds.2.1;have e3':=iA hxp ds.2.2.1;have e4':=iA hxp ds.2.2.2.1;have e5':=iA hxp ds.2.2.2.2.1;have e6':=iA hxp ds.2.2.2.2.2.1;have e7':=iA hxp ds.2.2.2.2.2.2.1;have e8':=iA hxp ds.2.2.2.2.2.2.2;have zq':=dA e1';have zb':=dA kp1;have HGP:=aA GP;have hsz:=GP.kept.size;clear hW hxp GP o0 o1 o2 of zo kb0 kb1 kb2 q0 q1 zb zq ds hq
     go_region_law (first|(refine step_append_lies _ rfl _ _ _ rfl w1.heap.size 141 i0 _ 8 64 Tryz.underlying46 hi0 hz0 hz1 hz2 rfl (by decide) (.slice g1 dl.length d1) dl.length (dl.flatMap gA) rfl (pG (fB HGP.out.stays _)) ⟨wp.heap.size,0,none⟩ 1 1 [vi t,vi ci,vi cx,vi cy,vi cz,vi h0,vi h1,vi h2] rfl rfl (xI wp #[vi t,vi ci,vi cx,vi cy,vi cz,vi h0,vi h1,vi h2] 141) (by simp [Value.oneCell']) (by decide) (by unfold maxLen;omega) (by omega) (by first|(simp;done)|(simp;omega)) _ rfl ?_;intro gg cap w5 hown5 hgrow hat hlt;obtain ⟨n0,n1,n2,nf⟩:=(HGP.out.cell.ext (w':=(wp.alloc (.cells #[vi t,vi ci,vi cx,vi cy,vi cz,vi h0,vi h1,vi h2] 141)).drew) eX).grown hgrow (HGP.out.far1 hOw);have zn:=dA n0))
     all_goals
      have HG2:=aA (HGP.out.addStay ⟨t,⟨ci,⟨cx,cy,cz⟩⟩,⟨h0,h1,h2⟩⟩ (A:=(wp.alloc (.cells #[vi t,vi ci,vi cx,vi cy,vi cz,vi h0,vi h1,vi h2] 141)).drew) eX hOw hown5 hgrow hat);clear hown5 hgrow hat;go_wp2;go_roundw
      case rel=>first|exact ⟨k+1,dl++[(⟨t,⟨ci,⟨cx,cy,cz⟩⟩,⟨h0,h1,h2⟩⟩:Ch.Stay)],some ⟨gg,0,none⟩,cap,by omega,by go_num,HNX.out.symm,by rw [List.length_append];exact HG2.out⟩|(repeat apply Exists.intro;refine ⟨?_,rfl⟩;exact ⟨k+1,dl++[(⟨t,⟨ci,⟨cx,cy,cz⟩⟩,⟨h0,h1,h2⟩⟩:Ch.Stay)],some ⟨gg,0,none⟩,cap,by omega,by go_num,HNX.out.symm,by rw [List.length_append];exact HG2.out⟩)
      case measure=>simp [intOf];omega
  ·have hkm:k=m1:=by omega
   subst hkm
   have HLL:Hid (dl=l.filter (fun s:Ch.Stay=>!((jf || gone)&&s.ticket==jt))):=by unfold Hid;rw [HL.out,List.take_of_length_le (by have:=E1.out;omega)]
   go_wp2;have HG1:=GAT;clear GAT HXW o0 o1 o2 of zo kb0 kb1 kb2 q0 q1 zb zq
   go_loopw [9] (fun i wr=>∃ (n:Nat) (dj:List Ch.Job) (g2:Option Addr) (d2:Nat),n≤m2∧i = .int .i64 n∧Hid (dj=(js.take n).filter (fun x:Ch.Job=>!tF jt jf (jf || gone) x))∧jE w1 O last dl dj (.slice g1 dl.length d1) (.slice g2 dj.length d2) wr) (fun i _=>m2 - (intOf i).toNat)
   case atStart=>exact ⟨0,[],none,0,by omega,rfl,by simp [Hid],HG1.out⟩
   case round=>
    obtain ⟨n,dj,g2,d2,hn,rfl,HL,hgat⟩:=hrel;have GAT:=aA hgat
    have hdj:dj.length≤100:=by rw [HL.out];have:=List.length_filter_le (fun x:Ch.Job=>!tF jt jf (jf || gone) x) (js.take n);have:=List.length_take_le n js;omega
    clear hgat;have HXW:=aA (GAT.out.kept.widen HX.out (by omega));obtain ⟨o0,o1,o2,of⟩:=GAT.out.cell;have zo:=dA o0;have kb0:=GAT.out.kept.cell K0.out (by omega);have kb1:=GAT.out.kept.cell K1.out (by omega);have kb2:=GAT.out.kept.cell K2.out (by omega);have q0:=GAT.out.kept.cell Q0.out (by omega);have q1:=GAT.out.kept.cell Q1.out (by omega);have zb:=dA kb0;have zq:=dA q0
    by_cases hlt:n<m2
    ·obtain ⟨b,q,s,rfl,hs,ds⟩:=(Sl.below HJ.out HXW.out.below).get hlt
     have ds:=at2 ds;have hq:=dA ds.1;obtain ⟨t,f⟩:=s;dsimp only at ds
     have hkj:(n:Int)<(m2:Int):=by omega
     obtain ⟨B,HB⟩:∃ B,Hid ((!tF jt jf (jf || gone) ⟨t,f⟩)=B):=⟨_,rfl⟩
     replace hs:=aA hs
     go_upto_region 11 with fail
     generalize hW:World.alloc _ _=wp;generalize hP:wr.heap.size=PP at *;have hxp:Ext wr wp:=xQ hW;have x0:wp.cell? ⟨PP,0,none⟩=some (vi t):=cR hW hP;have x1:wp.cell? ⟨PP,1,none⟩=some (.bool f):=cR hW hP;have u0:=eA hxp q0;have u1:=eA hxp q1;have zx:=dA x0;have zu:=dA u0;have HXP:=aA hxp;clear hW hP
     go_cut [77] (fun c wx=>c = .bool B∧wx=wp)
     case first=>
      by_cases hej:(⟨t,f⟩:Ch.Job)=⟨jt,jf⟩
      ·have hq1:∀ w,(Go.binOp .neq 143 (.agg #[vi t,.bool f]) (.agg #[vi jt,.bool jf])).run Tryz.prog w = .ok (.bool false) w:=fun w=>by rw [gF w (eqJob w 9998 ⟨t,f⟩ ⟨jt,jf⟩)];simp [hej]
       have hg:true = !B:=by rw [←HB.out];unfold tF;rw [decide_eq_true hej];rfl
       clear hej;go_wp2_with fail;go_meet;exact ⟨congrArg Value.bool (by simpa using hg),rfl⟩
      have hq1:∀ w,(Go.binOp .neq 143 (.agg #[vi t,.bool f]) (.agg #[vi jt,.bool jf])).run Tryz.prog w = .ok (.bool true) w:=fun w=>by rw [gF w (eqJob w 9998 ⟨t,f⟩ ⟨jt,jf⟩)];simp [hej]
      have hg:(!((jf || gone)&&t==jt))=B:=by rw [←HB.out];unfold tF;rw [decide_eq_false hej];rfl
      clear hej;cases jf
      ·cases gone
       ·go_wp2_with fail
        go_meet;exact ⟨congrArg Value.bool (by rw [←hg];simp),rfl⟩
       cases ht:(t==jt)
       ·go_wp2_with fail
        go_meet;exact ⟨congrArg Value.bool (by rw [←hg];simp [ht]),rfl⟩
       go_wp2_with fail;go_meet;exact ⟨congrArg Value.bool (by rw [←hg];simp [ht]),rfl⟩
      cases ht:(t==jt)
      ·go_wp2_with fail
       go_meet;exact ⟨congrArg Value.bool (by rw [←hg];simp [ht]),rfl⟩
      go_wp2_with fail;go_meet;exact ⟨congrArg Value.bool (by rw [←hg];simp [ht]),rfl⟩
     case rest=>
      obtain ⟨rfl,hwc⟩:=hcut;have hwc:=hwc.symm;subst hwc;replace hs:=hs.out;cases B
      ·have HNX:Hid ((js.take (n+1)).filter (fun x:Ch.Job=>!tF jt jf (jf || gone) x)=dj):=by unfold Hid;rw [filter_no (fun x:Ch.Job=>!tF jt jf (jf || gone) x) hs HB.out,HL.out]
       clear hs;go_wp2;go_roundw
       case rel=>first|exact ⟨n+1,dj,g2,d2,by omega,by go_num,HNX.out.symm,GAT.out.ext (HXP.out.trans eX)⟩|(repeat apply Exists.intro;refine ⟨?_,rfl⟩;exact ⟨n+1,dj,g2,d2,by omega,by go_num,HNX.out.symm,GAT.out.ext (HXP.out.trans eX)⟩)
       case measure=>simp [intOf];omega
      ·have HNX:Hid ((js.take (n+1)).filter (fun x:Ch.Job=>!tF jt jf (jf || gone) x)=dj++[⟨t,f⟩]):=by unfold Hid;rw [filter_yes (fun x:Ch.Job=>!tF jt jf (jf || gone) x) hs HB.out,HL.out]
       clear hs
       go_upto_region 12 with fail
       have hxp:=HXP.out;have GP:=GAT.out.ext hxp;obtain ⟨p0,p1,p2,pf⟩:=GP.cell;have zp:=dA p0;have HGP:=aA GP;have hsz:=GP.kept.size;clear hxp GP o0 o1 o2 of zo kb0 kb1 kb2 q0 q1 zb zq ds hq;go_wp2_with (at_builtin;refine wpList_append_lies _ rfl _ _ _ rfl w1.heap.size 143 j0 _ 2 16 Tryz.underlying47 hj0 hy0 hy1 hy2 rfl (by decide) (.slice g2 dj.length d2) dj.length (dj.flatMap jA) rfl (fB HGP.out.jobs _) ⟨wp.heap.size,0,none⟩ 1 1 [vi t,.bool f] rfl rfl (World.news_of_block (sA _ _ _ (by simp))) (by simp [Value.oneCell']) (by decide) (by unfold maxLen;omega) (by omega) (by first|(simp;done)|(simp;omega)) _ rfl ?_;intro gg cap w5 hown5 hgrow hat hlt;obtain ⟨n0,n1,n2,nf⟩:=(HGP.out.cell.ext (w':=(wp.alloc (.cells #[vi t,.bool f] 143))) eX).grown hgrow (HGP.out.far2 hOw);have zn:=dA n0;have HG2:=aA (HGP.out.addJob ⟨t,f⟩ (A:=(wp.alloc (.cells #[vi t,.bool f] 143))) eX hOw hown5 hgrow hat);clear hown5 hgrow hat);go_roundw
       case rel=>first|exact ⟨n+1,dj++[(⟨t,f⟩:Ch.Job)],some ⟨gg,0,none⟩,cap,by omega,by go_num,HNX.out.symm,by rw [List.length_append];exact HG2.out⟩|(repeat apply Exists.intro;refine ⟨?_,rfl⟩;exact ⟨n+1,dj++[(⟨t,f⟩:Ch.Job)],some ⟨gg,0,none⟩,cap,by omega,by go_num,HNX.out.symm,by rw [List.length_append];exact HG2.out⟩)
       case measure=>simp [intOf];omega
    ·have hnm:n=m2:=by omega
     subst hnm
     have HLJ:Hid (dj=js.filter (fun x:Ch.Job=>!tF jt jf (jf || gone) x)):=by unfold Hid;rw [HL.out,List.take_of_length_le (by have:=E2.out;omega)]
     have kr:=KR.out.same (GAT.out.kept.other KR.out.lt (by omega));obtain ⟨kr0,kr1,kr2,krf⟩:=kr;have zr:=dA kr0;have kq:=aB.set ⟨kr0,kr1,kr2,krf⟩ (vi last) (.slice g1 dl.length d1) (.slice g2 dj.length d2);obtain ⟨p0,p1,p2,pf⟩:=kq;go_wp2;refine bodyPost_ret (v:=.agg #[vi last,.slice g1 dl.length d1,.slice g2 dj.length d2]) (by simp [results,Tryz.results130,go_sem,p0,p1,p2]) rfl ?_;unfold kE;dsimp only;rw [←HLL.out,←HLJ.out];have zx:=HX.out.below.size;refine ⟨_,_,rfl,⟨?_,?_,GAT.out.apart⟩,?_⟩
     ·refine rA (pA (pA (pA GAT.out.stays _ ?_) _ ?_) _ ?_) zx <;> (intro e;have:=uA GAT.out.stays _ e;(try dsimp only at this);omega)
     ·refine rA (pA (pA (pA GAT.out.jobs _ ?_) _ ?_) _ ?_) zx <;> (intro e;have:=uA GAT.out.jobs _ e;(try dsimp only at this);omega)
     ·have hxh:=HXW.out
      exact Ext.setCell (Ext.setCell (Ext.setCell hxh (by dsimp only;omega) _) (by dsimp only;omega) _) (by dsimp only;omega) _
theorem rdone_any (last jt:Int) (jf gone:Bool) (a1:Option Addr) (m1 c1:Nat) (a2:Option Addr) (m2 c2:Nat) (l:List Ch.Stay) (js:List Ch.Job) (w:World)
  (h:Sl w 8 gA l a1 m1 c1) (h2:Sl w 2 jA js a2 m2 c2) (hm1:m1≤100) (hm2:m2≤100):
  Calls Tryz.prog 130 #[rB last a1 m1 c1 a2 m2 c2,.agg #[vi jt,.bool jf],.bool gone] w (kE w (Ch.doneWith ⟨last,l,js⟩ ⟨jt,jf⟩ gone) (fun b=>b)):=by
 have e:Ch.doneWith ⟨last,l,js⟩ ⟨jt,jf⟩ gone=⟨last,l.filter (fun s=>!((jf || gone)&&s.ticket==jt)),js.filter (fun x=>!tF jt jf (jf || gone) x)⟩:=by
  have h1:=Ch.done_stays ⟨last,l,js⟩ ⟨jt,jf⟩ gone;have h2:=Ch.done_jobs ⟨last,l,js⟩ ⟨jt,jf⟩ gone;have h3:=jobOver_kept ⟨jt,jf⟩ gone;dsimp only at h3;rw [h3,show Ch.doneWith ⟨last,l,js⟩ ⟨jt,jf⟩ gone=⟨last,(Ch.doneWith ⟨last,l,js⟩ ⟨jt,jf⟩ gone).stays,(Ch.doneWith ⟨last,l,js⟩ ⟨jt,jf⟩ gone).jobs⟩ from rfl,h1,h2];rfl
 rw [e];exact rdone_filters last jt jf gone a1 m1 c1 a2 m2 c2 l js w h h2 hm1 hm2
