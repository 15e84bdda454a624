import Derived.Test.YtplomeacjbkgnadGreatDoorZ16
set_option linter.all false
set_option maxRecDepth 100000
set_option maxHeartbeats 16000000
namespace Go.Proofs.YtplomeacjbkgnadGreatDoor
open Go.RowKit
theorem find_none {l:List Ch.Stay} {t:Int} {last:Int} {js:List Ch.Job} (h:((⟨last,l,js⟩:Ch.Book).find t).isNone=true):Ch.indexOf (fun s:Ch.Stay=>s.ticket==t) l=-1:=by
 apply index_none
 simpa [Ch.Book.find] using h
theorem find_some {l:List Ch.Stay} {t:Int} {last:Int} {js:List Ch.Job} (h:((⟨last,l,js⟩:Ch.Book).find t).isNone=false):∃ i:Nat,Ch.indexOf (fun s:Ch.Stay=>s.ticket==t) l=i:=by
 apply index_some
 have h2:((⟨last,l,js⟩:Ch.Book).find t).isSome=true:=by cases h3:(⟨last,l,js⟩:Ch.Book).find t <;> rw [h3] at h <;> simp at h ⊢
 simpa [Ch.Book.find] using h2
abbrev wantErrV (f:Int):Value:=.tuple #[bookA 0 none 0 0 none 0 0,errV f]
theorem want_err (f last t:Int) (a1:Option Addr) (m1 c1:Nat) (a2:Option Addr) (m2 c2:Nat) (l:List Ch.Stay) (js:List Ch.Job) (w:World)
  (h:Sl w 8 stayCells l a1 m1 c1) (h2:Sl w 2 jobCells js a2 m2 c2) (hp:Hid (Ch.want ⟨last,l,js⟩ t = .error f)):
  Calls Tryz.prog 37 #[bookA last a1 m1 c1 a2 m2 c2,vi t] w fun e w'=>e = .returned (wantErrV f)∧Ext w w':=by
 have b1:=h.bound;have b2:=h2.bound;have HF:=Lib.hid h;have HJ:=Lib.hid h2;have E2:=Lib.hid h2.len;clear h h2;cases ho:((⟨last,l,js⟩:Ch.Book).find t).isNone
 ·obtain ⟨fi,hfi⟩:=find_some ho
  have HO:Hid (Ch.indexOf (fun s:Ch.Stay=>s.ticket==t) l=(fi:Int)):=hfi
  have hfi0:¬ ((fi:Int)<0):=by omega
  cases hc:decide ((⟨t,true⟩:Ch.Job)∈js)
  ·have HC:=Lib.hid hc
   have HE:Hid (f=8∧js.length=8):=by
    have e:=hp.out;unfold Ch.want at e;rw [if_neg (by rw [ho];simp),if_neg (by simpa using of_decide_eq_false hc)] at e
    split at e
    ·rename_i h8;cases e;exact ⟨rfl,h8⟩
    ·cases e
   have hm:((m2:Int)==8)=true:=by
    have e:=E2.out;have e2:=HE.out.2;simp;omega
   clear ho hc hfi;go_enter Tryz.func37,Tryz.ntmps37
   go_wp2_with (first
    | (go_at_call 32;(with_reducible refine (find_at _ _ _ _ _ _ _ _ _ l _ (Sl.below HF.out (Ext.below (by simp (maxDischargeDepth:=60)))) HO).mono ?_);rintro e w1 ⟨rfl,o1,n1,rfl⟩)
    | (go_at_call 58;(with_reducible refine (containsJob_at _ _ _ _ js _ _ _ (Sl.below HJ.out (Ext.below (by simp (maxDischargeDepth:=60)))) HC).mono ?_);rintro e w1 ⟨rfl,o1,n1,rfl⟩))
   exact bodyPost_ret (v:=wantErrV 8) (by simp [results,Tryz.results37,go_sem];rfl) rfl ⟨by rw [HE.out.1],(by repeat' (first|(with_reducible refine Ext.alloc ?_ _)|(with_reducible refine Ext.plus ?_ _ _)|(with_reducible refine Ext.setCell ?_ (by first|omega|(dsimp only;omega)) _)|(with_reducible refine Ext.drew ?_)|(with_reducible assumption)|(with_reducible exact Ext.refl _)))⟩
  ·have HC:=Lib.hid hc
   have HE:Hid (f=6):=by
    have e:=hp.out;unfold Ch.want at e;rw [if_neg (by rw [ho];simp),if_pos (by simpa using of_decide_eq_true hc)] at e;cases e;rfl
   clear ho hc hfi;go_enter Tryz.func37,Tryz.ntmps37
   go_wp2_with (first
    | (go_at_call 32;(with_reducible refine (find_at _ _ _ _ _ _ _ _ _ l _ (Sl.below HF.out (Ext.below (by simp (maxDischargeDepth:=60)))) HO).mono ?_);rintro e w1 ⟨rfl,o1,n1,rfl⟩)
    | (go_at_call 58;(with_reducible refine (containsJob_at _ _ _ _ js _ _ _ (Sl.below HJ.out (Ext.below (by simp (maxDischargeDepth:=60)))) HC).mono ?_);rintro e w1 ⟨rfl,o1,n1,rfl⟩))
   exact bodyPost_ret (v:=wantErrV 6) (by simp [results,Tryz.results37,go_sem];rfl) rfl ⟨by rw [HE.out],(by repeat' (first|(with_reducible refine Ext.alloc ?_ _)|(with_reducible refine Ext.plus ?_ _ _)|(with_reducible refine Ext.setCell ?_ (by first|omega|(dsimp only;omega)) _)|(with_reducible refine Ext.drew ?_)|(with_reducible assumption)|(with_reducible exact Ext.refl _)))⟩
 ·have HO:Hid (Ch.indexOf (fun s:Ch.Stay=>s.ticket==t) l=-1):=find_none ho
  have HE:Hid (f=5):=by
   have e:=hp.out;unfold Ch.want at e;rw [if_pos ho] at e;cases e;rfl
  clear ho;go_enter Tryz.func37,Tryz.ntmps37
  go_wp2_with (first
   | (go_at_call 32;(with_reducible refine (find_at _ _ _ _ _ _ _ _ _ l _ (Sl.below HF.out (Ext.below (by simp (maxDischargeDepth:=60)))) HO).mono ?_);rintro e w1 ⟨rfl,o1,n1,rfl⟩))
  exact bodyPost_ret (v:=wantErrV 5) (by simp [results,Tryz.results37,go_sem];rfl) rfl ⟨by rw [HE.out],(by repeat' (first|(with_reducible refine Ext.alloc ?_ _)|(with_reducible refine Ext.plus ?_ _ _)|(with_reducible refine Ext.setCell ?_ (by first|omega|(dsimp only;omega)) _)|(with_reducible refine Ext.drew ?_)|(with_reducible assumption)|(with_reducible exact Ext.refl _)))⟩
theorem want_any (x:Ch.Book) (last t:Int) (a1:Option Addr) (m1 c1:Nat) (a2:Option Addr) (m2 c2:Nat) (l:List Ch.Stay) (js:List Ch.Job) (w:World)
  (h:Sl w 8 stayCells l a1 m1 c1) (h2:Sl w 2 jobCells js a2 m2 c2) (hm1:m1≤100) (hm2:m2≤100) (hp:Hid (Ch.want ⟨last,l,js⟩ t = .ok x)):
  Calls Tryz.prog 37 #[bookA last a1 m1 c1 a2 m2 c2,vi t] w (NewBook w x (fun b=>.tuple #[b,.nilIface])):=by
 obtain ⟨j0,hj0,hy0,hy1,hy2⟩:=info_parts infoJob;have b1:=h.bound;have b2:=h2.bound;have HF:=Lib.hid h;have HJ:=Lib.hid h2;have E1:=Lib.hid h.len;have E2:=Lib.hid h2.len;clear h h2
 obtain ⟨ho,hc,h8,hx⟩:((⟨last,l,js⟩:Ch.Book).find t).isNone=false∧decide ((⟨t,true⟩:Ch.Job)∈js)=false∧js.length≠8∧x=⟨last,l,js++[⟨t,true⟩]⟩:=by
  have e:=hp.out;unfold Ch.want at e;cases ho:((⟨last,l,js⟩:Ch.Book).find t).isNone
  ·rw [if_neg (by rw [ho];simp)] at e
   split at e
   ·cases e
   ·rename_i hc
    split at e
    ·cases e
    ·rename_i h8
     cases e;exact ⟨rfl,by simpa using hc,h8,rfl⟩
  ·rw [if_pos ho] at e;cases e
 obtain ⟨fi,hfi⟩:=find_some ho;have HO:Hid (Ch.indexOf (fun s:Ch.Stay=>s.ticket==t) l=(fi:Int)):=hfi
 have hfi0:¬ ((fi:Int)<0):=by omega
 have HC:=Lib.hid hc
 have hm8:((m2:Int)==8)=false:=by
  have e:=E2.out;simp;omega
 have HXX:=Lib.hid hx;clear ho hc hfi h8 hx hp;go_enter Tryz.func37,Tryz.ntmps37
 go_upto_region 8 with (first
  | (go_at_call 32;(with_reducible refine (find_at _ _ _ _ _ _ _ _ _ l _ (Sl.below HF.out (Ext.below (by simp (maxDischargeDepth:=60)))) HO).mono ?_);rintro e w1 ⟨rfl,oA,nA,rfl⟩)
  | (go_at_call 58;(with_reducible refine (containsJob_at _ _ _ _ js _ _ _ (Sl.below HJ.out (Ext.below (by simp (maxDischargeDepth:=60)))) HC).mono ?_);rintro e w1 ⟨rfl,oB,nB,rfl⟩))
 generalize hW:World.plus _ _ _=w0
 have kb:BookCell w0 w.heap.size (vi last) (.slice a1 m1 c1) (.slice a2 m2 c2):=by
  rw [←hW];exact ⟨by simp [go_sem],by simp [go_sem],by simp [go_sem],by simp [go_sem]⟩
 have kr:BookCell w0 (w.heap.size+1) (vi 0) (.slice none 0 0) (.slice none 0 0):=by
  rw [←hW];exact ⟨by simp [go_sem],by simp [go_sem],by simp [go_sem],by simp [go_sem]⟩
 have q0:w0.cell? ⟨w.heap.size+1+1,0,none⟩=some (vi t):=by rw [←hW];simp [go_sem]
 have q1:w0.cell? ⟨w.heap.size+1+1,1,none⟩=some (.bool true):=by rw [←hW];simp [go_sem]
 have hx:Ext w w0:=by rw [←hW];exact (by simp (maxDischargeDepth:=60))
 have HX:=Lib.hid hx;have HKB:=Lib.hid kb;have HKR:=Lib.hid kr;have HS:=Lib.hid (Sl.below HF.out hx.below);have HK:=Lib.hid (Sl.below HJ.out hx.below);have z0:=cell_lt q0;obtain ⟨k0,k1,k2,kf⟩:=kb;clear hW hx kr HF HJ
 go_upto_region 9 with (go_at_call 57;(with_reducible refine (copy_any last a1 m1 c1 a2 m2 c2 l js _ HS.out HK.out (by omega) (by omega)).mono ?_);rintro e wc ⟨v1,v2,rfl,hob,hxc⟩;obtain ⟨g1,d1,rfl,-⟩:=Sl.of_owns (c:=8) (enc:=stayCells) hob.stays (by decide) (fun _=>rfl);obtain ⟨g2,d2,rfl,-⟩:=Sl.of_owns (c:=2) (enc:=jobCells) hob.jobs (by decide) (fun _=>rfl);obtain ⟨kc0,kc1,kc2,kcf⟩:=HKB.out.ext hxc;have zc:=cell_lt kc0)
 have hl100:l.length≤100:=by rw [E1.out];exact hm1
 have hj100:js.length≤100:=by rw [E2.out];exact hm2
 generalize hW:World.setCell (World.setCell (World.setCell _ _ _) _ _) _ _=wd
 have kd:BookCell wd w.heap.size (vi last) (.slice g1 l.length d1) (.slice g2 js.length d2):=by
  rw [←hW];exact BookCell.set ⟨kc0,kc1,kc2,kcf⟩ _ _ _
 have K1:Kept (Is w.heap.size) w0 wd:=by
  rw [←hW];exact (((Kept.of_ext hxc).put 0 _).put 1 _).put 2 _
 have nb:∀ k,(Value.slice g1 l.length d1).ownBlock=some k→w0.heap.size≤k:=owns_block hob.stays
 have nb2:∀ k,(Value.slice g2 js.length d2).ownBlock=some k→w0.heap.size≤k:=owns_block hob.jobs
 have os1:wd.ownsRow w0.heap.size 49 8 (.slice g1 l.length d1) l.length (l.flatMap stayCells):=by
  rw [←hW]
  refine owns_set (owns_set (owns_set hob.stays _ ?_) _ ?_) _ ?_ <;> (intro e;have:=nb _ e;(try dsimp only at this);omega)
 have oj1:wd.ownsRow w0.heap.size 76 2 (.slice g2 js.length d2) js.length (js.flatMap jobCells):=by
  rw [←hW]
  refine owns_set (owns_set (owns_set hob.jobs _ ?_) _ ?_) _ ?_ <;> (intro e;have:=nb2 _ e;(try dsimp only at this);omega)
 have qd0:=K1.cell q0 (by omega);have qd1:=K1.cell q1 (by omega);have HAP:=Lib.hid hob.apart;have HN1:=Lib.hid nb;have HN2:=Lib.hid nb2;have HOS1:=Lib.hid os1;have HOJ1:=Lib.hid oj1;have HK1:=Lib.hid K1;have HKD:=Lib.hid kd;obtain ⟨kd0,kd1,kd2,kdf⟩:=kd;have zd:=cell_lt kd0;have zd2:=cell_lt qd0;have zs:=K1.size;clear hW hob hxc kc0 kc1 kc2 kcf zc K1 nb nb2 os1 oj1 k0 k1 k2 kf q0 q1
 go_upto_region 10 with (at_builtin;refine wpList_append_lies _ rfl _ _ _ rfl w0.heap.size 76 j0 _ 2 16 Tryz.underlying37 hj0 hy0 hy1 hy2 rfl (by decide) (.slice g2 js.length d2) js.length (js.flatMap jobCells) rfl (owns_alloc HOJ1.out _) _ 1 1 [vi t,.bool true] rfl rfl (World.news_of_block (alloc_at _ _ _ (by simp))) (by simp [Value.oneCell']) (by decide) (by unfold maxLen;omega) (by omega) (by first|(simp;done)|(simp;omega)) _ rfl ?_;intro gg2 cap2 w3 hown3 hgrow3 hat3 hlt3;obtain ⟨kg0,kg1,kg2,kgf⟩:=(HKD.out.ext (w':=wd.alloc _) (by simp (maxDischargeDepth:=60))).grown hgrow3 (by intro e;have:=HN2.out _ e;(try dsimp only at this);omega))
 have zg:=cell_lt kg0;generalize hW:World.setCell _ _ _=wh
 have kh:BookCell wh w.heap.size (vi last) (.slice g1 l.length d1) (.slice (some ⟨gg2,0,none⟩) (js.length+1) cap2):=by
  rw [←hW];exact BookCell.set2 ⟨kg0,kg1,kg2,kgf⟩ _
 have K4:Kept (Is w.heap.size) w0 wh:=by
  rw [←hW];exact ((HK1.out.ext (c:=wd.alloc _) (by simp (maxDischargeDepth:=60))).grown hgrow3 HN2.out).put 2 _
 have nb4:∀ k,(Value.slice (some ⟨gg2,0,none⟩) (js.length+1) cap2).ownBlock=some k→w0.heap.size≤k:=owns_block hown3
 have hap4:(Value.slice g1 l.length d1).ownBlock≠some gg2:=by
  intro e
  rcases hat3 with h|h
  ·exact HAP.out gg2 e h
  ·have:=(own_lt HOS1.out e).2
   simp at h;omega
 have os4:wh.ownsRow w0.heap.size 49 8 (.slice g1 l.length d1) l.length (l.flatMap stayCells):=by
  rw [←hW];exact owns_set ((owns_alloc HOS1.out _).kept hgrow3 (by cases hg:(Value.slice g1 l.length d1).ownBlock with|none=>exact Or.inl rfl|some k=>exact Or.inr (fun e=>HAP.out k hg e.symm))) _ (by intro e;have:=HN1.out _ e;(try dsimp only at this);omega)
 have oj4:wh.ownsRow w0.heap.size 76 2 (.slice (some ⟨gg2,0,none⟩) (js.length+1) cap2) (js.length+1) (js.flatMap jobCells++[vi t,.bool true]):=by
  rw [←hW];exact owns_set hown3 _ (by intro e;have:=nb4 _ e;(try dsimp only at this);omega)
 have kr:=HKR.out.same (K4.other HKR.out.lt (by omega));obtain ⟨kr0,kr1,kr2,krf⟩:=kr;obtain ⟨kh0,kh1,kh2,khf⟩:=kh;have zh0:=cell_lt kh0;have zh1:=cell_lt kr0;have zhs:=K4.size;have HNB4:=Lib.hid nb4;have HAP4:=Lib.hid hap4;have HOS4:=Lib.hid os4;have HOJ4:=Lib.hid oj4;have HXH:=Lib.hid (K4.widen HX.out (Nat.le_refl _));clear hW hown3 hgrow3 hat3 hlt3 nb4 os4 oj4 K4 hap4 kd0 kd1 kd2 kdf zd kg0 kg1 kg2 kgf zg qd0 qd1 zd2;have kq:=BookCell.set ⟨kr0,kr1,kr2,krf⟩ (vi last) (.slice g1 l.length d1) (.slice (some ⟨gg2,0,none⟩) (js.length+1) cap2);obtain ⟨p0,p1,p2,pf⟩:=kq;go_wp2;refine bodyPost_ret (v:=.tuple #[.agg #[vi last,.slice g1 l.length d1,.slice (some ⟨gg2,0,none⟩) (js.length+1) cap2],.nilIface]) (by simp [results,Tryz.results37,go_sem,p0,p1,p2]) rfl ?_;have e:=HXX.out;subst e;have zx:=HX.out.below.size;refine ⟨_,_,rfl,⟨?_,?_,?_⟩,?_⟩
 ·refine owns_base (owns_set (owns_set (owns_set HOS4.out _ ?_) _ ?_) _ ?_) zx <;> (intro e;have:=HN1.out _ e;(try dsimp only at this);omega)
 ·rw [List.length_append,List.flatMap_append]
  refine owns_base (owns_set (owns_set (owns_set HOJ4.out _ ?_) _ ?_) _ ?_) zx <;> (intro e;have:=HNB4.out _ e;(try dsimp only at this);omega)
 ·intro k hk1 hk2
  rw [←hk2] at hk1;exact HAP4.out hk1
 ·have hxh:=HXH.out
  exact Ext.setCell (Ext.setCell (Ext.setCell hxh (by dsimp only;omega) _) (by dsimp only;omega) _) (by dsimp only;omega) _
theorem sizeFault_nn (s:Ch.Size):0≤Ch.sizeFault s:=by unfold Ch.sizeFault;split <;> omega
theorem carFault_nn (c:Ch.Car):0≤Ch.carFault c:=by unfold Ch.carFault;split;omega;exact sizeFault_nn _
/-! ### answers, an error's or not, in one form -/
def parkR (r:Except Int (Ch.Book×Int)):Ch.Book×Int×Int:=match r with | .error f=>(⟨0,[],[]⟩,0,f) | .ok x=>(x.1,x.2,0)
def wantR (r:Except Int Ch.Book):Ch.Book×Int:=match r with | .error f=>(⟨0,[],[]⟩,f) | .ok x=>(x,0)
def Back (A:Option Addr) (w:World) (x:Ch.Book) (r:Value→Value) (e:Ending) (w':World):Prop:=
 ∃ y1 d1 y2 d2,e = .returned (r (bookA x.last y1 x.stays.length d1 y2 x.jobs.length d2))∧Sl w' 8 stayCells x.stays y1 x.stays.length d1∧Sl w' 2 jobCells x.jobs y2 x.jobs.length d2∧Ext w w' ∧
  (∀ b o,y1=some ⟨b,o,none⟩→w.heap.size≤b∨y1=A)∧(∀ b o,y2=some ⟨b,o,none⟩→w.heap.size≤b)
theorem own_new {w:World} {base e size cap n m:Nat} {y:Option Addr} {xs:List Value} (h:w.ownsRow base e size (.slice y n cap) m xs):∀ b o,y=some ⟨b,o,none⟩→base≤b:=by
 intro b o e;subst e
 rcases h.2 with ⟨h2,_⟩|⟨g,cap',cur,h2,hb,_⟩
 ·cases h2
 ·cases h2;exact hb
theorem Sl.kept {α:Type} {w w':World} {c:Nat} {enc:α→List Value} {l:List α} {a:Option Addr} {n cap T:Nat} (h:Sl w c enc l a n cap) (k:Kept (Is T) w w') (hn:0<n→∀ b o,a=some ⟨b,o,none⟩→b≠T):Sl w' c enc l a n cap:=
 ⟨h.1,h.2.1,h.2.2.1,fun hp=>let ⟨b,o,e,f⟩:=h.2.2.2 hp;⟨b,o,e,fun i x hx j y hy=>k.cell (f i x hx j y hy) (hn hp b o e)⟩⟩
theorem NewBook.back {A:Option Addr} {w:World} {x:Ch.Book} {r:Value→Value} {e:Ending} {w':World} (h:NewBook w x r e w'):Back A w x r e w':=by
 obtain ⟨v1,v2,rfl,hob,hx⟩:=h;obtain ⟨y1,d1,rfl,s1⟩:=Sl.of_owns (c:=8) (enc:=stayCells) hob.stays (by decide) (fun _=>rfl);obtain ⟨y2,d2,rfl,s2⟩:=Sl.of_owns (c:=2) (enc:=jobCells) hob.jobs (by decide) (fun _=>rfl);exact ⟨y1,d1,y2,d2,rfl,s1,s2,hx,fun b o e=>Or.inl (own_new hob.stays b o e),own_new hob.jobs⟩
theorem park_back (last id lo hi he:Int) (a1:Option Addr) (m1 c1:Nat) (a2:Option Addr) (m2 c2:Nat) (aL:Option Addr) (nL cL:Nat) (l:List Ch.Stay) (js:List Ch.Job) (ls:List Ch.Size) (w:World)
  (h:Sl w 8 stayCells l a1 m1 c1) (h2:Sl w 2 jobCells js a2 m2 c2) (hL:Sl w 3 sizeCells ls aL nL cL) (n1':1≤nL) (n4:nL≤4) (hm1:m1≤100) (hm2:m2≤100) (l0:0≤last) (l9:last≤999999)
  (x:Ch.Book) (kk f:Int) (hp:Hid (parkR (Ch.park ⟨last,l,js⟩ ls ⟨id,⟨lo,hi,he⟩⟩)=(x,kk,f))):
  Calls Tryz.prog 51 #[bookA last a1 m1 c1 a2 m2 c2,.slice aL nL cL,.agg #[vi id,vi lo,vi hi,vi he]] w (Back none w x (fun b=>.tuple #[b,vi kk,errV f])):=by
 cases hpk:Ch.park ⟨last,l,js⟩ ls ⟨id,⟨lo,hi,he⟩⟩ with
 | error g=>
  have e:=hp.out;rw [hpk] at e;simp only [parkR,Prod.mk.injEq] at e;obtain ⟨rfl,rfl,rfl⟩:=e;refine (park_err g last id lo hi he a1 m1 c1 a2 m2 c2 aL nL cL l js ls w h h2 hL n1' n4 hpk).mono ?_;rintro e w' ⟨rfl,hx⟩;exact ⟨none,0,none,0,rfl,Sl.nil _ _ _,Sl.nil _ _ _,hx,(fun _ _ e=>by cases e),(fun _ _ e=>by cases e)⟩
 | ok r=>
  obtain ⟨x',k'⟩:=r;have e:=hp.out;rw [hpk] at e;simp only [parkR,Prod.mk.injEq] at e;obtain ⟨rfl,rfl,rfl⟩:=e;exact (park_any x' k' last id lo hi he a1 m1 c1 a2 m2 c2 aL nL cL l js ls w h h2 hL n1' n4 hm1 hm2 l0 l9 hpk).mono (fun _ _ hh=>NewBook.back hh)
theorem want_back (last t:Int) (a1:Option Addr) (m1 c1:Nat) (a2:Option Addr) (m2 c2:Nat) (l:List Ch.Stay) (js:List Ch.Job) (w:World)
  (h:Sl w 8 stayCells l a1 m1 c1) (h2:Sl w 2 jobCells js a2 m2 c2) (hm1:m1≤100) (hm2:m2≤100) (x:Ch.Book) (f:Int) (hp:Hid (wantR (Ch.want ⟨last,l,js⟩ t)=(x,f))):
  Calls Tryz.prog 37 #[bookA last a1 m1 c1 a2 m2 c2,vi t] w (Back none w x (fun b=>.tuple #[b,errV f])):=by
 cases hpk:Ch.want ⟨last,l,js⟩ t with
 | error g=>
  have e:=hp.out;rw [hpk] at e;simp only [wantR,Prod.mk.injEq] at e;obtain ⟨rfl,rfl⟩:=e;refine (want_err g last t a1 m1 c1 a2 m2 c2 l js w h h2 hpk).mono ?_;rintro e w' ⟨rfl,hx⟩;exact ⟨none,0,none,0,rfl,Sl.nil _ _ _,Sl.nil _ _ _,hx,(fun _ _ e=>by cases e),(fun _ _ e=>by cases e)⟩
 | ok x'=>
  have e:=hp.out;rw [hpk] at e;simp only [wantR,Prod.mk.injEq] at e;obtain ⟨rfl,rfl⟩:=e;exact (want_any x' last t a1 m1 c1 a2 m2 c2 l js w h h2 hm1 hm2 hpk).mono (fun _ _ hh=>NewBook.back hh)
end Go.Proofs.YtplomeacjbkgnadGreatDoor
