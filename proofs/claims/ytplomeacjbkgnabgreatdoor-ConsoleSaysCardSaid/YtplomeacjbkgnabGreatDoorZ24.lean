import Derived.Test.YtplomeacjbkgnabGreatDoorZ18
import Derived.Deep.DeepCutAuto
set_option linter.all false
set_option maxRecDepth 100000
set_option maxHeartbeats 16000000
namespace Go.Proofs.YtplomeacjbkgnabGreatDoor
open Go.RowKit Tryz Ch
theorem find_none {l:List sA} {t:Int} {last:Int} {js:List Job} (h:((⟨last,l,js⟩:gB).find t).isNone=true):cC (fun s:sA=>s.ticket==t) l=-1:=by
 apply index_none
 simpa [gB.find] using h
theorem find_some {l:List sA} {t:Int} {last:Int} {js:List Job} (h:((⟨last,l,js⟩:gB).find t).isNone=false):∃ i:Nat,cC (fun s:sA=>s.ticket==t) l=i:=by
 apply index_some
 have h2:((⟨last,l,js⟩:gB).find t).isSome=true:=by cases h3:(⟨last,l,js⟩:gB).find t <;> rw [h3] at h <;> simp at h ⊢
 simpa [gB.find] using h2
abbrev wantErrV (f:Int):Value:=.tuple #[lC 0 none 0 0 none 0 0,aC f]
theorem want_err (f last t:Int) (a1:Option Addr) (m1 c1:Nat) (a2:Option Addr) (m2 c2:Nat) (l:List sA) (js:List Job) (w:World)
  (h:Sl w 8 iA l a1 m1 c1) (h2:Sl w 2 jA js a2 m2 c2) (hp:Hid (want ⟨last,l,js⟩ t = .error f)):
  Calls prog 54 #[lC last a1 m1 c1 a2 m2 c2,vi t] w fun e w'=>e = .returned (wantErrV f)/\Ext w w':=by
 have b1:=h.bound;have b2:=h2.bound;have HF:=aA h;have HJ:=aA h2;have E2:=aA h2.len;clear h h2;cases ho:((⟨last,l,js⟩:gB).find t).isNone
 ·obtain ⟨fi,hfi⟩:=find_some ho
  have HO:Hid (cC (fun s:sA=>s.ticket==t) l=(fi:Int)):=hfi
  have hfi0:¬ ((fi:Int)<0):=om
  cases hc:decide ((⟨t,true⟩:Job)∈js)
  ·have HC:=aA hc
   have HE:Hid (f=8/\js.length=8):=by
    have e:=hp.out;unfold want at e;rw [if_neg (by rw [ho];simp),if_neg (by simpa using of_decide_eq_false hc)] at e
    split at e
    ·rename_i h8;cases e;exact ⟨rfl,h8⟩
    ·cases e
   have hm:((m2:Int)==8)=true:=by
    have e:=E2.out;have e2:=HE.out.2;simp;omega
   clear ho hc hfi;go_enter func54,ntmps54
   go_wp2_with (first
    | (go_at_call 102;with_reducible refine mo (pO _ _ _ _ _ _ _ _ _ l _ (Sl.below HF.out (Ext.below eX)) HO) fun o1 n1=>?_)
    | (go_at_call 103;with_reducible refine mo (gI _ _ _ _ js _ _ _ (Sl.below HJ.out (Ext.below eX)) HC) fun o1 n1=>?_))
   exact bodyPost_ret (v:=wantErrV 8) (by simp [results,results54,go_sem];rfl) rfl ⟨by rw [HE.out.1],(by repeat' (first|(with_reducible refine Ext.alloc ?_ _)|(with_reducible refine Ext.plus ?_ _ _)|(with_reducible refine Ext.setCell ?_ (by first|omega|(dsimp only;omega)) _)|(with_reducible refine Ext.drew ?_)|(with_reducible assumption)|(with_reducible exact Ext.refl _)))⟩
  ·have HC:=aA hc
   have HE:Hid (f=6):=by
    have e:=hp.out;unfold want at e;rw [if_neg (by rw [ho];simp),if_pos (by simpa using of_decide_eq_true hc)] at e;cases e;rfl
   clear ho hc hfi;go_enter func54,ntmps54
   go_wp2_with (first
    | (go_at_call 102;with_reducible refine mo (pO _ _ _ _ _ _ _ _ _ l _ (Sl.below HF.out (Ext.below eX)) HO) fun o1 n1=>?_)
    | (go_at_call 103;with_reducible refine mo (gI _ _ _ _ js _ _ _ (Sl.below HJ.out (Ext.below eX)) HC) fun o1 n1=>?_))
   exact bodyPost_ret (v:=wantErrV 6) (by simp [results,results54,go_sem];rfl) rfl ⟨by rw [HE.out],(by repeat' (first|(with_reducible refine Ext.alloc ?_ _)|(with_reducible refine Ext.plus ?_ _ _)|(with_reducible refine Ext.setCell ?_ (by first|omega|(dsimp only;omega)) _)|(with_reducible refine Ext.drew ?_)|(with_reducible assumption)|(with_reducible exact Ext.refl _)))⟩
 ·have HO:Hid (cC (fun s:sA=>s.ticket==t) l=-1):=find_none ho
  have HE:Hid (f=5):=by
   have e:=hp.out;unfold want at e;rw [if_pos ho] at e;cases e;rfl
  clear ho;go_enter func54,ntmps54
  go_wp2_with (first
   | (go_at_call 102;with_reducible refine mo (pO _ _ _ _ _ _ _ _ _ l _ (Sl.below HF.out (Ext.below eX)) HO) fun o1 n1=>?_))
  exact bodyPost_ret (v:=wantErrV 5) (by simp [results,results54,go_sem];rfl) rfl ⟨by rw [HE.out],(by repeat' (first|(with_reducible refine Ext.alloc ?_ _)|(with_reducible refine Ext.plus ?_ _ _)|(with_reducible refine Ext.setCell ?_ (by first|omega|(dsimp only;omega)) _)|(with_reducible refine Ext.drew ?_)|(with_reducible assumption)|(with_reducible exact Ext.refl _)))⟩
theorem want_any (x:gB) (last t:Int) (a1:Option Addr) (m1 c1:Nat) (a2:Option Addr) (m2 c2:Nat) (l:List sA) (js:List Job) (w:World)
  (h:Sl w 8 iA l a1 m1 c1) (h2:Sl w 2 jA js a2 m2 c2) (hm1:m1<=100) (hm2:m2<=100) (hp:Hid (want ⟨last,l,js⟩ t = .ok x)):
  Calls prog 54 #[lC last a1 m1 c1 a2 m2 c2,vi t] w (fH w x (fun b=>.tuple #[b,.nilIface])):=by
 obtain ⟨j0,hj0,hy0,hy1,hy2⟩:=info_parts kO;have b1:=h.bound;have b2:=h2.bound;have HF:=aA h;have HJ:=aA h2;have E1:=aA h.len;have E2:=aA h2.len;clear h h2
 obtain ⟨ho,hc,h8,hx⟩:((⟨last,l,js⟩:gB).find t).isNone=false/\decide ((⟨t,true⟩:Job)∈js)=false/\js.length≠8/\x=⟨last,l,js++[⟨t,true⟩]⟩:=by
  have e:=hp.out;unfold want at e;cases ho:((⟨last,l,js⟩:gB).find t).isNone
  ·rw [if_neg (by rw [ho];simp)] at e
   split at e
   ·cases e
   ·rename_i hc
    split at e
    ·cases e
    ·rename_i h8
     cases e;exact ⟨rfl,by simpa using hc,h8,rfl⟩
  ·rw [if_pos ho] at e;cases e
 obtain ⟨fi,hfi⟩:=find_some ho;have HO:Hid (cC (fun s:sA=>s.ticket==t) l=(fi:Int)):=hfi
 have hfi0:¬ ((fi:Int)<0):=om
 have HC:=aA hc
 have hm8:((m2:Int)==8)=false:=by
  have e:=E2.out;simp;omega
 have HXX:=aA hx;clear ho hc hfi h8 hx hp;go_enter func54,ntmps54
 go_upto_region 8 with (first
  | (go_at_call 102;(with_reducible refine (pO _ _ _ _ _ _ _ _ _ l _ (Sl.below HF.out (Ext.below eX)) HO).mono ?_);rintro e w1 ⟨rfl,oA,nA,rfl⟩)
  | (go_at_call 103;(with_reducible refine (gI _ _ _ _ js _ _ _ (Sl.below HJ.out (Ext.below eX)) HC).mono ?_);rintro e w1 ⟨rfl,oB,nB,rfl⟩))
 generalize hW:World.plus _ _ _=w0
 have kb:eB w0 w.heap.size (vi last) (.slice a1 m1 c1) (.slice a2 m2 c2):=by
  rw [<-hW];exact ⟨by simp [go_sem],by simp [go_sem],by simp [go_sem],by simp [go_sem]⟩
 have kr:eB w0 (w.heap.size+1) (vi 0) (.slice none 0 0) (.slice none 0 0):=by
  rw [<-hW];exact ⟨by simp [go_sem],by simp [go_sem],by simp [go_sem],by simp [go_sem]⟩
 have q0:w0.cell? ⟨w.heap.size+1+1,0,none⟩=some (vi t):=cQ hW;have q1:w0.cell? ⟨w.heap.size+1+1,1,none⟩=some (.bool true):=cQ hW;have hx:Ext w w0:=xQ hW;have HX:=aA hx;have HKB:=aA kb;have HKR:=aA kr;have HS:=aA (Sl.below HF.out hx.below);have HK:=aA (Sl.below HJ.out hx.below);have z0:=cA q0;obtain ⟨k0,k1,k2,kf⟩:=kb;clear hW hx kr HF HJ
 go_upto_region 9 with (go_at_call 96;(with_reducible refine (copy_any last a1 m1 c1 a2 m2 c2 l js _ HS.out HK.out om om).mono ?_);rintro e wc ⟨v1,v2,rfl,hob,hxc⟩;obtain ⟨g1,d1,rfl,-⟩:=Sl.of_owns (c:=8) (enc:=iA) hob.stays dc (fun _=>rfl);obtain ⟨g2,d2,rfl,-⟩:=Sl.of_owns (c:=2) (enc:=jA) hob.jobs dc (fun _=>rfl);obtain ⟨kc0,kc1,kc2,kcf⟩:=HKB.out.ext hxc;have zc:=cA kc0)
 have hl100:l.length<=100:=by rw [E1.out];exact hm1
 have hj100:js.length<=100:=by rw [E2.out];exact hm2
 generalize hW:World.setCell (World.setCell (World.setCell _ _ _) _ _) _ _=wd
 have kd:eB wd w.heap.size (vi last) (.slice g1 l.length d1) (.slice g2 js.length d2):=by
  rw [<-hW];exact eB.set ⟨kc0,kc1,kc2,kcf⟩ _ _ _
 have K1:fA (Is w.heap.size) w0 wd:=by
  rw [<-hW];exact (((fA.of_ext hxc).put 0 _).put 1 _).put 2 _
 have nb:∀ k,(Value.slice g1 l.length d1).ownBlock=some k->w0.heap.size<=k:=qA hob.stays
 have nb2:∀ k,(Value.slice g2 js.length d2).ownBlock=some k->w0.heap.size<=k:=qA hob.jobs
 have os1:wd.ownsRow w0.heap.size 141 8 (.slice g1 l.length d1) l.length (l.flatMap iA):=by
  rw [<-hW]
  refine lA (lA (lA hob.stays _ ?_) _ ?_) _ ?_ <;> (intro e;have:=nb _ e;(try dsimp only at this);omega)
 have oj1:wd.ownsRow w0.heap.size 143 2 (.slice g2 js.length d2) js.length (js.flatMap jA):=by
  rw [<-hW]
  refine lA (lA (lA hob.jobs _ ?_) _ ?_) _ ?_ <;> (intro e;have:=nb2 _ e;(try dsimp only at this);omega)
 have qd0:=K1.cell q0 om;have qd1:=K1.cell q1 om;have HAP:=aA hob.apart;have HN1:=aA nb;have HN2:=aA nb2;have HOS1:=aA os1;have HOJ1:=aA oj1;have HK1:=aA K1;have HKD:=aA kd;obtain ⟨kd0,kd1,kd2,kdf⟩:=kd;have zd:=cA kd0;have zd2:=cA qd0;have zs:=K1.size;clear hW hob hxc kc0 kc1 kc2 kcf zc K1 nb nb2 os1 oj1 k0 k1 k2 kf q0 q1
 go_upto_region 10 with (at_builtin;refine wpList_append_lies _ rfl _ _ _ rfl w0.heap.size 143 j0 _ 2 16 underlying47 hj0 hy0 hy1 hy2 rfl dc (.slice g2 js.length d2) js.length (js.flatMap jA) rfl (iB HOJ1.out _) _ 1 1 [vi t,.bool true] rfl rfl (World.news_of_block (pA _ _ _ sp)) (by simp [Value.oneCell']) dc (by unfold maxLen;omega) om so _ rfl ?_;intro gg2 cap2 w3 hown3 hgrow3 hat3 hlt3;obtain ⟨kg0,kg1,kg2,kgf⟩:=(HKD.out.ext (w':=wd.alloc _) eX).grown hgrow3 (by intro e;have:=HN2.out _ e;(try dsimp only at this);omega))
 have zg:=cA kg0;generalize hW:World.setCell _ _ _=wh
 have kh:eB wh w.heap.size (vi last) (.slice g1 l.length d1) (.slice (some ⟨gg2,0,none⟩) (js.length+1) cap2):=by
  rw [<-hW];exact eB.set2 ⟨kg0,kg1,kg2,kgf⟩ _
 have K4:fA (Is w.heap.size) w0 wh:=by
  rw [<-hW];exact ((HK1.out.ext (c:=wd.alloc _) eX).grown hgrow3 HN2.out).put 2 _
 have nb4:∀ k,(Value.slice (some ⟨gg2,0,none⟩) (js.length+1) cap2).ownBlock=some k->w0.heap.size<=k:=qA hown3
 have hap4:(Value.slice g1 l.length d1).ownBlock≠some gg2:=by
  intro e
  rcases hat3 with h|h
  ·exact HAP.out gg2 e h
  ·have:=(rE HOS1.out e).2
   simp at h;omega
 have os4:wh.ownsRow w0.heap.size 141 8 (.slice g1 l.length d1) l.length (l.flatMap iA):=by
  rw [<-hW];exact lA ((iB HOS1.out _).kept hgrow3 (by cases hg:(Value.slice g1 l.length d1).ownBlock with|none=>exact Or.inl rfl|some k=>exact Or.inr (fun e=>HAP.out k hg e.symm))) _ (by intro e;have:=HN1.out _ e;(try dsimp only at this);omega)
 have oj4:wh.ownsRow w0.heap.size 143 2 (.slice (some ⟨gg2,0,none⟩) (js.length+1) cap2) (js.length+1) (js.flatMap jA++[vi t,.bool true]):=by
  rw [<-hW];exact lA hown3 _ (by intro e;have:=nb4 _ e;(try dsimp only at this);omega)
 have kr:=HKR.out.same (K4.other HKR.out.lt om);obtain ⟨kr0,kr1,kr2,krf⟩:=kr;obtain ⟨kh0,kh1,kh2,khf⟩:=kh;have zh0:=cA kh0;have zh1:=cA kr0;have zhs:=K4.size;have HNB4:=aA nb4;have HAP4:=aA hap4;have HOS4:=aA os4;have HOJ4:=aA oj4;have HXH:=aA (K4.widen HX.out (Nat.le_refl _));clear hW hown3 hgrow3 hat3 hlt3 nb4 os4 oj4 K4 hap4 kd0 kd1 kd2 kdf zd kg0 kg1 kg2 kgf zg qd0 qd1 zd2;have kq:=eB.set ⟨kr0,kr1,kr2,krf⟩ (vi last) (.slice g1 l.length d1) (.slice (some ⟨gg2,0,none⟩) (js.length+1) cap2);obtain ⟨p0,p1,p2,pf⟩:=kq;go_wp2;refine bodyPost_ret (v:=.tuple #[.agg #[vi last,.slice g1 l.length d1,.slice (some ⟨gg2,0,none⟩) (js.length+1) cap2],.nilIface]) (by simp [results,results54,go_sem,p0,p1,p2]) rfl ?_;have e:=HXX.out;subst e;have zx:=HX.out.below.size;refine ⟨_,_,rfl,⟨?_,?_,?_⟩,?_⟩
 ·refine mA (lA (lA (lA HOS4.out _ ?_) _ ?_) _ ?_) zx <;> (intro e;have:=HN1.out _ e;(try dsimp only at this);omega)
 ·rw [List.length_append,List.flatMap_append]
  refine mA (lA (lA (lA HOJ4.out _ ?_) _ ?_) _ ?_) zx <;> (intro e;have:=HNB4.out _ e;(try dsimp only at this);omega)
 ·intro k hk1 hk2
  rw [<-hk2] at hk1;exact HAP4.out hk1
 ·have hxh:=HXH.out
  exact Ext.setCell (Ext.setCell (Ext.setCell hxh (by dsimp only;omega) _) (by dsimp only;omega) _) (by dsimp only;omega) _
theorem same_yes (n:Int) (w:World) (h:0<=n):Calls prog 12 #[aC n,vi n] w fun e w'=>e = .returned (.bool true)/\Ext w w':=by
 by_cases h0:n=0
 ·subst h0
  show Calls _ _ #[.nilIface,vi 0] _ _;go_enter func12,ntmps12;go_wp2;go_ret;exact ⟨sp,eX⟩
 ·rw [errV_pos h0]
  have h1:0<n:=om
  have ht:∀ w,(Instr.typeAssert (.iface 92 (vi n)) 29 92 true).run prog w = .ok (.tuple #[vi n,.bool true]) w:=fun w=>by kernel_rfl
  clear h h0;go_enter func12,ntmps12;go_wp2;go_ret;exact ⟨sp,eX⟩
theorem sizeFault_nn (s:dD):0<=iC s:=by unfold iC;split <;> omega
theorem carFault_nn (c:Car):0<=gC c:=by unfold gC;split;omega;exact sizeFault_nn _
theorem levelsFrom_nn (last:dD):∀ l,0<=uB last l
 | []=>by simp [uB]
 | s :: l=>by
  have h:=levelsFrom_nn last l;have h2:=sizeFault_nn s;unfold uB
  split
  ·exact h2
  ·split
   ·omega
   ·exact h
theorem levelsFault_nn (l:List dD):0<=jB l:=by
 unfold jB
 split
 ·omega
 ·exact levelsFrom_nn _ _
def parkR (r:Except Int (gB×Int)):gB×Int×Int:=match r with | .error f=>(⟨0,[],[]⟩,0,f) | .ok x=>(x.1,x.2,0)
def wantR (r:Except Int gB):gB×Int:=match r with | .error f=>(⟨0,[],[]⟩,f) | .ok x=>(x,0)
def Back (A:Option Addr) (w:World) (x:gB) (r:Value->Value) (e:Ending) (w':World):Prop:=
 ∃ y1 d1 y2 d2,e = .returned (r (lC x.last y1 x.stays.length d1 y2 x.jobs.length d2))/\Sl w' 8 iA x.stays y1 x.stays.length d1/\Sl w' 2 jA x.jobs y2 x.jobs.length d2/\Ext w w' /\
  (∀ b o,y1=some ⟨b,o,none⟩->w.heap.size<=b\/y1=A)/\(∀ b o,y2=some ⟨b,o,none⟩->w.heap.size<=b)
theorem rH {w:World} {base e size cap n m:Nat} {y:Option Addr} {xs:List Value} (h:w.ownsRow base e size (.slice y n cap) m xs):∀ b o,y=some ⟨b,o,none⟩->base<=b:=by
 intro b o e;subst e
 rcases h.2 with ⟨h2,_⟩|⟨g,cap',cur,h2,hb,_⟩
 ·cases h2
 ·cases h2;exact hb
theorem Sl.kept {α:Type} {w w':World} {c:Nat} {enc:α->List Value} {l:List α} {a:Option Addr} {n cap T:Nat} (h:Sl w c enc l a n cap) (k:fA (Is T) w w') (hn:0<n->∀ b o,a=some ⟨b,o,none⟩->b≠T):Sl w' c enc l a n cap:=
 ⟨h.1,h.2.1,h.2.2.1,fun hp=>let ⟨b,o,e,f⟩:=h.2.2.2 hp;⟨b,o,e,fun i x hx j y hy=>k.cell (f i x hx j y hy) (hn hp b o e)⟩⟩
theorem fH.back {A:Option Addr} {w:World} {x:gB} {r:Value->Value} {e:Ending} {w':World} (h:fH w x r e w'):Back A w x r e w':=by
 obtain ⟨v1,v2,rfl,hob,hx⟩:=h;obtain ⟨y1,d1,rfl,s1⟩:=Sl.of_owns (c:=8) (enc:=iA) hob.stays dc (fun _=>rfl);obtain ⟨y2,d2,rfl,s2⟩:=Sl.of_owns (c:=2) (enc:=jA) hob.jobs dc (fun _=>rfl);exact ⟨y1,d1,y2,d2,rfl,s1,s2,hx,fun b o e=>Or.inl (rH hob.stays b o e),rH hob.jobs⟩
theorem park_back (last id lo hi he:Int) (a1:Option Addr) (m1 c1:Nat) (a2:Option Addr) (m2 c2:Nat) (aL:Option Addr) (nL cL:Nat) (l:List sA) (js:List Job) (ls:List dD) (w:World)
  (h:Sl w 8 iA l a1 m1 c1) (h2:Sl w 2 jA js a2 m2 c2) (hL:Sl w 3 yB ls aL nL cL) (n1':1<=nL) (n4:nL<=4) (hm1:m1<=100) (hm2:m2<=100) (l0:0<=last) (l9:last<=999999)
  (x:gB) (kk f:Int) (hp:Hid (parkR (park ⟨last,l,js⟩ ls ⟨id,⟨lo,hi,he⟩⟩)=(x,kk,f))):
  Calls prog 50 #[lC last a1 m1 c1 a2 m2 c2,.slice aL nL cL,.agg #[vi id,vi lo,vi hi,vi he]] w (Back none w x (fun b=>.tuple #[b,vi kk,aC f])):=by
 cases hpk:park ⟨last,l,js⟩ ls ⟨id,⟨lo,hi,he⟩⟩ with
 | error g=>
  have e:=hp.out;rw [hpk] at e;simp only [parkR,Prod.mk.injEq] at e;obtain ⟨rfl,rfl,rfl⟩:=e;refine (park_err g last id lo hi he a1 m1 c1 a2 m2 c2 aL nL cL l js ls w h h2 hL n1' n4 hpk).mono ?_;rintro e w' ⟨rfl,hx⟩;exact ⟨none,0,none,0,rfl,Sl.nil _ _ _,Sl.nil _ _ _,hx,(fun _ _ e=>by cases e),(fun _ _ e=>by cases e)⟩
 | ok r=>
  obtain ⟨x',k'⟩:=r;have e:=hp.out;rw [hpk] at e;simp only [parkR,Prod.mk.injEq] at e;obtain ⟨rfl,rfl,rfl⟩:=e;exact (park_any x' k' last id lo hi he a1 m1 c1 a2 m2 c2 aL nL cL l js ls w h h2 hL n1' n4 hm1 hm2 l0 l9 hpk).mono (fun _ _ hh=>fH.back hh)
theorem want_back (last t:Int) (a1:Option Addr) (m1 c1:Nat) (a2:Option Addr) (m2 c2:Nat) (l:List sA) (js:List Job) (w:World)
  (h:Sl w 8 iA l a1 m1 c1) (h2:Sl w 2 jA js a2 m2 c2) (hm1:m1<=100) (hm2:m2<=100) (x:gB) (f:Int) (hp:Hid (wantR (want ⟨last,l,js⟩ t)=(x,f))):
  Calls prog 54 #[lC last a1 m1 c1 a2 m2 c2,vi t] w (Back none w x (fun b=>.tuple #[b,aC f])):=by
 cases hpk:want ⟨last,l,js⟩ t with
 | error g=>
  have e:=hp.out;rw [hpk] at e;simp only [wantR,Prod.mk.injEq] at e;obtain ⟨rfl,rfl⟩:=e;refine (want_err g last t a1 m1 c1 a2 m2 c2 l js w h h2 hpk).mono ?_;rintro e w' ⟨rfl,hx⟩;exact ⟨none,0,none,0,rfl,Sl.nil _ _ _,Sl.nil _ _ _,hx,(fun _ _ e=>by cases e),(fun _ _ e=>by cases e)⟩
 | ok x'=>
  have e:=hp.out;rw [hpk] at e;simp only [wantR,Prod.mk.injEq] at e;obtain ⟨rfl,rfl⟩:=e;exact (want_any x' last t a1 m1 c1 a2 m2 c2 l js w h h2 hm1 hm2 hpk).mono (fun _ _ hh=>fH.back hh)
theorem park_nn (b:gB) (ls:List dD) (c:Car):0<=(parkR (park b ls c)).2.2:=by
 have hc:=carFault_nn c;unfold park
 split
 ·exact hc
 ·split
  ·exact (by decide:(0:Int)<=6)
  ·split
   ·exact (by decide:(0:Int)<=8)
   ·split
    ·exact (by decide:(0:Int)<=8)
    ·exact (by decide:(0:Int)<=0)
def pcond (a b c:Int) (s:sA):Bool:=s.home.level==a&&(s.home.side==b&&(s.home.depth==c || s.home.depth==0))
def wjob (a b:Int) (s:sA) (j:Job):Bool:=!j.fetch&&(j.ticket==s.ticket&&(s.home.level==a&&(s.home.side==b&&s.home.depth==1)))
def rfreeJ (js:List Job) (a b:Int) (s:sA) (f:Bool) (n:Nat):Bool:=f&&!(js.take n).any (wjob a b s)
def aJ (js:List Job) (a b c:Int) (f:Bool) (l:List sA) (k:Nat):Bool:=f&&!(l.take k).any (fun s=>pcond a b c s || js.any (wjob a b s))
theorem any_take {α:Type} {l:List α} {k:Nat} {x:α} (p:α->Bool) (h:l[k]? = some x):(l.take (k+1)).any p=((l.take k).any p || p x):=by
 rw [List.take_add_one,h,List.any_append];simp
theorem rfreeJ_step {js:List Job} {a b:Int} {s:sA} {f:Bool} {n:Nat} {j:Job} (h:js[n]? = some j):rfreeJ js a b s f (n+1)=(rfreeJ js a b s f n&&!wjob a b s j):=by
 unfold rfreeJ;rw [any_take _ h,Bool.not_or,Bool.and_assoc]
theorem rfreeTo_step {js:List Job} {a b c:Int} {f:Bool} {l:List sA} {k:Nat} {s:sA} (h:l[k]? = some s):aJ js a b c f l (k+1)=rfreeJ js a b s (aJ js a b c f l k&&!pcond a b c s) js.length:=by
 unfold aJ rfreeJ;rw [any_take _ h,List.take_length];simp only [Bool.not_or,Bool.and_assoc]
theorem blk_eq {a b c:Int} {js:List Job} {s:sA} (hd:s.home.depth=0\/s.home.depth=1) (hc:c=0\/c=1):
  (pcond a b c s || js.any (wjob a b s))=(decide (s.home=⟨a,b,c⟩) || decide (s.home=⟨a,b,0⟩) || tN js a b c s):=by
 obtain ⟨t,cr,⟨h0,h1,h2⟩⟩:=s;dsimp only at hd
 have hw:∀ x:Bool,(js.any (fun j:Job=>!j.fetch&&(j.ticket==t&&x)))=(x&&decide ((⟨t,false⟩:Job)∈js)):=by
  intro x;cases x
  ·simp
  ·rw [Bool.eq_iff_iff]
   simp only [List.any_eq_true,Bool.and_eq_true,Bool.not_eq_true',beq_iff_eq,decide_eq_true_eq,true_and,and_true];constructor
   ·rintro ⟨⟨jt,jf⟩,hm,h1,h2⟩
    dsimp only at h1 h2;subst h1 h2;exact hm
   ·intro hm
    exact ⟨_,hm,rfl,rfl⟩
 unfold pcond tN;have e:js.any (wjob a b ⟨t,cr,⟨h0,h1,h2⟩⟩)=((h0==a&&(h1==b&&h2==1))&&decide ((⟨t,false⟩:Job)∈js)):=hw _;rw [e];have hf:aH ⟨h0,h1,h2⟩=⟨h0,h1,0⟩:=rfl;dsimp only;rw [hf]
 by_cases e0:h0=a
 ·by_cases e1:h1=b
  ·subst e0 e1
   rcases hd with rfl|rfl <;> rcases hc with rfl|rfl <;> simp
  ·simp [e1]
 ·simp [e0]
theorem rfree_do {js:List Job} {l:List sA} {ls:List dD} {z:dD} {a b c:Int} {f:Bool} (hd:∀ s∈l,s.home.depth=0\/s.home.depth=1) (hc:c=0\/c=1) (hf:f=pM z (ls.getD (a - 1).toNat default)):
  aJ js a b c f l l.length=doP l js ls z ⟨a,b,c⟩:=by
 unfold aJ doP;rw [List.take_length,hf]
 have e:l.any (fun s=>pcond a b c s || js.any (wjob a b s))=(hasB l a b c || hasB l a b 0 || waitsB l js a b c):=by
  unfold hasB waitsB
  induction l with
  | nil=>rfl
  | cons s l ih=>
   simp only [List.any_cons];rw [ih (fun x hx=>hd x (by simp [hx])),blk_eq (hd s sp) hc]
   cases decide (s.home=(⟨a,b,c⟩:pB)) <;> cases decide (s.home=(⟨a,b,0⟩:pB)) <;> cases tN js a b c s <;> simp
 rw [e];simp only [Bool.not_or,Bool.and_assoc]
theorem rfits_at (F:Bool) (a b c a' b' c':Int) (w:World) (hf:Hid (pM ⟨a,b,c⟩ ⟨a',b',c'⟩=F)):Calls prog 38 #[.agg #[vi a,vi b,vi c],.agg #[vi a',vi b',vi c']] w fun e w'=>e = .returned (.bool F)/\Ext w w':=by
 have:=rfits_f a b c a' b' c' w;rw [hf.out] at this;exact this
theorem rpicked_any (last id lo hi he:Int) (a1:Option Addr) (m1 c1:Nat) (a2:Option Addr) (m2 c2:Nat) (aL:Option Addr) (nL cL:Nat) (l:List sA) (js:List Job) (ls:List dD) (w:World)
  (h:Sl w 8 iA l a1 m1 c1) (h2:Sl w 2 jA js a2 m2 c2) (hL:Sl w 3 yB ls aL nL cL) (n1':1<=nL) (n4:nL<=4) (hdp:∀ s∈l,s.home.depth=0\/s.home.depth=1):
  Calls prog 101 #[lC last a1 m1 c1 a2 m2 c2,.slice aL nL cL,.agg #[vi id,vi lo,vi hi,vi he]] w fun e w'=>e = .returned (pickV (pick ⟨last,l,js⟩ ls ⟨id,⟨lo,hi,he⟩⟩))/\Ext w w':=by
 have b1:=hL.bound;have bs0:=h.bound;have bj0:=h2.bound;have HDEP:=aA hdp;have HF:=aA h;have HJ:=aA h2;have HL:=aA hL;have E3:=aA hL.len
 have i1:(1:Int)<=(nL:Int):=om
 have i4:(nL:Int)<=4:=om
 clear h h2 hL hdp;go_enter func101,ntmps101
 go_upto_region 2 with (go_at_call 162;refine (rplaces_any _ _ i1 i4).mono ?_;rintro e w1 hh;obtain ⟨pa,pn,pc,rfl,hpl,oP,nP,rfl⟩:=yG.sl hh;clear hh)
 generalize hW:World.plus _ _ _=wB at hpl ⊢
 have kc0:wB.cell? ⟨w.heap.size,0,none⟩=some (vi last):=by rw [<-hW,cB _ _ _ _ _ _ so];simp [go_sem]
 have kc1:wB.cell? ⟨w.heap.size,1,none⟩=some (.slice a1 m1 c1):=by rw [<-hW,cB _ _ _ _ _ _ so];simp [go_sem]
 have kc2:wB.cell? ⟨w.heap.size,2,none⟩=some (.slice a2 m2 c2):=by rw [<-hW,cB _ _ _ _ _ _ so];simp [go_sem]
 have qc1:wB.cell? ⟨w.heap.size+1,1,none⟩=some (vi lo):=by rw [<-hW,cB _ _ _ _ _ _ so];simp [go_sem]
 have qc2:wB.cell? ⟨w.heap.size+1,2,none⟩=some (vi hi):=by rw [<-hW,cB _ _ _ _ _ _ so];simp [go_sem]
 have qc3:wB.cell? ⟨w.heap.size+1,3,none⟩=some (vi he):=by rw [<-hW,cB _ _ _ _ _ _ so];simp [go_sem]
 have tc0:wB.cell? ⟨w.heap.size+1+1,0,none⟩=some (vi 0):=by rw [<-hW,cB _ _ _ _ _ _ so];simp [go_sem]
 have tc1:wB.cell? ⟨w.heap.size+1+1,1,none⟩=some (vi 0):=by rw [<-hW,cB _ _ _ _ _ _ so];simp [go_sem]
 have tc2:wB.cell? ⟨w.heap.size+1+1,2,none⟩=some (vi 0):=by rw [<-hW,cB _ _ _ _ _ _ so];simp [go_sem]
 have fz:∀ i,wB.frozen? ⟨w.heap.size+1+1,i,none⟩=false:=by intro i;rw [<-hW,bN _ _ _ _ _ _ so];simp [go_sem]
 have hx:Ext w wB:=xQ hW;have HXC:=aA hx;have zc1:=cA kc0;have zc2:=cA qc1;have zc3:=cA tc0;have hpb:=hpl.bound;have HPN:=aA hpl.len;have HPL0:=aA hpl;have HSC:=aA (Sl.below HF.out hx.below);have HKC:=aA (Sl.below HJ.out hx.below);have HZC:=aA (Sl.below HL.out hx.below);have FZ:=aA fz
 have HPK:Hid (pick ⟨last,l,js⟩ ls ⟨id,⟨lo,hi,he⟩⟩=(aE (nL:Int)).find? (doP l js ls ⟨lo,hi,he⟩)):=by unfold Hid;rw [pick_doP,E3.out]
 clear hW hx hpl fz;go_wp2
 go_loopw [9] (fun i wr=>∃ k:Nat,k<=pn/\i = .int .i64 k/\Hid ((aE (nL:Int)).find? (doP l js ls ⟨lo,hi,he⟩)=((aE (nL:Int)).drop k).find? (doP l js ls ⟨lo,hi,he⟩))/\Ext wB wr) (fun i _=>pn - (intOf i).toNat)
 case atStart=>exact ⟨0,om,rfl,by simp [Hid],eX⟩
 case round=>
  obtain ⟨k,hk,rfl,HT,o,m,rfl⟩:=hrel
  by_cases hlt:k<pn
  ·obtain ⟨b,q,x,rfl,hx,dx⟩:=HPL0.out.get hlt
   have dx:=at3 dx;have hq:=cA dx.1;have HXX:=aA hx;have hok:=places_ok (n:=(nL:Int)) i4 x (List.mem_of_getElem? hx);have hokk:=uC.1 hok;obtain ⟨u,v,z⟩:=x;dsimp only at dx hokk
   obtain ⟨j,rfl⟩:∃ j:Nat,u=(j:Int)+1:=⟨(u - 1).toNat,om⟩
   have hz01:z=0\/z=1:=om
   have hjl:j<nL:=om
   have hj0:(0:Int)<=(j:Int):=om
   have hj1:(j:Int)<(nL:Int):=om
   have hw1:IntKind.i64.wrap (j:Int)=(j:Int):=IntWalk.i64_in _ om
   have hw2:IntKind.i64.wrap ((j:Int)+1 - 1)=(j:Int):=by rw [show (j:Int)+1 - 1=j by omega];exact hw1
   have hkp:(k:Int)<(pn:Int):=om
   obtain ⟨lb,lq,s,rfl,hs,ds⟩:=HZC.out.get hjl;have ds:=at3 ds;have hlb:=cA ds.1;obtain ⟨s0,s1,s2⟩:=s;dsimp only at ds;generalize hF:pM ⟨lo,hi,he⟩ ⟨s0,s1,s2⟩=F
   have HD:Hid (aJ js ((j:Int)+1) v z F l l.length=doP l js ls ⟨lo,hi,he⟩ ⟨(j:Int)+1,v,z⟩):=by
    unfold Hid;refine rfree_do HDEP.out hz01 ?_;rw [<-hF,show ((j:Int)+1 - 1).toNat=j by omega,List.getD_eq_getElem?_getD,hs];rfl
   have HFF:=aA hF;clear hx hok hokk hs hF
   go_upto_region 5 with fail
   (refine rA kR kR ?_;(repeat (first|go_big_quiet_step ((first|(intro _;go_at_call 38;exact qC (rfits_at F _ _ _ _ _ _ _ HFF))))|quiet_step (fail)));refine wpQuiet_nil ?_;rintro _ ⟨oq,nq,rfl⟩)
   go_wp2
   go_loopw [10,11] (fun fv i wk=>∃ kk:Nat,kk<=m1/\i = .int .i64 kk/\fv = .bool (aJ js ((j:Int)+1) v z F l kk)/\Ext wB wk) (fun _ i _=>m1 - (intOf i).toNat)
   case atStart=>exact ⟨0,om,rfl,by simp [aJ],eX⟩
   case round=>
    obtain ⟨kk,hkk,rfl,rfl,o',m',rfl⟩:=hrel
    by_cases hlk:kk<m1
    ·obtain ⟨sb,sq,st,rfl,hst,dst⟩:=HSC.out.get hlk
     have dst:=at8 dst;have hsb:=cA dst.1;obtain ⟨t,⟨ci,⟨cx,cy,cz⟩⟩,⟨h0,h1,h2⟩⟩:=st;dsimp only at dst;have HSS:=aA hst
     have hkj:(kk:Int)<(m1:Int):=om
     clear hst;generalize hFK:aJ js ((j:Int)+1) v z F l kk=FK;have HFK:=aA hFK;clear hFK
     obtain ⟨G,HG⟩:∃ G,Hid (pcond ((j:Int)+1) v z ⟨t,⟨ci,⟨cx,cy,cz⟩⟩,⟨h0,h1,h2⟩⟩=G):=⟨_,rfl⟩
     go_upto_region 10 with fail
     generalize hW:World.alloc _ _=wd;generalize hDD:wB.heap.size+o'.size=DD;have hxd:Ext wB wd:=xQ hW;have hd0:cI wd DD 0 h0:=cR hW hDD;have hd1:cI wd DD 1 h1:=cR hW hDD;have hd2:cI wd DD 2 h2:=cR hW hDD;have HXD:=aA hxd;have kd0:=eA hxd kc0;have kd1:=eA hxd kc1;have kd2:=eA hxd kc2;have dp0:=eA hxd dx.1;have dp1:=eA hxd dx.2.1;have dp2:=eA hxd dx.2.2;have ds0:=eA hxd dst.1;have zd0:=cA hd0;have zd1:=cA kd0;have zd2:=cA dp0;have zd3:=cA ds0;clear hW hDD hxd
     go_cut [81] (fun c wx=>c = .bool G/\Ext wd wx)
     case first=>
      have hg:=HG.out;unfold pcond at hg;dsimp only at hg
      cases e1:(h0==(j:Int)+1)
      ·(refine qF ?_;rintro _ ⟨oq,nq,rfl⟩)
       go_wp2_with fail;go_meet;exact ⟨congrArg Value.bool (by rw [<-hg];simp [e1]),eX⟩
      cases e2:(h1==v)
      ·(refine qF ?_;rintro _ ⟨oq,nq,rfl⟩)
       go_wp2_with fail;go_meet;exact ⟨congrArg Value.bool (by rw [<-hg];simp [e1,e2]),eX⟩
      cases e3:(h2==z)
      ·cases e4:(h2==0)
       ·(refine qF ?_;rintro _ ⟨oq,nq,rfl⟩)
        go_wp2_with fail;go_meet;exact ⟨congrArg Value.bool (by rw [<-hg];simp [e1,e2,e3,e4]),eX⟩
       (refine qF ?_;rintro _ ⟨oq,nq,rfl⟩)
       go_wp2_with fail;go_meet;exact ⟨congrArg Value.bool (by rw [<-hg];simp [e1,e2,e3,e4]),eX⟩
      (refine qF ?_;rintro _ ⟨oq,nq,rfl⟩)
      go_wp2_with fail;go_meet;exact ⟨congrArg Value.bool (by rw [<-hg];simp [e1,e2,e3]),eX⟩
     case rest=>
      obtain ⟨rfl,o5,n5,rfl⟩:=hcut
      go_upto_if 81 with fail
      go_cut [10] (fun c wx=>c = .bool (FK&&!G)/\Ext wd wx)
      case first=>
       cases G
       all_goals
        go_wp2_with fail;go_meet;exact ⟨congrArg Value.bool sp,eX⟩
      case rest=>
       obtain ⟨rfl,o6,n6,rfl⟩:=hcut;generalize hFG:(FK&&!G)=FG;have HFG:=aA hFG;clear hFG;go_wp2
       go_loopw [10,13] (fun fv i wj=>∃ nn:Nat,nn<=m2/\i = .int .i64 nn/\fv = .bool (rfreeJ js ((j:Int)+1) v ⟨t,⟨ci,⟨cx,cy,cz⟩⟩,⟨h0,h1,h2⟩⟩ FG nn)/\Ext wd wj) (fun _ i _=>m2 - (intOf i).toNat)
       case atStart=>exact ⟨0,om,rfl,congrArg Value.bool (by simp [rfreeJ]),eX⟩
       case round=>
        obtain ⟨nn,hnn,rfl,rfl,o2,m2',rfl⟩:=hrel
        by_cases hln:nn<m2
        ·obtain ⟨jb,jq,jj,rfl,hjj,dj⟩:=HKC.out.get hln
         have dj:=at2 dj;obtain ⟨jt,jf⟩:=jj;dsimp only at dj;have dj0:=eA HXD.out dj.1;have dj1:=eA HXD.out dj.2;have zj:=cA dj0;have HST:=aA (rfreeJ_step (a:=(j:Int)+1) (b:=v) (s:=⟨t,⟨ci,⟨cx,cy,cz⟩⟩,⟨h0,h1,h2⟩⟩) (f:=FG) hjj)
         have hnj:(nn:Int)<(m2:Int):=om
         obtain ⟨W,HW⟩:∃ W,Hid (wjob ((j:Int)+1) v ⟨t,⟨ci,⟨cx,cy,cz⟩⟩,⟨h0,h1,h2⟩⟩ ⟨jt,jf⟩=W):=⟨_,rfl⟩
         clear hjj dj
         go_upto_region 16 with fail
         generalize hW:World.alloc _ _=we;generalize hDE:wd.heap.size+o2.size=DE;have hxe:Ext wd we:=xQ hW;have he0:cI we DE 0 jt:=cR hW hDE;have he1:cV we DE 1 (.bool jf):=cR hW hDE;have HXE:=aA hxe;have ge0:=eA hxe hd0;have ge1:=eA hxe hd1;have ge2:=eA hxe hd2;have ke0:=eA hxe kd0;have ke1:=eA hxe kd1;have ke2:=eA hxe kd2;have pe0:=eA hxe dp0;have pe1:=eA hxe dp1;have pe2:=eA hxe dp2;have se0:=eA hxe ds0;have ze0:=cA he0;have ze1:=cA ge0;have ze2:=cA ke0;have ze3:=cA pe0;have ze4:=cA se0;clear hW hDE hxe
         go_cut [132] (fun c wx=>c = .bool W/\Ext we wx)
         case first=>
          have hg:=HW.out;unfold wjob at hg;dsimp only at hg;cases jf
          rotate_left
          ·(refine qF ?_;rintro _ ⟨oq,nq,rfl⟩)
           go_wp2_with fail;go_meet;exact ⟨congrArg Value.bool (by rw [<-hg];simp),eX⟩
          cases e5:(jt==t)
          ·(refine qF ?_;rintro _ ⟨oq,nq,rfl⟩)
           go_wp2_with fail;go_meet;exact ⟨congrArg Value.bool (by rw [<-hg];simp [e5]),eX⟩
          cases e1:(h0==(j:Int)+1)
          ·(refine qF ?_;rintro _ ⟨oq,nq,rfl⟩)
           go_wp2_with fail;go_meet;exact ⟨congrArg Value.bool (by rw [<-hg];simp [e5,e1]),eX⟩
          cases e2:(h1==v)
          ·(refine qF ?_;rintro _ ⟨oq,nq,rfl⟩)
           go_wp2_with fail;go_meet;exact ⟨congrArg Value.bool (by rw [<-hg];simp [e5,e1,e2]),eX⟩
          cases e3:(h2==1)
          ·(refine qF ?_;rintro _ ⟨oq,nq,rfl⟩)
           go_wp2_with fail;go_meet;exact ⟨congrArg Value.bool (by rw [<-hg];simp [e5,e1,e2,e3]),eX⟩
          (refine qF ?_;rintro _ ⟨oq,nq,rfl⟩)
          go_wp2_with fail;go_meet;exact ⟨congrArg Value.bool (by rw [<-hg];simp [e5,e1,e2,e3]),eX⟩
         case rest=>
          obtain ⟨rfl,o7,n7,rfl⟩:=hcut;cases W
          all_goals
           go_wp2;go_roundw
           case rel=>first|exact ⟨nn+1,om,by go_num,congrArg Value.bool (by rw [HST.out,HW.out];simp),HXE.out.trans eX⟩|(repeat apply Exists.intro;refine ⟨?_,rfl⟩;exact ⟨nn+1,om,by go_num,congrArg Value.bool (by rw [HST.out,HW.out];simp),HXE.out.trans eX⟩)
           case measure=>simp [intOf];omega
        ·have hnm:nn=js.length:=by have:=HKC.out.len;omega
         have HST2:Hid (aJ js ((j:Int)+1) v z F l (kk+1)=rfreeJ js ((j:Int)+1) v ⟨t,⟨ci,⟨cx,cy,cz⟩⟩,⟨h0,h1,h2⟩⟩ FG js.length):=by unfold Hid;rw [rfreeTo_step HSS.out,HG.out,HFK.out,HFG.out]
         subst hnm;go_wp2;go_roundw
         case rel=>first|exact ⟨kk+1,om,by go_num,congrArg Value.bool HST2.out.symm,HXD.out.trans eX⟩|(repeat apply Exists.intro;refine ⟨?_,rfl⟩;exact ⟨kk+1,om,by go_num,congrArg Value.bool HST2.out.symm,HXD.out.trans eX⟩)
         case measure=>simp [intOf];omega
    ·have hkm:kk=l.length:=by have:=HSC.out.len;omega
     subst hkm;cases hv:doP l js ls ⟨lo,hi,he⟩ ⟨(j:Int)+1,v,z⟩
     ·have hv3:aJ js ((j:Int)+1) v z F l l.length=false:=by rw [HD.out];exact hv
      have HV:=aA hv;rw [hv3];clear hv hv3;go_wp2;go_roundw
      case rel=>first|exact ⟨k+1,om,by go_num,by unfold Hid;rw [HT.out];exact sK HXX.out HV.out,eX⟩|(repeat apply Exists.intro;refine ⟨?_,rfl⟩;exact ⟨k+1,om,by go_num,by unfold Hid;rw [HT.out];exact sK HXX.out HV.out,eX⟩)
      case measure=>simp [intOf];omega
     ·have hv3:aJ js ((j:Int)+1) v z F l l.length=true:=by rw [HD.out];exact hv
      have HR:Hid (pick ⟨last,l,js⟩ ls ⟨id,⟨lo,hi,he⟩⟩=some ⟨(j:Int)+1,v,z⟩):=by unfold Hid;rw [HPK.out,HT.out,find_yes HXX.out hv]
      rw [hv3];clear hv hv3
      go_upto_region 19 with fail
      generalize hZ:World.plus _ _ _=wz;have hxz:Ext wB wz:=xQ hZ;clear hZ;have y0:=kA hxz zc3 (FZ.out 0);have y1:=kA hxz zc3 (FZ.out 1);have y2:=kA hxz zc3 (FZ.out 2);have t0:=eA hxz tc0;have t1:=eA hxz tc1;have t2:=eA hxz tc2;have x0:=eA hxz dx.1;have x1:=eA hxz dx.2.1;have x2:=eA hxz dx.2.2;have HXZ:=aA (HXC.out.trans hxz);clear hxz tc0 tc1 tc2 dx kc0 kc1 kc2 qc1 qc2 qc3;go_wp2;obtain ⟨p0,p1,p2,px⟩:=put3 (w:=w) (x:=vi ((j:Int)+1)) (y:=vi v) (z:=vi z) HXZ.out (show w.heap.size<=w.heap.size+1+1 by omega) t0 t1 t2;exact bodyPost_ret (v:=.tuple #[.agg #[vi ((j:Int)+1),vi v,vi z],.bool true]) (by simp [results,results101,go_sem,p0,p1,p2]) rfl ⟨by rw [HR.out];rfl,px⟩
  ·have hkq:k=pn:=om
   subst hkq
   go_upto_region 20 with fail
   generalize hZ:World.plus _ _ _=wz;have hxz:Ext wB wz:=xQ hZ;clear hZ;have y0:=kA hxz zc3 (FZ.out 0);have y1:=kA hxz zc3 (FZ.out 1);have y2:=kA hxz zc3 (FZ.out 2);have t0:=eA hxz tc0;have t1:=eA hxz tc1;have t2:=eA hxz tc2;have HXZ:=aA (HXC.out.trans hxz);clear hxz tc0 tc1 tc2 kc0 kc1 kc2 qc1 qc2 qc3;go_wp2;obtain ⟨p0,p1,p2,px⟩:=put3 (w:=w) (x:=vi 0) (y:=vi 0) (z:=vi 0) HXZ.out (show w.heap.size<=w.heap.size+1+1 by omega) t0 t1 t2;refine bodyPost_ret (v:=.tuple #[.agg #[vi 0,vi 0,vi 0],.bool false]) (by simp [results,results101,go_sem,p0,p1,p2]) rfl ⟨?_,px⟩;rw [HPK.out,HT.out,List.drop_of_length_le (by have:=HPN.out;omega)];rfl
