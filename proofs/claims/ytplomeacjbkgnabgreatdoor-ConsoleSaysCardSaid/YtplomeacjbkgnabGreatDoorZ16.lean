import Derived.Test.YtplomeacjbkgnabGreatDoorZ15
set_option linter.all false
set_option maxRecDepth 100000
set_option maxHeartbeats 16000000
namespace Go.Proofs.YtplomeacjbkgnabGreatDoor
open Go.RowKit Tryz Ch
structure eB (w:World) (T:Nat) (x y z:Value):Prop where
 c0:w.cell? ⟨T,0,none⟩=some x
 c1:w.cell? ⟨T,1,none⟩=some y
 c2:w.cell? ⟨T,2,none⟩=some z
 fz:∀ i,w.frozen? ⟨T,i,none⟩=false
theorem eB.lt {w:World} {T:Nat} {x y z:Value} (h:eB w T x y z):T<w.heap.size:=cA h.c0
theorem eB.same {w w':World} {T:Nat} {x y z:Value} (h:eB w T x y z) (e:w'.heap[T]? = w.heap[T]?):eB w' T x y z:=
 ⟨(World.cell?_of_block e).trans h.c0,(World.cell?_of_block e).trans h.c1,(World.cell?_of_block e).trans h.c2,fun i=>(World.frozen?_of_block e).trans (h.fz i)⟩
theorem eB.ext {w w':World} {T:Nat} {x y z:Value} (h:eB w T x y z) (e:Ext w w'):eB w' T x y z:=by
 obtain ⟨o,n,rfl⟩:=e;exact h.same (dB w o n T h.lt)
theorem eB.grown {w w':World} {row:Option Nat} {T:Nat} {x y z:Value} (h:eB w T x y z) (g:w.grownBy w' row) (hn:row≠some T):eB w' T x y z:=
 h.same (g.block T h.lt (fun e=>hn e.symm))
theorem eB.far {w:World} {T:Nat} {x y z:Value} (h:eB w T x y z) {a:Addr} (u:Value) (hn:a.block≠T):eB (w.setCell a u) T x y z:=
 h.same (kB (fun e=>hn e.symm))
theorem eB.set0 {w:World} {T:Nat} {x y z:Value} (h:eB w T x y z) (u:Value):eB (w.setCell ⟨T,0,none⟩ u) T u y z:=
 ⟨World.cell?_setCell_same _ _ _ h.c0,by rw [World.cell?_setCell_other (h:=by intro e;cases e)];exact h.c1,by rw [World.cell?_setCell_other (h:=by intro e;cases e)];exact h.c2,fun i=>by rw [World.frozen?_setCell];exact h.fz i⟩
theorem eB.set1 {w:World} {T:Nat} {x y z:Value} (h:eB w T x y z) (u:Value):eB (w.setCell ⟨T,1,none⟩ u) T x u z:=
 ⟨by rw [World.cell?_setCell_other (h:=by intro e;cases e)];exact h.c0,World.cell?_setCell_same _ _ _ h.c1,by rw [World.cell?_setCell_other (h:=by intro e;cases e)];exact h.c2,fun i=>by rw [World.frozen?_setCell];exact h.fz i⟩
theorem eB.set2 {w:World} {T:Nat} {x y z:Value} (h:eB w T x y z) (u:Value):eB (w.setCell ⟨T,2,none⟩ u) T x y u:=
 ⟨by rw [World.cell?_setCell_other (h:=by intro e;cases e)];exact h.c0,by rw [World.cell?_setCell_other (h:=by intro e;cases e)];exact h.c1,World.cell?_setCell_same _ _ _ h.c2,fun i=>by rw [World.frozen?_setCell];exact h.fz i⟩
theorem eB.set {w:World} {T:Nat} {x y z:Value} (h:eB w T x y z) (x' y' z':Value):eB (((w.setCell ⟨T,0,none⟩ x').setCell ⟨T,1,none⟩ y').setCell ⟨T,2,none⟩ z') T x' y' z':=((h.set0 x').set1 y').set2 z'
theorem pJ (V:Value) (x a b c:Int) (w:World) (hv:Hid (aC (gC ⟨x,⟨a,b,c⟩⟩)=V)):Calls prog 93 #[.agg #[vi x,vi a,vi b,vi c]] w fun e w'=>e = .returned V/\Ext w w':=by
 have:=qG x a b c w;rw [hv.out] at this;exact this
theorem of_at (fi last t:Int) (a1:Option Addr) (m1 c1:Nat) (a2:Option Addr) (m2 c2:Nat) (l:List sA) (w:World) (h:Sl w 8 iA l a1 m1 c1) (hf:Hid (cC (fun s=>s.car.id==t) l=fi)):
  Calls prog 94 #[lC last a1 m1 c1 a2 m2 c2,vi t] w fun e w'=>e = .returned (vi fi)/\Ext w w':=by
 have:=of_any last t a1 m1 c1 a2 m2 c2 l w h;rw [hf.out] at this;exact this
theorem pick_at (px py pz:Int) (bb:Bool) (last id lo hi he:Int) (a1:Option Addr) (m1 c1:Nat) (a2:Option Addr) (m2 c2:Nat) (aL:Option Addr) (nL cL:Nat) (l:List sA) (js:List Job) (ls:List dD) (w:World)
  (h:Sl w 8 iA l a1 m1 c1) (h2:Sl w 2 jA js a2 m2 c2) (hL:Sl w 3 yB ls aL nL cL) (n1':1<=nL) (n4:nL<=4) (hv:Hid (pickV (pick ⟨last,l,js⟩ ls ⟨id,⟨lo,hi,he⟩⟩) = .tuple #[.agg #[vi px,vi py,vi pz],.bool bb])):
  Calls prog 95 #[lC last a1 m1 c1 a2 m2 c2,.slice aL nL cL,.agg #[vi id,vi lo,vi hi,vi he]] w fun e w'=>e = .returned (.tuple #[.agg #[vi px,vi py,vi pz],.bool bb])/\Ext w w':=by
 have:=pick_any last id lo hi he a1 m1 c1 a2 m2 c2 aL nL cL l js ls w h h2 hL n1' n4;rw [hv.out] at this;exact this
theorem of_none {l:List sA} {t:Int} {last:Int} {js:List Job} (h:((⟨last,l,js⟩:gB).of t).isSome=false):cC (fun s:sA=>s.car.id==t) l=-1:=by
 apply index_none
 simpa [gB.of] using h
theorem cN {l:List sA} {t:Int} {last:Int} {js:List Job} (h:((⟨last,l,js⟩:gB).of t).isSome=true):∃ i:Nat,cC (fun s:sA=>s.car.id==t) l=i:=by
 apply index_some
 simpa [gB.of] using h
abbrev parkErrV (f:Int):Value:=.tuple #[lC 0 none 0 0 none 0 0,vi 0,aC f]
theorem park_err (f last id lo hi he:Int) (a1:Option Addr) (m1 c1:Nat) (a2:Option Addr) (m2 c2:Nat) (aL:Option Addr) (nL cL:Nat) (l:List sA) (js:List Job) (ls:List dD) (w:World)
  (h:Sl w 8 iA l a1 m1 c1) (h2:Sl w 2 jA js a2 m2 c2) (hL:Sl w 3 yB ls aL nL cL) (n1':1<=nL) (n4:nL<=4) (hp:Hid (park ⟨last,l,js⟩ ls ⟨id,⟨lo,hi,he⟩⟩ = .error f)):
  Calls prog 50 #[lC last a1 m1 c1 a2 m2 c2,.slice aL nL cL,.agg #[vi id,vi lo,vi hi,vi he]] w fun e w'=>e = .returned (parkErrV f)/\Ext w w':=by
 have b1:=h.bound;have b2:=h2.bound;have HF:=aA h;have HJ:=aA h2;have HL:=aA hL;have E2:=aA h2.len;clear h h2 hL
 by_cases hc:gC ⟨id,⟨lo,hi,he⟩⟩=0
 ·have HC:Hid (aC (gC ⟨id,⟨lo,hi,he⟩⟩) = .nilIface):=by unfold Hid;rw [hc];rfl
  cases ho:((⟨last,l,js⟩:gB).of id).isSome
  ·have HO:Hid (cC (fun s:sA=>s.car.id==id) l=-1):=of_none ho
   obtain ⟨px,py,pz,bb,HPV⟩:∃ px py pz bb,Hid (pickV (pick ⟨last,l,js⟩ ls ⟨id,⟨lo,hi,he⟩⟩) = .tuple #[.agg #[vi px,vi py,vi pz],.bool bb]):=⟨_,_,_,_,rfl⟩
   have HE:Hid (f=8):=by
    have e:=hp.out;unfold park at e;rw [if_neg (by rw [hc];simp),if_neg (by rw [ho];simp)] at e;unfold Hid
    cases hpk:pick ⟨last,l,js⟩ ls ⟨id,⟨lo,hi,he⟩⟩ with
    | none=>rw [hpk] at e;cases e;rfl
    | some q=>
     rw [hpk] at e;dsimp only at e
     split at e
     ·cases e;rfl
     ·cases e
   have HB:Hid (bb=true->last=999999\/js.length=8):=by
    have e:=hp.out;unfold park at e;rw [if_neg (by rw [hc];simp),if_neg (by rw [ho];simp)] at e;intro hb;have e2:=HPV.out
    cases hpk:pick ⟨last,l,js⟩ ls ⟨id,⟨lo,hi,he⟩⟩ with
    | none=>rw [hpk,hb] at e2;simp [pickV] at e2
    | some q=>
     rw [hpk] at e;dsimp only at e
     split at e
     ·assumption
     ·cases e
   clear hc ho;cases bb
   ·go_enter func50,ntmps50
    go_wp2_with (first
     | (go_at_call 93;with_reducible refine mo (pJ _ _ _ _ _ _ HC) fun o1 n1=>?_)
     | (go_at_call 94;with_reducible refine mo (of_at _ _ _ _ _ _ _ _ _ l _ (Sl.below HF.out (Ext.below eX)) HO) fun o1 n1=>?_)
     | (go_at_call 95;with_reducible refine mo (pick_at _ _ _ _ _ _ _ _ _ _ _ _ _ _ _ _ _ _ l js ls _ (Sl.below HF.out (Ext.below eX)) (Sl.below HJ.out (Ext.below eX)) (Sl.below HL.out (Ext.below eX)) n1' n4 HPV) fun o1 n1=>?_))
    exact bodyPost_ret (v:=parkErrV 8) (by simp [results,results50,go_sem];rfl) rfl ⟨by rw [HE.out],(by repeat' (first|(with_reducible refine Ext.alloc ?_ _)|(with_reducible refine Ext.plus ?_ _ _)|(with_reducible refine Ext.setCell ?_ (by first|omega|(dsimp only;omega)) _)|(with_reducible refine Ext.drew ?_)|(with_reducible assumption)|(with_reducible exact Ext.refl _)))⟩
   ·by_cases hl:last=999999
    ·have hl1:(last==999999)=true:=by simp [hl]
     clear hl;go_enter func50,ntmps50
     go_wp2_with (first
      | (go_at_call 93;with_reducible refine mo (pJ _ _ _ _ _ _ HC) fun o1 n1=>?_)
      | (go_at_call 94;with_reducible refine mo (of_at _ _ _ _ _ _ _ _ _ l _ (Sl.below HF.out (Ext.below eX)) HO) fun o1 n1=>?_)
      | (go_at_call 95;with_reducible refine mo (pick_at _ _ _ _ _ _ _ _ _ _ _ _ _ _ _ _ _ _ l js ls _ (Sl.below HF.out (Ext.below eX)) (Sl.below HJ.out (Ext.below eX)) (Sl.below HL.out (Ext.below eX)) n1' n4 HPV) fun o1 n1=>?_))
     exact bodyPost_ret (v:=parkErrV 8) (by simp [results,results50,go_sem];rfl) rfl ⟨by rw [HE.out],(by repeat' (first|(with_reducible refine Ext.alloc ?_ _)|(with_reducible refine Ext.plus ?_ _ _)|(with_reducible refine Ext.setCell ?_ (by first|omega|(dsimp only;omega)) _)|(with_reducible refine Ext.drew ?_)|(with_reducible assumption)|(with_reducible exact Ext.refl _)))⟩
    ·have hm:((m2:Int)==8)=true:=by
      have:=HB.out rfl;have e:=E2.out;simp;omega
     have hl1:(last==999999)=false:=by simp [hl]
     clear hl;go_enter func50,ntmps50
     go_wp2_with (first
      | (go_at_call 93;with_reducible refine mo (pJ _ _ _ _ _ _ HC) fun o1 n1=>?_)
      | (go_at_call 94;with_reducible refine mo (of_at _ _ _ _ _ _ _ _ _ l _ (Sl.below HF.out (Ext.below eX)) HO) fun o1 n1=>?_)
      | (go_at_call 95;with_reducible refine mo (pick_at _ _ _ _ _ _ _ _ _ _ _ _ _ _ _ _ _ _ l js ls _ (Sl.below HF.out (Ext.below eX)) (Sl.below HJ.out (Ext.below eX)) (Sl.below HL.out (Ext.below eX)) n1' n4 HPV) fun o1 n1=>?_))
     exact bodyPost_ret (v:=parkErrV 8) (by simp [results,results50,go_sem];rfl) rfl ⟨by rw [HE.out],(by repeat' (first|(with_reducible refine Ext.alloc ?_ _)|(with_reducible refine Ext.plus ?_ _ _)|(with_reducible refine Ext.setCell ?_ (by first|omega|(dsimp only;omega)) _)|(with_reducible refine Ext.drew ?_)|(with_reducible assumption)|(with_reducible exact Ext.refl _)))⟩
  ·obtain ⟨fi,hfi⟩:=cN ho
   have HO:Hid (cC (fun s:sA=>s.car.id==id) l=(fi:Int)):=hfi
   have HE:Hid (f=6):=by
    have e:=hp.out;unfold park at e;rw [if_neg (by rw [hc];simp),if_pos ho] at e;cases e;rfl
   have hfi0:(0:Int)<=(fi:Int):=om
   clear hc ho hfi;go_enter func50,ntmps50
   go_wp2_with (first
    | (go_at_call 93;with_reducible refine mo (pJ _ _ _ _ _ _ HC) fun o1 n1=>?_)
    | (go_at_call 94;with_reducible refine mo (of_at _ _ _ _ _ _ _ _ _ l _ (Sl.below HF.out (Ext.below eX)) HO) fun o1 n1=>?_))
   exact bodyPost_ret (v:=parkErrV 6) (by simp [results,results50,go_sem];rfl) rfl ⟨by rw [HE.out],(by repeat' (first|(with_reducible refine Ext.alloc ?_ _)|(with_reducible refine Ext.plus ?_ _ _)|(with_reducible refine Ext.setCell ?_ (by first|omega|(dsimp only;omega)) _)|(with_reducible refine Ext.drew ?_)|(with_reducible assumption)|(with_reducible exact Ext.refl _)))⟩
 ·obtain ⟨E,HC⟩:∃ E,Hid (aC (gC ⟨id,⟨lo,hi,he⟩⟩) = .iface 92 (vi E)):=⟨_,by unfold Hid aC;rw [if_neg hc]⟩
  have HE:Hid (aC f = .iface 92 (vi E)):=by
   have e:=hp.out;unfold park at e;rw [if_pos hc] at e;cases e;exact HC.out
  clear hc;go_enter func50,ntmps50;go_wp2_with (first|(go_at_call 93;with_reducible refine mo (pJ _ _ _ _ _ _ HC) fun o1 n1=>?_));exact bodyPost_ret (v:=.tuple #[lC 0 none 0 0 none 0 0,vi 0,.iface 92 (vi E)]) (by simp [results,results50,go_sem];done) rfl ⟨by rw [<-HE.out],(by repeat' (first|(with_reducible refine Ext.alloc ?_ _)|(with_reducible refine Ext.plus ?_ _ _)|(with_reducible refine Ext.setCell ?_ (by first|omega|(dsimp only;omega)) _)|(with_reducible refine Ext.drew ?_)|(with_reducible assumption)|(with_reducible exact Ext.refl _)))⟩
def fH (w:World) (x:gB) (r:Value->Value) (e:Ending) (w':World):Prop:=∃ v1 v2,e = .returned (r (.agg #[vi x.last,v1,v2]))/\mF w w' x.last x.stays x.jobs v1 v2/\Ext w w'
theorem park_any (x:gB) (kk last id lo hi he:Int) (a1:Option Addr) (m1 c1:Nat) (a2:Option Addr) (m2 c2:Nat) (aL:Option Addr) (nL cL:Nat) (l:List sA) (js:List Job) (ls:List dD) (w:World)
  (h:Sl w 8 iA l a1 m1 c1) (h2:Sl w 2 jA js a2 m2 c2) (hL:Sl w 3 yB ls aL nL cL) (n1':1<=nL) (n4:nL<=4) (hm1:m1<=100) (hm2:m2<=100) (l0:0<=last) (l1:last<=999999) (hp:Hid (park ⟨last,l,js⟩ ls ⟨id,⟨lo,hi,he⟩⟩ = .ok (x,kk))):
  Calls prog 50 #[lC last a1 m1 c1 a2 m2 c2,.slice aL nL cL,.agg #[vi id,vi lo,vi hi,vi he]] w (fH w x (fun b=>.tuple #[b,vi kk,.nilIface])):=by
 obtain ⟨i0,hi0,hz0,hz1,hz2⟩:=info_parts infoStay;obtain ⟨j0,hj0,hy0,hy1,hy2⟩:=info_parts kO;have b1:=h.bound;have b2:=h2.bound;have HF:=aA h;have HJ:=aA h2;have HL:=aA hL;have E1:=aA h.len;have E2:=aA h2.len;clear h h2 hL
 obtain ⟨hc,ho,px,py,pz,hpk,hl,hj,hx,hk⟩:gC ⟨id,⟨lo,hi,he⟩⟩=0/\((⟨last,l,js⟩:gB).of id).isSome=false/\∃ px py pz,pick ⟨last,l,js⟩ ls ⟨id,⟨lo,hi,he⟩⟩=some ⟨px,py,pz⟩/\last≠999999/\js.length≠8 /\
   x=⟨last+1,l++[⟨last+1,⟨id,⟨lo,hi,he⟩⟩,⟨px,py,pz⟩⟩],js++[⟨last+1,false⟩]⟩/\kk=last+1:=by
  have e:=hp.out;unfold park at e
  by_cases hc:gC ⟨id,⟨lo,hi,he⟩⟩=0
  ·rw [if_neg (by rw [hc];simp)] at e
   cases ho:((⟨last,l,js⟩:gB).of id).isSome
   ·rw [if_neg (by rw [ho];simp)] at e
    cases hpk:pick ⟨last,l,js⟩ ls ⟨id,⟨lo,hi,he⟩⟩ with
    | none=>rw [hpk] at e;cases e
    | some q=>
     rw [hpk] at e;obtain ⟨px,py,pz⟩:=q;dsimp only at e
     split at e
     ·cases e
     ·rename_i hn
      cases e;exact ⟨hc,rfl,px,py,pz,rfl,fun h=>hn (Or.inl h),fun h=>hn (Or.inr h),rfl,rfl⟩
   ·rw [if_pos ho] at e;cases e
  ·rw [if_pos hc] at e;cases e
 have HC:Hid (aC (gC ⟨id,⟨lo,hi,he⟩⟩) = .nilIface):=by unfold Hid;rw [hc];rfl
 have HO:Hid (cC (fun s:sA=>s.car.id==id) l=-1):=of_none ho
 have HPV:Hid (pickV (pick ⟨last,l,js⟩ ls ⟨id,⟨lo,hi,he⟩⟩) = .tuple #[.agg #[vi px,vi py,vi pz],.bool true]):=by unfold Hid;rw [hpk];rfl
 have hl1:(last==999999)=false:=by simpa using hl
 have hm8:((m2:Int)==8)=false:=by
  have e:=E2.out;simp;omega
 have hw1:IntKind.i64.wrap (last+1)=last+1:=IntWalk.i64_in _ om;have HXX:=aA hx;subst hk;clear hc ho hpk hl hj hx hp;go_enter func50,ntmps50
 go_upto_region 9 with (first
  | (go_at_call 93;(with_reducible refine (pJ _ _ _ _ _ _ HC).mono ?_);rintro e w1 ⟨rfl,oA,nA,rfl⟩)
  | (go_at_call 94;(with_reducible refine (of_at _ _ _ _ _ _ _ _ _ l _ (Sl.below HF.out (Ext.below eX)) HO).mono ?_);rintro e w1 ⟨rfl,oB,nB,rfl⟩)
  | (go_at_call 95;(with_reducible refine (pick_at _ _ _ _ _ _ _ _ _ _ _ _ _ _ _ _ _ _ l js ls _ (Sl.below HF.out (Ext.below eX)) (Sl.below HJ.out (Ext.below eX)) (Sl.below HL.out (Ext.below eX)) n1' n4 HPV).mono ?_);rintro e w1 ⟨rfl,oC,nC,rfl⟩))
 generalize hT:w.heap.size+1+1+1+(oA.size+(oB.size+oC.size))=T
 have hT2:w.heap.size+3<=T:=om
 generalize hW:World.alloc _ _=w0
 have kb:eB w0 w.heap.size (vi last) (.slice a1 m1 c1) (.slice a2 m2 c2):=by
  rw [<-hW];exact ⟨by simp [go_sem],by simp [go_sem],by simp [go_sem],by simp [go_sem]⟩
 have kr:eB w0 (w.heap.size+1+1) (vi 0) (.slice none 0 0) (.slice none 0 0):=by
  rw [<-hW];exact ⟨by simp [go_sem],by simp [go_sem],by simp [go_sem],by simp [go_sem]⟩
 have kp:eB w0 T (vi px) (vi py) (vi pz):=by
  rw [<-hW,<-hT];exact ⟨by simp [go_sem],by simp [go_sem],by simp [go_sem],by simp [go_sem]⟩
 have q0:cI w0 (w.heap.size+1) 0 id:=cQ hW;have q1:cI w0 (w.heap.size+1) 1 lo:=cQ hW;have q2:cI w0 (w.heap.size+1) 2 hi:=cQ hW;have q3:cI w0 (w.heap.size+1) 3 he:=cQ hW;have hx:Ext w w0:=xQ hW;have HX:=aA hx;have HKB:=aA kb;have HKR:=aA kr;have HKP:=aA kp;have HS:=aA (Sl.below HF.out hx.below);have HK:=aA (Sl.below HJ.out hx.below);have z0:=kp.lt;obtain ⟨k0,k1,k2,kf⟩:=kb;clear hW hx kr kp hT HF HJ HL
 go_upto_region 10 with (go_at_call 96;(with_reducible refine (copy_any last a1 m1 c1 a2 m2 c2 l js _ HS.out HK.out om om).mono ?_);rintro e wc ⟨v1,v2,rfl,hob,hxc⟩;obtain ⟨g1,d1,rfl,-⟩:=Sl.of_owns (c:=8) (enc:=iA) hob.stays dc (fun _=>rfl);obtain ⟨g2,d2,rfl,-⟩:=Sl.of_owns (c:=2) (enc:=jA) hob.jobs dc (fun _=>rfl);obtain ⟨kc0,kc1,kc2,kcf⟩:=HKB.out.ext hxc;have zc:=cA kc0)
 have hl100:l.length<=100:=by rw [E1.out];exact hm1
 have hj100:js.length<=100:=by rw [E2.out];exact hm2
 generalize hW:World.setCell (World.setCell (World.setCell _ _ _) _ _) _ _=wd
 have kd:eB wd w.heap.size (vi last) (.slice g1 l.length d1) (.slice g2 js.length d2):=by
  rw [<-hW];exact eB.set ⟨kc0,kc1,kc2,kcf⟩ _ _ _
 have K1:fA (Is w.heap.size) w0 wd:=by
  rw [<-hW];exact (((fA.of_ext hxc).put 0 _).put 1 _).put 2 _
 have z0':=z0
 have nb:∀ k,(Value.slice g1 l.length d1).ownBlock=some k->w0.heap.size<=k:=qA hob.stays
 have nb2:∀ k,(Value.slice g2 js.length d2).ownBlock=some k->w0.heap.size<=k:=qA hob.jobs
 have os1:wd.ownsRow w0.heap.size 141 8 (.slice g1 l.length d1) l.length (l.flatMap iA):=by
  rw [<-hW]
  refine lA (lA (lA hob.stays _ ?_) _ ?_) _ ?_ <;> (intro e;have:=nb _ e;(try dsimp only at this);omega)
 have oj1:wd.ownsRow w0.heap.size 143 2 (.slice g2 js.length d2) js.length (js.flatMap jA):=by
  rw [<-hW]
  refine lA (lA (lA hob.jobs _ ?_) _ ?_) _ ?_ <;> (intro e;have:=nb2 _ e;(try dsimp only at this);omega)
 have HAP:=aA hob.apart;have HN1:=aA nb;have HN2:=aA nb2;have HOS1:=aA os1;have HOJ1:=aA oj1;have HK1:=aA K1;have HKD:=aA kd;obtain ⟨kd0,kd1,kd2,kdf⟩:=kd;have zd:=cA kd0;clear hW hob hxc kc0 kc1 kc2 kcf zc K1 nb nb2 os1 oj1 k0 k1 k2 kf
 go_upto_region 11 with fail
 generalize hW:World.setCell _ _ _=we
 have ke:eB we w.heap.size (vi (last+1)) (.slice g1 l.length d1) (.slice g2 js.length d2):=by
  rw [<-hW];exact HKD.out.set0 _
 have K2:fA (Is w.heap.size) w0 we:=by rw [<-hW];exact HK1.out.put 0 _
 have os2:we.ownsRow w0.heap.size 141 8 (.slice g1 l.length d1) l.length (l.flatMap iA):=by
  rw [<-hW];exact lA HOS1.out _ (by intro e;have:=HN1.out _ e;(try dsimp only at this);omega)
 have oj2:we.ownsRow w0.heap.size 143 2 (.slice g2 js.length d2) js.length (js.flatMap jA):=by
  rw [<-hW];exact lA HOJ1.out _ (by intro e;have:=HN2.out _ e;(try dsimp only at this);omega)
 have qe0:=K2.cell q0 om;have qe1:=K2.cell q1 om;have qe2:=K2.cell q2 om;have qe3:=K2.cell q3 om;have kpe:=HKP.out.same (K2.other HKP.out.lt om);obtain ⟨pe0,pe1,pe2,pef⟩:=kpe;have HKE:=aA ke;obtain ⟨ke0,ke1,ke2,kef⟩:=ke;have ze0:=cA ke0;have ze1:=cA qe0;have ze2:=cA pe0;have zs:=K2.size;have HOS2:=aA os2;have HOJ2:=aA oj2;have HK2:=aA K2;clear hW os2 oj2 K2 kd0 kd1 kd2 kdf zd q0 q1 q2 q3
 go_upto_region 12 with (at_builtin;refine wpList_append_lies _ rfl _ _ _ rfl w0.heap.size 141 i0 _ 8 64 underlying46 hi0 hz0 hz1 hz2 rfl dc (.slice g1 l.length d1) l.length (l.flatMap iA) rfl (iB HOS2.out _) _ 1 1 [vi (last+1),vi id,vi lo,vi hi,vi he,vi px,vi py,vi pz] rfl rfl (World.news_of_block (pA _ _ _ sp)) (by simp [Value.oneCell']) dc (by unfold maxLen;omega) om so _ rfl ?_;intro gg1 cap1 w3 hown3 hgrow3 hat3 hlt3;obtain ⟨kg0,kg1,kg2,kgf⟩:=(HKE.out.ext (w':=we.alloc _) eX).grown hgrow3 (by intro e;have:=HN1.out _ e;(try dsimp only at this);omega))
 have zg:=cA kg0;have hbt:=hlt3;generalize hW:World.setCell _ _ _=wf
 have kf:eB wf w.heap.size (vi (last+1)) (.slice (some ⟨gg1,0,none⟩) (l.length+1) cap1) (.slice g2 js.length d2):=by
  rw [<-hW];exact eB.set1 ⟨kg0,kg1,kg2,kgf⟩ _
 have K3:fA (Is w.heap.size) w0 wf:=by
  rw [<-hW];exact ((HK2.out.ext (c:=we.alloc _) eX).grown hgrow3 HN1.out).put 1 _
 have nb3:∀ k,(Value.slice (some ⟨gg1,0,none⟩) (l.length+1) cap1).ownBlock=some k->w0.heap.size<=k:=qA hown3
 have os3:wf.ownsRow w0.heap.size 141 8 (.slice (some ⟨gg1,0,none⟩) (l.length+1) cap1) (l.length+1) (l.flatMap iA++[vi (last+1),vi id,vi lo,vi hi,vi he,vi px,vi py,vi pz]):=by
  rw [<-hW];exact lA hown3 _ (by intro e;have:=nb3 _ e;(try dsimp only at this);omega)
 have oj3:wf.ownsRow w0.heap.size 143 2 (.slice g2 js.length d2) js.length (js.flatMap jA):=by
  rw [<-hW];exact lA ((iB HOJ2.out _).kept hgrow3 (by cases hg:(Value.slice g2 js.length d2).ownBlock with|none=>exact Or.inl rfl|some k=>exact Or.inr (fun e=>HAP.out k e.symm hg))) _ (by intro e;have:=HN2.out _ e;(try dsimp only at this);omega)
 have hgg:gg1<wf.heap.size:=by rw [<-hW,cF];exact hlt3
 have hap3:(Value.slice g2 js.length d2).ownBlock≠some gg1:=by
  intro e
  rcases hat3 with h|h
  ·exact HAP.out gg1 h e
  ·have:=(rE HOJ2.out e).2
   simp at h;omega
 have HNB3:=aA nb3;have HAP3:=aA hap3;have HKF:=aA kf;obtain ⟨kf0,kf1,kf2,kff⟩:=kf;have zf0:=cA kf0;have zfs:=K3.size;have HOS3:=aA os3;have HOJ3:=aA oj3;have HK3:=aA K3;clear hW hown3 hgrow3 hat3 hlt3 hbt nb3 os3 oj3 K3 hap3 ke0 ke1 ke2 kef qe0 qe1 qe2 qe3 pe0 pe1 pe2 pef ze0 ze1 ze2 kg0 kg1 kg2 kgf zg
 go_upto_region 13 with (at_builtin;refine wpList_append_lies _ rfl _ _ _ rfl w0.heap.size 143 j0 _ 2 16 underlying47 hj0 hy0 hy1 hy2 rfl dc (.slice g2 js.length d2) js.length (js.flatMap jA) rfl (iB HOJ3.out _) _ 1 1 [vi (last+1),.bool false] rfl rfl (World.news_of_block (pA _ _ _ sp)) (by simp [Value.oneCell']) dc (by unfold maxLen;omega) om so _ rfl ?_;intro gg2 cap2 w3 hown3 hgrow3 hat3 hlt3;obtain ⟨kg0,kg1,kg2,kgf⟩:=(HKF.out.ext (w':=wf.alloc _) eX).grown hgrow3 (by intro e;have:=HN2.out _ e;(try dsimp only at this);omega))
 have zg:=cA kg0;generalize hW:World.setCell _ _ _=wh
 have kh:eB wh w.heap.size (vi (last+1)) (.slice (some ⟨gg1,0,none⟩) (l.length+1) cap1) (.slice (some ⟨gg2,0,none⟩) (js.length+1) cap2):=by
  rw [<-hW];exact eB.set2 ⟨kg0,kg1,kg2,kgf⟩ _
 have K4:fA (Is w.heap.size) w0 wh:=by
  rw [<-hW];exact ((HK3.out.ext (c:=wf.alloc _) eX).grown hgrow3 HN2.out).put 2 _
 have nb4:∀ k,(Value.slice (some ⟨gg2,0,none⟩) (js.length+1) cap2).ownBlock=some k->w0.heap.size<=k:=qA hown3
 have hap4:gg1≠gg2:=by
  rintro rfl
  rcases hat3 with h|h
  ·exact HAP3.out h
  ·simp at h;omega
 have os4:wh.ownsRow w0.heap.size 141 8 (.slice (some ⟨gg1,0,none⟩) (l.length+1) cap1) (l.length+1) (l.flatMap iA++[vi (last+1),vi id,vi lo,vi hi,vi he,vi px,vi py,vi pz]):=by
  rw [<-hW];exact lA ((iB HOS3.out _).kept hgrow3 (Or.inr (fun e=>HAP3.out e.symm))) _ (by intro e;have:=HNB3.out _ e;(try dsimp only at this);omega)
 have oj4:wh.ownsRow w0.heap.size 143 2 (.slice (some ⟨gg2,0,none⟩) (js.length+1) cap2) (js.length+1) (js.flatMap jA++[vi (last+1),.bool false]):=by
  rw [<-hW];exact lA hown3 _ (by intro e;have:=nb4 _ e;(try dsimp only at this);omega)
 have kr:=HKR.out.same (K4.other HKR.out.lt om);obtain ⟨kr0,kr1,kr2,krf⟩:=kr;obtain ⟨kh0,kh1,kh2,khf⟩:=kh;have zh0:=cA kh0;have zh1:=cA kr0;have zhs:=K4.size;have HNB4:=aA nb4;have HAP4:=aA hap4;have HOS4:=aA os4;have HOJ4:=aA oj4;have HXH:=aA (K4.widen HX.out (Nat.le_refl _));clear hW hown3 hgrow3 hat3 hlt3 nb4 os4 oj4 K4 hap4 kf0 kf1 kf2 kff zf0 kg0 kg1 kg2 kgf zg
 go_region
 have kq:=eB.set ⟨kr0,kr1,kr2,krf⟩ (vi (last+1)) (.slice (some ⟨gg1,0,none⟩) (l.length+1) cap1) (.slice (some ⟨gg2,0,none⟩) (js.length+1) cap2);obtain ⟨p0,p1,p2,pf⟩:=kq;go_wp2;refine bodyPost_ret (v:=.tuple #[.agg #[vi (last+1),.slice (some ⟨gg1,0,none⟩) (l.length+1) cap1,.slice (some ⟨gg2,0,none⟩) (js.length+1) cap2],vi (last+1),.nilIface]) (by simp [results,results50,go_sem,p0,p1,p2]) rfl ?_;have e:=HXX.out;subst e;have zx:=HX.out.below.size;refine ⟨_,_,rfl,⟨?_,?_,?_⟩,?_⟩
 ·rw [List.length_append,List.flatMap_append]
  refine mA (mI (lA (lA (lA HOS4.out _ ?_) _ ?_) _ ?_)) zx <;> (intro e;have:=HNB3.out _ e;(try dsimp only at this);omega)
 ·rw [List.length_append,List.flatMap_append]
  refine mA (mI (lA (lA (lA HOJ4.out _ ?_) _ ?_) _ ?_)) zx <;> (intro e;have:=HNB4.out _ e;(try dsimp only at this);omega)
 ·intro k hk1 hk2
  exact HAP4.out ((Option.some.inj hk1).trans (Option.some.inj hk2).symm)
 ·have hxh:=HXH.out
  exact (Ext.setCell (Ext.setCell (Ext.setCell hxh (by dsimp only;omega) _) (by dsimp only;omega) _) (by dsimp only;omega) _).drew
end Go.Proofs.YtplomeacjbkgnabGreatDoor
namespace Go.Proofs.YtplomeacjbkgnabGreatDoor
open Tryz Ch
structure pI {α:Type} (p:α->Bool) (l xs:List α) (i j:Nat):Prop where
 le:j<=l.length
 is:∃ mid,xs=(l.take j).filter (fun x=>!p x)++mid++l.drop j/\i=((l.take j).filter (fun x=>!p x)).length/\mid.length+i=j/\0<mid.length
section
variable {α:Type} {p:α->Bool} {l xs:List α} {i j:Nat} {v:α}
theorem wL {l:List α} {j:Nat} {v:α} (h:l[j]? = some v):j<l.length:=by
 rcases Nat.lt_or_ge j l.length with h1|h1
 ·exact h1
 ·rw [List.getElem?_eq_none h1] at h;cases h
theorem drop_at {l:List α} {j:Nat} {v:α} (h:l[j]? = some v):l.drop j=v :: l.drop (j+1):=by
 have hj:=wL h;rw [List.drop_eq_getElem_cons hj];rw [List.getElem?_eq_getElem hj] at h;cases h;rfl
theorem bH {l:List α} {j:Nat} {v:α} (q:α->Bool) (h:l[j]? = some v):(l.take (j+1)).filter q=(l.take j).filter q++(if q v then [v] else []):=by
 rw [List.take_add_one,h,List.filter_append]
 congr 1
 cases hq:q v <;> simp [hq]
theorem pI.start (h:l[j]? = some v) (hp:p v=true) (hb:∀ k s,k<j->l[k]? = some s->p s=false):pI p l l j (j+1):=by
 have hj:=wL h
 have hf:(l.take j).filter (fun x=>!p x)=l.take j:=by
  rw [List.filter_eq_self];intro a ha;obtain ⟨k,hk,rfl⟩:=List.getElem_of_mem ha
  have hk2:k<j:=by rw [List.length_take] at hk;omega
  have:=hb k _ hk2 (by rw [List.getElem?_eq_getElem om]);rw [List.getElem_take];simp [this]
 refine ⟨hj,[v],?_,?_,?_,sp⟩
 ·rw [bH _ h,hf,hp]
  simp only [Bool.not_true,Bool.false_eq_true,if_false,List.append_nil];rw [List.append_assoc,List.singleton_append,<-drop_at h,List.take_append_drop]
 ·rw [bH _ h,hf,hp]
  simp only [Bool.not_true,Bool.false_eq_true,if_false,List.append_nil];rw [List.length_take];omega
 ·simp;omega
theorem pI.skip (s:pI p l xs i j) (h:l[j]? = some v) (hp:p v=true):pI p l xs i (j+1):=by
 have hj:=wL h;obtain ⟨mid,h1,h2,h3,h4⟩:=s.is;refine ⟨hj,mid++[v],?_,?_,by simp;omega,sp⟩
 ·rw [bH _ h,hp]
  simp only [Bool.not_true,Bool.false_eq_true,if_false,List.append_nil];rw [h1,drop_at h];simp
 ·rw [bH _ h,hp]
  simpa using h2
theorem pI.keep (s:pI p l xs i j) (h:l[j]? = some v) (hp:p v=false):pI p l (xs.set i v) (i+1) (j+1):=by
 have hj:=wL h;obtain ⟨mid,h1,h2,h3,h4⟩:=s.is
 match mid,h4 with
 | m :: mid,_=>
  refine ⟨hj,mid++[v],?_,?_,by simp at *;omega,sp⟩
  ·rw [bH _ h,hp]
   simp only [Bool.not_false,if_true];rw [h1,drop_at h,h2];simp
  ·rw [bH _ h,hp]
   simp only [Bool.not_false,if_true,List.length_append,List.length_singleton];omega
theorem pI.at (s:pI p l xs i j):xs[j]? = l[j]?:=by
 obtain ⟨mid,h1,h2,h3,h4⟩:=s.is;rw [h1,List.append_assoc,List.getElem?_append_right om,List.getElem?_append_right om];rw [List.getElem?_drop]
 congr 1;omega
theorem pI.len (s:pI p l xs i j):xs.length=l.length:=by
 obtain ⟨mid,h1,h2,h3,h4⟩:=s.is;have:=s.le;rw [h1];simp only [List.length_append,List.length_drop];omega
theorem pI.lt (s:pI p l xs i j):i<j/\j<=l.length:=by
 obtain ⟨mid,h1,h2,h3,h4⟩:=s.is;exact ⟨om,s.le⟩
theorem pI.done (s:pI p l xs i j) (hj:j=l.length):xs.take i=l.filter (fun x=>!p x)/\i=(l.filter (fun x=>!p x)).length:=by
 obtain ⟨mid,h1,h2,h3,h4⟩:=s.is;subst hj;rw [List.take_length] at h1 h2;refine ⟨?_,h2⟩;rw [h1,h2,List.append_assoc];exact List.take_left
end
def putAll (xs:List Value) (o:Nat):List Value->List Value
 | []=>xs
 | v :: r=>putAll (xs.set o v) (o+1) r
theorem putAll_mid {C:List Value}:∀ (B B' A:List Value),B.length=B'.length->putAll (A++B++C) A.length B'=A++B'++C
 | [],[],A,_=>rfl
 | b :: B,b' :: B',A,h=>by
  have ih:=putAll_mid (C:=C) B B' (A++[b']) (by simpa using h)
  have e:(A++b :: B++C).set A.length b'=A++[b']++B++C:=sp
  rw [putAll,e];rw [List.length_append] at ih
  simpa using ih
theorem putAll_flat {α:Type} {enc:α->List Value} {c:Nat} (he:∀ x,(enc x).length=c) (xs:List α) (i:Nat) (v:α) (hi:i<xs.length):putAll (xs.flatMap enc) (i * c) (enc v)=(xs.set i v).flatMap enc:=by
 have hlen:∀ l:List α,(l.flatMap enc).length=l.length * c:=by
  intro l
  induction l with
  | nil=>simp
  | cons x l ih=>simp [ih,he,Nat.add_mul];omega
 have e:xs=xs.take i++xs[i] :: xs.drop (i+1):=by
  rw [<-List.drop_eq_getElem_cons hi,List.take_append_drop]
 have e2:xs.set i v=xs.take i++v :: xs.drop (i+1):=by
  conv=>lhs;rw [e]
  rw [List.set_append_right _ _ (by rw [List.length_take];omega)];rw [List.length_take,show i - min i xs.length=0 by omega,List.set_cons_zero]
 have e3:xs.flatMap enc=(xs.take i).flatMap enc++enc xs[i]++(xs.drop (i+1)).flatMap enc:=by
  conv=>lhs;rw [e]
  rw [List.flatMap_append,List.flatMap_cons,List.append_assoc]
 rw [e2,e3,List.flatMap_append,List.flatMap_cons,<-List.append_assoc];have:=putAll_mid (C:=(xs.drop (i+1)).flatMap enc) (enc xs[i]) (enc v) ((xs.take i).flatMap enc) (by rw [he,he]);rw [hlen,List.length_take,Nat.min_eq_left om] at this;exact this
theorem qK {base e size g n cap:Nat}:∀ (vs:List Value) (o:Nat) {w:World} {xs:List Value},w.ownsRow base e size (.slice (some ⟨g,0,none⟩) n cap) n xs ->
  (w.setCells g o vs).ownsRow base e size (.slice (some ⟨g,0,none⟩) n cap) n (putAll xs o vs)/\w.grownBy (w.setCells g o vs) (some g)
 | [],_,w,_,h=>⟨h,⟨rfl,rfl,rfl,Nat.le_refl _,fun _ _ _=>rfl⟩⟩
 | v :: r,o,w,xs,h=>by
  have h1:=h.stored o v;have h2:=qK r (o+1) h1.1;refine ⟨h2.1,⟨h2.2.os.trans h1.2.os,h2.2.tape.trans h1.2.tape,h2.2.output.trans h1.2.output,Nat.le_trans h1.2.size h2.2.size,fun k hk hn=>?_⟩⟩;rw [World.setCells,h2.2.block k (Nat.lt_of_lt_of_le hk h1.2.size) hn,h1.2.block k hk hn]
theorem owns_prefix {w:World} {base e size g n cap i:Nat} {xs:List Value} (h:w.ownsRow base e size (.slice (some ⟨g,0,none⟩) n cap) n xs) (hi:i<=n):
  w.ownsRow base e size (.slice (some ⟨g,0,none⟩) i cap) i (xs.take (i * size)):=by
 have hm:i * size<=n * size:=Nat.mul_le_mul_right _ hi;refine ⟨by rw [List.length_take,h.1];omega,?_⟩
 rcases h.2 with ⟨h',_⟩|⟨g',cap',cur,h',hb,hg,hnc,hcm,hcs,htake⟩
 ·simp at h'
 ·simp only [Value.slice.injEq,Option.some.injEq,Addr.mk.injEq,and_true,true_and] at h'
  obtain ⟨rfl,rfl⟩:=h';exact .inr ⟨g,cap,cur,rfl,hb,hg,om,hcm,hcs,by rw [<-htake,List.take_take,Nat.min_eq_left hm]⟩
theorem take_flat {α:Type} {enc:α->List Value} {c:Nat} (he:∀ x,(enc x).length=c):∀ (xs:List α) (i:Nat),(xs.flatMap enc).take (i * c)=(xs.take i).flatMap enc
 | [],i=>by simp
 | x :: xs,0=>by simp
 | x :: xs,i+1=>by
  rw [List.flatMap_cons,List.take_succ_cons,List.flatMap_cons,Nat.add_mul,Nat.one_mul,List.take_append,he,<-take_flat he xs i];rw [List.take_of_length_le (by rw [he];omega),show i * c+c - c=i * c by omega]
theorem putAll_take {o k:Nat}:∀ (vs xs:List Value),k<=o->(putAll xs o vs).take k=xs.take k:=by
 intro vs
 induction vs generalizing o with
 | nil=>intro xs _;rfl
 | cons v r ih=>
  intro xs h;rw [putAll,ih _ om,List.take_set];exact List.set_eq_of_length_le (by rw [List.length_take];omega)
theorem run_clear_cells {P:Program} (w:World) (t e ty:TypeId) (z:Value) (ht:P.underlying t=some (.slice e)) (hv:∀ w,(zeroValue e).run P w = .ok z w) (h1:∀ v∈z.cells.toList,v.oneCell'=true) (b o n c:Nat) (hn:0<n)
  (hc:∀ j,j<n * z.cells.size->(w.cell? ⟨b,o+j,none⟩).isSome=true) (hf:∀ j,j<n * z.cells.size->w.frozen? ⟨b,o+j,none⟩=false):
  (Builtin.clear_ #[t] ty #[.slice (some ⟨b,o,none⟩) n c]).run P w = .ok (.tuple #[]) (w.setCells b o (Builtin.zeroCells z.cells n).toList):=by
 have hlen:(Builtin.zeroCells z.cells n).toList.length=n * z.cells.size:=by simp [Builtin.zeroCells]
 have hone:∀ v∈(Builtin.zeroCells z.cells n).toList,v.oneCell'=true:=by
  intro v hv';simp only [Builtin.zeroCells,Array.toList_map,List.mem_map,Array.mem_toList_iff,Array.mem_range] at hv';obtain ⟨i,hi,rfl⟩:=hv'
  have hs:0<z.cells.size:=by
   rcases Nat.eq_zero_or_pos z.cells.size with h0|h0
   ·rw [h0] at hi;simp at hi
   ·exact h0
  have hm:i % z.cells.size<z.cells.size:=Nat.mod_lt _ hs;rw [getElem!_pos z.cells (i % z.cells.size) hm];exact h1 _ sp
 have hst:=run_storeCells_cells (P:=P) b o (Builtin.zeroCells z.cells n).toList 0 w (by intro j hj;rw [hlen] at hj;simpa using hc j hj) (by intro j hj;rw [hlen] at hj;simpa using hf j hj) hone;simp only [Nat.add_zero] at hst
 obtain ⟨m,rfl⟩:∃ m,n=m+1:=⟨n - 1,om⟩
 simp only [Builtin.clear_];simp [run_underlying ht,hv,hst]
theorem clear_tail {P:Program} {w:World} {base e c g n cap i k:Nat} {xs:List Value} (t ty:TypeId) (z:Value) (ht:P.underlying t=some (.slice e)) (hv:∀ w,(zeroValue e).run P w = .ok z w) (hz:z.cells.size=c) (h1:∀ v∈z.cells.toList,v.oneCell'=true)
  (h:w.ownsRow base e c (.slice (some ⟨g,0,none⟩) n cap) n xs) (hi:i<n):
  ∃ wz,(Builtin.clear_ #[t] ty #[.slice (some ⟨g,i * c,none⟩) (n - i) k]).run P w = .ok (.tuple #[]) wz/\wz.ownsRow base e c (.slice (some ⟨g,0,none⟩) i cap) i (xs.take (i * c))/\w.grownBy wz (some g):=by
 have hlen:=h.1
 have hmul:(n - i) * c+i * c=n * c:=by rw [<-Nat.add_mul];congr 1;omega
 have hr:=run_clear_cells (P:=P) w t e ty z ht hv h1 g (i * c) (n - i) k om
  (fun j hj=>by
   rw [hz] at hj
   have hj2:i * c+j<n * c:=om
   rw [h.cellAt _ hj2,List.getElem?_eq_getElem om];rfl)
  (fun j _=>h.frozenAt _)
 have ho:=qK (Builtin.zeroCells z.cells (n - i)).toList (i * c) h;refine ⟨_,hr,?_,ho.2⟩;have hp:=owns_prefix ho.1 (Nat.le_of_lt hi);rw [putAll_take _ _ (Nat.le_refl _)] at hp;exact hp
