import Derived.Test.YtplomeacjbkgnabGreatDoorZ16
set_option linter.all false
set_option maxRecDepth 100000
set_option maxHeartbeats 16000000
namespace Go.Proofs.YtplomeacjbkgnabGreatDoor
open Go.RowKit Tryz Ch
structure JobPredIn (w:World) (S:Nat->Prop) (K:Nat) (caps:Array Value) (pred:Job->Bool):Prop where
 enters:∀ args w,(callFunc K args).run prog w = .ok (.enter K args) w
 answers:∀ (s:Job) (W:World),fA S w W->Calls prog K (#[jobA s]++caps) W fun e w'=>e = .returned (.bool (pred s))/\Ext W w'
structure tM (w:World) (S:Nat->Prop) (K:Nat) (caps:Array Value) (pred:sA->Bool):Prop where
 enters:∀ args w,(callFunc K args).run prog w = .ok (.enter K args) w
 answers:∀ (s:sA) (W:World),fA S w W->Calls prog K (#[stayA s]++caps) W fun e w'=>e = .returned (.bool (pred s))/\Ext W w'
theorem tM.stay {w:World} {S:Nat->Prop} {K:Nat} {caps:Array Value} {pred:sA->Bool} (h:tM w S K caps pred):bL w K caps pred:=
 ⟨h.enters,fun s W x=>h.answers s W (fA.of_ext x)⟩
theorem indexJobF_any (a:Option Addr) (n cap:Nat) (l:List Job) (K:Nat) (caps:Array Value) (pred:Job->Bool) (S:Nat->Prop) (w:World) (h:Sl w 2 jA l a n cap) (hp:JobPredIn w S K caps pred):
  Calls prog 215 #[.slice a n cap,.func (.func K) #[] caps] w fun e w'=>e = .returned (vi (cC pred l))/\Ext w w':=by
 have HF:=aA h;have HP:=aA hp;have hb:=h.bound;have hl:=h.len;have HL:=aA hl;clear h hp hl;go_enter func215,ntmps215;go_wp2
 go_loopw [8] (fun i wr=>∃ k:Nat,k<=n/\i = .int .i64 k/\Hid (∀ j s,j<k->l[j]? = some s->pred s=false)/\Ext w wr) (fun i _=>n - (intOf i).toNat)
 case atStart=>exact ⟨0,om,rfl,by intro j s hj;omega,eX⟩
 case round=>
  obtain ⟨k,hk,rfl,HT,o,m,rfl⟩:=hrel
  by_cases hlt:k<n
  ·obtain ⟨b,q,s,rfl,hs,ds⟩:=HF.out.get hlt
   have ds:=at2 ds;have hq:=cA ds.1;have HS:=aA hs;clear hs;have HR:=HP.out.enters;cases hps:pred s
   ·have HQ:=aA hps
    go_wp2_with (with_reducible refine mo (HP.out.answers s _ (fA.of_ext eX)) fun o1 n1=>?_);go_roundw
    case rel=>exact ⟨k+1,om,by go_num,jN HS.out HQ.out HT.out,eX⟩
    case measure=>simp [intOf];omega
   ·have HQ:=aA hps
    go_wp2_with (with_reducible refine mo (HP.out.answers s _ (fA.of_ext eX)) fun o1 n1=>?_);go_ret;exact ⟨by rw [sL HS.out HQ.out HT.out];rfl,eX⟩
  ·go_wp2
   go_ret;exact ⟨by rw [tL (fun j s hj hs=>HT.out j s (by have:=HL.out;omega) hs)];rfl,eX⟩
theorem index_split {α:Type} (p:α->Bool) (l:List α):(cC p l=-1/\l.filter (fun x=>!p x)=l)\/∃ (k:Nat) (x:α),cC p l=(k:Int)/\l[k]? = some x/\p x=true/\∀ j s,j<k->l[j]? = some s->p s=false:=by
 unfold cC
 cases h:l.findIdx? p with
 | none=>
  rw [List.findIdx?_eq_none_iff] at h;exact Or.inl ⟨rfl,List.filter_eq_self.2 (fun x hx=>by simp [h x hx])⟩
 | some k=>
  rw [List.findIdx?_eq_some_iff_getElem] at h;obtain ⟨hk,hp,hb⟩:=h;refine Or.inr ⟨k,l[k],rfl,by simp [hk],hp,fun j s hj hs=>?_⟩
  have hjl:j<l.length:=om
  rw [List.getElem?_eq_getElem hjl] at hs;cases hs;have:=hb j hj
  simpa using this
def Left (w:World) (B e c:Nat) (v:Value) {α:Type} (enc:α->List Value) (l:List α) (en:Ending) (w':World):Prop:=
 ∃ v',en = .returned v'/\w'.ownsRow B e c v' l.length (l.flatMap enc)/\(∀ k,v'.ownBlock=some k->v.ownBlock=some k)/\fA (fun k=>v.ownBlock=some k) w w'
theorem index_at {P:Program} {F:FuncId} {args:Array Value} {w:World} {x y:Int} (h:Calls P F args w fun e w'=>e = .returned (vi x)/\Ext w w') (e:Hid (x=y)):Calls P F args w fun e w'=>e = .returned (vi y)/\Ext w w':=by
 rw [<-e.out];exact h
theorem qN (B:Nat) (v:Value) (l:List Job) (K:Nat) (caps:Array Value) (pred:Job->Bool) (w:World) (hown:w.ownsRow B 143 2 v l.length (l.flatMap jA)) (hp:JobPredIn w (fun k=>v.ownBlock=some k) K caps pred) (h63:l.length<=1000):
  Calls prog 195 #[v,.func (.func K) #[] caps] w (Left w B 143 2 v jA (l.filter (fun x=>!pred x))):=by
 obtain ⟨a,cap,rfl,hsl⟩:=Sl.of_owns (c:=2) (enc:=jA) hown dc (fun _=>rfl);have HO:=aA hown;have HP:=aA hp;have HF:=aA hsl;have hb:=hsl.bound;clear hown hp hsl
 rcases index_split pred l with ⟨h1,h2⟩|⟨k,x,h1,h2,h3,h4⟩
 ·have H1:=aA h1
  have H2:=aA h2;clear h1 h2;go_enter func195,ntmps195;go_wp2_with (go_at_call 215;with_reducible refine mo (index_at (indexJobF_any _ _ _ l _ _ pred _ _ HF.out HP.out) H1) fun o1 n1=>?_);go_ret;exact ⟨_,rfl,by rw [H2.out];exact vF HO.out _ _,fun k hk=>hk,fA.of_ext eX⟩
 ·have hkl:=wL h2
  have H1:=aA h1;have HSV:Hid (pI pred l l k (k+1)):=pI.start h2 h3 h4
  have hk1:((k:Int) == -1)=false:=sp
  obtain ⟨g,rfl⟩:∃ g,a=some ⟨g,0,none⟩:=by
   rcases HO.out.2 with ⟨h',h0⟩|⟨g,cap',cur,h',_⟩
   ·omega
   ·cases h';exact ⟨g,rfl⟩
  have HSK:Hid ((fun k=>(Value.slice (some ⟨g,0,none⟩) l.length cap).ownBlock=some k)=Is g):=by
   unfold Hid
   funext k
   simp [Value.ownBlock,Is,eq_comm]
  have HPI:Hid (JobPredIn w (Is g) K caps pred):=by unfold Hid;rw [<-HSK.out];exact HP.out
  clear h1 h2 h3 h4;go_enter func195,ntmps195;go_wp2_with (go_at_call 215;with_reducible refine mo (index_at (indexJobF_any _ _ _ l _ _ pred _ _ HF.out HPI.out) H1) fun o1 n1=>?_)
  go_loopw [5,6] (fun i j wr=>∃ (i' j':Nat) (xs:List Job),i = .int .i64 i'/\j = .int .i64 j'/\Hid (pI pred l xs i' j')/\Hid (wr.ownsRow B 143 2 (.slice (some ⟨g,0,none⟩) l.length cap) l.length (xs.flatMap jA))/\Hid (fA (Is g) w wr)) (fun _ j _=>l.length - (intOf j).toNat)
  case atStart=>exact ⟨k,k+1,l,rfl,by go_num,HSV,vF HO.out _ _,fA.of_ext eX⟩
  case round=>
   obtain ⟨i,j,xs,rfl,rfl,HS,HW,HK⟩:=hrel;have hij:=HS.out.lt;have hxl:=HS.out.len
   by_cases hlt:j<l.length
   ·obtain ⟨⟨t,f⟩,hs⟩:∃ s,l[j]? = some s:=⟨l[j],by simp [hlt]⟩
    obtain ⟨⟨t',f'⟩,hs'⟩:∃ s,xs[i]? = some s:=⟨xs[i]'om,by rw [List.getElem?_eq_getElem om]⟩
    have hsx:=HS.out.at.trans hs;obtain ⟨_,_,e0,sl0⟩:=Sl.of_owns (c:=2) (enc:=jA) HW.out dc (fun _=>rfl);cases e0;obtain ⟨b,q,y,e1,hy,dy⟩:=sl0.get (k:=j) hlt;cases e1;obtain rfl:y=⟨t,f⟩:=Option.some.inj (hy.symm.trans hsx);obtain ⟨b,q,y,e1,hy',dy'⟩:=sl0.get (k:=i) om;cases e1;obtain rfl:y=⟨t',f'⟩:=Option.some.inj (hy'.symm.trans hs');have dy:=at2 dy;have dy':=at2 dy';simp only [Nat.zero_add] at dy dy'
    have fz:∀ r,wr.frozen? ⟨g,r,none⟩=false:=fun r=>HW.out.frozenAt r
    have zg:=cA dy.1
    have hjj:(j:Int)<(l.length:Int):=om
    have hii:(i:Int)<(l.length:Int):=om
    have HR:=HP.out.enters;have HSS:=aA hs;clear hs hs' hsx sl0 hy hy';cases hpt:pred ⟨t,f⟩
    ·have HPT:=aA hpt
     go_wp2_with ((with_reducible refine (HPI.out.answers ⟨t,f⟩ _ (HK.out.ext eX)).mono ?_);rintro e w1 ⟨rfl,o2,n2,rfl⟩);go_roundw
     case rel=>exact ⟨i+1,j+1,xs.set i ⟨t,f⟩,by go_num,by go_num,HS.out.keep HSS.out HPT.out,by
      have:=(qK (jA ⟨t,f⟩) (i * 2) (show World.ownsRow (World.plus (wr.alloc (.cells #[vi t,.bool f] 143)) o2 n2) _ _ _ _ _ _ from vF (iB HW.out _) _ _)).1
      rw [putAll_flat (enc:=jA) (c:=2) (fun _=>rfl) xs i ⟨t,f⟩ om] at this
      exact this,by
      exact ((HK.out.ext eX).put _ _).put _ _⟩
     case measure=>simp [intOf];omega
    ·have HPT:=aA hpt
     go_wp2_with ((with_reducible refine (HPI.out.answers ⟨t,f⟩ _ (HK.out.ext eX)).mono ?_);rintro e w1 ⟨rfl,o2,n2,rfl⟩);go_roundw
     case rel=>exact ⟨i,j+1,xs,by go_num,by go_num,HS.out.skip HSS.out HPT.out,vF (iB HW.out _) _ _,HK.out.ext eX⟩
     case measure=>simp [intOf];omega
   ·have hjl:j=l.length:=om
    have hi2:i<l.length:=om
    subst hjl
    have hii:(i:Int)<=(l.length:Int):=om
    have hi0:(0:Int)<=(i:Int):=om
    have hcc:(l.length:Int)<=(cap:Int):=om
    have hic:(i:Int)<=(cap:Int):=om
    obtain ⟨wz,hcl,hz1,hz2⟩:=clear_tail (P:=prog) (c:=2) (k:=cap - i) 47 0 (.agg #[vi 0,.bool false]) underlying47 (by intro w;kernel_rfl) rfl (by intro v hv;simp [Value.cells] at hv;rcases hv with rfl|rfl <;> rfl) HW.out hi2;have HZ1:=aA hz1;have HZ2:=aA hz2;clear hz1 hz2;go_wp2;go_ret;have hd:=HS.out.done rfl;refine ⟨_,rfl,?_,fun k hk=>hk,?_⟩
    ·have:=HZ1.out
     rw [take_flat (c:=2) (fun _=>rfl),hd.1] at this;rw [<-hd.2];exact this
    ·rw [HSK.out]
     exact ⟨HZ2.out.os.trans HK.out.os,HZ2.out.tape.trans HK.out.tape,HZ2.out.output.trans HK.out.output,Nat.le_trans HK.out.size HZ2.out.size,fun k hk hs=>(HZ2.out.block k (Nat.lt_of_lt_of_le hk HK.out.size) (fun e=>hs (Option.some.inj e))).trans (HK.out.block k hk hs)⟩
theorem deleteStay_any (B:Nat) (v:Value) (l:List sA) (K:Nat) (caps:Array Value) (pred:sA->Bool) (w:World) (hown:w.ownsRow B 141 8 v l.length (l.flatMap iA)) (hp:tM w (fun k=>v.ownBlock=some k) K caps pred) (h63:l.length<=1000):
  Calls prog 197 #[v,.func (.func K) #[] caps] w (Left w B 141 8 v iA (l.filter (fun x=>!pred x))):=by
 obtain ⟨a,cap,rfl,hsl⟩:=Sl.of_owns (c:=8) (enc:=iA) hown dc (fun _=>rfl);have HO:=aA hown;have HP:=aA hp;have HF:=aA hsl;have hb:=hsl.bound;clear hown hp hsl
 rcases index_split pred l with ⟨h1,h2⟩|⟨k,x,h1,h2,h3,h4⟩
 ·have H1:=aA h1
  have H2:=aA h2;clear h1 h2;go_enter func197,ntmps197;go_wp2_with (go_at_call 150;with_reducible refine mo (index_at (wI _ _ _ l _ _ pred _ HF.out HP.out.stay) H1) fun o1 n1=>?_);go_ret;exact ⟨_,rfl,by rw [H2.out];exact vF HO.out _ _,fun k hk=>hk,fA.of_ext eX⟩
 ·have hkl:=wL h2
  have H1:=aA h1;have HSV:Hid (pI pred l l k (k+1)):=pI.start h2 h3 h4
  have hk1:((k:Int) == -1)=false:=sp
  obtain ⟨g,rfl⟩:∃ g,a=some ⟨g,0,none⟩:=by
   rcases HO.out.2 with ⟨h',h0⟩|⟨g,cap',cur,h',_⟩
   ·omega
   ·cases h';exact ⟨g,rfl⟩
  have HSK:Hid ((fun k=>(Value.slice (some ⟨g,0,none⟩) l.length cap).ownBlock=some k)=Is g):=by
   unfold Hid
   funext k
   simp [Value.ownBlock,Is,eq_comm]
  have HPI:Hid (tM w (Is g) K caps pred):=by unfold Hid;rw [<-HSK.out];exact HP.out
  clear h1 h2 h3 h4;go_enter func197,ntmps197;go_wp2_with (go_at_call 150;with_reducible refine mo (index_at (wI _ _ _ l _ _ pred _ HF.out HPI.out.stay) H1) fun o1 n1=>?_)
  go_loopw [5,6] (fun i j wr=>∃ (i' j':Nat) (xs:List sA),i = .int .i64 i'/\j = .int .i64 j'/\Hid (pI pred l xs i' j')/\Hid (wr.ownsRow B 141 8 (.slice (some ⟨g,0,none⟩) l.length cap) l.length (xs.flatMap iA))/\Hid (fA (Is g) w wr)) (fun _ j _=>l.length - (intOf j).toNat)
  case atStart=>exact ⟨k,k+1,l,rfl,by go_num,HSV,vF HO.out _ _,fA.of_ext eX⟩
  case round=>
   obtain ⟨i,j,xs,rfl,rfl,HS,HW,HK⟩:=hrel;have hij:=HS.out.lt;have hxl:=HS.out.len
   by_cases hlt:j<l.length
   ·obtain ⟨⟨t,⟨ci,⟨cx,cy,cz⟩⟩,⟨h0,h1,h2⟩⟩,hs⟩:∃ s,l[j]? = some s:=⟨l[j],by simp [hlt]⟩
    obtain ⟨⟨t',⟨ci',⟨cx',cy',cz'⟩⟩,⟨h0',h1',h2'⟩⟩,hs'⟩:∃ s,xs[i]? = some s:=⟨xs[i]'om,by rw [List.getElem?_eq_getElem om]⟩
    have hsx:=HS.out.at.trans hs;obtain ⟨_,_,e0,sl0⟩:=Sl.of_owns (c:=8) (enc:=iA) HW.out dc (fun _=>rfl);cases e0;obtain ⟨b,q,y,e1,hy,dy⟩:=sl0.get (k:=j) hlt;cases e1;obtain rfl:y=⟨t,⟨ci,⟨cx,cy,cz⟩⟩,⟨h0,h1,h2⟩⟩:=Option.some.inj (hy.symm.trans hsx);obtain ⟨b,q,y,e1,hy',dy'⟩:=sl0.get (k:=i) om;cases e1;obtain rfl:y=⟨t',⟨ci',⟨cx',cy',cz'⟩⟩,⟨h0',h1',h2'⟩⟩:=Option.some.inj (hy'.symm.trans hs');have dy:=at8 dy;have dy':=at8 dy';dsimp only at dy dy';simp only [Nat.zero_add] at dy dy'
    have fz:∀ r,wr.frozen? ⟨g,r,none⟩=false:=fun r=>HW.out.frozenAt r
    have zg:=cA dy.1
    have hjj:(j:Int)<(l.length:Int):=om
    have hii:(i:Int)<(l.length:Int):=om
    have HR:=HP.out.enters;have HSS:=aA hs;clear hs hs' hsx sl0 hy hy';cases hpt:pred ⟨t,⟨ci,⟨cx,cy,cz⟩⟩,⟨h0,h1,h2⟩⟩
    ·have HPT:=aA hpt
     go_wp2_with ((with_reducible refine (HPI.out.answers ⟨t,⟨ci,⟨cx,cy,cz⟩⟩,⟨h0,h1,h2⟩⟩ _ (HK.out.ext eX)).mono ?_);rintro e w1 ⟨rfl,o2,n2,rfl⟩);go_roundw
     case rel=>exact ⟨i+1,j+1,xs.set i ⟨t,⟨ci,⟨cx,cy,cz⟩⟩,⟨h0,h1,h2⟩⟩,by go_num,by go_num,HS.out.keep HSS.out HPT.out,by
      have:=(qK (iA ⟨t,⟨ci,⟨cx,cy,cz⟩⟩,⟨h0,h1,h2⟩⟩) (i * 8) (show World.ownsRow (World.plus (wr.alloc (.cells #[vi t,vi ci,vi cx,vi cy,vi cz,vi h0,vi h1,vi h2] 141)) o2 n2) _ _ _ _ _ _ from vF (iB HW.out _) _ _)).1
      rw [putAll_flat (enc:=iA) (c:=8) (fun _=>rfl) xs i ⟨t,⟨ci,⟨cx,cy,cz⟩⟩,⟨h0,h1,h2⟩⟩ om] at this
      exact this,by
      exact ((((((((HK.out.ext eX).put _ _).put _ _).put _ _).put _ _).put _ _).put _ _).put _ _).put _ _⟩
     case measure=>simp [intOf];omega
    ·have HPT:=aA hpt
     go_wp2_with ((with_reducible refine (HPI.out.answers ⟨t,⟨ci,⟨cx,cy,cz⟩⟩,⟨h0,h1,h2⟩⟩ _ (HK.out.ext eX)).mono ?_);rintro e w1 ⟨rfl,o2,n2,rfl⟩);go_roundw
     case rel=>exact ⟨i,j+1,xs,by go_num,by go_num,HS.out.skip HSS.out HPT.out,vF (iB HW.out _) _ _,HK.out.ext eX⟩
     case measure=>simp [intOf];omega
   ·have hjl:j=l.length:=om
    have hi2:i<l.length:=om
    subst hjl
    have hii:(i:Int)<=(l.length:Int):=om
    have hi0:(0:Int)<=(i:Int):=om
    have hcc:(l.length:Int)<=(cap:Int):=om
    have hic:(i:Int)<=(cap:Int):=om
    obtain ⟨wz,hcl,hz1,hz2⟩:=clear_tail (P:=prog) (c:=8) (k:=cap - i) 46 0 (.agg #[vi 0,vi 0,vi 0,vi 0,vi 0,vi 0,vi 0,vi 0]) underlying46 (by intro w;kernel_rfl) rfl (by intro v hv;simp [Value.cells] at hv;subst hv;rfl) HW.out hi2;have HZ1:=aA hz1;have HZ2:=aA hz2;clear hz1 hz2;go_wp2;go_ret;have hd:=HS.out.done rfl;refine ⟨_,rfl,?_,fun k hk=>hk,?_⟩
    ·have:=HZ1.out
     rw [take_flat (c:=8) (fun _=>rfl),hd.1] at this;rw [<-hd.2];exact this
    ·rw [HSK.out]
     exact ⟨HZ2.out.os.trans HK.out.os,HZ2.out.tape.trans HK.out.tape,HZ2.out.output.trans HK.out.output,Nat.le_trans HK.out.size HZ2.out.size,fun k hk hs=>(HZ2.out.block k (Nat.lt_of_lt_of_le hk HK.out.size) (fun e=>hs (Option.some.inj e))).trans (HK.out.block k hk hs)⟩
