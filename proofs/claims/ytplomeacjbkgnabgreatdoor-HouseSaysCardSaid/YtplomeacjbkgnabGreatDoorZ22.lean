import Derived.Test.YtplomeacjbkgnabGreatDoorZ17
import Derived.Test.YtplomeacjbkgnabGreatDoorZ21
set_option linter.all false
set_option maxRecDepth 100000
set_option maxHeartbeats 16000000
namespace Go.Proofs.YtplomeacjbkgnabGreatDoor
open Go.RowKit
structure JobPredIn (w:World) (S:Nat→Prop) (K:Nat) (caps:Array Value) (pred:Ch.Job→Bool):Prop where
 enters:∀ args w,(callFunc K args).run Tryz.prog w = .ok (.enter K args) w
 answers:∀ (s:Ch.Job) (W:World),mA S w W→Calls Tryz.prog K (#[jobA s]++caps) W fun e w'=>e = .returned (.bool (pred s))∧Ext W w'
structure dI (w:World) (S:Nat→Prop) (K:Nat) (caps:Array Value) (pred:Ch.Stay→Bool):Prop where
 enters:∀ args w,(callFunc K args).run Tryz.prog w = .ok (.enter K args) w
 answers:∀ (s:Ch.Stay) (W:World),mA S w W→Calls Tryz.prog K (#[stayA s]++caps) W fun e w'=>e = .returned (.bool (pred s))∧Ext W w'
theorem dI.stay {w:World} {S:Nat→Prop} {K:Nat} {caps:Array Value} {pred:Ch.Stay→Bool} (h:dI w S K caps pred):bH w K caps pred:=
 ⟨h.enters,fun s W x=>h.answers s W (mA.of_ext x)⟩
theorem indexJobF_any (a:Option Addr) (n cap:Nat) (l:List Ch.Job) (K:Nat) (caps:Array Value) (pred:Ch.Job→Bool) (S:Nat→Prop) (w:World) (h:Sl w 2 jA l a n cap) (hp:JobPredIn w S K caps pred):
  Calls Tryz.prog 215 #[.slice a n cap,.func (.func K) #[] caps] w fun e w'=>e = .returned (vi (Ch.indexOf pred l))∧Ext w w':=by
 have HF:=aA h;have HP:=aA hp;have hb:=h.bound;have hl:=h.len;have HL:=aA hl;clear h hp hl;go_enter Tryz.func215,Tryz.ntmps215;go_wp2
 go_loopw [8] (fun i wr=>∃ k:Nat,k≤n∧i = .int .i64 k∧Hid (∀ j s,j<k→l[j]? = some s→pred s=false)∧Ext w wr) (fun i _=>n - (intOf i).toNat)
 case atStart=>exact ⟨0,by omega,rfl,by intro j s hj;omega,eX⟩
 case round=>
  obtain ⟨k,hk,rfl,HT,o,m,rfl⟩:=hrel
  by_cases hlt:k<n
  ·obtain ⟨b,q,s,rfl,hs,ds⟩:=HF.out.get hlt
   have ds:=at2 ds;have hq:=dA ds.1;have HS:=aA hs;clear hs;have HR:=HP.out.enters;cases hps:pred s
   ·have HQ:=aA hps
    go_wp2_with ((with_reducible refine (HP.out.answers s _ (mA.of_ext eX)).mono ?_);rintro e w1 ⟨rfl,o1,n1,rfl⟩);go_roundw
    case rel=>exact ⟨k+1,by omega,by go_num,mI HS.out HQ.out HT.out,eX⟩
    case measure=>simp [intOf];omega
   ·have HQ:=aA hps
    go_wp2_with ((with_reducible refine (HP.out.answers s _ (mA.of_ext eX)).mono ?_);rintro e w1 ⟨rfl,o1,n1,rfl⟩);go_ret;exact ⟨by rw [mH HS.out HQ.out HT.out];rfl,eX⟩
  ·go_wp2
   go_ret;exact ⟨by rw [nH (fun j s hj hs=>HT.out j s (by have:=HL.out;omega) hs)];rfl,eX⟩
theorem index_split {α:Type} (p:α→Bool) (l:List α):(Ch.indexOf p l=-1∧l.filter (fun x=>!p x)=l)∨∃ (k:Nat) (x:α),Ch.indexOf p l=(k:Int)∧l[k]? = some x∧p x=true∧∀ j s,j<k→l[j]? = some s→p s=false:=by
 unfold Ch.indexOf
 cases h:l.findIdx? p with
 | none=>
  rw [List.findIdx?_eq_none_iff] at h;exact Or.inl ⟨rfl,List.filter_eq_self.2 (fun x hx=>by simp [h x hx])⟩
 | some k=>
  rw [List.findIdx?_eq_some_iff_getElem] at h;obtain ⟨hk,hp,hb⟩:=h;refine Or.inr ⟨k,l[k],rfl,by simp [hk],hp,fun j s hj hs=>?_⟩
  have hjl:j<l.length:=by omega
  rw [List.getElem?_eq_getElem hjl] at hs;cases hs;have:=hb j hj
  simpa using this
def Left (w:World) (B e c:Nat) (v:Value) {α:Type} (enc:α→List Value) (l:List α) (en:Ending) (w':World):Prop:=
 ∃ v',en = .returned v'∧w'.ownsRow B e c v' l.length (l.flatMap enc)∧(∀ k,v'.ownBlock=some k→v.ownBlock=some k)∧mA (fun k=>v.ownBlock=some k) w w'
theorem index_at {P:Program} {F:FuncId} {args:Array Value} {w:World} {x y:Int} (h:Calls P F args w fun e w'=>e = .returned (vi x)∧Ext w w') (e:Hid (x=y)):Calls P F args w fun e w'=>e = .returned (vi y)∧Ext w w':=by
 rw [←e.out];exact h
theorem sI (B:Nat) (v:Value) (l:List Ch.Job) (K:Nat) (caps:Array Value) (pred:Ch.Job→Bool) (w:World) (hown:w.ownsRow B 143 2 v l.length (l.flatMap jA)) (hp:JobPredIn w (fun k=>v.ownBlock=some k) K caps pred) (h63:l.length≤1000):
  Calls Tryz.prog 195 #[v,.func (.func K) #[] caps] w (Left w B 143 2 v jA (l.filter (fun x=>!pred x))):=by
 obtain ⟨a,cap,rfl,hsl⟩:=Sl.of_owns (c:=2) (enc:=jA) hown (by decide) (fun _=>rfl);have HO:=aA hown;have HP:=aA hp;have HF:=aA hsl;have hb:=hsl.bound;clear hown hp hsl
 rcases index_split pred l with ⟨h1,h2⟩|⟨k,x,h1,h2,h3,h4⟩
 ·have H1:=aA h1
  have H2:=aA h2;clear h1 h2;go_enter Tryz.func195,Tryz.ntmps195;go_wp2_with (go_at_call 215;(with_reducible refine (index_at (indexJobF_any _ _ _ l _ _ pred _ _ HF.out HP.out) H1).mono ?_);rintro e w1 ⟨rfl,o1,n1,rfl⟩);go_ret;exact ⟨_,rfl,by rw [H2.out];exact kD HO.out _ _,fun k hk=>hk,mA.of_ext eX⟩
 ·have hkl:=qH h2
  have H1:=aA h1;have HSV:Hid (kF pred l l k (k+1)):=kF.start h2 h3 h4
  have hk1:((k:Int) == -1)=false:=by simp
  obtain ⟨g,rfl⟩:∃ g,a=some ⟨g,0,none⟩:=by
   rcases HO.out.2 with ⟨h',h0⟩|⟨g,cap',cur,h',_⟩
   ·omega
   ·cases h';exact ⟨g,rfl⟩
  have HSK:Hid ((fun k=>(Value.slice (some ⟨g,0,none⟩) l.length cap).ownBlock=some k)=Is g):=by
   unfold Hid
   funext k
   simp [Value.ownBlock,Is,eq_comm]
  have HPI:Hid (JobPredIn w (Is g) K caps pred):=by unfold Hid;rw [←HSK.out];exact HP.out
  clear h1 h2 h3 h4;go_enter Tryz.func195,Tryz.ntmps195;go_wp2_with (go_at_call 215;(with_reducible refine (index_at (indexJobF_any _ _ _ l _ _ pred _ _ HF.out HPI.out) H1).mono ?_);rintro e w1 ⟨rfl,o1,n1,rfl⟩)
  go_loopw [5,6] (fun i j wr=>∃ (i' j':Nat) (xs:List Ch.Job),i = .int .i64 i'∧j = .int .i64 j'∧Hid (kF pred l xs i' j')∧Hid (wr.ownsRow B 143 2 (.slice (some ⟨g,0,none⟩) l.length cap) l.length (xs.flatMap jA))∧Hid (mA (Is g) w wr)) (fun _ j _=>l.length - (intOf j).toNat)
  case atStart=>exact ⟨k,k+1,l,rfl,by go_num,HSV,kD HO.out _ _,mA.of_ext eX⟩
  case round=>
   obtain ⟨i,j,xs,rfl,rfl,HS,HW,HK⟩:=hrel;have hij:=HS.out.lt;have hxl:=HS.out.len
   by_cases hlt:j<l.length
   ·obtain ⟨⟨t,f⟩,hs⟩:∃ s,l[j]? = some s:=⟨l[j],by simp [hlt]⟩
    obtain ⟨⟨t',f'⟩,hs'⟩:∃ s,xs[i]? = some s:=⟨xs[i]'(by omega),by rw [List.getElem?_eq_getElem (by omega)]⟩
    have hsx:=HS.out.at.trans hs;obtain ⟨_,_,e0,sl0⟩:=Sl.of_owns (c:=2) (enc:=jA) HW.out (by decide) (fun _=>rfl);cases e0;obtain ⟨b,q,y,e1,hy,dy⟩:=sl0.get (k:=j) hlt;cases e1;obtain rfl:y=⟨t,f⟩:=Option.some.inj (hy.symm.trans hsx);obtain ⟨b,q,y,e1,hy',dy'⟩:=sl0.get (k:=i) (by omega);cases e1;obtain rfl:y=⟨t',f'⟩:=Option.some.inj (hy'.symm.trans hs');have dy:=at2 dy;have dy':=at2 dy';simp only [Nat.zero_add] at dy dy'
    have fz:∀ r,wr.frozen? ⟨g,r,none⟩=false:=fun r=>HW.out.frozenAt r
    have zg:=dA dy.1
    have hjj:(j:Int)<(l.length:Int):=by omega
    have hii:(i:Int)<(l.length:Int):=by omega
    have HR:=HP.out.enters;have HSS:=aA hs;clear hs hs' hsx sl0 hy hy';cases hpt:pred ⟨t,f⟩
    ·have HPT:=aA hpt
     go_wp2_with ((with_reducible refine (HPI.out.answers ⟨t,f⟩ _ (HK.out.ext eX)).mono ?_);rintro e w1 ⟨rfl,o2,n2,rfl⟩);go_roundw
     case rel=>exact ⟨i+1,j+1,xs.set i ⟨t,f⟩,by go_num,by go_num,HS.out.keep HSS.out HPT.out,by
      have:=(rG (jA ⟨t,f⟩) (i * 2) (show World.ownsRow (World.plus (wr.alloc (.cells #[vi t,.bool f] 143)) o2 n2) _ _ _ _ _ _ from kD (fB HW.out _) _ _)).1
      rw [putAll_flat (enc:=jA) (c:=2) (fun _=>rfl) xs i ⟨t,f⟩ (by omega)] at this
      exact this,by
      exact ((HK.out.ext eX).put _ _).put _ _⟩
     case measure=>simp [intOf];omega
    ·have HPT:=aA hpt
     go_wp2_with ((with_reducible refine (HPI.out.answers ⟨t,f⟩ _ (HK.out.ext eX)).mono ?_);rintro e w1 ⟨rfl,o2,n2,rfl⟩);go_roundw
     case rel=>exact ⟨i,j+1,xs,by go_num,by go_num,HS.out.skip HSS.out HPT.out,kD (fB HW.out _) _ _,HK.out.ext eX⟩
     case measure=>simp [intOf];omega
   ·have hjl:j=l.length:=by omega
    have hi2:i<l.length:=by omega
    subst hjl
    have hii:(i:Int)≤(l.length:Int):=by omega
    have hi0:(0:Int)≤(i:Int):=by omega
    have hcc:(l.length:Int)≤(cap:Int):=by omega
    have hic:(i:Int)≤(cap:Int):=by omega
    obtain ⟨wz,hcl,hz1,hz2⟩:=clear_tail (P:=Tryz.prog) (c:=2) (k:=cap - i) 47 0 (.agg #[vi 0,.bool false]) Tryz.underlying47 (by intro w;kernel_rfl) rfl (by intro v hv;simp [Value.cells] at hv;rcases hv with rfl|rfl <;> rfl) HW.out hi2;have HZ1:=aA hz1;have HZ2:=aA hz2;clear hz1 hz2;go_wp2;go_ret;have hd:=HS.out.done rfl;refine ⟨_,rfl,?_,fun k hk=>hk,?_⟩
    ·have:=HZ1.out
     rw [take_flat (c:=2) (fun _=>rfl),hd.1] at this;rw [←hd.2];exact this
    ·rw [HSK.out]
     exact ⟨HZ2.out.os.trans HK.out.os,HZ2.out.tape.trans HK.out.tape,HZ2.out.output.trans HK.out.output,Nat.le_trans HK.out.size HZ2.out.size,fun k hk hs=>(HZ2.out.block k (Nat.lt_of_lt_of_le hk HK.out.size) (fun e=>hs (Option.some.inj e))).trans (HK.out.block k hk hs)⟩
theorem deleteStay_any (B:Nat) (v:Value) (l:List Ch.Stay) (K:Nat) (caps:Array Value) (pred:Ch.Stay→Bool) (w:World) (hown:w.ownsRow B 141 8 v l.length (l.flatMap gA)) (hp:dI w (fun k=>v.ownBlock=some k) K caps pred) (h63:l.length≤1000):
  Calls Tryz.prog 197 #[v,.func (.func K) #[] caps] w (Left w B 141 8 v gA (l.filter (fun x=>!pred x))):=by
 obtain ⟨a,cap,rfl,hsl⟩:=Sl.of_owns (c:=8) (enc:=gA) hown (by decide) (fun _=>rfl);have HO:=aA hown;have HP:=aA hp;have HF:=aA hsl;have hb:=hsl.bound;clear hown hp hsl
 rcases index_split pred l with ⟨h1,h2⟩|⟨k,x,h1,h2,h3,h4⟩
 ·have H1:=aA h1
  have H2:=aA h2;clear h1 h2;go_enter Tryz.func197,Tryz.ntmps197;go_wp2_with (go_at_call 150;(with_reducible refine (index_at (qF _ _ _ l _ _ pred _ HF.out HP.out.stay) H1).mono ?_);rintro e w1 ⟨rfl,o1,n1,rfl⟩);go_ret;exact ⟨_,rfl,by rw [H2.out];exact kD HO.out _ _,fun k hk=>hk,mA.of_ext eX⟩
 ·have hkl:=qH h2
  have H1:=aA h1;have HSV:Hid (kF pred l l k (k+1)):=kF.start h2 h3 h4
  have hk1:((k:Int) == -1)=false:=by simp
  obtain ⟨g,rfl⟩:∃ g,a=some ⟨g,0,none⟩:=by
   rcases HO.out.2 with ⟨h',h0⟩|⟨g,cap',cur,h',_⟩
   ·omega
   ·cases h';exact ⟨g,rfl⟩
  have HSK:Hid ((fun k=>(Value.slice (some ⟨g,0,none⟩) l.length cap).ownBlock=some k)=Is g):=by
   unfold Hid
   funext k
   simp [Value.ownBlock,Is,eq_comm]
  have HPI:Hid (dI w (Is g) K caps pred):=by unfold Hid;rw [←HSK.out];exact HP.out
  clear h1 h2 h3 h4;go_enter Tryz.func197,Tryz.ntmps197;go_wp2_with (go_at_call 150;(with_reducible refine (index_at (qF _ _ _ l _ _ pred _ HF.out HPI.out.stay) H1).mono ?_);rintro e w1 ⟨rfl,o1,n1,rfl⟩)
  go_loopw [5,6] (fun i j wr=>∃ (i' j':Nat) (xs:List Ch.Stay),i = .int .i64 i'∧j = .int .i64 j'∧Hid (kF pred l xs i' j')∧Hid (wr.ownsRow B 141 8 (.slice (some ⟨g,0,none⟩) l.length cap) l.length (xs.flatMap gA))∧Hid (mA (Is g) w wr)) (fun _ j _=>l.length - (intOf j).toNat)
  case atStart=>exact ⟨k,k+1,l,rfl,by go_num,HSV,kD HO.out _ _,mA.of_ext eX⟩
  case round=>
   obtain ⟨i,j,xs,rfl,rfl,HS,HW,HK⟩:=hrel;have hij:=HS.out.lt;have hxl:=HS.out.len
   by_cases hlt:j<l.length
   ·obtain ⟨⟨t,⟨ci,⟨cx,cy,cz⟩⟩,⟨h0,h1,h2⟩⟩,hs⟩:∃ s,l[j]? = some s:=⟨l[j],by simp [hlt]⟩
    obtain ⟨⟨t',⟨ci',⟨cx',cy',cz'⟩⟩,⟨h0',h1',h2'⟩⟩,hs'⟩:∃ s,xs[i]? = some s:=⟨xs[i]'(by omega),by rw [List.getElem?_eq_getElem (by omega)]⟩
    have hsx:=HS.out.at.trans hs;obtain ⟨_,_,e0,sl0⟩:=Sl.of_owns (c:=8) (enc:=gA) HW.out (by decide) (fun _=>rfl);cases e0;obtain ⟨b,q,y,e1,hy,dy⟩:=sl0.get (k:=j) hlt;cases e1;obtain rfl:y=⟨t,⟨ci,⟨cx,cy,cz⟩⟩,⟨h0,h1,h2⟩⟩:=Option.some.inj (hy.symm.trans hsx);obtain ⟨b,q,y,e1,hy',dy'⟩:=sl0.get (k:=i) (by omega);cases e1;obtain rfl:y=⟨t',⟨ci',⟨cx',cy',cz'⟩⟩,⟨h0',h1',h2'⟩⟩:=Option.some.inj (hy'.symm.trans hs');have dy:=at8 dy;have dy':=at8 dy';dsimp only at dy dy';simp only [Nat.zero_add] at dy dy'
    have fz:∀ r,wr.frozen? ⟨g,r,none⟩=false:=fun r=>HW.out.frozenAt r
    have zg:=dA dy.1
    have hjj:(j:Int)<(l.length:Int):=by omega
    have hii:(i:Int)<(l.length:Int):=by omega
    have HR:=HP.out.enters;have HSS:=aA hs;clear hs hs' hsx sl0 hy hy';cases hpt:pred ⟨t,⟨ci,⟨cx,cy,cz⟩⟩,⟨h0,h1,h2⟩⟩
    ·have HPT:=aA hpt
     go_wp2_with ((with_reducible refine (HPI.out.answers ⟨t,⟨ci,⟨cx,cy,cz⟩⟩,⟨h0,h1,h2⟩⟩ _ (HK.out.ext eX)).mono ?_);rintro e w1 ⟨rfl,o2,n2,rfl⟩);go_roundw
     case rel=>exact ⟨i+1,j+1,xs.set i ⟨t,⟨ci,⟨cx,cy,cz⟩⟩,⟨h0,h1,h2⟩⟩,by go_num,by go_num,HS.out.keep HSS.out HPT.out,by
      have:=(rG (gA ⟨t,⟨ci,⟨cx,cy,cz⟩⟩,⟨h0,h1,h2⟩⟩) (i * 8) (show World.ownsRow (World.plus (wr.alloc (.cells #[vi t,vi ci,vi cx,vi cy,vi cz,vi h0,vi h1,vi h2] 141)) o2 n2) _ _ _ _ _ _ from kD (fB HW.out _) _ _)).1
      rw [putAll_flat (enc:=gA) (c:=8) (fun _=>rfl) xs i ⟨t,⟨ci,⟨cx,cy,cz⟩⟩,⟨h0,h1,h2⟩⟩ (by omega)] at this
      exact this,by
      exact ((((((((HK.out.ext eX).put _ _).put _ _).put _ _).put _ _).put _ _).put _ _).put _ _).put _ _⟩
     case measure=>simp [intOf];omega
    ·have HPT:=aA hpt
     go_wp2_with ((with_reducible refine (HPI.out.answers ⟨t,⟨ci,⟨cx,cy,cz⟩⟩,⟨h0,h1,h2⟩⟩ _ (HK.out.ext eX)).mono ?_);rintro e w1 ⟨rfl,o2,n2,rfl⟩);go_roundw
     case rel=>exact ⟨i,j+1,xs,by go_num,by go_num,HS.out.skip HSS.out HPT.out,kD (fB HW.out _) _ _,HK.out.ext eX⟩
     case measure=>simp [intOf];omega
   ·have hjl:j=l.length:=by omega
    have hi2:i<l.length:=by omega
    subst hjl
    have hii:(i:Int)≤(l.length:Int):=by omega
    have hi0:(0:Int)≤(i:Int):=by omega
    have hcc:(l.length:Int)≤(cap:Int):=by omega
    have hic:(i:Int)≤(cap:Int):=by omega
    obtain ⟨wz,hcl,hz1,hz2⟩:=clear_tail (P:=Tryz.prog) (c:=8) (k:=cap - i) 46 0 (.agg #[vi 0,vi 0,vi 0,vi 0,vi 0,vi 0,vi 0,vi 0]) Tryz.underlying46 (by intro w;kernel_rfl) rfl (by intro v hv;simp [Value.cells] at hv;subst hv;rfl) HW.out hi2;have HZ1:=aA hz1;have HZ2:=aA hz2;clear hz1 hz2;go_wp2;go_ret;have hd:=HS.out.done rfl;refine ⟨_,rfl,?_,fun k hk=>hk,?_⟩
    ·have:=HZ1.out
     rw [take_flat (c:=8) (fun _=>rfl),hd.1] at this;rw [←hd.2];exact this
    ·rw [HSK.out]
     exact ⟨HZ2.out.os.trans HK.out.os,HZ2.out.tape.trans HK.out.tape,HZ2.out.output.trans HK.out.output,Nat.le_trans HK.out.size HZ2.out.size,fun k hk hs=>(HZ2.out.block k (Nat.lt_of_lt_of_le hk HK.out.size) (fun e=>hs (Option.some.inj e))).trans (HK.out.block k hk hs)⟩
theorem vA.set {w:World} {rb:Nat} {p q:Ch.Plant} (h:vA w rb p) (i:Nat) (v:Value) (hq:(rCells p).setIfInBounds i v=rCells q):vA (w.setCell ⟨rb,i,none⟩ v) rb q:=
 ⟨by rw [mB h.blk,hq]⟩
theorem slot_set (p:Ch.Plant) {a b c:Nat} (a4:a≤4) (hb:b≤1) (hc:c≤1) (v:Int):
  (rCells p).setIfInBounds (7+a * 4+b * 2+c) (vi v)=rCells { p with slots:=Ch.setSlot p.slots ⟨(a:Int),(b:Int),(c:Int)⟩ v }:=by
 have ha:a=0∨a=1∨a=2∨a=3∨a=4:=by omega
 have hb:b=0∨b=1:=by omega
 have hc:c=0∨c=1:=by omega
 rcases ha with rfl|rfl|rfl|rfl|rfl <;> rcases hb with rfl|rfl <;> rcases hc with rfl|rfl <;> rfl
def RDid (rb:Nat) (w:World) (p':Ch.Plant) (r:Value) (e:Ending) (w':World):Prop:=e = .returned r∧vA w' rb p'∧mA (Is rb) w w'
theorem rstall_any {rb:Nat} {p:Ch.Plant} {w:World} (h:vA w rb p) (n:Int):
  Calls Tryz.prog 64 #[.pointer (some ⟨rb,0,none⟩),vi n] w (RDid rb w (p.setStall n).1 (vi (p.setStall n).2)):=by
 obtain ⟨c0,c1,c2,c3,c4,c5,c6,c7,c8⟩:=h.cells;have hb:=dA c1;have HP:=aA h;have fz:=xA h.blk;clear h;go_enter Tryz.func64,Tryz.ntmps64;go_wp2
 all_goals
  go_ret;go_light;unfold Ch.Plant.setStall
  first
  | (rw [if_pos (by omega)];exact ⟨rfl,HP.out,mA.refl _ _⟩)
  | (rw [if_neg (by omega)];exact ⟨rfl,HP.out.set 27 _ (by simp),(mA.refl _ _).put 27 _⟩)
theorem rleave_any {rb:Nat} {p:Ch.Plant} {w:World} (h:vA w rb p):
  Calls Tryz.prog 62 #[.pointer (some ⟨rb,0,none⟩)] w (RDid rb w p.leave.1 (.tuple #[vi p.leave.2.1,vi p.leave.2.2])):=by
 obtain ⟨c0,c1,c2,c3,c4,c5,c6,c7,c8⟩:=h.cells;have hb:=dA c1;have HP:=aA h;have fz:=xA h.blk;clear h;cases hd:p.door
 ·rw [hd] at c3
  have HL:Hid (p.leave=(p,0,7)):=by unfold Hid Ch.Plant.leave;rw [if_pos (Or.inl hd)]
  clear hd;go_enter Tryz.func62,Tryz.ntmps62;go_wp2
  go_ret2
  rw [HL.out];exact ⟨rfl,HP.out,mA.refl _ _⟩
 ·rw [hd] at c3
  by_cases hy:p.bay=0
  ·have e1:(p.bay==0)=true:=by simpa using hy
   have HL:Hid (p.leave=(p,0,7)):=by unfold Hid Ch.Plant.leave;rw [if_pos (Or.inr hy)]
   clear hd hy;go_enter Tryz.func62,Tryz.ntmps62;go_wp2
   go_ret2
   rw [HL.out];exact ⟨rfl,HP.out,mA.refl _ _⟩
  ·have e1:(p.bay==0)=false:=by simpa using hy
   have HL:Hid (p.leave=({ p with bay:=0 },p.bay,0)):=by unfold Hid Ch.Plant.leave;rw [if_neg (by simp [hd,hy])]
   clear hd hy;go_enter Tryz.func62,Tryz.ntmps62;go_wp2
   go_ret2
   rw [HL.out];exact ⟨rfl,HP.out.set 6 _ (by simp),(mA.refl _ _).put 6 _⟩
theorem rwalk_any {rb:Nat} {p:Ch.Plant} {w:World} (h:vA w rb p) (hp:p.WF) (n:Int):
  Calls Tryz.prog 59 #[.pointer (some ⟨rb,0,none⟩),vi n] w (RDid rb w (p.walk n).1 (vi (p.walk n).2)):=by
 obtain ⟨c0,c1,c2,c3,c4,c5,c6,c7,c8⟩:=h.cells;have hb:=dA c1;have HP:=aA h;have fz:=xA h.blk;have h1:=hp.pe1;have h2:=hp.pe2;clear h
 by_cases hr:n < -9∨9<n
 ·have HL:Hid (p.walk n=(p,1)):=by unfold Hid Ch.Plant.walk;rw [if_pos hr]
  have HR:=aA hr;clear hr;go_enter Tryz.func59,Tryz.ntmps59;go_wp2
  all_goals
   first
   | (exfalso;have:=HR.out;omega)
   | (go_ret;rw [HL.out];exact ⟨rfl,HP.out,mA.refl _ _⟩)
 ·have r1:-9≤n:=by omega
  have r2:n≤9:=by omega
  cases hd:p.door
  ·rw [hd] at c3
   have HL:Hid (p.walk n=(p,7)):=by unfold Hid Ch.Plant.walk;rw [if_neg hr,if_pos hd]
   clear hr hd;go_enter Tryz.func59,Tryz.ntmps59;go_wp2;go_ret;rw [HL.out];exact ⟨rfl,HP.out,mA.refl _ _⟩
  ·rw [hd] at c3
   have HL:Hid (p.walk n=({ p with people:=Ch.clamp (p.people+n) 9 },0)):=by unfold Hid Ch.Plant.walk;rw [if_neg hr,if_neg (by simp [hd])]
   have i1:IntKind.i64.wrap (p.people+n)=p.people+n:=IntWalk.i64_in _ (by omega);clear hr hd;go_enter Tryz.func59,Tryz.ntmps59;go_wp2
   all_goals
    go_ret;rw [HL.out];refine ⟨rfl,?_,?_⟩
    case refine_1=>
     first
     | exact HP.out.set 4 _ (by first|(simp [Ch.clamp];done)|(simp [Ch.clamp];omega))
     | exact (HP.out.set (q:={ p with people:=p.people+n }) 4 _ (by simp)).set 4 _ (by first|(simp [Ch.clamp];done)|(simp [Ch.clamp];omega))
    case refine_2=>
     first
     | exact (mA.refl _ _).put 4 _
     | exact ((mA.refl _ _).put 4 _).put 4 _
def RMade (w:World) (n:Int) (e:Ending) (w':World):Prop:=∃ rb,e = .returned (.tuple #[.pointer (some ⟨rb,0,none⟩),vi 0])∧vA w' rb (Ch.Plant.new n)∧Ext w w'∧w.heap.size≤rb
theorem rnew_any (n:Int) (w:World) (h1:1≤n) (h2:n≤4):Calls Tryz.prog 14 #[vi n] w (RMade w n):=by
 go_enter Tryz.func14,Tryz.ntmps14;go_wp2
 go_ret2
 refine ⟨w.heap.size,rfl,⟨?_⟩,eX,by omega⟩;rw [sA _ _ _ (by simp)];rfl
theorem rwhere_any {rb:Nat} {p:Ch.Plant} {w:World} (h:vA w rb p) (hp:p.WF) (id:Int):
  Calls Tryz.prog 132 #[.pointer (some ⟨rb,0,none⟩),vi id] w fun e w'=>e = .returned (lF (p.where_ id))∧Ext w w':=by
 have HP0:=aA h;have hb:=h.lt;have hbw:=h.lt
 have h4:(4:Int)≤4:=by decide
 have h41:(1:Int)≤4:=by decide
 have HW:Hid (p.where_ id=yC p id 4 0):=Ch.where_find4 hp id;clear h;go_enter Tryz.func132,Tryz.ntmps132
 go_upto_region 1 with fail
 generalize hW:World.alloc _ _=w0;have r0:w0.cell? ⟨w.heap.size,0,none⟩=some (vi 0):=cQ hW;have r1:w0.cell? ⟨w.heap.size,1,none⟩=some (vi 0):=cQ hW;have r2:w0.cell? ⟨w.heap.size,2,none⟩=some (vi 0):=cQ hW
 have fz:∀ i,w0.frozen? ⟨w.heap.size,i,none⟩=false:=by intro i;rw [←hW];simp [go_sem]
 have hx:Ext w w0:=xQ hW;have HX:=aA hx;have HP:=aA (HP0.out.ext hx);have FZ:=aA fz;have hlev0:=HP.out.cells.1;have zlev:=dA hlev0;clear hW hx HP0 fz hb;go_wp2
 go_loopw [6] (fun i wr=>∃ a:Nat,1≤a∧(a:Int)≤4+1∧i = .int .i64 (a:Int)∧Hid (p.where_ id=yC p id 4 (4 * (a - 1)))∧Ext w0 wr) (fun i _=>(5 - intOf i).toNat)
 case atStart=>exact ⟨1,by omega,by omega,rfl,HW,eX⟩
 case round=>
  obtain ⟨a,ha,han',rfl,HR1,hxr⟩:=hrel;have HXR:=aA hxr;have hlev:=eA hxr hlev0;have zl:=dA hlev;clear hxr
  by_cases han:(a:Int)≤4
  ·go_wp2
   go_loopw [7] (fun i wr=>∃ s:Nat,s≤2∧i = .int .i64 (s:Int)∧Hid (p.where_ id=yC p id 4 (4 * (a - 1)+2 * s))∧Ext w0 wr) (fun i _=>(2 - intOf i).toNat)
   case atStart=>exact ⟨0,by omega,rfl,HR1,HXR.out.trans eX⟩
   case round=>
    obtain ⟨s,hs,rfl,HR2,hxr⟩:=hrel;have HXR:=aA hxr;clear hxr
    by_cases hs2:s<2
    ·have js:(s:Int)<2:=by omega
     go_wp2
     go_loopw [8] (fun i wr=>∃ d:Nat,d≤2∧i = .int .i64 (d:Int)∧Hid (p.where_ id=yC p id 4 (4 * (a - 1)+2 * s+d))∧Ext w0 wr) (fun i _=>(2 - intOf i).toNat)
     case atStart=>exact ⟨0,by omega,rfl,HR2,HXR.out.trans eX⟩
     case round=>
      obtain ⟨d,hd,rfl,HR3,hxr⟩:=hrel;have HXR:=aA hxr;clear hxr;have hR:w.heap.size<w0.heap.size:=dA r0
      by_cases hlt:d<2
      ·have hcell:=slotNat _ (HP.out.ext HXR.out) (a:=a) (b:=s) (c:=d) (by omega) (by omega) (by omega)
       have j0:(0:Int)≤(a:Int):=by omega
       have j1:(a:Int)<5:=by omega
       have j2:(0:Int)≤(s:Int):=by omega
       have j3:(s:Int)<2:=by omega
       have j4:(0:Int)≤(d:Int):=by omega
       have j5:(d:Int)<2:=by omega
       have hbr:=(HP.out.ext HXR.out).lt
       cases e0:(id != 0)
       ·have HNO:Hid (Ch.whereP p id ⟨(a:Int),(s:Int),(d:Int)⟩=false):=by unfold Hid Ch.whereP;rw [e0];rfl
        go_wp2;go_roundw
        case rel=>first|exact ⟨d+1,by omega,by go_num,by unfold Hid;rw [HR3.out];exact uG h4 ha han hs2 hlt HNO.out,HXR.out.trans eX⟩|(repeat apply Exists.intro;refine ⟨?_,rfl⟩;exact ⟨d+1,by omega,by go_num,by unfold Hid;rw [HR3.out];exact uG h4 ha han hs2 hlt HNO.out,HXR.out.trans eX⟩)
        case measure=>simp [intOf];omega
       ·cases e1:(p.slots ⟨(a:Int),(s:Int),(d:Int)⟩==id)
        ·have HNO:Hid (Ch.whereP p id ⟨(a:Int),(s:Int),(d:Int)⟩=false):=by unfold Hid Ch.whereP;rw [e0,e1];rfl
         go_wp2;go_roundw
         case rel=>first|exact ⟨d+1,by omega,by go_num,by unfold Hid;rw [HR3.out];exact uG h4 ha han hs2 hlt HNO.out,HXR.out.trans eX⟩|(repeat apply Exists.intro;refine ⟨?_,rfl⟩;exact ⟨d+1,by omega,by go_num,by unfold Hid;rw [HR3.out];exact uG h4 ha han hs2 hlt HNO.out,HXR.out.trans eX⟩)
         case measure=>simp [intOf];omega
        ·have HYES:Hid (p.where_ id=some ⟨(a:Int),(s:Int),(d:Int)⟩):=by unfold Hid;rw [HR3.out];exact where_yes h4 ha han hs2 hlt (by unfold Ch.whereP;rw [e0,e1];rfl)
         go_upto_region 11 with fail
         have y0:=kA HXR.out hR (FZ.out 0);have y1:=kA HXR.out hR (FZ.out 1);have y2:=kA HXR.out hR (FZ.out 2);have t0:=eA HXR.out r0;have t1:=eA HXR.out r1;have t2:=eA HXR.out r2;go_wp2;obtain ⟨p0,p1,p2,px⟩:=put3w (w:=w) (a:=wr) (R:=w.heap.size) (x:=vi (a:Int)) (y:=vi (s:Int)) (z:=vi (d:Int)) (HX.out.trans HXR.out) (Nat.le_refl _) t0 t1 t2;exact bodyPost_ret (v:=.tuple #[.agg #[vi (a:Int),vi (s:Int),vi (d:Int)],.bool true]) (by simp [results,Tryz.results132,go_sem,p0,p1,p2]) rfl ⟨by rw [HYES.out];rfl,px⟩
      ·have hd2:d=2:=by omega
       subst hd2;go_wp2;go_roundw
       case rel=>first|exact ⟨s+1,by omega,by go_num,by unfold Hid;rw [HR3.out];exact congrArg _ (by omega),HXR.out.trans eX⟩|(repeat apply Exists.intro;refine ⟨?_,rfl⟩;exact ⟨s+1,by omega,by go_num,by unfold Hid;rw [HR3.out];exact congrArg _ (by omega),HXR.out.trans eX⟩)
       case measure=>simp [intOf];omega
    ·have hs3:s=2:=by omega
     subst hs3;go_wp2;go_roundw
     case rel=>first|exact ⟨a+1,by omega,by omega,by go_num,by unfold Hid;rw [HR2.out];exact congrArg _ (by omega),HXR.out.trans eX⟩|(repeat apply Exists.intro;refine ⟨?_,rfl⟩;exact ⟨a+1,by omega,by omega,by go_num,by unfold Hid;rw [HR2.out];exact congrArg _ (by omega),HXR.out.trans eX⟩)
     case measure=>simp [intOf];omega
  ·have hend:Hid (p.where_ id=none):=by
    unfold Hid;rw [HR1.out];unfold yC;rw [List.drop_of_length_le (by rw [Ch.all_len (by omega) h4];omega)];rfl
   have y0:=kA HXR.out (dA r0) (FZ.out 0);have y1:=kA HXR.out (dA r0) (FZ.out 1);have y2:=kA HXR.out (dA r0) (FZ.out 2);have t0:=eA HXR.out r0;have t1:=eA HXR.out r1;have t2:=eA HXR.out r2;go_wp2;obtain ⟨p0,p1,p2,px⟩:=put3w (w:=w) (a:=wr) (R:=w.heap.size) (x:=vi 0) (y:=vi 0) (z:=vi 0) (HX.out.trans HXR.out) (Nat.le_refl _) t0 t1 t2;exact bodyPost_ret (v:=.tuple #[.agg #[vi 0,vi 0,vi 0],.bool false]) (by simp [results,Tryz.results132,go_sem,p0,p1,p2]) rfl ⟨by rw [hend.out];rfl,px⟩
