import Derived.Test.YtplomeacjbkgnaaZ11
set_option linter.all false
set_option maxRecDepth 100000
set_option maxHeartbeats 16000000
namespace Go.Proofs.Ytplomeacjbkgnaa
open Go.RowKit
structure JobPredIn (w:World) (S:Nat→Prop) (K:Nat) (caps:Array Value) (pred:Ch.Job→Bool):Prop where
 enters:∀ args w,(callFunc K args).run Try.prog w = .ok (.enter K args) w
 answers:∀ (s:Ch.Job) (W:World),Kept S w W→Calls Try.prog K (#[jobA s]++caps) W fun e w'=>e = .returned (.bool (pred s))∧Ext W w'
structure StayPredIn (w:World) (S:Nat→Prop) (K:Nat) (caps:Array Value) (pred:Ch.Stay→Bool):Prop where
 enters:∀ args w,(callFunc K args).run Try.prog w = .ok (.enter K args) w
 answers:∀ (s:Ch.Stay) (W:World),Kept S w W→Calls Try.prog K (#[stayA s]++caps) W fun e w'=>e = .returned (.bool (pred s))∧Ext W w'
theorem StayPredIn.stay {w:World} {S:Nat→Prop} {K:Nat} {caps:Array Value} {pred:Ch.Stay→Bool} (h:StayPredIn w S K caps pred):StayPred w K caps pred:=
 ⟨h.enters,fun s W x=>h.answers s W (Kept.of_ext x)⟩
theorem indexJobF_any (a:Option Addr) (n cap:Nat) (l:List Ch.Job) (K:Nat) (caps:Array Value) (pred:Ch.Job→Bool) (S:Nat→Prop) (w:World) (h:Sl w 2 jobCells l a n cap) (hp:JobPredIn w S K caps pred):
  Calls Try.prog 143 #[.slice a n cap,.func (.func K) #[] caps] w fun e w'=>e = .returned (vi (Ch.indexOf pred l))∧Ext w w':=by
 have HF:=Lib.hid h;have HP:=Lib.hid hp;have hb:=h.bound;have hl:=h.len;have HL:=Lib.hid hl;clear h hp hl;go_enter Try.func143,Try.ntmps143;go_wp2
 go_loopw [8] (fun i wr=>∃ k:Nat,k≤n∧i = .int .i64 k∧Hid (∀ j s,j<k→l[j]? = some s→pred s=false)∧Ext w wr) (fun i _=>n - (intOf i).toNat)
 case atStart=>exact ⟨0,by omega,rfl,by intro j s hj;omega,(by simp (maxDischargeDepth:=60))⟩
 case round=>
  obtain ⟨k,hk,rfl,HT,o,m,rfl⟩:=hrel
  by_cases hlt:k<n
  ·obtain ⟨b,q,s,rfl,hs,ds⟩:=HF.out.get hlt
   have ds:=at2 ds;have hq:=cell_lt ds.1;have HS:=Lib.hid hs;clear hs;have HR:=HP.out.enters;cases hps:pred s
   ·have HQ:=Lib.hid hps
    go_wp2_with ((with_reducible refine (HP.out.answers s _ (Kept.of_ext (by simp (maxDischargeDepth:=60)))).mono ?_);rintro e w1 ⟨rfl,o1,n1,rfl⟩);go_roundw
    case rel=>exact ⟨k+1,by omega,by go_num,before_step HS.out HQ.out HT.out,(by simp (maxDischargeDepth:=60))⟩
    case measure=>simp [intOf];omega
   ·have HQ:=Lib.hid hps
    go_wp2_with ((with_reducible refine (HP.out.answers s _ (Kept.of_ext (by simp (maxDischargeDepth:=60)))).mono ?_);rintro e w1 ⟨rfl,o1,n1,rfl⟩);go_ret;exact ⟨by rw [indexOf_some HS.out HQ.out HT.out];rfl,(by simp (maxDischargeDepth:=60))⟩
  ·go_wp2
   go_ret;exact ⟨by rw [indexOf_none (fun j s hj hs=>HT.out j s (by have:=HL.out;omega) hs)];rfl,(by simp (maxDischargeDepth:=60))⟩
theorem index_split {α:Type} (p:α→Bool) (l:List α):(Ch.indexOf p l=-1∧l.filter (fun x=>!p x)=l)∨∃ (k:Nat) (x:α),Ch.indexOf p l=(k:Int)∧l[k]? = some x∧p x=true∧∀ j s,j<k→l[j]? = some s→p s=false:=by
 unfold Ch.indexOf
 cases h:l.findIdx? p with
 | none=>
  rw [List.findIdx?_eq_none_iff] at h;exact Or.inl ⟨rfl,List.filter_eq_self.2 (fun x hx=>by simp [h x hx])⟩
 | some k=>
  rw [List.findIdx?_eq_some_iff_getElem] at h;obtain ⟨hk,hp,hb⟩:=h;refine Or.inr ⟨k,l[k],rfl,by simp [hk],hp,fun j s hj hs=>?_⟩
  have hjl:j<l.length:=by omega
  rw [List.getElem?_eq_getElem hjl] at hs;cases hs;have:=hb j hj
  simpa using this
def Left (w:World) (B e c:Nat) (v:Value) {α:Type} (enc:α→List Value) (l:List α) (en:Ending) (w':World):Prop:=
 ∃ v',en = .returned v'∧w'.ownsRow B e c v' l.length (l.flatMap enc)∧(∀ k,v'.ownBlock=some k→v.ownBlock=some k)∧Kept (fun k=>v.ownBlock=some k) w w'
theorem index_at {P:Program} {F:FuncId} {args:Array Value} {w:World} {x y:Int} (h:Calls P F args w fun e w'=>e = .returned (vi x)∧Ext w w') (e:Hid (x=y)):Calls P F args w fun e w'=>e = .returned (vi y)∧Ext w w':=by
 rw [←e.out];exact h
theorem deleteJob_any (B:Nat) (v:Value) (l:List Ch.Job) (K:Nat) (caps:Array Value) (pred:Ch.Job→Bool) (w:World) (hown:w.ownsRow B 94 2 v l.length (l.flatMap jobCells)) (hp:JobPredIn w (fun k=>v.ownBlock=some k) K caps pred) (h63:l.length≤1000):
  Calls Try.prog 110 #[v,.func (.func K) #[] caps] w (Left w B 94 2 v jobCells (l.filter (fun x=>!pred x))):=by
 obtain ⟨a,cap,rfl,hsl⟩:=Sl.of_owns (c:=2) (enc:=jobCells) hown (by decide) (fun _=>rfl);have HO:=Lib.hid hown;have HP:=Lib.hid hp;have HF:=Lib.hid hsl;have hb:=hsl.bound;clear hown hp hsl
 rcases index_split pred l with ⟨h1,h2⟩|⟨k,x,h1,h2,h3,h4⟩
 ·have H1:=Lib.hid h1
  have H2:=Lib.hid h2;clear h1 h2;go_enter Try.func110,Try.ntmps110;go_wp2_with (go_at_call 143;(with_reducible refine (index_at (indexJobF_any _ _ _ l _ _ pred _ _ HF.out HP.out) H1).mono ?_);rintro e w1 ⟨rfl,o1,n1,rfl⟩);go_ret;exact ⟨_,rfl,by rw [H2.out];exact owns_plus HO.out _ _,fun k hk=>hk,Kept.of_ext (by simp (maxDischargeDepth:=60))⟩
 ·have hkl:=lt_of_get h2
  have H1:=Lib.hid h1;have HSV:Hid (Sieve pred l l k (k+1)):=Sieve.start h2 h3 h4
  have hk1:((k:Int) == -1)=false:=by simp
  obtain ⟨g,rfl⟩:∃ g,a=some ⟨g,0,none⟩:=by
   rcases HO.out.2 with ⟨h',h0⟩|⟨g,cap',cur,h',_⟩
   ·omega
   ·cases h';exact ⟨g,rfl⟩
  have HSK:Hid ((fun k=>(Value.slice (some ⟨g,0,none⟩) l.length cap).ownBlock=some k)=Is g):=by
   unfold Hid
   funext k
   simp [Value.ownBlock,Is,eq_comm]
  have HPI:Hid (JobPredIn w (Is g) K caps pred):=by unfold Hid;rw [←HSK.out];exact HP.out
  clear h1 h2 h3 h4;go_enter Try.func110,Try.ntmps110;go_wp2_with (go_at_call 143;(with_reducible refine (index_at (indexJobF_any _ _ _ l _ _ pred _ _ HF.out HPI.out) H1).mono ?_);rintro e w1 ⟨rfl,o1,n1,rfl⟩)
  go_loopw [5,6] (fun i j wr=>∃ (i' j':Nat) (xs:List Ch.Job),i = .int .i64 i'∧j = .int .i64 j'∧Hid (Sieve pred l xs i' j')∧Hid (wr.ownsRow B 94 2 (.slice (some ⟨g,0,none⟩) l.length cap) l.length (xs.flatMap jobCells))∧Hid (Kept (Is g) w wr)) (fun _ j _=>l.length - (intOf j).toNat)
  case atStart=>exact ⟨k,k+1,l,rfl,by go_num,HSV,owns_plus HO.out _ _,Kept.of_ext (by simp (maxDischargeDepth:=60))⟩
  case round=>
   obtain ⟨i,j,xs,rfl,rfl,HS,HW,HK⟩:=hrel;have hij:=HS.out.lt;have hxl:=HS.out.len
   by_cases hlt:j<l.length
   ·obtain ⟨⟨t,f⟩,hs⟩:∃ s,l[j]? = some s:=⟨l[j],by simp [hlt]⟩
    obtain ⟨⟨t',f'⟩,hs'⟩:∃ s,xs[i]? = some s:=⟨xs[i]'(by omega),by rw [List.getElem?_eq_getElem (by omega)]⟩
    have hsx:=HS.out.at.trans hs;obtain ⟨_,_,e0,sl0⟩:=Sl.of_owns (c:=2) (enc:=jobCells) HW.out (by decide) (fun _=>rfl);cases e0;obtain ⟨b,q,y,e1,hy,dy⟩:=sl0.get (k:=j) hlt;cases e1;obtain rfl:y=⟨t,f⟩:=Option.some.inj (hy.symm.trans hsx);obtain ⟨b,q,y,e1,hy',dy'⟩:=sl0.get (k:=i) (by omega);cases e1;obtain rfl:y=⟨t',f'⟩:=Option.some.inj (hy'.symm.trans hs');have dy:=at2 dy;have dy':=at2 dy';simp only [Nat.zero_add] at dy dy'
    have fz:∀ r,wr.frozen? ⟨g,r,none⟩=false:=fun r=>HW.out.frozenAt r
    have zg:=cell_lt dy.1
    have hjj:(j:Int)<(l.length:Int):=by omega
    have hii:(i:Int)<(l.length:Int):=by omega
    have HR:=HP.out.enters;have HSS:=Lib.hid hs;clear hs hs' hsx sl0 hy hy';cases hpt:pred ⟨t,f⟩
    ·have HPT:=Lib.hid hpt
     go_wp2_with ((with_reducible refine (HPI.out.answers ⟨t,f⟩ _ (HK.out.ext (by simp (maxDischargeDepth:=60)))).mono ?_);rintro e w1 ⟨rfl,o2,n2,rfl⟩);go_roundw
     case rel=>exact ⟨i+1,j+1,xs.set i ⟨t,f⟩,by go_num,by go_num,HS.out.keep HSS.out HPT.out,by
      have:=(owns_setCells (jobCells ⟨t,f⟩) (i * 2) (show World.ownsRow (World.plus (wr.alloc (.cells #[vi t,.bool f] 94)) o2 n2) _ _ _ _ _ _ from owns_plus (owns_alloc HW.out _) _ _)).1
      rw [putAll_flat (enc:=jobCells) (c:=2) (fun _=>rfl) xs i ⟨t,f⟩ (by omega)] at this
      exact this,by
      exact ((HK.out.ext (by simp (maxDischargeDepth:=60))).put _ _).put _ _⟩
     case measure=>simp [intOf];omega
    ·have HPT:=Lib.hid hpt
     go_wp2_with ((with_reducible refine (HPI.out.answers ⟨t,f⟩ _ (HK.out.ext (by simp (maxDischargeDepth:=60)))).mono ?_);rintro e w1 ⟨rfl,o2,n2,rfl⟩);go_roundw
     case rel=>exact ⟨i,j+1,xs,by go_num,by go_num,HS.out.skip HSS.out HPT.out,owns_plus (owns_alloc HW.out _) _ _,HK.out.ext (by simp (maxDischargeDepth:=60))⟩
     case measure=>simp [intOf];omega
   ·have hjl:j=l.length:=by omega
    have hi2:i<l.length:=by omega
    subst hjl
    have hii:(i:Int)≤(l.length:Int):=by omega
    have hi0:(0:Int)≤(i:Int):=by omega
    have hcc:(l.length:Int)≤(cap:Int):=by omega
    have hic:(i:Int)≤(cap:Int):=by omega
    obtain ⟨wz,hcl,hz1,hz2⟩:=clear_tail (P:=Try.prog) (c:=2) (k:=cap - i) 74 0 (.agg #[vi 0,.bool false]) Try.underlying74 (by intro w;kernel_rfl) rfl (by intro v hv;simp [Value.cells] at hv;rcases hv with rfl|rfl <;> rfl) HW.out hi2;have HZ1:=Lib.hid hz1;have HZ2:=Lib.hid hz2;clear hz1 hz2;go_wp2;go_ret;have hd:=HS.out.done rfl;refine ⟨_,rfl,?_,fun k hk=>hk,?_⟩
    ·have:=HZ1.out
     rw [take_flat (c:=2) (fun _=>rfl),hd.1] at this;rw [←hd.2];exact this
    ·rw [HSK.out]
     exact ⟨HZ2.out.os.trans HK.out.os,HZ2.out.tape.trans HK.out.tape,HZ2.out.output.trans HK.out.output,Nat.le_trans HK.out.size HZ2.out.size,fun k hk hs=>(HZ2.out.block k (Nat.lt_of_lt_of_le hk HK.out.size) (fun e=>hs (Option.some.inj e))).trans (HK.out.block k hk hs)⟩
theorem deleteStay_any (B:Nat) (v:Value) (l:List Ch.Stay) (K:Nat) (caps:Array Value) (pred:Ch.Stay→Bool) (w:World) (hown:w.ownsRow B 149 8 v l.length (l.flatMap stayCells)) (hp:StayPredIn w (fun k=>v.ownBlock=some k) K caps pred) (h63:l.length≤1000):
  Calls Try.prog 112 #[v,.func (.func K) #[] caps] w (Left w B 149 8 v stayCells (l.filter (fun x=>!pred x))):=by
 obtain ⟨a,cap,rfl,hsl⟩:=Sl.of_owns (c:=8) (enc:=stayCells) hown (by decide) (fun _=>rfl);have HO:=Lib.hid hown;have HP:=Lib.hid hp;have HF:=Lib.hid hsl;have hb:=hsl.bound;clear hown hp hsl
 rcases index_split pred l with ⟨h1,h2⟩|⟨k,x,h1,h2,h3,h4⟩
 ·have H1:=Lib.hid h1
  have H2:=Lib.hid h2;clear h1 h2;go_enter Try.func112,Try.ntmps112;go_wp2_with (go_at_call 136;(with_reducible refine (index_at (indexStay_any _ _ _ l _ _ pred _ HF.out HP.out.stay) H1).mono ?_);rintro e w1 ⟨rfl,o1,n1,rfl⟩);go_ret;exact ⟨_,rfl,by rw [H2.out];exact owns_plus HO.out _ _,fun k hk=>hk,Kept.of_ext (by simp (maxDischargeDepth:=60))⟩
 ·have hkl:=lt_of_get h2
  have H1:=Lib.hid h1;have HSV:Hid (Sieve pred l l k (k+1)):=Sieve.start h2 h3 h4
  have hk1:((k:Int) == -1)=false:=by simp
  obtain ⟨g,rfl⟩:∃ g,a=some ⟨g,0,none⟩:=by
   rcases HO.out.2 with ⟨h',h0⟩|⟨g,cap',cur,h',_⟩
   ·omega
   ·cases h';exact ⟨g,rfl⟩
  have HSK:Hid ((fun k=>(Value.slice (some ⟨g,0,none⟩) l.length cap).ownBlock=some k)=Is g):=by
   unfold Hid
   funext k
   simp [Value.ownBlock,Is,eq_comm]
  have HPI:Hid (StayPredIn w (Is g) K caps pred):=by unfold Hid;rw [←HSK.out];exact HP.out
  clear h1 h2 h3 h4;go_enter Try.func112,Try.ntmps112;go_wp2_with (go_at_call 136;(with_reducible refine (index_at (indexStay_any _ _ _ l _ _ pred _ HF.out HPI.out.stay) H1).mono ?_);rintro e w1 ⟨rfl,o1,n1,rfl⟩)
  go_loopw [5,6] (fun i j wr=>∃ (i' j':Nat) (xs:List Ch.Stay),i = .int .i64 i'∧j = .int .i64 j'∧Hid (Sieve pred l xs i' j')∧Hid (wr.ownsRow B 149 8 (.slice (some ⟨g,0,none⟩) l.length cap) l.length (xs.flatMap stayCells))∧Hid (Kept (Is g) w wr)) (fun _ j _=>l.length - (intOf j).toNat)
  case atStart=>exact ⟨k,k+1,l,rfl,by go_num,HSV,owns_plus HO.out _ _,Kept.of_ext (by simp (maxDischargeDepth:=60))⟩
  case round=>
   obtain ⟨i,j,xs,rfl,rfl,HS,HW,HK⟩:=hrel;have hij:=HS.out.lt;have hxl:=HS.out.len
   by_cases hlt:j<l.length
   ·obtain ⟨⟨t,⟨ci,⟨cx,cy,cz⟩⟩,⟨h0,h1,h2⟩⟩,hs⟩:∃ s,l[j]? = some s:=⟨l[j],by simp [hlt]⟩
    obtain ⟨⟨t',⟨ci',⟨cx',cy',cz'⟩⟩,⟨h0',h1',h2'⟩⟩,hs'⟩:∃ s,xs[i]? = some s:=⟨xs[i]'(by omega),by rw [List.getElem?_eq_getElem (by omega)]⟩
    have hsx:=HS.out.at.trans hs;obtain ⟨_,_,e0,sl0⟩:=Sl.of_owns (c:=8) (enc:=stayCells) HW.out (by decide) (fun _=>rfl);cases e0;obtain ⟨b,q,y,e1,hy,dy⟩:=sl0.get (k:=j) hlt;cases e1;obtain rfl:y=⟨t,⟨ci,⟨cx,cy,cz⟩⟩,⟨h0,h1,h2⟩⟩:=Option.some.inj (hy.symm.trans hsx);obtain ⟨b,q,y,e1,hy',dy'⟩:=sl0.get (k:=i) (by omega);cases e1;obtain rfl:y=⟨t',⟨ci',⟨cx',cy',cz'⟩⟩,⟨h0',h1',h2'⟩⟩:=Option.some.inj (hy'.symm.trans hs');have dy:=at8 dy;have dy':=at8 dy';dsimp only at dy dy';simp only [Nat.zero_add] at dy dy'
    have fz:∀ r,wr.frozen? ⟨g,r,none⟩=false:=fun r=>HW.out.frozenAt r
    have zg:=cell_lt dy.1
    have hjj:(j:Int)<(l.length:Int):=by omega
    have hii:(i:Int)<(l.length:Int):=by omega
    have HR:=HP.out.enters;have HSS:=Lib.hid hs;clear hs hs' hsx sl0 hy hy';cases hpt:pred ⟨t,⟨ci,⟨cx,cy,cz⟩⟩,⟨h0,h1,h2⟩⟩
    ·have HPT:=Lib.hid hpt
     go_wp2_with ((with_reducible refine (HPI.out.answers ⟨t,⟨ci,⟨cx,cy,cz⟩⟩,⟨h0,h1,h2⟩⟩ _ (HK.out.ext (by simp (maxDischargeDepth:=60)))).mono ?_);rintro e w1 ⟨rfl,o2,n2,rfl⟩);go_roundw
     case rel=>exact ⟨i+1,j+1,xs.set i ⟨t,⟨ci,⟨cx,cy,cz⟩⟩,⟨h0,h1,h2⟩⟩,by go_num,by go_num,HS.out.keep HSS.out HPT.out,by
      have:=(owns_setCells (stayCells ⟨t,⟨ci,⟨cx,cy,cz⟩⟩,⟨h0,h1,h2⟩⟩) (i * 8) (show World.ownsRow (World.plus (wr.alloc (.cells #[vi t,vi ci,vi cx,vi cy,vi cz,vi h0,vi h1,vi h2] 149)) o2 n2) _ _ _ _ _ _ from owns_plus (owns_alloc HW.out _) _ _)).1
      rw [putAll_flat (enc:=stayCells) (c:=8) (fun _=>rfl) xs i ⟨t,⟨ci,⟨cx,cy,cz⟩⟩,⟨h0,h1,h2⟩⟩ (by omega)] at this
      exact this,by
      exact ((((((((HK.out.ext (by simp (maxDischargeDepth:=60))).put _ _).put _ _).put _ _).put _ _).put _ _).put _ _).put _ _).put _ _⟩
     case measure=>simp [intOf];omega
    ·have HPT:=Lib.hid hpt
     go_wp2_with ((with_reducible refine (HPI.out.answers ⟨t,⟨ci,⟨cx,cy,cz⟩⟩,⟨h0,h1,h2⟩⟩ _ (HK.out.ext (by simp (maxDischargeDepth:=60)))).mono ?_);rintro e w1 ⟨rfl,o2,n2,rfl⟩);go_roundw
     case rel=>exact ⟨i,j+1,xs,by go_num,by go_num,HS.out.skip HSS.out HPT.out,owns_plus (owns_alloc HW.out _) _ _,HK.out.ext (by simp (maxDischargeDepth:=60))⟩
     case measure=>simp [intOf];omega
   ·have hjl:j=l.length:=by omega
    have hi2:i<l.length:=by omega
    subst hjl
    have hii:(i:Int)≤(l.length:Int):=by omega
    have hi0:(0:Int)≤(i:Int):=by omega
    have hcc:(l.length:Int)≤(cap:Int):=by omega
    have hic:(i:Int)≤(cap:Int):=by omega
    obtain ⟨wz,hcl,hz1,hz2⟩:=clear_tail (P:=Try.prog) (c:=8) (k:=cap - i) 73 0 (.agg #[vi 0,vi 0,vi 0,vi 0,vi 0,vi 0,vi 0,vi 0]) Try.underlying73 (by intro w;kernel_rfl) rfl (by intro v hv;simp [Value.cells] at hv;subst hv;rfl) HW.out hi2;have HZ1:=Lib.hid hz1;have HZ2:=Lib.hid hz2;clear hz1 hz2;go_wp2;go_ret;have hd:=HS.out.done rfl;refine ⟨_,rfl,?_,fun k hk=>hk,?_⟩
    ·have:=HZ1.out
     rw [take_flat (c:=8) (fun _=>rfl),hd.1] at this;rw [←hd.2];exact this
    ·rw [HSK.out]
     exact ⟨HZ2.out.os.trans HK.out.os,HZ2.out.tape.trans HK.out.tape,HZ2.out.output.trans HK.out.output,Nat.le_trans HK.out.size HZ2.out.size,fun k hk hs=>(HZ2.out.block k (Nat.lt_of_lt_of_le hk HK.out.size) (fun e=>hs (Option.some.inj e))).trans (HK.out.block k hk hs)⟩
end Go.Proofs.Ytplomeacjbkgnaa
