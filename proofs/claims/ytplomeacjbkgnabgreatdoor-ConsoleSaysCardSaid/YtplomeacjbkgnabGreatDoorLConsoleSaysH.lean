/-
  'ConsoleSays' holds, and its card: the law's Go text answers true, whatever the input; what it lists is tied to the program's text. No conditions.
-/
import Derived.Test.YtplomeacjbkgnabGreatDoorZ42
import Derived.Test.YtplomeacjbkgnabGreatDoorZ50
import Derived.Test.YtplomeacjbkgnabGreatDoorZ52
import Derived.Test.YtplomeacjbkgnabGreatDoorZ24
import Derived.Deep.DeepCutAuto
import Derived.Test.YtplomeacjbkgnabGreatDoorRows
import Derived.Test.YtplomeacjbkgnabGreatDoorTie
import Derived.Test.YtplomeacjbkgnabGreatDoorCards
import Derived.Test.YtplomeacjbkgnabGreatDoorZ45
import Derived.SevenTiedAt
import Derived.Shelf.Lay
import Derived.Lay
import Derived.LaidOnce
import Derived.Stop.Joined
set_option linter.unusedSimpArgs false
set_option linter.unusedVariables false
set_option maxRecDepth 100000
set_option maxHeartbeats 16000000

namespace Go.Proofs.YtplomeacjbkgnabGreatDoor
open Go.RowKit Ch
theorem join_from:∀ (s w:List UInt8),mE (eC w s)=w++s
 | [],w=>by simp [eC,mE]
 | b :: s,w=>by
  unfold eC
  by_cases hb:b=32
  ·rw [if_pos hb]
   have ih:=join_from s [];obtain ⟨h,t,e,-⟩:=wordsFrom_head [] s
   rw [e] at ih ⊢
   rw [mE,ih,hb];rfl
  ·rw [if_neg hb,join_from s (w++[b]),List.append_assoc];rfl
theorem arm_words {x y:ByteArray} (h:bD x=[wArm,y]):3<x.size/\x.extract 0 4=⟨#[97,114,109,32]⟩:=by
 have h1:=xM x;rw [h] at h1;have h2:=join_from x.data.toList [];rw [List.nil_append,show eC [] x.data.toList=kI x.data.toList from rfl,<-h1] at h2;have h3:x.data.toList=[97,114,109,32]++y.data.toList:=h2.symm
 have h4:x.size=4+y.data.toList.length:=by rw [<-bsize,h3,List.length_append];rfl
 refine ⟨om,?_⟩;apply ba_ext;rw [ByteArray.data_extract,Array.toList_extract,List.extract_eq_take_drop,h3];rfl
theorem sl_block {w:World} {b:Nat} {t:TypeId} (l:List ByteArray) (hn:l.length<=maxLen) (h:w.heap[b]? = some (.cells (l.map Value.string).toArray t (0,0))):Sl w 1 bC l (some ⟨b,0,none⟩) l.length l.length:=by
 refine ⟨rfl,Nat.le_refl _,hn,fun _=>⟨b,0,rfl,fun i x hx j y hy=>?_⟩⟩
 match j,hy with
 | 0,hy=>
  cases hy;refine tA h ?_;rw [List.getElem?_toArray,List.getElem?_map,show 0+i * 1+0=i by omega,hx];rfl
theorem oN (l:List ByteArray) (a1:Option Addr) (n1 c1:Nat) (a2:Option Addr) (n2 c2:Nat) (w:World) (h1:Sl w 1 bC l a1 n1 c1) (h2:Sl w 1 bC l a2 n2 c2):
  Calls Tryz.prog 32 #[.slice a1 n1 c1,.slice a2 n2 c2] w fun e w'=>e = .returned (.bool true)/\Ext w w':=by
 obtain rfl:n1=n2:=by rw [<-h1.len,<-h2.len]
 have b1:=h1.bound;have b2:=h2.bound;have H1:=aA h1;have H2:=aA h2;clear h1 h2;go_enter Tryz.func32,Tryz.ntmps32;go_wp2
 go_loopw [5] (fun i wr=>∃ k:Nat,k<=n1/\i = .int .i64 (k:Int)/\Hid (Ext w wr)) (fun i _=>n1 - (intOf i).toNat)
 case atStart=>exact ⟨0,om,rfl,eX⟩
 case round=>
  obtain ⟨k,hk,rfl,HX⟩:=hrel
  by_cases hlt:k<n1
  ·obtain ⟨b,q,x,rfl,hx,dx⟩:=(Sl.below H1.out HX.out.below).get hlt
   obtain ⟨b',q',x',rfl,hx',dx'⟩:=(Sl.below H2.out HX.out.below).get hlt;rw [hx] at hx';cases hx';have dx:=at1 dx;have dx':=at1 dx';rw [Nat.mul_one] at dx dx';have zq:=cA dx;have zq':=cA dx'
   have hki:(k:Int)<(n1:Int):=om
   have hc1:(k:Int)<(c1:Int):=om
   have hc2:(k:Int)<(c2:Int):=om
   clear hx
   go_upto_region 6 with fail
   (refine qF ?_;rintro _ ⟨oq,nq,rfl⟩)
   go_wp2_with fail;go_roundw
   case rel=>exact ⟨k+1,om,by go_num,HX.out.trans eX⟩
   case measure=>simp [intOf];omega
  ·have hkn:k=n1:=om
   subst hkn
   have hnl:¬ (k:Int)<(k:Int):=om
   go_wp2;go_ret;exact ⟨rfl,HX.out.trans eX⟩
theorem same_nilC (w:World):Calls Tryz.prog 12 #[.nilIface,vi 0] w fun e w'=>e = .returned (.bool true)/\Ext w w':=same_yes 0 w dc
theorem same_twoC (w:World):Calls Tryz.prog 12 #[.iface 92 (vi 2),vi 2] w fun e w'=>e = .returned (.bool true)/\Ext w w':=same_yes 2 w dc
theorem hello_small:∀ x∈helloL,x.size<=1000:=by decide +kernel
theorem hello_arm:∀ x∈helloL,∀ y,bD x≠[wArm,y]:=fun x hx y e=>by
 have h:∀ x∈helloL,¬ x.extract 0 4=⟨#[97,114,109,32]⟩:=by decide +kernel
 exact h x hx (arm_words e).2
theorem hello_any (w:World) (L:kL w):Calls Tryz.prog 29 #[] w fun e w'=>e = .returned (.bool true)/\Ext w w':=by
 have HL:=aA L;clear L;go_enter Tryz.func29,Tryz.ntmps29
 go_wp2_with (first
  | (go_at_call 30;refine (run_any helloL _ 9 9 _ (sl_block helloL dc (pA _ _ _ sp)) dc hello_small hello_arm (HL.out.ext eX)).mono ?_;rintro e w1 ⟨g,d,rfl,ho,hx⟩;have HX1:Hid (Ext w w1):=Ext.trans eX hx;rw [hello_says] at ho ⊢;obtain ⟨_,_,e,hs⟩:=Sl.of_owns (c:=1) (enc:=bC) ho dc (fun _=>rfl);cases e;have HO:=aA hs;clear ho hx hs)
  | (go_at_call 12;with_reducible refine mo (same_nilC _) fun o1 n1=>?_)
  | (go_at_call 32;refine (oN helloR _ _ _ _ _ _ _ (Sl.below HO.out (Ext.below eX)) (sl_block helloR dc (pA _ _ _ sp))).mono ?_;rintro e w3 ⟨rfl,o3,n3,rfl⟩))
 go_ret;exact ⟨rfl,HX1.out.trans eX⟩
theorem flat_str (l:List ByteArray):l.flatMap bC=l.map Value.string:=by
 induction l with
 | nil=>rfl
 | cons x l ih=>rw [List.flatMap_cons,ih];rfl
theorem sl_src {w:World} {l:List ByteArray} {b q n c:Nat} (h:Sl w 1 bC l (some ⟨b,q,none⟩) n c):∀ j u,(l.map Value.string)[j]? = some u->w.cell? ((⟨b,q,none⟩:Addr).add j)=some u:=fun j u hu=>by
 rw [List.getElem?_map] at hu
 cases hx:l[j]? with
 | none=>rw [hx] at hu;cases hu
 | some x=>
  rw [hx] at hu;cases hu
  have hj:j<n:=by rw [<-h.len];exact (List.getElem?_eq_some_iff.1 hx).1
  obtain ⟨b',q',y,e,hy,dx⟩:=h.get hj;cases e;rw [hx] at hy;cases hy;have:=at1 dx;rw [Nat.mul_one] at this;unfold Addr.add
  split
  ·rename_i h0
   rw [h0,Nat.add_zero] at this;exact this
  ·exact this
theorem sl_prefix {w:World} {l:List ByteArray} {m:ByteArray} {b c:Nat} (h:Sl w 1 bC (l++[m]) (some ⟨b,0,none⟩) (l.length+1) c):Sl w 1 bC l (some ⟨b,0,none⟩) l.length c:=by
 have hb:=h.bound;refine ⟨rfl,om,hb.2,fun _=>?_⟩;obtain ⟨b',o,e,f⟩:=h.2.2.2 om;exact ⟨b',o,e,fun i x hx=>f i x (by rw [List.getElem?_append_left (List.getElem?_eq_some_iff.1 hx).1];exact hx)⟩
theorem no_block {k:Nat}:∀ b,(Value.slice none 0 0).ownBlock=some b->k<=b:=fun _ e=>by cases e
structure RHeard (w0:World) (XB:Nat) (l:List ByteArray) (v:Value) (wr:World):Prop where
 own:wr.ownsRow w0.heap.size 9 1 v (xD none l).2.length ((xD none l).2.flatMap bC)
 ses:dL w0 XB (fun i=>v.ownBlock=some i) (xD none l).1 wr
theorem RHeard.push {w0:World} {XB:Nat} {l:List ByteArray} {v:Value} {w1 wa w3:World} {x:ByteArray} {gg cap:Nat}
  (s:dL w0 XB (fun i=>v.ownBlock=some i) (vM (xD none l).1 x).1 w1) (hx:Ext w1 wa)
  (hown:w3.ownsRow w0.heap.size 9 1 (.slice (some ⟨gg,0,none⟩) ((xD none l).2.length+1) cap) ((xD none l).2.length+1) ((xD none l).2.flatMap bC++[.string (vM (xD none l).1 x).2]))
  (hg:wa.grownBy w3 v.ownBlock) (hat:v.ownBlock=some gg\/gg=wa.heap.size) (hlt:gg<w3.heap.size) (hv:∀ b,v.ownBlock=some b->w0.heap.size<=b):RHeard w0 XB (l++[x]) (.slice (some ⟨gg,0,none⟩) ((xD none l).2.length+1) cap) w3:=by
 have hsn:=dO none l x;have kk:fA (fun i=>v.ownBlock=some i) w1 w3:=(fA.of_ext hx).trans (grown_kept hg);have s3:=s.grow kk (fun i hi=>⟨hi,hv i hi⟩);refine ⟨?_,?_⟩
 ·rw [hsn]
  exact yM hown
 ·rw [hsn]
  refine s3.less (fun i hi=>?_);have hi:gg=i:=Option.some.inj hi;subst hi;have:=hx.below.size
  rcases hat with h|h
  ·exact Or.inl h
  ·exact Or.inr ⟨om,hlt⟩
theorem consoleSays_walk {a:Option Addr} {n cap:Nat} {l:List ByteArray} {w:World} (h:Sl w 1 bC l a n cap) (L:kL w):
    Calls Tryz.prog 4 #[.slice a n cap] w fun e w'=>e = .returned (.bool true)/\Ext w w':=by
  obtain ⟨i0,hi,hz0,hz1,hz2⟩:=info_parts oM;have hbd:=h.bound;have hln:=h.len;have HF:=aA h;have HL:=aA L;clear h L;go_enter Tryz.func4,Tryz.ntmps4
  by_cases h9:90<(n:Int)
  · go_wp2_with (go_at_call 29;with_reducible refine mo (hello_any _ (HL.out.ext eX)) fun o1 n1=>?_)
    go_ret;exact ⟨rfl,eX⟩
  go_wp2_with (go_at_call 29;with_reducible refine mo (hello_any _ (HL.out.ext eX)) fun o1 n1=>?_)
  go_loopw [4] (fun i wr=>∃ k:Nat,k<=n/\i = .int .i64 (k:Int)/\Hid (∀ x∈l.take k,x.size<=100/\∀ y,bD x≠[wArm,y])/\Hid (Ext w wr)) (fun i _=>n - (intOf i).toNat)
  case atStart=>exact ⟨0,om,rfl,(fun x hx=>by simp at hx),eX⟩
  case round=>
    obtain ⟨k,hk,rfl,HA,HX⟩:=hrel
    by_cases hlt:k<n
    · obtain ⟨b,q,x,rfl,hx,dx⟩:=(Sl.below HF.out HX.out.below).get hlt
      have dx:=at1 dx;rw [Nat.mul_one] at dx;have zq:=cA dx
      have hki:(k:Int)<(n:Int):=om
      have hc1:(k:Int)<(cap:Int):=om
      have HTK:Hid (l.take (k+1)=l.take k++[x]):=by
        unfold Hid;rw [List.take_add_one,hx];rfl
      clear hx
      by_cases h1:(100:Int)<(x.size:Int)
      · go_wp2
        go_ret;exact ⟨rfl,HX.out.trans eX⟩
      by_cases h3:(3:Int)<(x.size:Int)
      · have h4:(4:Int)<=(x.size:Int):=om
        by_cases hm:x.extract 0 4=⟨#[97,114,109,32]⟩
        · go_wp2
          go_ret;exact ⟨rfl,HX.out.trans eX⟩
        · have hm2:((x.extract 0 4).toList==[97,114,109,32])=false:=wD hm
          have HN:Hid (∀ y∈l.take (k+1),y.size<=100/\∀ z,bD y≠[wArm,z]):=fun y hy=>by
            rw [HTK.out] at hy
            rcases List.mem_append.1 hy with hy|hy
            · exact HA.out y hy
            · obtain rfl:=List.mem_singleton.1 hy
              exact ⟨om,fun z e=>hm (arm_words e).2⟩
          clear hm;go_wp2;go_roundw
          case rel=>exact ⟨k+1,om,by go_num,HN.out,HX.out.trans eX⟩
          case measure=>simp [intOf];omega
      · have HN:Hid (∀ y∈l.take (k+1),y.size<=100/\∀ z,bD y≠[wArm,z]):=fun y hy=>by
          rw [HTK.out] at hy
          rcases List.mem_append.1 hy with hy|hy
          · exact HA.out y hy
          · obtain rfl:=List.mem_singleton.1 hy
            exact ⟨om,fun z e=>by have:=(arm_words e).1;omega⟩
        go_wp2;go_roundw
        case rel=>exact ⟨k+1,om,by go_num,HN.out,HX.out.trans eX⟩
        case measure=>simp [intOf];omega
    · have hkn:k=n:=om
      subst hkn
      have hnl:¬ (k:Int)<(k:Int):=om
      have HAL:Hid (∀ x∈l,x.size<=100/\∀ y,bD x≠[wArm,y]):=by
        have:=HA.out;rw [List.take_of_length_le om] at this;exact this
      have hszr:=HX.out.below.size;have HFR:=aA (Sl.below HF.out HX.out.below)
      go_upto_region 9 with fail
      go_cut [5] (fun s5 wx=>∃ (b c:Nat),s5 = .slice (some ⟨b,0,none⟩) k c/\k<=c/\Hid (Sl wx 1 bC l (some ⟨b,0,none⟩) k c)/\Hid (Ext w wx))
      case first=>
        by_cases h0:k=0
        · subst h0
          obtain rfl:l=[]:=List.length_eq_zero_iff.1 hln
          rcases a with _|⟨ab,ao,ae⟩
          all_goals
           go_wp2_with (at_builtin;refine wpList_append_lies _ rfl _ _ _ rfl w.heap.size 9 i0 _ 1 16 Tryz.underlying77 hi hz0 hz1 hz2 rfl dc (.slice none 0 0) 0 [] rfl (World.ownsRow_nil _ _ _ _) _ 1 1 [.string ⟨#[109,97,114,107]⟩] rfl rfl (World.news_of_block (pA _ _ _ sp)) (by simp [Value.oneCell']) dc (by unfold maxLen;omega) om ov _ rfl ?_;intro gg cap2 w3 hown3 hgrow hat hlt3;have HX3:Hid (Ext w w3):=vB (w:=w) (HX.out.trans eX) hgrow no_block;have hc2:=(own_cap hown3 dc).1;have hc9:=(own_cap hown3 dc).2;have hc3:(0:Int)<=(cap2:Int):=om;clear hown3 hgrow hat hlt3);go_meet;exact ⟨gg,cap2,rfl,om,⟨rfl,om,hc9,fun h=>absurd h om⟩,HX3.out⟩
        · obtain ⟨b,q,x,rfl,-,-⟩:=HFR.out.get (show 0<k by omega)
          go_wp2_with (first
            | (at_builtin;refine wpList_append_lies _ rfl _ _ _ rfl w.heap.size 9 i0 _ 1 16 Tryz.underlying77 hi hz0 hz1 hz2 rfl dc (.slice none 0 0) 0 [] rfl (World.ownsRow_nil _ _ _ _) ⟨b,q,none⟩ k cap (l.map Value.string) rfl (by rw [List.length_map];omega) (sl_src HFR.out) (by simp [Value.oneCell']) om (by unfold maxLen;omega) om om _ rfl ?_;intro gg cap1 w2 hown2 hgrow hat hlt2;rw [Nat.zero_add,List.nil_append] at hown2;rw [Nat.zero_add];have HX2:Hid (Ext w w2):=vB (w:=w) HX.out hgrow no_block;have HO2:=aA hown2;have hsz2:=HX2.out.below.size;clear hown2 hgrow hat hlt2)
            | (at_builtin;refine wpList_append_lies _ rfl _ _ _ rfl w.heap.size 9 i0 _ 1 16 Tryz.underlying77 hi hz0 hz1 hz2 rfl dc (.slice (some ⟨gg,0,none⟩) k cap1) k _ rfl (iB HO2.out _) _ 1 1 [.string ⟨#[109,97,114,107]⟩] rfl rfl (World.news_of_block (pA _ _ _ sp)) (by simp [Value.oneCell']) dc (by unfold maxLen;omega) om ov _ rfl ?_;intro gg2 cap2 w3 hown3 hgrow hat hlt3;have HX3:Hid (Ext w w3):=vB (w:=w) (HX2.out.trans eX) hgrow (qA HO2.out);have HO3:=aA hown3;have hc2:=(own_cap hown3 om).1;have hc9:=(own_cap hown3 om).2;have hc3:(k:Int)<=(cap2:Int):=om;clear hown3 hgrow hat hlt3))
          go_meet;have h3:=HO3.out;rw [show l.map Value.string++[Value.string ⟨#[109,97,114,107]⟩]=(l++[(⟨#[109,97,114,107]⟩:ByteArray)]).flatMap bC by rw [flat_str,List.map_append];rfl] at h3;obtain ⟨_,_,e,hs⟩:=Sl.of_owns (c:=1) (enc:=bC) h3 dc (fun _=>rfl);cases e;rw [<-hln] at hs;have hp:=sl_prefix hs;rw [hln] at hp;exact ⟨gg2,cap2,rfl,om,hp,HX3.out⟩
      case rest=>
        obtain ⟨b,c,rfl,hc,HS5,HX5⟩:=hcut;have hsz5:=HX5.out.below.size
        by_cases h80:80<(k:Int)
        · go_wp2_with (first
            | (go_at_call 30;with_reducible refine mo (run_many _ _ _ _ om) fun o1 n1=>?_)
            | (go_at_call 12;with_reducible refine mo (same_twoC _) fun o1 n1=>?_))
          go_ret;exact ⟨rfl,HX5.out.trans eX⟩
        obtain ⟨Z,HZ⟩:∃ Z,Hid ((xD none l).2=Z):=⟨_,rfl⟩
        go_upto_region 13 with (go_at_call 30;refine (run_any l _ _ _ _ (Sl.below HS5.out (Ext.below eX)) om (fun x hx=>Nat.le_trans (HAL.out x hx).1 dc) (fun x hx=>(HAL.out x hx).2) (HL.out.ext (HX5.out.trans eX))).mono ?_;rw [HZ.out];rintro e w6 ⟨g6,d6,rfl,ho,hx⟩;have HX6:Hid (Ext wc w6):=Ext.trans eX hx;obtain ⟨_,_,e,hs⟩:=Sl.of_owns (c:=1) (enc:=bC) ho dc (fun _=>rfl);cases e;have HO6:=aA hs;clear ho hx hs)
        go_upto_region 14 with fail
        generalize hW:World.alloc _ _=w7;generalize hA:w6.heap.size=XB;have hx7:Ext w6 w7:=xQ hW
        have hblk:w7.heap[XB]? = some (.cells #[.pointer none] 82 (0,0)):=by rw [<-hW,<-hA];exact heap_alloc_new w6 _
        have hbl:=tI hblk
        have HI0:Hid (RHeard w6 XB [] (.slice none 0 0) w7):=⟨World.ownsRow_nil _ _ _ _,⟨hx7,om,hbl,(fun h=>by cases h),(fun i h=>by cases h)⟩,hblk⟩
        have HX7:=aA hx7;clear hW hA hx7 hblk hbl
        rename World=>wS
        go_wp2
        go_loopw [9,10] (fun v i wr=>∃ (j:Nat) (g:Option Addr) (d:Nat),j<=k/\i = .int .i64 (j:Int)/\v = .slice g (xD none (l.take j)).2.length d/\Hid (RHeard w6 XB (l.take j) (.slice g (xD none (l.take j)).2.length d) wr)) (fun _ i _=>k - (intOf i).toNat)
        case atStart=>exact ⟨0,none,0,om,rfl,rfl,HI0⟩
        case round=>
          obtain ⟨j,g,d,hj,rfl,rfl,HI⟩:=hrel
          obtain ⟨D,hD⟩:∃ D,(xD none (l.take j)).2=D:=⟨_,rfl⟩
          have HDL:Hid (D.length=j):=by
            unfold Hid;rw [<-hD,saysB_len,List.length_take];omega
          have HXR:Hid (Ext w6 wr):=HI.out.ses.1.ex;have hszr:=HXR.out.below.size
          by_cases hlt2:j<k
          · obtain ⟨b',q',x,rfl,hx,dx⟩:=(Sl.below HF.out (HX5.out.trans (HX6.out.trans HXR.out)).below).get hlt2
            have dx:=at1 dx;rw [Nat.mul_one] at dx;have zq:=cA dx
            have hji:(j:Int)<(k:Int):=om
            have hjc:(j:Int)<(cap:Int):=om
            have HTK:Hid (l.take (j+1)=l.take j++[x]):=by
              unfold Hid;rw [List.take_add_one,hx];rfl
            have hxz:=(HAL.out x (List.mem_of_getElem? hx)).1;have HSY:=aA (fun wq (y:Ext wr wq)=>rsay_any (HI.out.ses.ext y) x om)
            obtain ⟨s,HSE⟩:∃ s,Hid ((vM (xD none (l.take j)).1 x).2=s):=⟨_,rfl⟩
            have HOW:=aA HI.out.own;have HVB:=aA (qA HI.out.own)
            have HSN:Hid ((xD none (l.take (j+1))).2=D++[s]):=by
              unfold Hid;rw [HTK.out,dO,hD,HSE.out]
            rw [HSE.out] at HSY;rw [hD] at HOW HVB HSY
            have hDn:D.length<=90:=by have:=HDL.out;omega
            have HDD:=aA hD;rw [hD];clear hx hD hxz
            go_wp2_with (first
              | (go_at_call 31;refine (HSY.out _ eX).mono ?_;rintro e w2 ⟨rfl,hs2,hk2⟩;have HK2:Hid (fA (SK w6 (fun i=>(Value.slice g D.length d).ownBlock=some i)) wr w2):=(fA.of_ext eX).trans hk2;have HOW2:=aA (kK HOW.out HK2.out (fun b e h=>h.2 e));have HS2:=aA hs2;have hsz2:=hs2.1.ex.below.size;clear hs2 hk2)
              | (at_builtin;refine wpList_append_lies _ rfl _ _ _ rfl w6.heap.size 9 i0 _ 1 16 Tryz.underlying77 hi hz0 hz1 hz2 rfl dc (.slice g D.length d) D.length _ rfl (iB (zC HOW2.out eX) _) _ 1 1 [.string s] rfl rfl (World.news_of_block (pA _ _ _ sp)) (by simp [Value.oneCell']) dc (by unfold maxLen;omega) om ov _ rfl ?_;intro gg cap' w3 hown3 hgrow hat hlt3;have HI3:Hid (RHeard w6 XB (l.take j++[x]) (.slice (some ⟨gg,0,none⟩) ((xD none (l.take j)).2.length+1) cap') w3):=RHeard.push HS2.out eX (by rw [HDD.out,HSE.out];exact hown3) hgrow hat hlt3 HVB.out;clear hown3 hgrow hat hlt3))
            go_roundw
            case rel=>exact ⟨j+1,some ⟨gg,0,none⟩,cap',om,by go_num,by rw [HSN.out,List.length_append];rfl,by rw [HSN.out,List.length_append,HTK.out];have:=HI3.out;rw [HDD.out] at this;exact this⟩
            case measure=>simp [intOf];omega
          · have hjk:j=k:=om
            have HZD:Hid (D=Z):=by unfold Hid;rw [<-hD,List.take_of_length_le om,HZ.out]
            obtain ⟨_,_,e,hs⟩:=Sl.of_owns (c:=1) (enc:=bC) HI.out.own dc (fun _=>rfl);cases e;rw [hD,HZD.out] at hs;have HSZ:=aA hs;rw [hD,HZD.out];subst hjk
            have hji:¬ (j:Int)<(j:Int):=om
            have HXZ:=aA (HX5.out.trans (HX6.out.trans HXR.out));clear hs hD
            go_wp2_with (first
              | (go_at_call 12;with_reducible refine mo (same_nilC _) fun o1 n1=>?_)
              | (go_at_call 32;with_reducible refine mo (oN Z _ _ _ _ _ _ _ (Sl.below HO6.out (HXR.out.trans eX).below) (Sl.below HSZ.out (Ext.below eX))) fun o1 n1=>?_)
              | (go_at_call 32;with_reducible refine mo (oN l _ _ _ _ _ _ _ (Sl.below HS5.out (HX6.out.trans (HXR.out.trans eX)).below) (Sl.below HF.out (HXZ.out.trans eX).below)) fun o1 n1=>?_))
            go_ret;exact ⟨rfl,HXZ.out.trans eX⟩
end Go.Proofs.YtplomeacjbkgnabGreatDoor
namespace Go.Proofs.YtplomeacjbkgnabGreatDoor
open Go.ChangeShapes Go.WideShapes Go.ChangeAt Go.RowKit Ch
theorem consoleSays_libs {W:World} (hL:laidMetH Tryz.prog Rows.consoleSaysRow.laid W) (hs:W.ShapedOpen Tryz.prog):kL W:=by
 rw [Go.MakeChecks.laidMetH_plain _ _ _ kR] at hL;exact libs_of hL hs rfl rfl dc rfl dc kR kR kR
theorem consoleSays_lifted (os:Os) (started:os.Started) (H:Type) (enc:TypeId×Value->H):
  ReturnsInHanded {} Tryz.checked os 4 .any (fun w args=>(Rows.consoleSaysSpec.pre enc Tryz.prog Tryz.f4 [] false w args/\laidMetH Tryz.prog Rows.consoleSaysRow.laid w)/\sizedMet enc Tryz.prog Tryz.f4 (OpenSpec.ofChange Rows.consoleSaysSpec) false w args)
   (Rows.consoleSaysSpec.post enc Tryz.prog Tryz.f4 false true false false):=by
 refine handed_laid_shaped (C:=Tryz.checked) (X:=fun w _=>laidMetH Tryz.prog Rows.consoleSaysRow.laid w) (fun _ _ _ hh h=>h.of_heap hh) own started kR Tryz.func4
  (ChangeSpec.witness_shaped (enc:=enc) (C:=Tryz.checked) (os:=os) (X:=fun w _=>laidMetH Tryz.prog Rows.consoleSaysRow.laid w) false (World.laidAll Tryz.prog os Rows.consoleSaysRow.laid) #[.slice none 0 0] 8 (World.laidAll_os _ _ _)
   (World.shaped_of_ZipB kR kR) kR kR kR
   (by rw [Go.MakeChecks.laidMetH_plain _ _ _ kR];exact laidMet_laidAll _ kR kR)) ?_
 intro W base args ds gs before hval0 hW _ hL hsh
 have hval:∀ (j:Nat) t v,Tryz.f4.params[j]? = some t->args[j]? = some v->Value.okWide Tryz.prog W .any base t v:=hval0
 refine law_contract (tb:=4) laidOut Tryz.underlying4 kR rfl (fun ds hd=>?_) kR hW ?_
 ·match ds,hd with
  | [_],_=>rfl
 obtain ⟨p,q,hA0,hV,rfl,hfz,hnd⟩:=hW;have hA:DataW.TrodAll enc Tryz.prog W 0 (fun _=>true) true Tryz.f4.params.toList args.toList ds p:=hA0;rw [Tryz.params4] at hA hval;obtain ⟨v0,vs0,d0,ds0,p0,q0,hargs,rfl,rfl,h0,r0⟩:=trodAll_cons hA;obtain ⟨rfl,rfl,rfl⟩:=trodAll_nil r0
 obtain rfl:args=#[v0]:=by cases args;simp_all
 obtain ⟨a0,n0,c0,rfl⟩:=okWide_slice Tryz.underlying77 (hval 0 _ v0 rfl rfl);obtain ⟨x0,_,_,_,e0,s0,g0⟩:=rd_list (c:=1) bC (fun s=>s.size<=maxLen) dc (fun _=>rfl) Tryz.underlying77 kR (fun ecs h=>rd_string Tryz.underlying9 h) (rd_of_trod h0);simp only [Value.cells,List.cons.injEq,Value.slice.injEq,and_true] at e0;obtain ⟨rfl,rfl,rfl⟩:=e0;exact consoleSays_walk s0 (consoleSays_libs hL hsh)
theorem consoleSays_holds:Rows.ConsoleSaysSaid:=
 OpenClaim.holds_of_wide 4 Tryz.f4 rfl rfl rfl rfl rfl rfl rfl ⟨rfl,rfl,rfl,rfl,rfl⟩ rfl rfl rfl rfl rfl kR Tryz.func4 kR
  (of_decide_eq_true kR) (by unfold Func.isWrapper;first|(rw [if_pos (by decide +kernel)];kernel_rfl)|(rw [if_neg (by decide +kernel)];exact ⟨rfl,rfl⟩))
  (fun os started H enc _=>consoleSays_lifted os started H enc)
theorem consoleSays_proved:Rows.ConsoleSaysCardSaid:=
 Claim7.holds_tied_plain_at .later [] [.data,.data,.data,.data,.sentinel,.sentinel,.pinned] true Rows.consoleSaysCard.stood.harness true
  consoleSays_holds (fun _ h=>by cases h) kR (fun _ h=>by cases h) consoleSays_row_tie rfl ⟨rfl,rfl⟩ kR rfl
  (fun f fn hf hfn=>by
   obtain rfl:f=4:=Option.some.inj ((show Tryz.prog.funcNamed Tryz.f4.name=some 4 by kernel_rfl).symm.trans hf) |>.symm
   obtain rfl:fn=Tryz.f4:=(Option.some.inj (Tryz.func4.symm.trans hfn)).symm
   have hall:(Tryz.f4.params.toList.all fun u=>!Tryz.prog.wantsStandIn u)=true:=by kernel_rfl
   exact ⟨by kernel_rfl,fun j t ht=>by
    have hm:t∈Tryz.f4.params.toList:=Array.mem_toList_iff.2 (Array.mem_of_getElem? ht)
    exact (show Tryz.prog.wantsStandIn t=false by simpa using List.all_eq_true.1 hall t hm)⟩)
  kR
#print axioms consoleSays_proved
