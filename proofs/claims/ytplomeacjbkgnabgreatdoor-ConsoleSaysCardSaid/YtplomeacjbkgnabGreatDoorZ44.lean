import Derived.Test.YtplomeacjbkgnabGreatDoorZ43
set_option linter.all false
set_option maxRecDepth 100000
set_option maxHeartbeats 16000000
namespace Go.Proofs.YtplomeacjbkgnabGreatDoor
open Go.RowKit Tryz Ch
theorem joinExtra:Builder.Extra prog Tryz.lays156_ren where
 sizeBuilder:=by kernel_rfl
 liesBuilder:=by kernel_rfl
 t5:=Tryz.laysM171.t5
 a5:=Tryz.laysM171.a5
 z5:=Tryz.laysM171.z5
 v5:=Tryz.laysM171.v5
 infoByte:=by kernel_rfl
 cellsByte:=by kernel_rfl
 sizeByte:=by kernel_rfl
 neB5:=dc
theorem join_some (sep:ByteArray) (l:List ByteArray) (b q cap:Nat) (w:World) (h:Sl w 1 bC l (some ⟨b,q,none⟩) l.length cap) (h0:0<l.length) (h1:l.length<=1000000) (hz:(eE sep l).size<=1000000000):
  Calls prog 220 #[.slice (some ⟨b,q,none⟩) l.length cap,.string sep] w fun e w'=>e = .returned (.string (eE sep l))/\Ext w w':=by
 have hb:=h.bound;obtain ⟨b',q',x,e,hx,dx⟩:=h.get h0;cases e;have dx:=at1 dx;have hlt:=cA dx
 have hl:(Lib.join (l.map (·.data.toList)) sep.data.toList).length=(eE sep l).size:=by rw [<-bsize];rfl
 refine (Any.strings_Join Tryz.lays156 joinExtra b q cap l sep w ?_ hlt om hb.1 om).mono ?_
 ·intro j y hy
  obtain ⟨b',q',x,e,hx,dx⟩:=h.get (show j<l.length from (List.getElem?_eq_some_iff.1 hy).1);cases e;rw [hy] at hx;cases hx;have:=at1 dx
  simpa using this
 ·rintro e w' ⟨rfl,hb⟩
  exact ⟨rfl,Ext.of_below hb⟩
set_option maxRecDepth 100000
set_option maxHeartbeats 4000000
theorem mH (f:Int) (w:World) (hf:Hid (-9223372036854775808<=f/\f<=9223372036854775807)) (T:Tab w):
  Calls prog 137 #[.iface 92 (vi f)] w fun e w'=>e = .returned (.string (zG f))/\Ext w w':=by
 have HT:=aA T;have hz:(fB f).size<=100:=lB hf.out;have rc:=rB (⟨#[101,114,114,111,114,32]⟩:ByteArray) (fB f) (zG f) rfl (by have:(⟨#[101,114,114,111,114,32]⟩:ByteArray).size=6:=rfl;omega)
 have ht:∀ w,(Instr.typeAssert (.iface 92 (vi f)) 29 92 true).run prog w = .ok (.tuple #[vi f,.bool true]) w:=fun w=>by kernel_rfl
 clear T;go_enter func137,ntmps137;go_wp2_with (go_at_call 84;with_reducible refine mo (wG f _ hf (HT.out.ext eX)) fun o1 n1=>?_);go_ret;exact ⟨rfl,eX⟩
theorem nK (f:Int) (V:Value) (hV:Hid (aC f=V)) (w:World) (hf:Hid (-9223372036854775808<=f/\f<=9223372036854775807)) (T:Tab w):
  Calls prog 176 #[V] w fun e w'=>e = .returned (.string (doneB f))/\Ext w w':=by
 rw [<-hV.out];have HT:=aA T;unfold doneB aC
 by_cases h0:f=0
 ·rw [if_pos h0,if_pos h0]
  clear h0 T;go_enter func176,ntmps176;go_wp2;go_ret;exact ⟨rfl,eX⟩
 ·rw [if_neg h0,if_neg h0]
  clear h0 T;go_enter func176,ntmps176;go_wp2_with (go_at_call 137;with_reducible refine mo (mH f _ hf (HT.out.ext eX)) fun o1 n1=>?_);go_ret;exact ⟨rfl,eX⟩
theorem told_any (n f:Int) (V:Value) (hV:Hid (aC f=V)) (w:World) (hn:Hid (-9223372036854775808<=n/\n<=9223372036854775807)) (hf:Hid (-9223372036854775808<=f/\f<=9223372036854775807)) (T:Tab w):
  Calls prog 141 #[vi n,V] w fun e w'=>e = .returned (.string (toldB n f))/\Ext w w':=by
 rw [<-hV.out];have HT:=aA T;unfold toldB aC
 by_cases h0:f=0
 ·rw [if_pos h0,if_pos h0]
  clear h0 T;go_enter func141,ntmps141;go_wp2_with (go_at_call 84;with_reducible refine mo (wG n _ hn (HT.out.ext eX)) fun o1 n1=>?_);go_ret;exact ⟨rfl,eX⟩
 ·rw [if_neg h0,if_neg h0]
  clear h0 T;go_enter func141,ntmps141;go_wp2_with (go_at_call 137;with_reducible refine mo (mH f _ hf (HT.out.ext eX)) fun o1 n1=>?_);go_ret;exact ⟨rfl,eX⟩
theorem joined_any (l:List ByteArray) (a:Option Addr) (n cap:Nat) (w:World) (h:Sl w 1 bC l a n cap) (h1:n<=1000000) (hz:(eE rI l).size<=1000000000):
  Calls prog 204 #[.slice a n cap] w fun e w'=>e = .returned (.string (sJ l))/\Ext w w':=by
 have hl:=h.len;have hbd:=h.bound;have HF:=aA h
 by_cases h0:l=[]
 ·subst h0
  obtain rfl:n=0:=by simpa using hl.symm
  clear h hl;unfold sJ;rw [if_pos rfl];go_enter func204,ntmps204;go_wp2;go_ret;exact ⟨rfl,eX⟩
 ·have hp:0<n:=by rw [<-hl];exact List.length_pos_iff.2 h0
  obtain ⟨b,q,x,rfl,-,-⟩:=h.get hp;subst hl
  have hp':¬ (l.length:Int)=0:=om
  unfold sJ;rw [if_neg h0];clear h h0;go_enter func204,ntmps204;go_wp2_with (go_at_call 220;with_reducible refine mo (join_some rI l b q cap _ (Sl.below HF.out (Ext.below eX)) hp h1 hz) fun o1 n1=>?_);go_ret;exact ⟨rfl,eX⟩
theorem cO (sep:ByteArray) (l:List Int) (a:Option Addr) (n cap:Nat) (w:World) (h:Sl w 1 jG l a n cap) (hr:Hid (∀ x∈l,-9223372036854775808<=x/\x<=9223372036854775807)) (h0:0<n) (hn:n<=100) (hz:sep.size<=100) (T:Tab w):
  Calls prog 202 #[.string sep,.slice a n cap] w fun e w'=>e = .returned (.string (eE sep (l.map fB)))/\Ext w w':=by
 obtain ⟨i0,hi,hz0,hz1,hz2⟩:=info_parts oM;have hbd:=h.bound;have HF:=aA h;have HL:=aA h.len;have HT:=aA T
 have HSZ:Hid ((eE sep (l.map fB)).size<=1000000000):=by
  have h1:=kM (sep:=sep) (l:=l.map fB) (M:=100) (fun x hx=>by
   obtain ⟨y,hy,rfl⟩:=List.mem_map.1 hx
   exact lB (hr.out y hy))
  rw [List.length_map,h.len] at h1;have h2:n * (sep.size+100)<=100 * 200:=Nat.mul_le_mul hn om;unfold Hid;omega
 clear h T;go_enter func202,ntmps202;go_wp2
 go_loopw [5,10] (fun v i wr=>∃ (k:Nat) (D:List ByteArray) (g:Option Addr) (d:Nat),k<=n/\i = .int .i64 k/\v = .slice g D.length d/\Hid (D=(l.take k).map fB)/\Hid (D.length=k)/\Hid (Wds w D (.slice g D.length d) wr)) (fun _ i _=>n - (intOf i).toNat)
 case atStart=>exact ⟨0,[],none,0,om,rfl,rfl,by simp [Hid],rfl,⟨World.ownsRow_nil _ _ _ _,Ext.refl _⟩⟩
 case round=>
  obtain ⟨k,D,g,d,hk,rfl,rfl,HD,HK,HG⟩:=hrel;have hsz:=HG.out.ext.below.size
  have hDn:D.length<=100:=by have:=HK.out;omega
  by_cases hlt:k<n
  ·obtain ⟨b,q,x,rfl,hx,dx⟩:=(Sl.below HF.out HG.out.ext.below).get hlt
   have dx:=at1 dx;rw [Nat.mul_one] at dx;have zq:=cA dx
   have hki:(k:Int)<(n:Int):=om
   have HR:Hid (-9223372036854775808<=x/\x<=9223372036854775807):=hr.out x (List.mem_of_getElem? hx)
   have HN:Hid (D++[fB x]=(l.take (k+1)).map fB):=by
    unfold Hid;rw [List.take_add_one,hx,List.map_append,HD.out];rfl
   clear hx
   go_wp2_with (first
    | (go_at_call 84;with_reducible refine mo (wG x _ HR (HT.out.ext (HG.out.ext.trans eX))) fun o1 n1=>?_)
    | (at_builtin;refine wpList_append_lies _ rfl _ _ _ rfl w.heap.size 9 i0 _ 1 16 underlying77 hi hz0 hz1 hz2 rfl dc (.slice g D.length d) D.length _ rfl (iB (zC HG.out.own eX) _) _ 1 1 [.string (fB x)] rfl rfl (World.news_of_block (pA _ _ _ sp)) (by simp [Value.oneCell']) dc (by unfold maxLen;omega) om ov _ rfl ?_;intro gg cap w3 hown3 hgrow hat hlt3;have HG3:Hid (Wds w (D++[fB x]) (.slice (some ⟨gg,0,none⟩) (D.length+1) cap) w3):=⟨yM hown3,vB (w:=w) (HG.out.ext.trans eX) hgrow (qA HG.out.own)⟩;clear hown3 hgrow hat hlt3))
   go_roundw
   case rel=>exact ⟨k+1,D++[fB x],some ⟨gg,0,none⟩,cap,om,by go_num,by rw [List.length_append];rfl,HN.out,by rw [List.length_append,HK.out];rfl,by rw [show (D++[fB x]).length=D.length+1 by rw [List.length_append];rfl];exact HG3.out⟩
   case measure=>simp [intOf];omega
  ·have hkn:k=n:=om
   subst hkn
   have HDD:Hid (D=l.map fB):=by unfold Hid;rw [HD.out,List.take_of_length_le (by have:=HL.out;omega)]
   have hgat:=HG.out.own;obtain ⟨g',cap',e,hs⟩:=Sl.of_owns (c:=1) (enc:=bC) hgat dc (fun _=>rfl);cases e;have HS:=aA hs
   have hp:0<D.length:=by have:=HK.out;omega
   obtain ⟨b,q,x,rfl,-,-⟩:=hs.get hp
   have HZ:Hid ((eE sep D).size<=1000000000):=by unfold Hid;rw [HDD.out];exact HSZ.out
   clear hs hgat;go_wp2_with (go_at_call 220;with_reducible refine mo (join_some sep D b q _ _ (Sl.below HS.out (Ext.below eX)) hp om HZ.out) fun o1 n1=>?_);go_ret;exact ⟨by rw [HDD.out];rfl,HG.out.ext.trans eX⟩
theorem sl3 {w:World} {b:Nat} {x y z:Int} (h0:w.cell? ⟨b,0,none⟩=some (vi x)) (h1:w.cell? ⟨b,1,none⟩=some (vi y)) (h2:w.cell? ⟨b,2,none⟩=some (vi z)):Sl w 1 jG [x,y,z] (some ⟨b,0,none⟩) 3 3:=by
 refine ⟨rfl,Nat.le_refl _,dc,fun _=>⟨b,0,rfl,?_⟩⟩;intro i v hv j u hu
 match i,hv with
 | 0,hv=>cases hv;match j,hu with|0,hu=>cases hu;exact h0
 | 1,hv=>cases hv;match j,hu with|0,hu=>cases hu;exact h1
 | 2,hv=>cases hv;match j,hu with|0,hu=>cases hu;exact h2
theorem place_any (x y z:Int) (w:World) (h0:Hid (0<=x/\x<=999/\0<=y/\y<=999/\0<=z/\z<=999)) (T:Tab w):
  Calls prog 203 #[.agg #[vi x,vi y,vi z]] w fun e w'=>e = .returned (.string (aI x y z))/\Ext w w':=by
 have HT:=aA T
 have HR:Hid (∀ v∈[x,y,z],-9223372036854775808<=v/\v<=9223372036854775807):=fun v hv=>by have:=h0.out;simp at hv;rcases hv with rfl|rfl|rfl <;> omega
 have HE:Hid (eE dotS ([x,y,z].map fB)=aI x y z):=joinB_three _ _ _ _;clear T;go_enter func203,ntmps203;go_wp2_with (go_at_call 202;(with_reducible refine (cO dotS [x,y,z] _ 3 3 _ (sl3 (by simp [go_sem]) (by simp [go_sem]) (by simp [go_sem])) HR dc dc dc (HT.out.ext eX)).mono ?_);rw [HE.out];rintro e w1 ⟨rfl,o1,n1,rfl⟩);go_ret;exact ⟨rfl,eX⟩
def NumsR (w:World) (o:Option (List Int)) (e:Ending) (w':World):Prop:=
 match o with
 | none=>e = .returned (.tuple #[.slice none 0 0,.bool false])/\Ext w w'
 | some N=>∃ g d,e = .returned (.tuple #[.slice g N.length d,.bool true])/\Sl w' 1 jG N g N.length d/\Ext w w'/\∀ b q,g=some ⟨b,q,none⟩->w.heap.size<=b
theorem numB_is {x:ByteArray} {v:Int} (hv:Lib.atoiAll x.data.toList = .ok v):iH x=if Lib.itoa v=x.data.toList/\0<=v/\v<=999999 then some v else none:=by
 unfold iH bK;rw [hv]
theorem numB_not {x:ByteArray} (h:∀ v,Lib.atoiAll x.data.toList≠.ok v):iH x=none:=by
 unfold iH bK
 cases ha:Lib.atoiAll x.data.toList with
 | ok v=>exact absurd ha (h v)
 | _=>rfl
theorem numbers_any (l:List ByteArray) (a:Option Addr) (n cap:Nat) (w:World) (h:Sl w 1 bC l a n cap) (hs:Hid (∀ x∈l,x.size<=1000000)) (hn:n<=10001) (L:kL w):
  Calls prog 136 #[.slice a n cap] w (NumsR w (vI l)):=by
 obtain ⟨i0,hi,hz0,hz1,hz2⟩:=info_parts infoIntP;have hbd:=h.bound;have HF:=aA h;have HL:=aA h.len;have HT:=aA L;clear h L;go_enter func136,ntmps136;go_wp2
 go_loopw [4,11] (fun v i wr=>∃ (k:Nat) (N:List Int) (g:Option Addr) (d:Nat),k<=n/\i = .int .i64 k/\v = .slice g N.length d/\Hid ((l.take k).mapM iH=some N/\N.length=k)/\Hid (Nums w N (.slice g N.length d) wr)) (fun _ i _=>n - (intOf i).toNat)
 case atStart=>exact ⟨0,[],none,0,om,rfl,rfl,⟨sp,rfl⟩,⟨World.ownsRow_nil _ _ _ _,Ext.refl _⟩⟩
 case round=>
  obtain ⟨k,N,g,d,hk,rfl,rfl,HM,HG⟩:=hrel;have HNK:Hid (N.length=k):=HM.out.2;have hsz:=HG.out.ext.below.size
  have hNb:N.length<=10001:=by have:=HNK.out;omega
  by_cases hlt:k<n
  ·obtain ⟨b,q,x,rfl,hx,dx⟩:=(Sl.below HF.out HG.out.ext.below).get hlt
   have dx:=at1 dx;rw [Nat.mul_one] at dx;have zq:=cA dx
   have hki:(k:Int)<(n:Int):=om
   have HXS:Hid (x.size<=1000000):=hs.out x (List.mem_of_getElem? hx);have HXK:=aA hx
   have HBAD:Hid (∀ wq,Hid (iH x=none)->Ext w wq->NumsR w (vI l) (.returned (.tuple #[.slice none 0 0,.bool false])) wq):=fun wq e xq=>by
    unfold vI;rw [mapM_bad HXK.out e.out];exact ⟨rfl,xq⟩
   clear hx
   by_cases hok:∃ v,Lib.atoiAll x.data.toList = .ok v
   ·obtain ⟨v,hv⟩:=hok
    have HV:=aA hv;have HVB:=aA (Lib.atoiAll_bounds hv);have HNB:=aA (numB_is hv);clear hv
    by_cases hw:Lib.itoa v=x.data.toList
    ·have hcmp:((fB v).toList==x.toList)=true:=by
      rw [Lib.toList_data,Lib.toList_data,oF,hw];simp
     have HIT:=aA hw;clear hw
     by_cases hv0:v<0
     ·have HN0:Hid (iH x=none):=by unfold Hid;rw [HNB.out,if_neg om]
      go_wp2_with (first|(go_at_call 149;with_reducible refine mo (kN x v _ HXS HV) fun o1 n1=>?_)|(go_at_call 84;with_reducible refine mo (wG v _ HVB (HT.out.tab.ext (HG.out.ext.trans eX))) fun o1 n1=>?_))
      go_ret2
      exact HBAD.out _ HN0 (HG.out.ext.trans eX)
     ·by_cases hv9:999999<v
      ·have HN0:Hid (iH x=none):=by unfold Hid;rw [HNB.out,if_neg om]
       go_wp2_with (first|(go_at_call 149;with_reducible refine mo (kN x v _ HXS HV) fun o1 n1=>?_)|(go_at_call 84;with_reducible refine mo (wG v _ HVB (HT.out.tab.ext (HG.out.ext.trans eX))) fun o1 n1=>?_))
       go_ret2
       exact HBAD.out _ HN0 (HG.out.ext.trans eX)
      ·have HN1:Hid (iH x=some v):=by unfold Hid;rw [HNB.out,if_pos ⟨HIT.out,om,om⟩]
       have HM2:=aA (mapM_take HM.out.1 HXK.out HN1.out)
       go_wp2_with (first
        | (go_at_call 149;with_reducible refine mo (kN x v _ HXS HV) fun o1 n1=>?_)
        | (go_at_call 84;with_reducible refine mo (wG v _ HVB (HT.out.tab.ext (HG.out.ext.trans eX))) fun o1 n1=>?_)
        | (at_builtin;refine wpList_append_lies _ rfl _ _ _ rfl w.heap.size 3 i0 _ 1 8 underlying149 hi hz0 hz1 hz2 rfl dc (.slice g N.length d) N.length _ rfl (iB (zC HG.out.own eX) _) _ 1 1 [vi v] rfl rfl (World.news_of_block (pA _ _ _ sp)) (by simp [Value.oneCell']) dc (by unfold maxLen;omega) om ov _ rfl ?_;intro gg cap' w3 hown3 hgrow hat hlt3;have HG3:Hid (Nums w (N++[v]) (.slice (some ⟨gg,0,none⟩) (N.length+1) cap') w3):=⟨num_last hown3,vB (w:=w) (HG.out.ext.trans eX) hgrow (qA HG.out.own)⟩;clear hown3 hgrow hat hlt3))
       go_roundw
       case rel=>exact ⟨k+1,N++[v],some ⟨gg,0,none⟩,cap',om,by go_num,by rw [List.length_append];rfl,⟨HM2.out,by rw [List.length_append,HNK.out];rfl⟩,by rw [show (N++[v]).length=N.length+1 by rw [List.length_append];rfl];exact HG3.out⟩
       case measure=>simp [intOf];omega
    ·have hcmp:((fB v).toList==x.toList)=false:=by
      rw [Lib.toList_data,Lib.toList_data,oF];simpa using hw
     have HN0:Hid (iH x=none):=by unfold Hid;rw [HNB.out,if_neg (fun e=>hw e.1)]
     clear hw;go_wp2_with (first|(go_at_call 149;with_reducible refine mo (kN x v _ HXS HV) fun o1 n1=>?_)|(go_at_call 84;with_reducible refine mo (wG v _ HVB (HT.out.tab.ext (HG.out.ext.trans eX))) fun o1 n1=>?_))
     go_ret2
     exact HBAD.out _ HN0 (HG.out.ext.trans eX)
   ·have HNO:Hid (∀ v,Lib.atoiAll x.data.toList≠.ok v):=fun v hv=>hok ⟨v,hv⟩
    have HN0:Hid (iH x=none):=numB_not HNO.out;clear hok;go_wp2_with (first|(go_at_call 149;(with_reducible refine (atoi_bad x _ HXS HNO (HT.out.ext (HG.out.ext.trans eX))).mono ?_);rintro e w1 ⟨na,nT,np,rfl,o1,n1,rfl⟩))
    go_ret2
    exact HBAD.out _ HN0 (HG.out.ext.trans eX)
  ·have hkn:k=n:=om
   subst hkn
   have HDD:Hid (vI l=some N):=by
    unfold Hid vI;rw [<-HM.out.1,List.take_of_length_le (by have:=HL.out;omega)]
   have hgat:=HG.out.own;obtain ⟨g',cap',e,hs'⟩:=Sl.of_owns (c:=1) (enc:=jG) hgat dc (fun _=>rfl);cases e;have HS:=aA hs'
   have HNW:Hid (∀ b q,g=some ⟨b,q,none⟩->w.heap.size<=b):=fun b q e=>qA hgat b (by rw [e];rfl)
   clear hs' hgat;go_wp2
   go_ret2
   rw [HDD.out];exact ⟨_,_,rfl,Sl.below HS.out (Ext.below eX),HG.out.ext.trans eX,HNW.out⟩
abbrev qJ (lv:Value) (p d h:Option Addr):Array Value:=#[lv,.pointer p,.pointer d,.pointer h]
theorem sl2 {w:World} {b:Nat} {x y:Int} (h0:w.cell? ⟨b,0,none⟩=some (vi x)) (h1:w.cell? ⟨b,1,none⟩=some (vi y)):Sl w 1 jG [x,y] (some ⟨b,0,none⟩) 2 2:=by
 refine ⟨rfl,Nat.le_refl _,dc,fun _=>⟨b,0,rfl,?_⟩⟩;intro i v hv j u hu
 match i,hv with
 | 0,hv=>cases hv;match j,hu with|0,hu=>cases hu;exact h0
 | 1,hv=>cases hv;match j,hu with|0,hu=>cases hu;exact h1
def Shown (p:dA):Prop:=∀ v∈[p.height,p.ext,p.people,p.lift,p.bay],-999999<=v/\v<=999999
theorem cplant_any {SB pb mb:Nat} {lv:Value} {db hb:Option Addr} {p:dA} {w:World} (hb0:w.heap[SB]? = some (.cells (qJ lv (some ⟨pb,0,none⟩) db hb) 146 (0,0))) (hp:yA w pb mb p) (hwf:p.WF) (hv:Hid (Shown p)) (T:Tab w):
  Calls prog 178 #[.pointer (some ⟨SB,0,none⟩)] w fun e w'=>e = .returned (.string (plantB p))/\Ext w w':=by
 have c1:cV w SB 1 (.pointer (some ⟨pb,0,none⟩)):=tA hb0 rfl;have hlt:=cA c1;have HP:=aA hp;have HT:=aA T
 obtain ⟨D,hD⟩:∃ D,p.door=D:=⟨_,rfl⟩
 have HD:=aA hD
 have HR2:Hid (∀ v∈[p.height,p.ext],-9223372036854775808<=v/\v<=9223372036854775807):=fun v h=>by have:=hv.out v (by simp at h ⊢;rcases h with h|h <;> simp [h]);omega
 have HR3:Hid (∀ v∈[p.people,p.lift,p.bay],-9223372036854775808<=v/\v<=9223372036854775807):=fun v h=>by have:=hv.out v (by simp at h ⊢;rcases h with h|h|h <;> simp [h]);omega
 clear hb0 hp T hD;go_enter func178,ntmps178
 go_upto_region 3 with (go_at_call 22;with_reducible refine mo (sense_any (HP.out.ext eX) hwf) fun o1 n1=>?_)
 generalize hW:World.alloc _ _=w2;generalize hA:w.heap.size+_=A;have hx:Ext w w2:=xQ hW;have x0:cI w2 A 0 p.height:=cR hW hA;have x1:cI w2 A 1 p.ext:=cR hW hA;have x2:cV w2 A 2 (.bool p.door):=cR hW hA;have x3:cI w2 A 3 p.people:=cR hW hA;have x4:cI w2 A 4 p.lift:=cR hW hA;have x5:cI w2 A 5 p.bay:=cR hW hA;have HX:=aA hx;have zA:=cA x0;rw [HD.out] at x2;clear hW hA hx c1 hlt;have y1:=lB (HR2.out p.height sp);have y2:=lB (HR2.out p.ext sp);have y3:=lB (HR3.out p.people sp);have y4:=lB (HR3.out p.lift sp);have y5:=lB (HR3.out p.bay sp);have hsp:(⟨#[32]⟩:ByteArray).size=1:=rfl
 obtain ⟨s1,e1⟩:∃ c,eE ⟨#[32]⟩ ([p.height,p.ext].map fB)=c:=⟨_,rfl⟩
 have g1:s1=fB p.height++⟨#[32]⟩++fB p.ext:=by rw [<-e1];exact joinB_two _ _ _
 have z1:s1.size<=300:=by rw [g1,ByteArray.size_append,ByteArray.size_append];omega
 obtain ⟨s2,e2⟩:∃ c,eE ⟨#[32]⟩ ([p.people,p.lift,p.bay].map fB)=c:=⟨_,rfl⟩
 have g2:s2=fB p.people++⟨#[32]⟩++fB p.lift++⟨#[32]⟩++fB p.bay:=by rw [<-e2];exact joinB_three _ _ _ _
 have z2:s2.size<=600:=by rw [g2];simp only [ByteArray.size_append];omega
 obtain ⟨dt,e3⟩:∃ c:ByteArray,(if D then ⟨#[32,111,112,101,110,32]⟩ else ⟨#[32,115,104,117,116,32]⟩:ByteArray)=c:=⟨_,rfl⟩
 have z3:dt.size=6:=by rw [<-e3];cases D <;> rfl
 obtain ⟨s3,e4⟩:∃ c,c=s1++dt:=⟨_,rfl⟩
 have z4:s3.size<=306:=by rw [e4,ByteArray.size_append];omega
 have r1:=rB s1 dt s3 e4 om
 obtain ⟨s4,e5⟩:∃ c,c=s3++s2:=⟨_,rfl⟩
 have r2:=rB s3 s2 s4 e5 om
 have HPB:Hid (plantB p=s4):=by
  unfold Hid plantB;rw [e5,e4,HD.out,e3,g1,g2];rfl
 have E1:=aA e1;have E2:=aA e2;have E3:=aA e3;clear e1 e2 e3 e4 e5 g1 g2 z1 z2 z3 z4 y1 y2 y3 y4 y5 hsp
 go_upto_if 11 with fail
 go_cut [4] (fun v wx=>v = .string dt/\wx=w2)
 case first=>
  cases D
  ·go_wp2_with fail
   go_meet;exact ⟨congrArg Value.string (by rw [<-E3.out];rfl),rfl⟩
  ·go_wp2_with fail
   go_meet;exact ⟨congrArg Value.string (by rw [<-E3.out];rfl),rfl⟩
 case rest=>
  obtain ⟨rfl,hwc⟩:=hcut;have hwc:=hwc.symm;subst hwc
  go_upto_region 5 with fail
  go_region_held3 (fun w'=>w'.cell? ⟨A,0,none⟩=some (vi p.height)/\w'.cell? ⟨A,1,none⟩=some (vi p.ext)/\w'.cell? ⟨A,3,none⟩=some (vi p.people)/\w'.cell? ⟨A,4,none⟩=some (vi p.lift)/\w'.cell? ⟨A,5,none⟩=some (vi p.bay)) (first|((try dsimp only);(repeat' apply And.intro) <;> exact xC (w:=w2))) (first
   | (go_at_call 202;(with_reducible refine (cO ⟨#[32]⟩ [p.height,p.ext] _ 2 2 _ (sl2 (by simp [go_sem]) (by simp [go_sem])) HR2 dc dc dc (HT.out.ext (HX.out.trans eX))).mono ?_);rw [E1.out];rintro e w3 ⟨rfl,o3,n3,rfl⟩)
   | (go_at_call 202;(with_reducible refine (cO ⟨#[32]⟩ [p.people,p.lift,p.bay] _ 3 3 _ (sl3 (by simp [go_sem]) (by simp [go_sem]) (by simp [go_sem])) HR3 dc dc dc (HT.out.ext (HX.out.trans eX))).mono ?_);rw [E2.out];rintro e w4 ⟨rfl,o4,n4,rfl⟩))
  all_goals
   go_wp2_with fail;go_ret;exact ⟨by rw [HPB.out];rfl,HX.out.trans eX⟩
def BookC (w:World) (hb:Nat) (last:Int) (l:List sA) (js:List Job):Prop:=
 ∀ wq,Ext w wq->Calls prog 28 #[.pointer (some ⟨hb,0,none⟩)] wq fun r w'=>∃ y1 d1 y2 d2,r = .returned (lC last y1 l.length d1 y2 js.length d2)/\Sl w' 8 iA l y1 l.length d1/\Sl w' 2 jA js y2 js.length d2/\Ext wq w'
theorem kind_size (f:Bool):(if f then ⟨#[102,101,116,99,104,32]⟩ else ⟨#[115,116,111,114,101,32]⟩:ByteArray).size=6:=by cases f <;> rfl
theorem book_jobs (last:Int) (a1:Option Addr) (m1 c1:Nat) (a2:Option Addr) (m2 c2:Nat) (w:World):(Instr.field 49 (lC last a1 m1 c1 a2 m2 c2) 2).run prog w = .ok (.slice a2 m2 c2) w:=by kernel_rfl
theorem book_stays (last:Int) (a1:Option Addr) (m1 c1:Nat) (a2:Option Addr) (m2 c2:Nat) (w:World):(Instr.field 49 (lC last a1 m1 c1 a2 m2 c2) 1).run prog w = .ok (.slice a1 m1 c1) w:=by kernel_rfl
theorem cjobs_any {SB hb:Nat} {lv:Value} {pb db:Option Addr} {last:Int} {l:List sA} {js:List Job} {w:World} (hb0:w.heap[SB]? = some (.cells (qJ lv pb db (some ⟨hb,0,none⟩)) 146 (0,0))) (hbk:BookC w hb last l js) (hr:Hid (∀ j∈js,0<=j.ticket/\j.ticket<=999999)) (hn:js.length<=1000) (T:Tab w):
  Calls prog 181 #[.pointer (some ⟨SB,0,none⟩)] w fun e w'=>e = .returned (.string (sJ (js.map lM)))/\Ext w w':=by
 obtain ⟨i0,hi,hz0,hz1,hz2⟩:=info_parts oM;have c1:cV w SB 3 (.pointer (some ⟨hb,0,none⟩)):=tA hb0 rfl;have hlt:=cA c1;have HB:=aA hbk;have HT:=aA T;clear hb0 hbk T;go_enter func181,ntmps181
 go_upto_region 3 with (go_at_call 28;refine (HB.out _ eX).mono ?_;rintro r w1 ⟨y1,d1,y2,d2,rfl,t1,t2,hx1⟩;have T2:=aA t2;have HX1:Hid (Ext w w1):=Ext.trans eX hx1;clear t1 t2 hx1;have hfd:=book_jobs last y1 l.length d1 y2 js.length d2)
 have hbd:=T2.out.bound;have hsz:=HX1.out.below.size;go_wp2;clear hfd c1 hlt
 go_loopw [3,14] (fun v i wr=>∃ (k:Nat) (D:List ByteArray) (g:Option Addr) (d:Nat),k<=js.length/\i = .int .i64 k/\v = .slice g D.length d/\Hid (D=(js.take k).map lM)/\Hid (D.length=k)/\Hid (Wds w1 D (.slice g D.length d) wr)) (fun _ i _=>js.length - (intOf i).toNat)
 case atStart=>exact ⟨0,[],none,0,om,rfl,rfl,by simp [Hid],rfl,⟨World.ownsRow_nil _ _ _ _,eX⟩⟩
 case round=>
  obtain ⟨k,D,g,d,hk,rfl,rfl,HD,HK,HG⟩:=hrel;have hsz2:=HG.out.ext.below.size
  have hDn:D.length<=1000:=by have:=HK.out;omega
  by_cases hlt:k<js.length
  ·obtain ⟨b,q,x,rfl,hx,dx⟩:=(Sl.below T2.out HG.out.ext.below).get hlt
   have dx:=at2 dx;obtain ⟨t,f⟩:=x;dsimp only at dx;obtain ⟨dx0,dx1⟩:=dx;have zq:=cA dx0
   have hki:(k:Int)<(js.length:Int):=om
   have hR:=hr.out _ (List.mem_of_getElem? hx)
   have HR:Hid (-9223372036854775808<=t/\t<=9223372036854775807):=by unfold Hid;dsimp only at hR;omega
   have HN:Hid (D++[lM ⟨t,f⟩]=(js.take (k+1)).map lM):=by
    unfold Hid;rw [List.take_add_one,hx,List.map_append,HD.out];rfl
   have hz:=lB HR.out
   have rc:∀ w,(Op.stringOp .add (if f then ⟨#[102,101,116,99,104,32]⟩ else ⟨#[115,116,111,114,101,32]⟩) (fB t)).run prog w = .ok (.string (lM ⟨t,f⟩)) w:=rB _ _ _ rfl (by rw [kind_size];omega)
   clear hx hR;have HRC:=aA rc;clear rc;cases f
   all_goals
    have rc:=HRC.out;simp only [Bool.false_eq_true,if_false,if_true] at rc
    go_wp2_with (first
     | (go_at_call 84;with_reducible refine mo (wG t _ HR (HT.out.ext (HX1.out.trans (HG.out.ext.trans eX)))) fun o1 n1=>?_)
     | (at_builtin;refine wpList_append_lies _ rfl _ _ _ rfl w1.heap.size 9 i0 _ 1 16 underlying77 hi hz0 hz1 hz2 rfl dc (.slice g D.length d) D.length _ rfl (iB (zC HG.out.own eX) _) _ 1 1 [.string (lM ⟨t,_⟩)] rfl rfl (World.news_of_block (pA _ _ _ sp)) (by simp [Value.oneCell']) dc (by unfold maxLen;omega) om ov _ rfl ?_;intro gg cap w3 hown3 hgrow hat hlt3;have HG3:Hid (Wds w1 (D++[lM ⟨t,_⟩]) (.slice (some ⟨gg,0,none⟩) (D.length+1) cap) w3):=⟨yM hown3,vB (w:=w1) (HG.out.ext.trans eX) hgrow (qA HG.out.own)⟩;clear hown3 hgrow hat hlt3))
    go_roundw
    case rel=>exact ⟨k+1,D++[lM ⟨t,_⟩],some ⟨gg,0,none⟩,cap,om,by go_num,by rw [List.length_append];rfl,HN.out,by rw [List.length_append,HK.out];rfl,by rw [show (D++[lM ⟨t,_⟩]).length=D.length+1 by rw [List.length_append];rfl];exact HG3.out⟩
    case measure=>simp [intOf];omega
  ·have hkn:k=js.length:=om
   subst hkn
   have HDD:Hid (D=js.map lM):=by unfold Hid;rw [HD.out,List.take_length]
   obtain ⟨g',cap',e,hs⟩:=Sl.of_owns (c:=1) (enc:=bC) HG.out.own dc (fun _=>rfl);cases e;have HS:=aA hs
   have HZ:Hid ((eE rI D).size<=1000000000):=by
    have h1:=kM (sep:=rI) (l:=D) (M:=106) (fun x hx=>by
     rw [HDD.out] at hx
     obtain ⟨y,hy,rfl⟩:=List.mem_map.1 hx
     have h1:=hr.out y hy
     have h2:=lB (n:=y.ticket) om
     unfold lM
     rw [ByteArray.size_append]
     rw [kind_size]
     omega)
    have h2:D.length * (rI.size+106)<=1000 * 108:=Nat.mul_le_mul hDn (Nat.le_refl _);unfold Hid;omega
   clear hs;go_wp2_with (go_at_call 204;with_reducible refine mo (joined_any D _ _ _ _ (Sl.below HS.out (Ext.below eX)) om HZ.out) fun o1 n1=>?_);go_ret;exact ⟨by rw [HDD.out];rfl,HX1.out.trans (HG.out.ext.trans eX)⟩
end Go.Proofs.YtplomeacjbkgnabGreatDoor
namespace Ch
open Go
def jH (l:List UInt8):Int:=l.foldl (fun a b=>10 * a+((b.toNat:Int) - 48)) 0
theorem rO (l:List UInt8) (b:UInt8):jH (l++[b])=10 * jH l+((b.toNat:Int) - 48):=by
 unfold jH;rw [List.foldl_append];rfl
def Digits (l:List UInt8):Prop:=∀ b∈l,48<=b.toNat/\b.toNat<=57
theorem snoc_ind {P:List UInt8->Prop} (h0:P []) (h1:∀ l b,P l->P (l++[b])) (l:List UInt8):P l:=by
 have:∀ m:List UInt8,P m.reverse:=by
  intro m
  induction m with
  | nil=>exact h0
  | cons b r ih=>rw [List.reverse_cons];exact h1 _ _ ih
 have:=this l.reverse
 rwa [List.reverse_reverse] at this
theorem accOf_bound (l:List UInt8):Digits l->0<=jH l/\jH l<(10:Int) ^ l.length:=by
 refine snoc_ind (P:=fun l=>Digits l->0<=jH l/\jH l<(10:Int) ^ l.length) ?_ ?_ l
 ·intro _;exact ⟨dc,dc⟩
 ·intro l b ih hd
  obtain ⟨a1,a2⟩:=ih (fun x hx=>hd x (List.mem_append_left _ hx));have hb:=hd b (List.mem_append_right _ (List.mem_singleton.2 rfl));rw [rO,List.length_append,List.length_singleton,Int.pow_succ];omega
def Led (l:List UInt8):Prop:=∀ b r,l=b :: r->r≠[]->b.toNat≠48
theorem dec_acc (l:List UInt8):Digits l->Led l->l≠[]->Lib.decDigits (jH l).toNat=l/\(∀ b r,l=b :: r->b.toNat≠48->1<=jH l):=by
 refine snoc_ind (P:=fun l=>Digits l->Led l->l≠[]->Lib.decDigits (jH l).toNat=l/\(∀ b r,l=b :: r->b.toNat≠48->1<=jH l)) ?_ ?_ l
 ·intro _ _ h;exact absurd rfl h
 ·intro l b ih hd hl _
  have hb:=hd b (List.mem_append_right _ (List.mem_singleton.2 rfl))
  have hdl:Digits l:=fun x hx=>hd x (List.mem_append_left _ hx)
  have hbd:=accOf_bound l hdl
  have hbb:UInt8.ofNat b.toNat=b:=sp
  rw [rO]
  cases l with
  | nil=>
   have h0:jH []=0:=rfl;rw [h0];refine ⟨?_,?_⟩
   ·rw [Lib.decDigits_one om,show 48+(10 * (0:Int)+((b.toNat:Int) - 48)).toNat=b.toNat by omega,hbb];rfl
   ·intro b' r e hne
    cases e;omega
  | cons c t=>
   have hc:c.toNat≠48:=hl c (t++[b]) rfl sp
   have hled:Led (c :: t):=fun b' r' e hr=>by cases e;exact hc
   obtain ⟨i1,i2⟩:=ih hdl hled sp;have h1:=i2 c t rfl hc;refine ⟨?_,fun _ _ _ _=>by omega⟩
   rw [fI _ om,show (10 * jH (c :: t)+((b.toNat:Int) - 48)).toNat / 10=(jH (c :: t)).toNat by omega,
    show 48+(10 * jH (c :: t)+((b.toNat:Int) - 48)).toNat % 10=b.toNat by omega,i1,hbb]
theorem nat_ok {l:List UInt8} (hd:Digits l) (hl:Led l) (hn:l≠[]):bK l=if jH l<=999999 then some (jH l) else none:=by
 have h:=(dec_acc l hd hl hn).1;have h0:=(accOf_bound l hd).1
 have e:l=Lib.itoa (jH l):=by unfold Lib.itoa;rw [if_neg om,h]
 split
 ·rename_i hk
  exact lH.2 ⟨h0,hk,e⟩
 ·rename_i hk
  cases hn:bK l with
  | none=>rfl
  | some k=>
   obtain ⟨k0,k1,ek⟩:=lH.1 hn;have a1:=xL k0 om;rw [<-ek] at a1;exfalso;apply hk
   -- the same digits: the same number
   have hh:∀ u:Nat,jH (Lib.decDigits u)=(u:Int):=by
    intro u
    induction u using Nat.strongRecOn with
    | _ u ih=>
     by_cases h:u<10
     ·rw [Lib.decDigits_one h]
      show 10 * (0:Int)+(((UInt8.ofNat (48+u)).toNat:Int) - 48)=u
      have:(UInt8.ofNat (48+u)).toNat=48+u:=by simp;omega
      omega
     ·rw [fI u h,rO,ih (u / 10) om]
      have:(UInt8.ofNat (48+u % 10)).toNat=48+u % 10:=by simp;omega
      omega
   have:jH l=k:=by
    rw [ek];unfold Lib.itoa;rw [if_neg om,hh];omega
   omega
theorem nat_none {l:List UInt8} (h:l=[]\/9<l.length\/(∃ b∈l,¬ (48<=b.toNat/\b.toNat<=57))\/(∃ b r,l=b :: r/\r≠[]/\b.toNat=48)):bK l=none:=by
 cases hn:bK l with
 | none=>rfl
 | some k=>
  obtain ⟨k0,k1,ek⟩:=lH.1 hn;exfalso
  rcases h with rfl|h|⟨b,hb,hx⟩|⟨b,r,e,hr,hb⟩
  ·exact itoa_ne k0 ek.symm
  ·have:=yF (n:=k) (k:=5) k0 (by norm_cast;omega)
   rw [<-ek] at this;omega
  ·rw [ek] at hb
   exact hx (itoa_bytes k0 b hb)
  ·have hI:Lib.itoa k=Lib.decDigits k.toNat:=by unfold Lib.itoa;rw [if_neg om]
   have hh:∀ u:Nat,1<=u->∀ b r,Lib.decDigits u=b :: r->b.toNat≠48:=by
    intro u
    induction u using Nat.strongRecOn with
    | _ u ih=>
     intro hu b r e
     by_cases h:u<10
     ·rw [Lib.decDigits_one h] at e
      cases e;simp;omega
     ·rw [fI u h] at e
      obtain ⟨i,t,hi,hd⟩:=dec_head (u / 10);rw [hd] at e;cases e;exact ih (u / 10) om om _ _ hd
   by_cases hz:k.toNat=0
   ·rw [ek,hI,hz,Lib.decDigits_one om] at e
    cases e;exact hr rfl
   ·exact hh k.toNat om b r (by rw [<-hI,<-ek,e]) hb
end Ch
namespace Go.Proofs.YtplomeacjbkgnabGreatDoor
open Go.RowKit Tryz Ch
def natV (s:ByteArray):Int:=match bK s.data.toList with|some v=>v|none=>-1
theorem natural_long (s:ByteArray) (w:World) (h:9<s.size) (hs:s.size<=1000000):Calls prog 78 #[.string s,vi 999999] w fun e w'=>e = .returned (vi (natV s))/\Ext w w':=by
 have e:natV s=-1:=by unfold natV;rw [nat_none (Or.inr (Or.inl (by simpa using h)))]
 rw [e];go_enter func78,ntmps78;go_wp2;go_ret;exact ⟨rfl,eX⟩
theorem byte_at {s:ByteArray} {k:Nat} (h:k<s.size):s.data.toList[k]? = some s[k]:=by
 rw [List.getElem?_eq_getElem (by simpa using h)];simp;rfl
theorem natV_none {s:ByteArray} (h:bK s.data.toList=none):natV s=-1:=by unfold natV;rw [h]
theorem pow_le {k:Nat} (h:k<=9):(10:Int) ^ k<=1000000000:=by
 match k,h with
 | 0,_|1,_|2,_|3,_|4,_|5,_|6,_|7,_|8,_|9,_=>decide
theorem natural_led (s:ByteArray) (w:World) (h0:1<s.size) (h:s.size<=9) (h48:(s[0]'om).toNat=48):Calls prog 78 #[.string s,vi 999999] w fun e w'=>e = .returned (vi (natV s))/\Ext w w':=by
 have e:natV s=-1:=by
  apply natV_none;apply nat_none;have h1:=byte_at (s:=s) (k:=0) om
  have hl:s.data.toList.length=s.size:=sp
  cases hL:s.data.toList with
  | nil=>rw [hL] at hl;simp at hl;omega
  | cons b r=>
   rw [hL] at h1 hl;cases h1;refine Or.inr (Or.inr (Or.inr ⟨_,r,rfl,?_,h48⟩));intro hr;rw [hr] at hl;simp at hl;omega
 rw [e];go_enter func78,ntmps78;go_wp2;go_ret;exact ⟨rfl,eX⟩
theorem natural_any (s:ByteArray) (w:World) (h0:1<=s.size) (h:s.size<=9) (h48:¬ (1<s.size/\(s[0]'om).toNat=48)):Calls prog 78 #[.string s,vi 999999] w fun e w'=>e = .returned (vi (natV s))/\Ext w w':=by
 have hlen:s.data.toList.length=s.size:=sp
 have HLed:Hid (Led s.data.toList):=by
  intro b r e hr hb;have h1:=byte_at (s:=s) (k:=0) om;rw [e] at h1 hlen;replace h1:=Option.some.inj h1
  cases r with
  | nil=>exact hr rfl
  | cons c t=>exact h48 ⟨by simp at hlen;omega,by rw [<-h1];exact hb⟩
 have HNe:Hid (s.data.toList≠[]):=by intro e;rw [e] at hlen;simp at hlen;omega
 have HLen:=aA hlen;clear hlen;go_enter func78,ntmps78;go_wp2
 all_goals
  go_loopw [5,6] (fun n i wr=>∃ k:Nat,k<=s.size/\i = .int .i64 k/\n=vi (jH (s.data.toList.take k))/\Hid (Digits (s.data.toList.take k))/\Ext w wr) (fun _ i _=>s.size - (intOf i).toNat)
  case atStart=>exact ⟨0,om,rfl,rfl,(by intro b hb;simp at hb),eX⟩
  case round=>
   obtain ⟨k,hk,rfl,rfl,HD,o,m,rfl⟩:=hrel;have hbd:=accOf_bound _ HD.out;have hp:=pow_le (k:=k) om;rw [List.length_take,Nat.min_eq_left (by have:=HLen.out;omega)] at hbd;have ha0:=hbd.1
   have ha1:jH (s.data.toList.take k)<=1000000000:=om
   clear hbd hp;generalize hA:jH (s.data.toList.take k)=acc at *;have HA:=aA hA;clear hA
   by_cases hlt:k<s.size
   ·have HB:=aA (byte_at hlt)
    obtain ⟨c,hc⟩:∃ c,(s[k]'hlt).toNat=c:=⟨_,rfl⟩
    have hc9:c<256:=by rw [<-hc];exact UInt8.toNat_lt _
    have hki:(k:Int)<(s.size:Int):=om
    by_cases hd:48<=c/\c<=57
    ·obtain ⟨hd1,hd2⟩:=hd
     have i1:IntKind.u8.wrap ((c:Int) - 48)=(c:Int) - 48:=by rw [Go.IntKind.wrap_u8];omega
     have HD2:Hid (Digits (s.data.toList.take (k+1))/\jH (s.data.toList.take (k+1))=10 * acc+((c:Int) - 48)):=by
      rw [List.take_add_one,HB.out];refine ⟨?_,?_⟩
      ·intro b hb
       rcases List.mem_append.1 hb with hb|hb
       ·exact HD.out b hb
       ·simp at hb;subst hb;rw [hc];exact ⟨hd1,hd2⟩
      ·show jH (_++[s[k]])=_
       rw [rO,HA.out,hc]
     go_wp2;go_roundw
     case rel=>exact ⟨k+1,om,by go_num,by rw [HD2.out.2],HD2.out.1,eX⟩
     case measure=>simp [intOf];omega
    ·have e:natV s=-1:=by
      apply natV_none;apply nat_none;refine Or.inr (Or.inr (Or.inl ⟨s[k],List.mem_of_getElem? HB.out,?_⟩));rw [hc];exact hd
     replace e:=aA e
     by_cases hd1:c<48
     ·go_wp2
      go_ret;exact ⟨congrArg (fun z=>Ending.returned (vi z)) e.out.symm,eX⟩
     ·have hd2:57<c:=om
      go_wp2;go_ret;exact ⟨congrArg (fun z=>Ending.returned (vi z)) e.out.symm,eX⟩
   ·have hks:k=s.size:=om
    have e:natV s=if acc<=999999 then acc else -1:=by
     unfold natV;have ht:s.data.toList.take k=s.data.toList:=List.take_of_length_le (by have:=HLen.out;omega);have h1:=HA.out;have h2:=HD.out;rw [ht] at h1 h2;rw [nat_ok h2 HLed.out HNe.out,h1]
     by_cases hm:acc<=999999
     ·rw [if_pos hm,if_pos hm]
     ·rw [if_neg hm,if_neg hm]
    replace e:=aA e;subst hks
    by_cases hm:acc<=999999
    ·go_wp2
     go_ret;exact ⟨congrArg (fun z=>Ending.returned (vi z)) (e.out.trans (if_pos hm)).symm,eX⟩
    ·go_wp2
     go_ret;exact ⟨congrArg (fun z=>Ending.returned (vi z)) (e.out.trans (if_neg om)).symm,eX⟩
theorem natural_empty (s:ByteArray) (w:World) (h:s.size=0):Calls prog 78 #[.string s,vi 999999] w fun e w'=>e = .returned (vi (natV s))/\Ext w w':=by
 have e:natV s=-1:=by
  apply natV_none;apply nat_none;refine Or.inl ?_;rw [<-List.length_eq_zero_iff];simpa using h
 rw [e];go_enter func78,ntmps78;go_wp2;go_ret;exact ⟨rfl,eX⟩
theorem natural_all (s:ByteArray) (w:World) (hs:Hid (s.size<=1000000)):Calls prog 78 #[.string s,vi 999999] w fun e w'=>e = .returned (vi (natV s))/\Ext w w':=by
 by_cases h0:s.size=0
 ·exact natural_empty s w h0
 by_cases h9:9<s.size
 ·exact natural_long s w h9 hs.out
 by_cases h:1<s.size/\(s[0]'om).toNat=48
 ·exact natural_led s w h.1 om h.2
 ·exact natural_any s w om om h
