import Derived.Test.YtplomeacjbkgnabGreatDoorZ08
import Derived.Test.YtplomeacjbkgnabGreatDoorZ18
set_option linter.all false
set_option maxRecDepth 100000
set_option maxHeartbeats 16000000
namespace Go.Proofs.YtplomeacjbkgnabGreatDoor
open Go.RowKit Tryz
open Ch hiding Act
structure kL (w:World):Prop where
 tab:Tab w
 mx:∃ m:Int,w.cell? ⟨3,0,none⟩=some (vi m)
 syn:∃ tp p,w.cell? ⟨1,0,none⟩=some (.iface tp p)
 rng:∃ tp p,w.cell? ⟨2,0,none⟩=some (.iface tp p)
theorem kL.ext {w w':World} (h:kL w) (x:Ext w w'):kL w':=
 ⟨h.tab.ext x,let ⟨m,e⟩:=h.mx;⟨m,eA x e⟩,let ⟨t,p,e⟩:=h.syn;⟨t,p,eA x e⟩,let ⟨t,p,e⟩:=h.rng;⟨t,p,eA x e⟩⟩
theorem wG (n:Int) (w:World) (hn:Hid (-9223372036854775808<=n/\n<=9223372036854775807)) (ht:Tab w):Calls prog 84 #[vi n] w fun e w'=>e = .returned (.string (fB n))/\Ext w w':=by
 refine (Any.strconv_Itoa Tryz.laysM171 n hn.out.1 hn.out.2 w (tabIs_of kR ht)).mono ?_;rintro e w' ⟨rfl,k,os,rfl⟩;exact ⟨rfl,os,w.drawn+k,rfl⟩
theorem kN (s:ByteArray) (v:Int) (w:World) (hs:Hid (s.size<=1000000)) (h:Hid (Lib.atoiAll s.data.toList = .ok v)):Calls prog 149 #[.string s] w fun e w'=>e = .returned (.tuple #[vi v,.nilIface])/\Ext w w':=by
 refine (Any.strconv_Atoi_ok Tryz.laysC172 s (by have:=hs.out;omega) v h.out w).mono ?_;rintro e w' ⟨rfl,rfl|⟨t,rfl⟩⟩
 ·exact ⟨rfl,Ext.refl _⟩
 ·exact ⟨rfl,Ext.of_below (Lib.bytesWorld_below _ _ _)⟩
theorem atoi_bad (s:ByteArray) (w:World) (hs:Hid (s.size<=1000000)) (h:Hid (∀ v,Lib.atoiAll s.data.toList≠.ok v)) (L:kL w):Calls prog 149 #[.string s] w fun e w'=>∃ n T p,e = .returned (.tuple #[vi n,.iface T p])/\Ext w w':=by
 cases ha:Lib.atoiAll s.data.toList with
 | ok v=>exact absurd ha (h.out v)
 | range=>
  obtain ⟨tp,p,hc⟩:=L.rng;refine (Any.strconv_Atoi_range Tryz.laysC172 s (by have:=hs.out;omega) ha (.iface tp p) w hc (Or.inr ⟨tp,p,rfl⟩)).mono ?_;rintro e w' ⟨N,rfl,_,_,hb⟩;exact ⟨_,_,_,rfl,Ext.of_below hb⟩
 | _=>
  obtain ⟨tp,p,hc⟩:=L.syn;refine (Any.strconv_Atoi_syntax Tryz.laysC172 s (by have:=hs.out;omega) ha (.iface tp p) w hc (Or.inr ⟨tp,p,rfl⟩)).mono ?_;rintro e w' ⟨N,rfl,_,_,hb⟩;exact ⟨_,_,_,rfl,Ext.of_below hb⟩
theorem split_any (s:ByteArray) (w:World) (hs:Hid (s.size<=1000000)) (L:kL w):
  Calls prog 135 #[.string s,.string ⟨#[32]⟩] w fun e w'=>∃ b n,e = .returned (.slice (some ⟨b,0,none⟩) n n)/\Sl w' 1 bC (bD s) (some ⟨b,0,none⟩) n n/\Hid (n=(bD s).length)/\Ext w w':=by
 obtain ⟨m,hm⟩:=L.mx;refine (Any.strings_Split { Tryz.laysM146 with } Tryz.laysM146.i9 s ⟨#[32]⟩ m w (by have:=hs.out;omega) hm dc).mono ?_;rintro e w' ⟨rfl,rfl⟩;have hl:=eJ s;have hz:=nJ s;have hs1:=hs.out;refine ⟨w.heap.size,_,rfl,⟨hl,Nat.le_refl _,by unfold maxLen;omega,fun _=>⟨w.heap.size,0,rfl,?_⟩⟩,hl.symm,(Ext.refl _).alloc _⟩;intro i x hx j y hy
 match j,hy with
 | 0,hy=>
  cases hy
  have:((bD s).map Value.string)[i]? = some (.string x):=by rw [List.getElem?_map,hx];rfl
  simp only [World.cell?,heap_alloc_new];simp only [Nat.zero_add,Nat.mul_one,Nat.add_zero,List.getElem?_toArray];exact this
theorem infoIntP:(prog.info? 3).map (fun i=>(i.zero,i.size,i.bytes))=some (some (.int .i64 0),1,8):=by kernel_rfl
structure Nums (w:World) (l:List Int) (v:Value) (wr:World):Prop where
 own:wr.ownsRow w.heap.size 3 1 v l.length (l.flatMap jG)
 ext:Ext w wr
theorem num_last {l:List Int} {x:Int} {v:Value} {wr:World} {base:Nat} (h:wr.ownsRow base 3 1 v (l.length+1) (l.flatMap jG++[vi x])):wr.ownsRow base 3 1 v (l++[x]).length ((l++[x]).flatMap jG):=by
 rw [List.length_append,List.flatMap_append];exact h
theorem word_size {s x:ByteArray} {k:Nat} (h:(bD s)[k]? = some x):x.size<=s.size:=by
 have h1:(bD s).map (·.data.toList)=kI s.data.toList:=xM s
 have h2:x.data.toList∈kI s.data.toList:=by rw [<-h1];exact List.mem_map.2 ⟨x,List.mem_of_getElem? h,rfl⟩
 have h3:∀ (t w v:List UInt8),v∈eC w t->v.length<=w.length+t.length:=by
  intro t
  induction t with
  | nil=>intro w v hv;simp [eC] at hv;subst hv;simp
  | cons b t ih=>
   intro w v hv;unfold eC at hv
   split at hv
   ·rcases List.mem_cons.1 hv with rfl|hv
    ·simp
    ·have:=ih [] v hv;simp at this ⊢;omega
   ·have:=ih _ v hv;simp at this ⊢;omega
 have:=h3 _ [] _ h2
 simpa using this
theorem own_at {w:World} {base e c n m d:Nat} {g:Option Addr} {xs:List Value} (h:w.ownsRow base e c (.slice g n d) m xs) (hm:0<m):∃ gg,g=some ⟨gg,0,none⟩:=by
 rcases h.2 with ⟨h2,h3⟩|⟨gg,cap,cur,h2,_⟩
 ·omega
 ·cases h2;exact ⟨gg,rfl⟩
theorem own_cells {w:World} {base e d:Nat} {gg:Nat} {N:List Int} (h:w.ownsRow base e 1 (.slice (some ⟨gg,0,none⟩) N.length d) N.length (N.flatMap jG)):∀ j,j<N.length->w.cell? ⟨gg,j,none⟩=some (vi (N.getD j 0)):=by
 intro j hj;obtain ⟨y,d',e',s⟩:=Sl.of_owns (c:=1) (enc:=jG) h dc (fun _=>rfl);cases e';obtain ⟨b,o,x,e2,hx,f⟩:=s.get hj;cases e2;have:=f 0 (vi x) rfl;rw [Nat.mul_one,Nat.zero_add,Nat.add_zero] at this;rw [this,List.getD_eq_getElem?_getD,hx];rfl
theorem own_cap {w:World} {base e c n m d:Nat} {g:Option Addr} {xs:List Value} (h:w.ownsRow base e c (.slice g n d) m xs) (hm:0<m):m<=d/\d<=9223372036854775807:=by
 rcases h.2 with ⟨h2,h3⟩|⟨gg,cap,cur,h2,_,_,h4,h5,_⟩
 ·omega
 ·cases h2;exact ⟨h4,h5⟩
theorem lO {N:List Int} (h:∀ v∈N,0<=v/\v<=999999) (j:Nat):0<=N.getD j 0/\N.getD j 0<=999999:=by
 rw [List.getD_eq_getElem?_getD]
 cases hx:N[j]? with
 | none=>simp
 | some x=>exact h x (List.mem_of_getElem? hx)
def parseV (b:Option gB):gB×Int:=match b with|some b=>(b,0)|none=>(⟨0,[],[]⟩,4)
def Parsed (w:World) (r:gB×Int) (e:Ending) (w':World):Prop:=
 ∃ v1 v2,e = .returned (.tuple #[.agg #[vi r.1.last,v1,v2],aC r.2])/\w'.ownsRow w.heap.size 141 8 v1 r.1.stays.length (r.1.stays.flatMap iA)/\w'.ownsRow w.heap.size 143 2 v2 r.1.jobs.length (r.1.jobs.flatMap jA) /\
  (∀ k,v1.ownBlock=some k->v2.ownBlock≠some k)/\Ext w w'
theorem gM {w w':World} (h:Ext w w'):Parsed w (parseV none) (.returned (.tuple #[.agg #[vi 0,.slice none 0 0,.slice none 0 0],aC 4])) w':=
 ⟨_,_,rfl,World.ownsRow_nil _ _ _ _,World.ownsRow_nil _ _ _ _,(by intro k hk;cases hk),h⟩
theorem parse_any (s:ByteArray) (levels:Int) (w:World) (hs:s.size<=10000) (L:kL w) (hl4:levels<=4):
  Calls prog 92 #[.string s,vi levels] w (Parsed w (parseV (uD s.data.toList levels))):=by
 obtain ⟨i0,hi,hz0,hz1,hz2⟩:=info_parts infoIntP;obtain ⟨j0,hj0,hy0,hy1,hy2⟩:=info_parts infoStay;obtain ⟨q0,hq0,hx0,hx1,hx2⟩:=info_parts kO;have HSZ:=aA hs
 have HPB:Hid (uD s.data.toList levels=((bD s).mapM iH).bind fun n=>kJ n levels):=by
  unfold Hid uD;rw [numsOf_words]
 have HWN:Hid ((bD s).length<=10001):=by
  have:=eJ s;have:=nJ s;unfold Hid;omega
 have HL0:=aA L;clear hs L;go_enter func92,ntmps92
 go_upto_region 3 with (first|(go_at_call 135;(with_reducible refine (split_any s _ (by have:=HSZ.out;unfold Hid;omega) (HL0.out.ext eX)).mono ?_);rintro e w1 ⟨wb,wn,rfl,hsl,hwn,o1,n1,rfl⟩))
 generalize hW:World.plus _ _ _=w0 at hsl ⊢
 have hx:Ext w w0:=xQ hW
 have r0:w0.cell? ⟨w.heap.size,0,none⟩=some (vi 0):=by rw [<-hW,cB _ _ _ _ _ _ so];simp [go_sem]
 have r1:w0.cell? ⟨w.heap.size,1,none⟩=some (.slice none 0 0):=by rw [<-hW,cB _ _ _ _ _ _ so];simp [go_sem]
 have r2:w0.cell? ⟨w.heap.size,2,none⟩=some (.slice none 0 0):=by rw [<-hW,cB _ _ _ _ _ _ so];simp [go_sem]
 have rf:∀ i,w0.frozen? ⟨w.heap.size,i,none⟩=false:=by intro i;rw [<-hW,bN _ _ _ _ _ _ so];simp [go_sem]
 have KR:=aA (⟨r0,r1,r2,rf⟩:eB w0 w.heap.size (vi 0) (.slice none 0 0) (.slice none 0 0));have HX:=aA hx;have HL:=aA (HL0.out.ext hx);have HS:=aA hsl;have HN:=hwn
 have bwn:wn<=10001:=by have:=HWN.out;have:=HN.out;omega
 have zr:=cA r0;clear hW hx hsl hwn r0 r1 r2 rf HL0;go_wp2
 go_loopw [6,17] (fun v i wr=>∃ (k:Nat) (N:List Int) (g:Option Addr) (d:Nat),k<=wn/\i = .int .i64 k/\v = .slice g N.length d/\Hid (((bD s).take k).mapM iH=some N/\N.length=k)/\Nums w0 N (.slice g N.length d) wr) (fun _ i _=>wn - (intOf i).toNat)
 case atStart=>exact ⟨0,[],none,0,om,rfl,rfl,⟨sp,rfl⟩,⟨World.ownsRow_nil _ _ _ _,Ext.refl _⟩⟩
 case round =>
  obtain ⟨k,N,g,d,hk,rfl,rfl,HM,hgat⟩:=hrel;have HG:=aA hgat;have HNK:Hid (N.length=k):=HM.out.2;have KRR:=aA (KR.out.ext hgat.ext);have HXR:=aA (HX.out.trans hgat.ext);have zrr:=KRR.out.lt;clear hgat
  by_cases hlt:k<wn
  ·obtain ⟨b,q,x,hb,hxk,dx⟩:=(Sl.below HS.out HG.out.ext.below).get hlt
   cases hb;have dx:=at1 dx;rw [Nat.mul_one,Nat.zero_add] at dx;have zq:=cA dx
   have hkj:(k:Int)<(wn:Int):=om
   have HXS:Hid (x.size<=1000000):=by have:=word_size hxk;have:=HSZ.out;unfold Hid;omega
   have HXK:=aA hxk;clear hxk
   have HBAD:∀ wq,Hid (iH x=none)->Ext w wq->Parsed w (parseV (uD s.data.toList levels)) (.returned (.tuple #[.agg #[vi 0,.slice none 0 0,.slice none 0 0],.iface 92 (vi 4)])) wq:=by
    intro wq hn hx;rw [HPB.out,mapM_bad HXK.out hn.out];exact gM hx
   have HBAD:=aA HBAD
   by_cases hok:∃ v,Lib.atoiAll x.data.toList = .ok v
   ·obtain ⟨v,hv⟩:=hok
    have HV:=aA hv;have HVB:=aA (Lib.atoiAll_bounds hv);clear hv
    by_cases hw:Lib.itoa v=x.data.toList
    ·have hcmp:((fB v).toList==x.toList)=true:=by
      rw [Lib.toList_data,Lib.toList_data,oF,hw];simp
     have HIT:=aA hw;clear hw
     by_cases hv0:v<0
     ·have HNB:Hid (iH x=none):=by
       unfold Hid
       cases hn:iH x with
       | none=>rfl
       | some u=>
        obtain ⟨u1,u2,u3⟩:=lH.1 hn;have:=xL u1 om;rw [<-u3,HV.out] at this;cases this;omega
      have hv9:¬ 999999<v:=om
      go_upto_region 7 with (first|(go_at_call 149;with_reducible refine mo (kN x v _ HXS HV) fun o1 n1=>?_)|(go_at_call 84;with_reducible refine mo (wG v _ HVB (HL.out.tab.ext (HG.out.ext.trans eX))) fun o1 n1=>?_))
      generalize hW:World.plus _ _ _=wq
      have hxq:=(show Ext wr wq by rw [<-hW];exact eX)
      obtain ⟨t0,t1,t2,tf⟩:=KRR.out.ext hxq;have zt:=cA t0;have hxw:=HXR.out.trans hxq;clear hW hxq;go_wp2;obtain ⟨p0,p1,p2,px⟩:=put3 (w:=w) (R:=w.heap.size) (x:=vi 0) (y:=.slice none 0 0) (z:=.slice none 0 0) hxw (Nat.le_refl _) t0 t1 t2;refine bodyPost_ret (v:=.tuple #[.agg #[vi 0,.slice none 0 0,.slice none 0 0],.iface 92 (vi 4)]) (by simp [results,results92,go_sem,p0,p1,p2]) rfl ?_;exact HBAD.out _ HNB px
     ·by_cases hv9:999999<v
      ·have HNB:Hid (iH x=none):=by
        unfold Hid
        cases hn:iH x with
        | none=>rfl
        | some u=>
         obtain ⟨u1,u2,u3⟩:=lH.1 hn;have:=xL u1 om;rw [<-u3,HV.out] at this;cases this;omega
       go_upto_region 7 with (first|(go_at_call 149;with_reducible refine mo (kN x v _ HXS HV) fun o1 n1=>?_)|(go_at_call 84;with_reducible refine mo (wG v _ HVB (HL.out.tab.ext (HG.out.ext.trans eX))) fun o1 n1=>?_))
       generalize hW:World.plus _ _ _=wq
       have hxq:=(show Ext wr wq by rw [<-hW];exact eX)
       obtain ⟨t0,t1,t2,tf⟩:=KRR.out.ext hxq;have zt:=cA t0;have hxw:=HXR.out.trans hxq;clear hW hxq;go_wp2;obtain ⟨p0,p1,p2,px⟩:=put3 (w:=w) (R:=w.heap.size) (x:=vi 0) (y:=.slice none 0 0) (z:=.slice none 0 0) hxw (Nat.le_refl _) t0 t1 t2;refine bodyPost_ret (v:=.tuple #[.agg #[vi 0,.slice none 0 0,.slice none 0 0],.iface 92 (vi 4)]) (by simp [results,results92,go_sem,p0,p1,p2]) rfl ?_;exact HBAD.out _ HNB px
      ·have HNB:Hid (iH x=some v):=lH.2 ⟨om,om,HIT.out.symm⟩
       have HM2:=aA (mapM_take HM.out.1 HXK.out HNB.out)
       have hNb:N.length<=10001:=by have:=HNK.out;omega
       go_upto_region 8 with (first
        | (go_at_call 149;with_reducible refine mo (kN x v _ HXS HV) fun o1 n1=>?_)
        | (go_at_call 84;with_reducible refine mo (wG v _ HVB (HL.out.tab.ext (HG.out.ext.trans eX))) fun o1 n1=>?_))
       generalize hW:World.plus _ _ _=wq;have hxq:Ext wr wq:=xQ hW;have HQ:=aA (zC HG.out.own hxq);have HXQ:=aA (HG.out.ext.trans hxq);have hsz:=HXQ.out.below.size;clear hW hxq dx zq;go_wp2_with (at_builtin;refine wpList_append_lies _ rfl _ _ _ rfl w0.heap.size 3 i0 _ 1 8 underlying149 hi hz0 hz1 hz2 rfl dc (.slice g N.length d) N.length _ rfl (iB HQ.out _) _ 1 1 [vi v] rfl rfl (World.news_of_block (pA _ _ _ sp)) (by simp [Value.oneCell']) dc (by unfold maxLen;omega) om ov _ rfl ?_;intro gg cap w3 hown3 hgrow hat hlt3;have HG3:Hid (Nums w0 (N++[v]) (.slice (some ⟨gg,0,none⟩) (N.length+1) cap) w3):=⟨num_last hown3,vB (w:=w0) (HXQ.out.trans eX) hgrow (qA HQ.out)⟩;clear hown3 hgrow hat hlt3);go_roundw
       case rel=>
        exact ⟨k+1,N++[v],some ⟨gg,0,none⟩,cap,om,by go_num,by rw [List.length_append];rfl,⟨HM2.out,by rw [List.length_append,HNK.out];rfl⟩,by rw [show (N++[v]).length=N.length+1 by rw [List.length_append];rfl];exact HG3.out⟩
       case measure=>simp [intOf];omega
    ·have hcmp:((fB v).toList==x.toList)=false:=by
      rw [Lib.toList_data,Lib.toList_data,oF];simpa using hw
     have HNB:Hid (iH x=none):=by
      unfold Hid
      cases hn:iH x with
      | none=>rfl
      | some u=>
       obtain ⟨u1,u2,u3⟩:=lH.1 hn;have:=xL u1 om;rw [<-u3,HV.out] at this;cases this;exact absurd u3.symm hw
     clear hw
     go_upto_region 7 with (first|(go_at_call 149;with_reducible refine mo (kN x v _ HXS HV) fun o1 n1=>?_)|(go_at_call 84;with_reducible refine mo (wG v _ HVB (HL.out.tab.ext (HG.out.ext.trans eX))) fun o1 n1=>?_))
     generalize hW:World.plus _ _ _=wq
     have hxq:=(show Ext wr wq by rw [<-hW];exact eX)
     obtain ⟨t0,t1,t2,tf⟩:=KRR.out.ext hxq;have zt:=cA t0;have hxw:=HXR.out.trans hxq;clear hW hxq;go_wp2;obtain ⟨p0,p1,p2,px⟩:=put3 (w:=w) (R:=w.heap.size) (x:=vi 0) (y:=.slice none 0 0) (z:=.slice none 0 0) hxw (Nat.le_refl _) t0 t1 t2;refine bodyPost_ret (v:=.tuple #[.agg #[vi 0,.slice none 0 0,.slice none 0 0],.iface 92 (vi 4)]) (by simp [results,results92,go_sem,p0,p1,p2]) rfl ?_;exact HBAD.out _ HNB px
   ·have HNO:Hid (∀ v,Lib.atoiAll x.data.toList≠.ok v):=fun v hv=>hok ⟨v,hv⟩
    have HNB:Hid (iH x=none):=by
     unfold Hid
     cases hn:iH x with
     | none=>rfl
     | some u=>
      obtain ⟨u1,u2,u3⟩:=lH.1 hn;have:=xL u1 om;rw [<-u3] at this;exact absurd this (HNO.out _)
    clear hok
    go_upto_region 7 with (first|(go_at_call 149;(with_reducible refine (atoi_bad x _ HXS HNO (HL.out.ext (HG.out.ext.trans eX))).mono ?_);rintro e w1 ⟨na,nT,np,rfl,o1,n1,rfl⟩))
    generalize hW:World.plus _ _ _=wq
    have hxq:=(show Ext wr wq by rw [<-hW];exact eX)
    obtain ⟨t0,t1,t2,tf⟩:=KRR.out.ext hxq;have zt:=cA t0;have hxw:=HXR.out.trans hxq;clear hW hxq;go_wp2;obtain ⟨p0,p1,p2,px⟩:=put3 (w:=w) (R:=w.heap.size) (x:=vi 0) (y:=.slice none 0 0) (z:=.slice none 0 0) hxw (Nat.le_refl _) t0 t1 t2;refine bodyPost_ret (v:=.tuple #[.agg #[vi 0,.slice none 0 0,.slice none 0 0],.iface 92 (vi 4)]) (by simp [results,results92,go_sem,p0,p1,p2]) rfl ?_;exact HBAD.out _ HNB px
  ·have hkw : k=wn:=om
   subst hkw
   have HM1:Hid ((bD s).mapM iH=some N):=by
    have:=HM.out.1;rw [List.take_of_length_le (by have:=HN.out;omega)] at this;exact this
   have HRN:=aA (mapM_range HM1.out)
   have HPN:Hid (uD s.data.toList levels=kJ N levels):=by
    unfold Hid;rw [HPB.out,HM1.out];rfl
   have HBN:=aA (bookOfNums_at (levels:=levels) HRN.out)
   by_cases h3:N.length<3
   ·have h3i:(N.length:Int)<3:=om
    have HP0:Hid (uD s.data.toList levels=none):=by
     unfold Hid;rw [HPN.out,HBN.out,if_pos (Or.inl h3)]
    go_upto_region 10 with fail
    (refine qF ?_;rintro _ ⟨oq,nq,rfl⟩)
    go_upto_region 11 with fail
    generalize hW:World.plus _ _ _=wq
    have hxq:=(show Ext wr wq by rw [<-hW];exact eX)
    obtain ⟨t0,t1,t2,tf⟩:=KRR.out.ext hxq;have zt:=cA t0;have hxw:=HXR.out.trans hxq;clear hW hxq;go_wp2;obtain ⟨p0,p1,p2,px⟩:=put3 (w:=w) (R:=w.heap.size) (x:=vi 0) (y:=.slice none 0 0) (z:=.slice none 0 0) hxw (Nat.le_refl _) t0 t1 t2;refine bodyPost_ret (v:=.tuple #[.agg #[vi 0,.slice none 0 0,.slice none 0 0],.iface 92 (vi 4)]) (by simp [results,results92,go_sem,p0,p1,p2]) rfl ?_;rw [HP0.out];exact gM px
   ·have h3i : ¬ (N.length:Int)<3:=om
    have h3n:3<=N.length:=om
    obtain ⟨gg,hgg⟩:=own_at HG.out.own om;subst hgg;have hcell:=own_cells HG.out.own;have hcap:=own_cap HG.out.own om
    have HNL:Hid (N.length<=10001):=by have:=HNK.out;unfold Hid;omega
    have nl9:N.length<=10001:=HNL.out
    obtain ⟨x0,HX0⟩:∃ x,Hid (N.getD 0 0=x):=⟨_,rfl⟩
    obtain ⟨x1,HX1⟩:∃ x,Hid (N.getD 1 0=x):=⟨_,rfl⟩
    obtain ⟨x2,HX2⟩:∃ x,Hid (N.getD 2 0=x):=⟨_,rfl⟩
    have b0:=lO HRN.out 0;have b1:=lO HRN.out 1;have b2:=lO HRN.out 2;have c0:=hcell 0 om;have c1:=hcell 1 om;have c2:=hcell 2 om;rw [HX0.out] at b0 c0;rw [HX1.out] at b1 c1;rw [HX2.out] at b2 c2;have hw1:IntKind.i64.wrap (8 * x1)=8 * x1:=IntWalk.i64_in _ om;have hw2:IntKind.i64.wrap (2 * x2)=2 * x2:=IntWalk.i64_in _ om;have hw3:IntKind.i64.wrap (3+8 * x1)=3+8 * x1:=IntWalk.i64_in _ om;have hw4:IntKind.i64.wrap (3+8 * x1+2 * x2)=3+8 * x1+2 * x2:=IntWalk.i64_in _ om;have zg:=cA c0;have HCL:=aA hcell
    have l1:(1:Int)<(N.length:Int):=om
    have l2:(2:Int)<(N.length:Int):=om
    have l0:(0:Int)<(N.length:Int):=om
    clear hcell
    by_cases hlen:(N.length:Int)=3+8 * x1+2 * x2
    ·have hbe:((N.length:Int)==3+8 * x1+2 * x2)=true:=by simpa using hlen
     have HLN:=aA hlen;clear hlen
     go_upto_region 10 with fail
     (refine qF ?_;rintro _ ⟨oq,nq,rfl⟩)
     go_upto_region 14 with fail
     generalize hW:World.alloc _ _=w1;generalize hO:wr.heap.size+oq.size=O at *;have hx1:Ext wr w1:=xQ hW;have o0:cI w1 O 0 x0:=cR hW hO;have o1:cV w1 O 1 (.slice none 0 0):=cR hW hO;have o2:cV w1 O 2 (.slice none 0 0):=cR hW hO
     have of:∀ i,w1.frozen? ⟨O,i,none⟩=false:=by intro i;rw [<-hW,<-hO];simp [go_sem]
     have hOR:wr.heap.size<=O:=by rw [<-hO];omega
     have KO:=aA (⟨o0,o1,o2,of⟩:eB w1 O (vi x0) (.slice none 0 0) (.slice none 0 0));have KR1:=aA (KRR.out.ext hx1);have HX1W:=aA (HXR.out.trans hx1);have HL1:=aA (HL.out.ext (HG.out.ext.trans hx1))
     have HC1:Hid (∀ j,j<N.length->w1.cell? ⟨gg,j,none⟩=some (vi (N.getD j 0))):=fun j hj=>eA hx1 (HCL.out j hj)
     have c1':=eA hx1 c1;have c2':=eA hx1 c2;have hOw:O<w1.heap.size:=cA o0
     have hgO:gg<O:=om
     have G0:Hid (eH w1 O x0 [] [] (.slice none 0 0) (.slice none 0 0) w1):=⟨KO.out,fA.refl _ _,World.ownsRow_nil _ _ _ _,World.ownsRow_nil _ _ _ _,by intro k hk;cases hk⟩
     have zgw:=cA c1'
     have hRO:w.heap.size<O:=om
     clear hW hO hx1 o0 o1 o2 of c0 c1 c2 HCL zg;go_wp2
     go_loopw [12,76] (fun a i wr=>∃ (j A:Nat) (dl:List sA) (g1:Option Addr) (d1:Nat),(j:Int)<=x1/\i = .int .i64 j/\a = .int .i64 A/\Hid (A=3+8 * j/\dl=(List.range j).map fun i=>bM N i)/\eH w1 O x0 dl [] (.slice g1 dl.length d1) (.slice none 0 0) wr) (fun _ i _=>x1.toNat - (intOf i).toNat)
     case atStart=>exact ⟨0,3,[],none,0,om,rfl,rfl,⟨om,rfl⟩,G0.out⟩
     case round=>
      obtain ⟨j,A,dl,g1,d1,hj,rfl,rfl,HA,hgat⟩:=hrel;have GAT:=aA hgat;clear hgat
      have hdl:dl.length<=10001:=by
       rw [HA.out.2,List.length_map,List.length_range];have:=HLN.out;omega
      have HXW:=aA (GAT.out.kept.widen HX1W.out om);obtain ⟨o0,o1,o2,of⟩:=GAT.out.cell;have zo:=cA o0;have hszz:=GAT.out.kept.size
      by_cases hlt:(j:Int)<x1
      ·have hA8:A+8<=N.length:=by have:=HA.out.1;have:=HLN.out;omega
       have hA8i:(A:Int)+8<=(N.length:Int):=om
       have hA8d:(A:Int)+8<=(d:Int):=om
       have hwA:IntKind.i64.wrap ((A:Int)+8)=(A:Int)+8:=IntWalk.i64_in _ om
       have hA88:A+8 - A=8:=om
       have hjm:j<100000:=by have:=HA.out.1;omega
       have hne:(Value.slice g1 dl.length d1).ownBlock≠some gg:=fun e=>by have:=qA GAT.out.stays _ e;omega
       obtain ⟨y0,Y0⟩:∃ y,Hid (N.getD (A) 0=y):=⟨_,rfl⟩
       have d0':=GAT.out.kept.cell (HC1.out (A) om) om;rw [Y0.out] at d0'
       obtain ⟨y1,Y1⟩:∃ y,Hid (N.getD (A+1) 0=y):=⟨_,rfl⟩
       have d1':=GAT.out.kept.cell (HC1.out (A+1) om) om;rw [Y1.out] at d1'
       obtain ⟨y2,Y2⟩:∃ y,Hid (N.getD (A+2) 0=y):=⟨_,rfl⟩
       have d2':=GAT.out.kept.cell (HC1.out (A+2) om) om;rw [Y2.out] at d2'
       obtain ⟨y3,Y3⟩:∃ y,Hid (N.getD (A+3) 0=y):=⟨_,rfl⟩
       have d3':=GAT.out.kept.cell (HC1.out (A+3) om) om;rw [Y3.out] at d3'
       obtain ⟨y4,Y4⟩:∃ y,Hid (N.getD (A+4) 0=y):=⟨_,rfl⟩
       have d4':=GAT.out.kept.cell (HC1.out (A+4) om) om;rw [Y4.out] at d4'
       obtain ⟨y5,Y5⟩:∃ y,Hid (N.getD (A+5) 0=y):=⟨_,rfl⟩
       have d5':=GAT.out.kept.cell (HC1.out (A+5) om) om;rw [Y5.out] at d5'
       obtain ⟨y6,Y6⟩:∃ y,Hid (N.getD (A+6) 0=y):=⟨_,rfl⟩
       have d6':=GAT.out.kept.cell (HC1.out (A+6) om) om;rw [Y6.out] at d6'
       obtain ⟨y7,Y7⟩:∃ y,Hid (N.getD (A+7) 0=y):=⟨_,rfl⟩
       have d7':=GAT.out.kept.cell (HC1.out (A+7) om) om;rw [Y7.out] at d7';have zgg:=cA d0'
       have HST:Hid (bM N j=⟨y0,⟨y1,⟨y2,y3,y4⟩⟩,⟨y5,y6,y7⟩⟩):=by
        have e:=HA.out.1;unfold Hid bM;rw [<-e,Y0.out,Y1.out,Y2.out,Y3.out,Y4.out,Y5.out,Y6.out,Y7.out]
       clear Y0 Y1 Y2 Y3 Y4 Y5 Y6 Y7
       go_upto_region 17 with fail
       refine tH 33 (fun w'=>w'.cell? ⟨O,1,none⟩=some (.slice g1 dl.length d1)/\w'.cell? ⟨gg,A,none⟩=some (vi y0)/\w'.cell? ⟨gg,A+1,none⟩=some (vi y1)/\w'.cell? ⟨gg,A+2,none⟩=some (vi y2)/\w'.cell? ⟨gg,A+3,none⟩=some (vi y3)/\w'.cell? ⟨gg,A+4,none⟩=some (vi y4)/\w'.cell? ⟨gg,A+5,none⟩=some (vi y5)/\w'.cell? ⟨gg,A+6,none⟩=some (vi y6)/\w'.cell? ⟨gg,A+7,none⟩=some (vi y7)) kR ⟨o1,d0',d1',d2',d3',d4',d5',d6',d7'⟩ ?_;intro hS
       (refine tT (i:=0) (D:=83) ?_;try simp only [Act.put,bA])
       (refine tT (i:=1) (D:=84) ?_;try simp only [Act.put,bA])
       (refine tT (i:=2) (D:=85) ?_;try simp only [Act.put,bA])
       (refine tT (i:=3) (D:=86) ?_;try simp only [Act.put,bA])
       (refine tT (i:=4) (D:=87) ?_;try simp only [Act.put,bA])
       (refine tT (i:=5) (D:=88) ?_;try simp only [Act.put,bA])
       (refine tT (i:=6) (D:=89) ?_;try simp only [Act.put,bA])
       (refine tT (i:=7) (D:=90) ?_;try simp only [Act.put,bA])
       (refine tT (i:=8) (D:=91) ?_;try simp only [Act.put,bA])
       (refine tT (i:=9) (D:=92) ?_;try simp only [Act.put,bA])
       (refine tT (i:=10) (D:=93) ?_;try simp only [Act.put,bA])
       (refine tT (i:=11) (D:=94) ?_;try simp only [Act.put,bA])
       (refine tT (i:=12) (D:=95) ?_;try simp only [Act.put,bA])
       (refine tT (i:=13) (D:=96) ?_;try simp only [Act.put,bA])
       (refine tT (i:=14) (D:=97) ?_;try simp only [Act.put,bA])
       (refine tT (i:=15) (D:=98) ?_;try simp only [Act.put,bA])
       (refine tT (i:=16) (D:=99) ?_;try simp only [Act.put,bA])
       (refine tT (i:=17) (D:=100) ?_;try simp only [Act.put,bA])
       (refine tT (i:=18) (D:=101) ?_;try simp only [Act.put,bA])
       (refine tT (i:=19) (D:=102) ?_;try simp only [Act.put,bA])
       (refine tT (i:=20) (D:=103) ?_;try simp only [Act.put,bA])
       (refine tT (i:=21) (D:=104) ?_;try simp only [Act.put,bA])
       (refine tT (i:=22) (D:=105) ?_;try simp only [Act.put,bA])
       (refine tT (i:=23) (D:=106) ?_;try simp only [Act.put,bA])
       (refine tT (i:=24) (D:=107) ?_;try simp only [Act.put,bA])
       (refine tT (i:=25) (D:=108) ?_;try simp only [Act.put,bA])
       (refine tT (i:=26) (D:=109) ?_;try simp only [Act.put,bA])
       (refine tT (i:=27) (D:=110) ?_;try simp only [Act.put,bA])
       (refine tT (i:=28) (D:=111) ?_;try simp only [Act.put,bA])
       (refine tT (i:=29) (D:=112) ?_;try simp only [Act.put,bA])
       refine xB (i:=30) kR rfl (fun K hK=>?_);go_simp;refine hK _ _ ⟨fun _=>⟨gA (w:=wr) eX o1,gA (w:=wr) eX d0',gA (w:=wr) eX d1',gA (w:=wr) eX d2',gA (w:=wr) eX d3',gA (w:=wr) eX d4',gA (w:=wr) eX d5',gA (w:=wr) eX d6',gA (w:=wr) eX d7'⟩,?_⟩;clear hK K hS
       (try simp only [Act.put,bA])
       refine xB (i:=31) kR rfl (fun K hK=>?_)
       (refine step_append_lies _ rfl _ _ _ rfl w1.heap.size 141 j0 _ 8 64 underlying46 hj0 hy0 hy1 hy2 rfl dc (.slice g1 dl.length d1) dl.length (dl.flatMap iA) rfl (mI (iB GAT.out.stays _)) ⟨wr.heap.size,0,none⟩ 1 1 [vi y0,vi y1,vi y2,vi y3,vi y4,vi y5,vi y6,vi y7] rfl rfl (lK wr #[vi y0,vi y1,vi y2,vi y3,vi y4,vi y5,vi y6,vi y7] 141) (by simp [Value.oneCell']) dc (by unfold maxLen;omega) om so _ rfl ?_)
       intro hg cap w5 hown5 hgrow hat hlt5;obtain ⟨n0,n1,n2,nf⟩:=(GAT.out.cell.ext (w':=(wr.alloc (.cells #[vi y0,vi y1,vi y2,vi y3,vi y4,vi y5,vi y6,vi y7] 141)).drew) eX).grown hgrow (GAT.out.far1 hOw);have zn:=cA n0;have HG2:=aA (GAT.out.addStay ⟨y0,⟨y1,⟨y2,y3,y4⟩⟩,⟨y5,y6,y7⟩⟩ (A:=(wr.alloc (.cells #[vi y0,vi y1,vi y2,vi y3,vi y4,vi y5,vi y6,vi y7] 141)).drew) eX hOw hown5 hgrow hat);refine hK _ _ ⟨fun _=>⟨n1,gF hgrow (gA (w:=wr) eX d0') hne,gF hgrow (gA (w:=wr) eX d1') hne,gF hgrow (gA (w:=wr) eX d2') hne,gF hgrow (gA (w:=wr) eX d3') hne,gF hgrow (gA (w:=wr) eX d4') hne,gF hgrow (gA (w:=wr) eX d5') hne,gF hgrow (gA (w:=wr) eX d6') hne,gF hgrow (gA (w:=wr) eX d7') hne⟩,?_⟩;clear hK K
       (try simp only [Act.put,List.setIfInBounds_toArray])
       refine xB (i:=32) kR rfl (fun K hK=>?_);go_simp;refine hK _ _ ⟨fun _=>⟨n1,gF hgrow (gA (w:=wr) eX d0') hne,gF hgrow (gA (w:=wr) eX d1') hne,gF hgrow (gA (w:=wr) eX d2') hne,gF hgrow (gA (w:=wr) eX d3') hne,gF hgrow (gA (w:=wr) eX d4') hne,gF hgrow (gA (w:=wr) eX d5') hne,gF hgrow (gA (w:=wr) eX d6') hne,gF hgrow (gA (w:=wr) eX d7') hne⟩,?_⟩;clear hK K
       (try simp only [Act.put,bA])
       refine xB (i:=33) kR rfl (fun K hK=>?_);go_simp;refine hK _ _ ⟨fun h=>absurd rfl h,eG kR ?_ _⟩;clear hK K hown5 hgrow hat
       (try simp only [Act.put,List.setIfInBounds_toArray])
       have hwj:IntKind.i64.wrap ((j:Int)+1)=(j:Int)+1:=IntWalk.i64_in _ om;go_wp2;go_roundw
       case rel=>
        exact ⟨j+1,A+8,dl++[(⟨y0,⟨y1,⟨y2,y3,y4⟩⟩,⟨y5,y6,y7⟩⟩:sA)],some ⟨hg,0,none⟩,cap,om,by go_num,by go_num,⟨by have:=HA.out.1;omega,by rw [List.range_succ,List.map_append,<-HA.out.2];simp [HST.out]⟩,by rw [List.length_append];exact HG2.out⟩
       case measure=>simp [intOf];omega
      ·have hjx:(j:Int)=x1:=om
       have HJX:=aA (show x1.toNat=j by omega)
       have HDL:Hid (dl=(List.range x1.toNat).map fun i=>bM N i):=by rw [HJX.out];exact HA.out.2
       have HA0:Hid (A=3+8 * x1.toNat):=by rw [HJX.out];exact HA.out.1
       have c2'':=GAT.out.kept.cell c2' om
       have hld:(A:Int)<=(N.length:Int):=by have:=HA0.out;have:=HLN.out;omega
       have zgw2:=cA c2'';have HG1:=GAT;clear hjx o0 o1 o2 of zo hszz HXW GAT HA;go_wp2
       go_loopw [12,122] (fun a i wr=>∃ (m A:Nat) (dj:List Job) (g2:Option Addr) (d2:Nat),(m:Int)<=x2/\i = .int .i64 m/\a = .int .i64 A/\Hid (A=3+8 * x1.toNat+2 * m/\dj=((List.range m).map fun i=>nM N (3+8 * x1.toNat+2 * i))/\∀ i<m,N.getD (3+8 * x1.toNat+2 * i+1) 0<=1)/\eH w1 O x0 dl dj (.slice g1 dl.length d1) (.slice g2 dj.length d2) wr) (fun _ i _=>x2.toNat - (intOf i).toNat)
       case atStart=>exact ⟨0,A,[],none,0,om,rfl,rfl,⟨HA0.out,rfl,fun i hi=>by omega⟩,HG1.out⟩
       case round=>
        clear HA0 hld;obtain ⟨m,A,dj,g2,d2,hm,rfl,rfl,HA,hgat⟩:=hrel;have GAT:=aA hgat;clear hgat
        have hdj:dj.length<=10001:=by
         rw [HA.out.2.1,List.length_map,List.length_range];have:=HLN.out;omega
        have HXW:=aA (GAT.out.kept.widen HX1W.out om);obtain ⟨o0,o1,o2,of⟩:=GAT.out.cell;have zo:=cA o0;have hszz:=GAT.out.kept.size;have KRG:=aA (KR1.out.same (GAT.out.kept.other KR1.out.lt om))
        by_cases hlt:(m:Int)<x2
        ·have hA8:A+2<=N.length:=by have:=HA.out.1;have:=HLN.out;omega
         have hA8i:(A:Int)+1<(N.length:Int):=om
         have hA0i:(A:Int)<(N.length:Int):=om
         have hwA:IntKind.i64.wrap ((A:Int)+1)=(A:Int)+1:=IntWalk.i64_in _ om
         have hjm:m<100000:=by have:=HA.out.1;omega
         have hA1n:(0:Int)<=(A:Int)+1:=om
         have hA1t:((A:Int)+1).toNat=A+1:=om
         have hne:(Value.slice g2 dj.length d2).ownBlock≠some gg:=fun e=>by have:=qA GAT.out.jobs _ e;omega
         have HA1:Hid (N.getD (3+8 * x1.toNat+2 * m+1) 0=N.getD (A+1) 0):=by unfold Hid;rw [HA.out.1]
         obtain ⟨y0,Y0⟩:∃ y,Hid (N.getD A 0=y):=⟨_,rfl⟩
         obtain ⟨y1,HY1⟩:∃ y,Hid (N.getD (A+1) 0=y):=⟨_,rfl⟩
         have d0':=GAT.out.kept.cell (HC1.out A om) om;have d1':=GAT.out.kept.cell (HC1.out (A+1) om) om;rw [Y0.out] at d0';rw [HY1.out] at d1';have hy0':=lO HRN.out (A+1);rw [HY1.out] at hy0';have zgg:=cA d0'
         by_cases hy1:1<y1
         ·have HP0:Hid (uD s.data.toList levels=none):=by
           unfold Hid;rw [HPN.out,HBN.out,if_neg (by rw [HX1.out,HX2.out];intro h;rcases h with h|h;exact absurd h om;exact h HLN.out),if_neg];intro h;have:=h m (by rw [HX2.out];omega);rw [HX1.out,HA1.out,HY1.out] at this;omega
          go_upto_region 23 with fail
          obtain ⟨t0,t1,t2,tf⟩:=KRG.out;have zt:=cA t0;have hxw:=HXW.out;go_wp2;obtain ⟨p0,p1,p2,px⟩:=put3 (w:=w) (R:=w.heap.size) (x:=vi 0) (y:=.slice none 0 0) (z:=.slice none 0 0) hxw (Nat.le_refl _) t0 t1 t2;refine bodyPost_ret (v:=.tuple #[.agg #[vi 0,.slice none 0 0,.slice none 0 0],.iface 92 (vi 4)]) (by simp [results,results92,go_sem,p0,p1,p2]) rfl ?_;rw [HP0.out];exact gM px
         ·have hy01:y1=0\/y1=1:=om
          clear hy0' hy1
          rcases hy01 with rfl|rfl
          ·have HJT:Hid (nM N (3+8 * x1.toNat+2 * m)=⟨y0,false⟩):=by
            unfold Hid nM;rw [HA1.out,HY1.out,<-HA.out.1,Y0.out];rfl
           go_upto_region 24 with fail
           refine tH 16 (fun w'=>w'.cell? ⟨O,2,none⟩=some (.slice g2 dj.length d2)/\w'.cell? ⟨gg,A,none⟩=some (vi y0)/\w'.cell? ⟨gg,A+1,none⟩=some (vi 0)) kR ⟨o2,d0',d1'⟩ ?_;intro hS
           (refine tT (i:=0) (D:=132) ?_;try simp only [Act.put,bA])
           (refine tT (i:=1) (D:=133) ?_;try simp only [Act.put,bA])
           (refine tT (i:=2) (D:=134) ?_;try simp only [Act.put,bA])
           (refine tT (i:=3) (D:=135) ?_;try simp only [Act.put,bA])
           (refine tT (i:=4) (D:=136) ?_;try simp only [Act.put,bA])
           (refine tT (i:=5) (D:=137) ?_;try simp only [Act.put,bA])
           (refine tT (i:=6) (D:=138) ?_;try simp only [Act.put,bA])
           (refine tT (i:=7) (D:=139) ?_;try simp only [Act.put,bA])
           (refine tT (i:=8) (D:=140) ?_;try simp only [Act.put,bA])
           (refine tT (i:=9) (D:=141) ?_;try simp only [Act.put,bA])
           (refine tT (i:=10) (D:=142) ?_;try simp only [Act.put,bA])
           (refine tT (i:=11) (D:=143) ?_;try simp only [Act.put,bA])
           (refine tT (i:=12) (D:=144) ?_;try simp only [Act.put,bA])
           refine xB (i:=13) kR rfl (fun K hK=>?_);go_simp;refine hK _ _ ⟨fun _=>⟨gA (w:=wr) eX o2,gA (w:=wr) eX d0',gA (w:=wr) eX d1'⟩,?_⟩;clear hK K hS
           (try simp only [Act.put,bA])
           refine xB (i:=14) kR rfl (fun K hK=>?_)
           (refine step_append_lies _ rfl _ _ _ rfl w1.heap.size 143 q0 _ 2 16 underlying47 hq0 hx0 hx1 hx2 rfl dc (.slice g2 dj.length d2) dj.length (dj.flatMap jA) rfl (mI (iB GAT.out.jobs _)) ⟨wr.heap.size,0,none⟩ 1 1 [vi y0,.bool false] rfl rfl (lK wr #[vi y0,.bool false] 143) (by simp [Value.oneCell']) dc (by unfold maxLen;omega) om so _ rfl ?_)
           intro hg cap w5 hown5 hgrow hat hlt5;obtain ⟨n0,n1,n2,nf⟩:=(GAT.out.cell.ext (w':=(wr.alloc (.cells #[vi y0,.bool false] 143)).drew) eX).grown hgrow (GAT.out.far2 hOw);have zn:=cA n0;have HG2:=aA (GAT.out.addJob ⟨y0,false⟩ (A:=(wr.alloc (.cells #[vi y0,.bool false] 143)).drew) eX hOw hown5 hgrow hat);refine hK _ _ ⟨fun _=>⟨n2,gF hgrow (gA (w:=wr) eX d0') hne,gF hgrow (gA (w:=wr) eX d1') hne⟩,?_⟩;clear hK K
           (try simp only [Act.put,List.setIfInBounds_toArray])
           refine xB (i:=15) kR rfl (fun K hK=>?_);go_simp;refine hK _ _ ⟨fun _=>⟨n2,gF hgrow (gA (w:=wr) eX d0') hne,gF hgrow (gA (w:=wr) eX d1') hne⟩,?_⟩;clear hK K
           (try simp only [Act.put,bA])
           refine xB (i:=16) kR rfl (fun K hK=>?_);go_simp;refine hK _ _ ⟨fun h=>absurd rfl h,eG kR ?_ _⟩;clear hK K hown5 hgrow hat
           (try simp only [Act.put,List.setIfInBounds_toArray])
           have hwj:IntKind.i64.wrap ((m:Int)+1)=(m:Int)+1:=IntWalk.i64_in _ om;have hwA2:IntKind.i64.wrap ((A:Int)+2)=(A:Int)+2:=IntWalk.i64_in _ om;go_wp2;go_roundw
           case rel=>
            exact ⟨m+1,A+2,dj++[(⟨y0,false⟩:Job)],some ⟨hg,0,none⟩,cap,om,by go_num,by go_num,⟨by have:=HA.out.1;omega,by rw [List.range_succ,List.map_append,<-HA.out.2.1];simp [HJT.out],fun i hi=>by
             by_cases him:i=m
             ·rw [him,HA1.out,HY1.out];decide
             ·exact HA.out.2.2 i om⟩,by rw [List.length_append];exact HG2.out⟩
           case measure=>simp [intOf];omega
          ·have HJT:Hid (nM N (3+8 * x1.toNat+2 * m)=⟨y0,true⟩):=by
            unfold Hid nM;rw [HA1.out,HY1.out,<-HA.out.1,Y0.out];rfl
           go_upto_region 24 with fail
           refine tH 16 (fun w'=>w'.cell? ⟨O,2,none⟩=some (.slice g2 dj.length d2)/\w'.cell? ⟨gg,A,none⟩=some (vi y0)/\w'.cell? ⟨gg,A+1,none⟩=some (vi 1)) kR ⟨o2,d0',d1'⟩ ?_;intro hS
           (refine tT (i:=0) (D:=132) ?_;try simp only [Act.put,bA])
           (refine tT (i:=1) (D:=133) ?_;try simp only [Act.put,bA])
           (refine tT (i:=2) (D:=134) ?_;try simp only [Act.put,bA])
           (refine tT (i:=3) (D:=135) ?_;try simp only [Act.put,bA])
           (refine tT (i:=4) (D:=136) ?_;try simp only [Act.put,bA])
           (refine tT (i:=5) (D:=137) ?_;try simp only [Act.put,bA])
           (refine tT (i:=6) (D:=138) ?_;try simp only [Act.put,bA])
           (refine tT (i:=7) (D:=139) ?_;try simp only [Act.put,bA])
           (refine tT (i:=8) (D:=140) ?_;try simp only [Act.put,bA])
           (refine tT (i:=9) (D:=141) ?_;try simp only [Act.put,bA])
           (refine tT (i:=10) (D:=142) ?_;try simp only [Act.put,bA])
           (refine tT (i:=11) (D:=143) ?_;try simp only [Act.put,bA])
           (refine tT (i:=12) (D:=144) ?_;try simp only [Act.put,bA])
           refine xB (i:=13) kR rfl (fun K hK=>?_);go_simp;refine hK _ _ ⟨fun _=>⟨gA (w:=wr) eX o2,gA (w:=wr) eX d0',gA (w:=wr) eX d1'⟩,?_⟩;clear hK K hS
           (try simp only [Act.put,bA])
           refine xB (i:=14) kR rfl (fun K hK=>?_)
           (refine step_append_lies _ rfl _ _ _ rfl w1.heap.size 143 q0 _ 2 16 underlying47 hq0 hx0 hx1 hx2 rfl dc (.slice g2 dj.length d2) dj.length (dj.flatMap jA) rfl (mI (iB GAT.out.jobs _)) ⟨wr.heap.size,0,none⟩ 1 1 [vi y0,.bool true] rfl rfl (lK wr #[vi y0,.bool true] 143) (by simp [Value.oneCell']) dc (by unfold maxLen;omega) om so _ rfl ?_)
           intro hg cap w5 hown5 hgrow hat hlt5;obtain ⟨n0,n1,n2,nf⟩:=(GAT.out.cell.ext (w':=(wr.alloc (.cells #[vi y0,.bool true] 143)).drew) eX).grown hgrow (GAT.out.far2 hOw);have zn:=cA n0;have HG2:=aA (GAT.out.addJob ⟨y0,true⟩ (A:=(wr.alloc (.cells #[vi y0,.bool true] 143)).drew) eX hOw hown5 hgrow hat);refine hK _ _ ⟨fun _=>⟨n2,gF hgrow (gA (w:=wr) eX d0') hne,gF hgrow (gA (w:=wr) eX d1') hne⟩,?_⟩;clear hK K
           (try simp only [Act.put,List.setIfInBounds_toArray])
           refine xB (i:=15) kR rfl (fun K hK=>?_);go_simp;refine hK _ _ ⟨fun _=>⟨n2,gF hgrow (gA (w:=wr) eX d0') hne,gF hgrow (gA (w:=wr) eX d1') hne⟩,?_⟩;clear hK K
           (try simp only [Act.put,bA])
           refine xB (i:=16) kR rfl (fun K hK=>?_);go_simp;refine hK _ _ ⟨fun h=>absurd rfl h,eG kR ?_ _⟩;clear hK K hown5 hgrow hat
           (try simp only [Act.put,List.setIfInBounds_toArray])
           have hwj:IntKind.i64.wrap ((m:Int)+1)=(m:Int)+1:=IntWalk.i64_in _ om;have hwA2:IntKind.i64.wrap ((A:Int)+2)=(A:Int)+2:=IntWalk.i64_in _ om;go_wp2;go_roundw
           case rel=>
            exact ⟨m+1,A+2,dj++[(⟨y0,true⟩:Job)],some ⟨hg,0,none⟩,cap,om,by go_num,by go_num,⟨by have:=HA.out.1;omega,by rw [List.range_succ,List.map_append,<-HA.out.2.1];simp [HJT.out],fun i hi=>by
             by_cases him:i=m
             ·rw [him,HA1.out,HY1.out];decide
             ·exact HA.out.2.2 i om⟩,by rw [List.length_append];exact HG2.out⟩
           case measure=>simp [intOf];omega
        ·have hmx:(m:Int)=x2:=om
         have HMX:=aA (show x2.toNat=m by omega)
         have HBK:Hid (uD s.data.toList levels=if fC ⟨x0,dl,dj⟩ levels=0 then some ⟨x0,dl,dj⟩ else none):=by
          unfold Hid;rw [HPN.out,HBN.out,if_neg (by rw [HX1.out,HX2.out];intro h;rcases h with h|h;exact absurd h om;exact h HLN.out),if_pos (by rw [HX2.out,HX1.out,HMX.out];exact HA.out.2.2),HX0.out,HX1.out,HX2.out,HMX.out,<-HA.out.2.1,<-HDL.out]
         obtain ⟨_,_,e1',s1⟩:=Sl.of_owns (c:=8) (enc:=iA) GAT.out.stays dc (fun _=>rfl);cases e1';obtain ⟨_,_,e1',s2⟩:=Sl.of_owns (c:=2) (enc:=jA) GAT.out.jobs dc (fun _=>rfl);cases e1';have S1:=aA s1;have S2:=aA s2;clear s1 s2 hmx
         by_cases hbf:fC ⟨x0,dl,dj⟩ levels=0
         ·have HV:Hid (aC (fC ⟨x0,dl,dj⟩ levels) = .nilIface):=by unfold Hid;rw [hbf];rfl
          have HP1:Hid (uD s.data.toList levels=some ⟨x0,dl,dj⟩):=by unfold Hid;rw [HBK.out,if_pos hbf]
          clear hbf
          go_upto_region 29 with (first|(go_at_call 97;with_reducible refine mo (bookcheck_at .nilIface x0 levels g1 dl.length d1 g2 dj.length d2 dl dj _ (Sl.below S1.out (Ext.below eX)) (Sl.below S2.out (Ext.below eX)) hl4 HV) fun o1 n1=>?_))
          generalize hW:World.plus _ _ _=wq;have hxq:Ext wr wq:=xQ hW;obtain ⟨t0,t1,t2,tf⟩:=KRG.out.ext hxq;have zt:=cA t0;obtain ⟨u0,u1,u2,uf⟩:=GAT.out.cell.ext hxq;have zu:=cA u0;have hxw:=HXW.out.trans hxq;have HO1:=aA (zC GAT.out.stays hxq);have HO2:=aA (zC GAT.out.jobs hxq);clear hW hxq;go_wp2;obtain ⟨p0,p1,p2,px⟩:=put3 (w:=w) (R:=w.heap.size) (x:=vi x0) (y:=.slice g1 dl.length d1) (z:=.slice g2 dj.length d2) hxw (Nat.le_refl _) t0 t1 t2;refine bodyPost_ret (v:=.tuple #[.agg #[vi x0,.slice g1 dl.length d1,.slice g2 dj.length d2],.nilIface]) (by simp [results,results92,go_sem,p0,p1,p2]) rfl ?_;rw [HP1.out];have zx:=HX1W.out.below.size;refine ⟨_,_,rfl,?_,?_,GAT.out.apart,px⟩
          ·refine mA (lA (lA (lA HO1.out _ ?_) _ ?_) _ ?_) zx <;> (intro e;have:=qA HO1.out _ e;(try dsimp only at this);omega)
          ·refine mA (lA (lA (lA HO2.out _ ?_) _ ?_) _ ?_) zx <;> (intro e;have:=qA HO2.out _ e;(try dsimp only at this);omega)
         ·obtain ⟨E,HV⟩:=errV_ne hbf
          have HP0:Hid (uD s.data.toList levels=none):=by unfold Hid;rw [HBK.out,if_neg hbf]
          clear hbf
          go_upto_region 28 with (first|(go_at_call 97;with_reducible refine mo (bookcheck_at (.iface 92 (vi E)) x0 levels g1 dl.length d1 g2 dj.length d2 dl dj _ (Sl.below S1.out (Ext.below eX)) (Sl.below S2.out (Ext.below eX)) hl4 HV) fun o1 n1=>?_))
          generalize hW:World.plus _ _ _=wq;have hxq:Ext wr wq:=xQ hW;obtain ⟨t0,t1,t2,tf⟩:=KRG.out.ext hxq;have zt:=cA t0;have hxw:=HXW.out.trans hxq;clear hW hxq;go_wp2;obtain ⟨p0,p1,p2,px⟩:=put3 (w:=w) (R:=w.heap.size) (x:=vi 0) (y:=.slice none 0 0) (z:=.slice none 0 0) hxw (Nat.le_refl _) t0 t1 t2;refine bodyPost_ret (v:=.tuple #[.agg #[vi 0,.slice none 0 0,.slice none 0 0],.iface 92 (vi 4)]) (by simp [results,results92,go_sem,p0,p1,p2]) rfl ?_;rw [HP0.out];exact gM px
    ·have hbe:((N.length:Int)==3+8 * x1+2 * x2)=false:=by simpa using hlen
     have HP0:Hid (uD s.data.toList levels=none):=by
      unfold Hid;rw [HPN.out,HBN.out,if_pos (Or.inr (by rw [HX1.out,HX2.out];exact hlen))]
     clear hlen
     go_upto_region 10 with fail
     (refine qF ?_;rintro _ ⟨oq,nq,rfl⟩)
     go_upto_region 11 with fail
     generalize hW:World.plus _ _ _=wq
     have hxq:=(show Ext wr wq by rw [<-hW];exact eX)
     obtain ⟨t0,t1,t2,tf⟩:=KRR.out.ext hxq;have zt:=cA t0;have hxw:=HXR.out.trans hxq;clear hW hxq;go_wp2;obtain ⟨p0,p1,p2,px⟩:=put3 (w:=w) (R:=w.heap.size) (x:=vi 0) (y:=.slice none 0 0) (z:=.slice none 0 0) hxw (Nat.le_refl _) t0 t1 t2;refine bodyPost_ret (v:=.tuple #[.agg #[vi 0,.slice none 0 0,.slice none 0 0],.iface 92 (vi 4)]) (by simp [results,results92,go_sem,p0,p1,p2]) rfl ?_;rw [HP0.out];exact gM px
