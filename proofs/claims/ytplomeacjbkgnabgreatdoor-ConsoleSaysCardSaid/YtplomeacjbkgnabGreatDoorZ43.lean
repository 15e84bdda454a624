import Derived.Test.YtplomeacjbkgnabGreatDoorZ42
set_option linter.all false
set_option maxRecDepth 100000
set_option maxHeartbeats 16000000
namespace Go.Proofs.YtplomeacjbkgnabGreatDoor
open Go.RowKit Tryz Ch
theorem oM:(prog.info? 9).map (fun i=>(i.zero,i.size,i.bytes))=some (some (.string ⟨#[]⟩),1,16):=by kernel_rfl
structure Wds (w:World) (l:List ByteArray) (v:Value) (wr:World):Prop where
 own:wr.ownsRow w.heap.size 9 1 v l.length (l.flatMap bC)
 ext:Ext w wr
theorem yM {l:List ByteArray} {x:ByteArray} {v:Value} {wr:World} {base:Nat} (h:wr.ownsRow base 9 1 v (l.length+1) (l.flatMap bC++[.string x])):wr.ownsRow base 9 1 v (l++[x]).length ((l++[x]).flatMap bC):=by
 rw [List.length_append,List.flatMap_append];exact h
theorem byte_atW {s:ByteArray} {k:Nat} (h:k<s.size):s.data.toList[k]? = some s[k]:=by
 rw [List.getElem?_eq_getElem (by simpa using h)];simp;rfl
theorem extract_one {s:ByteArray} {k:Nat} (h:k<s.size):(s.extract k (k+1)).data.toList=[s[k]]:=by
 rw [ByteArray.data_extract,Array.toList_extract];have:=byte_atW h;obtain ⟨hk',e⟩:=List.getElem?_eq_some_iff.1 this;rw [show s.data.toList.extract k (k+1)=(s.data.toList.drop k).take 1 by rw [List.extract_eq_take_drop];simp,List.drop_eq_getElem_cons hk',e];rfl
theorem words_any (s:ByteArray) (w:World) (hs:s.size<=10000):
  Calls prog 77 #[.string s] w fun e w'=>∃ v,e = .returned v/\Wds w (bD s) v w':=by
 obtain ⟨i0,hi,hz0,hz1,hz2⟩:=info_parts oM;go_enter func77,ntmps77;go_wp2
 go_loopw [3,4,5] (fun v c i wr=>∃ (k:Nat) (D:List ByteArray) (g:Option Addr) (d:Nat) (t:ByteArray),k<=s.size/\i = .int .i64 k/\c = .string t/\v = .slice g D.length d/\D.length<=k/\t.size<=k /\
   Hid (D.map (·.data.toList)++eC t.data.toList (s.data.toList.drop k)=kI s.data.toList)/\Wds w D (.slice g D.length d) wr) (fun _ _ i _=>s.size - (intOf i).toNat)
 case atStart=>exact ⟨0,[],none,0,⟨#[]⟩,om,rfl,by rfl,rfl,sp,by show 0<=0;omega,by simp [Hid,kI],⟨World.ownsRow_nil _ _ _ _,Ext.refl _⟩⟩
 case round=>
  obtain ⟨k,D,g,d,t,hk,rfl,rfl,rfl,hD,ht,HM,hgat⟩:=hrel;have HG:=aA hgat;have hsz:=hgat.ext.below.size;clear hgat
  by_cases hlt:k<s.size
  ·have hki:(k:Int)<(s.size:Int):=om
   obtain ⟨c,hc⟩:∃ c,(s[k]'hlt).toNat=c:=⟨_,rfl⟩
   have HB:=aA (byte_atW hlt)
   have hdr:Hid (s.data.toList.drop k=s[k] :: s.data.toList.drop (k+1)):=by
    unfold Hid;have:=HB.out;obtain ⟨hk',e⟩:=List.getElem?_eq_some_iff.1 this;rw [<-e];exact List.drop_eq_getElem_cons hk'
   by_cases h32:c=32
   ·subst h32
    have HM2:Hid ((D++[t]).map (·.data.toList)++eC [] (s.data.toList.drop (k+1))=kI s.data.toList):=by
     unfold Hid;rw [<-HM.out,hdr.out,eC,if_pos (by rw [<-UInt8.toNat_inj];exact hc)];simp
    go_wp2_with (at_builtin;refine wpList_append_lies _ rfl _ _ _ rfl w.heap.size 9 i0 _ 1 16 underlying77 hi hz0 hz1 hz2 rfl dc (.slice g D.length d) D.length _ rfl (iB HG.out.own _) _ 1 1 [.string t] rfl rfl (World.news_of_block (pA _ _ _ sp)) (by simp [Value.oneCell']) dc (by unfold maxLen;omega) om ov _ rfl ?_;intro gg cap w3 hown3 hgrow hat hlt3;have HG3:Hid (Wds w (D++[t]) (.slice (some ⟨gg,0,none⟩) (D.length+1) cap) w3):=⟨yM hown3,vB (w:=w) (HG.out.ext.trans eX) hgrow (qA HG.out.own)⟩;clear hown3 hgrow hat hlt3);go_roundw
    case rel=>exact ⟨k+1,D++[t],some ⟨gg,0,none⟩,cap,⟨#[]⟩,om,by go_num,rfl,by rw [List.length_append];rfl,by rw [List.length_append];show D.length+1<=k+1;omega,Nat.zero_le _,HM2.out,by rw [show (D++[t]).length=D.length+1 by rw [List.length_append];rfl];exact HG3.out⟩
    case measure=>simp [intOf];omega
   ·have hz:(s.extract k (k+1)).size=1:=by rw [ByteArray.size_extract];omega
    obtain ⟨t2,et2⟩:∃ c,c=t++s.extract k (k+1):=⟨_,rfl⟩
    have zt2:t2.size=t.size+1:=by rw [et2,ByteArray.size_append,hz]
    have rt2:=rB t (s.extract k (k+1)) t2 et2 om
    have HM2:Hid (D.map (·.data.toList)++eC t2.data.toList (s.data.toList.drop (k+1))=kI s.data.toList):=by
     unfold Hid;rw [<-HM.out,hdr.out,eC,if_neg (by rw [<-UInt8.toNat_inj];intro h;exact h32 (by rw [<-hc];exact h)),et2,oK,extract_one hlt]
    replace et2:=aA et2;go_wp2;go_roundw
    case rel=>exact ⟨k+1,D,g,d,t2,om,by go_num,rfl,rfl,om,om,HM2.out,by first|exact HG.out|exact ⟨zC HG.out.own eX,HG.out.ext.trans eX⟩⟩
    case measure=>simp [intOf];omega
  ·have hks:k=s.size:=om
   have HM2:Hid (D++[t]=bD s):=by
    have h1:=HM.out;rw [List.drop_eq_nil_of_le so,eC,<-xM] at h1
    have h2:(D++[t]).map (·.data.toList)=(bD s).map (·.data.toList):=by rw [<-h1];simp
    exact (List.map_inj_right (fun a b h=>ba_ext h)).1 h2
   go_wp2_with (at_builtin;refine wpList_append_lies _ rfl _ _ _ rfl w.heap.size 9 i0 _ 1 16 underlying77 hi hz0 hz1 hz2 rfl dc (.slice g D.length d) D.length _ rfl (iB HG.out.own _) _ 1 1 [.string t] rfl rfl (World.news_of_block (pA _ _ _ sp)) (by simp [Value.oneCell']) dc (by unfold maxLen;omega) om ov _ rfl ?_;intro gg cap w3 hown3 hgrow hat hlt3;have HG3:Hid (Wds w (D++[t]) (.slice (some ⟨gg,0,none⟩) (D.length+1) cap) w3):=⟨yM hown3,vB (w:=w) (HG.out.ext.trans eX) hgrow (qA HG.out.own)⟩;clear hown3 hgrow hat hlt3);go_ret;exact ⟨_,rfl,by rw [<-HM2.out];exact HG3.out⟩
theorem park_now {Z:Nat->Prop} {pb mb db lb hb n:Nat} {x:Live.HD} {w:World} (hZ:∀ k,w.heap.size<=k->Z k) (h:HN Z pb mb db lb hb n x w) (hi:x.h.Inv') (he:x.e+1<4294967296) (hw:x.d.wait.length<=1000) (hT:Tab w) (id lo hi' he':Int):
  Calls prog 15 #[.pointer (some ⟨hb,0,none⟩),.agg #[vi id,vi lo,vi hi',vi he']] w fun r w'=>r = .returned (.tuple #[vi (x.park ⟨id,⟨lo,hi',he'⟩⟩).2.1,aC (x.park ⟨id,⟨lo,hi',he'⟩⟩).2.2])/\fA Z w w'/\HN Z pb mb db lb hb n (x.park ⟨id,⟨lo,hi',he'⟩⟩).1 w':=by
 obtain ⟨Y,la,ln,lc,ga,gn,gc,hs,hz,hy⟩:=h.open_ hZ;obtain ⟨⟨sizes,p,⟨last,l,js⟩,goals⟩,e0,d⟩:=x;have hln:=hs.lv.len;have hcore:=hi.core;have hlen:=jD hi.lv;dsimp only at hln hlen he hw
 have l1:(1:Int)<=(ln:Int):=om
 have l4:(ln:Int)<=4:=om
 have hn1:1<=ln:=om
 have hn4:ln<=4:=om
 have hn:Hid ((⟨sizes,p,⟨last,l,js⟩,goals⟩:House).n=(ln:Int)):=by show ((sizes.length:Nat):Int)=_;rw [hln]
 have hc2:Core (ln:Int) ⟨last,l,js⟩ p:=by have h1:=hcore;rw [show House.n _=(ln:Int) from hn.out] at h1;exact h1
 have HWF:p.WF:=hc2.safe.wf;have hm1:l.length<=16:=hc2.book.s16;have hm2:js.length<=8:=hc2.book.j8;have hla0:0<=last:=hc2.book.l1;have hla9:last<=999999:=hc2.book.l2;obtain ⟨c0,c1,c2,c3,cf⟩:=hs.cells;have hbl:=hs.lt;have HS0:=aA hs;have HC2:=aA hc2;have HZZ:=aA hz;have HYY:=aA hy;have lbd:=hs.lv.bound;have HIN:=aA hi;clear hs hcore hlen hc2 hz hy h hi;have hTT:=aA hT;clear hT;have HSN:Hid (senseA p = .agg #[vi p.height,vi p.ext,.bool p.door,vi p.people,vi p.lift,vi p.bay,.bool (p.full p.ext),.bool (p.full (p.ext - 1)),.bool (p.full (p.ext+1))]):=rfl
 have hfl:∀ w,(Instr.field 69 (.agg #[vi p.height,vi p.ext,.bool p.door,vi p.people,vi p.lift,vi p.bay,.bool (p.full p.ext),.bool (p.full (p.ext - 1)),.bool (p.full (p.ext+1))]) 5).run prog w = .ok (vi p.bay) w:=fun w=>by kernel_rfl
 by_cases hbi:p.bay=id
 ·have HCE:Hid (¬ ((⟨⟨sizes,p,⟨last,l,js⟩,goals⟩,e0,d⟩:Live.HD).h.p.bay≠p.bay)):=by unfold Hid;simp
  subst hbi
  cases hpk:park ⟨last,l,js⟩ sizes ⟨p.bay,⟨lo,hi',he'⟩⟩ with
  | error g=>
   have hg:=park_ne hpk;have HW:=aA hpk
   have HE:Hid ((⟨⟨sizes,p,⟨last,l,js⟩,goals⟩,e0,d⟩:Live.HD).park ⟨p.bay,⟨lo,hi',he'⟩⟩=(⟨⟨sizes,p,⟨last,l,js⟩,goals⟩,e0,d⟩,0,g)):=by unfold Hid Live.HD.park;rw [if_neg HCE.out];dsimp only;rw [HW.out]
   clear hpk;go_enter func15,ntmps15
   go_upto_region 1 with fail
   generalize hW0:World.alloc _ _=wA;have hxA:Ext w wA:=xQ hW0;have b0:cI wA w.heap.size 0 p.bay:=cQ hW0;have b1:cI wA w.heap.size 1 lo:=cQ hW0;have b2:cI wA w.heap.size 2 hi':=cQ hW0;have b3:cI wA w.heap.size 3 he':=cQ hW0;obtain ⟨c0,c1,c2⟩:=xe3 hxA c0 c1 c2;replace HS0:=aA (HS0.out.ext hxA);have HXA:=aA hxA;have zb:=cA b0;have zc:=cA c0;clear hW0 hxA c3 cf hbl
   (refine rA kR kR ?_;(repeat (first|go_big_quiet_step ((intro _;go_at_call 22;exact qC (sense_val _ (HS0.out.pl.ext eX) HWF HSN)))|quiet_step (fail)));refine wpQuiet_nil ?_;rintro _ ⟨oq,nq,rfl⟩)
   go_upto_region 3 with fail
   generalize hWq:World.plus wA oq nq=wq;have hxq:Ext wA wq:=xQ hWq;obtain ⟨c0,c1,c2,b0,b1,b2,b3⟩:=xe7 hxq c0 c1 c2 b0 b1 b2 b3;replace HS0:=aA (HS0.out.ext hxq);replace HXA:=aA (HXA.out.trans hxq);have zwq:w.heap.size<wq.heap.size:=cA b0;clear hWq hxq zb zc;have zb:=cA b0;have zc:=cA c0
   go_cut [6,7,8] (fun s6 s7 s8 wx=>∃ A:Nat,s6 = .pointer (some ⟨A,0,none⟩)/\s7=vi 0/\s8 = .iface 92 (vi g)/\Ext wq wx)
   case first=>
    go_region_held3 (fun w'=>w'.cell? ⟨hb,0,none⟩=some (.slice la ln lc)/\w'.cell? ⟨hb,2,none⟩=some (.pointer (some ⟨lb,0,none⟩))/\w'.cell? ⟨w.heap.size,0,none⟩=some (vi p.bay)/\w'.cell? ⟨w.heap.size,1,none⟩=some (vi lo)/\w'.cell? ⟨w.heap.size,2,none⟩=some (vi hi')/\w'.cell? ⟨w.heap.size,3,none⟩=some (vi he')) (first|((try dsimp only);(repeat' apply And.intro) <;> exact xC (w:=wq))) (first
      | (go_at_call 51;refine (book_now (HS0.out.led.ext eX) (show l.length<=1000 by omega) (show js.length<=1000 by omega)).mono ?_;rintro e w8 ⟨z1,f1,z2,f2,rfl,s8,s9,⟨o8,n8,rfl⟩⟩;dsimp only at s8 s9 ⊢;have S8:=aA s8;have S9:=aA s9;clear s8 s9)
      | (go_at_call 50;refine (park_no0 g last p.bay lo hi' he' z1 l.length f1 z2 js.length f2 la ln lc l js sizes _ (Sl.below S8.out (Ext.below eX)) (Sl.below S9.out (Ext.below eX)) (Sl.below HS0.out.lv (Ext.below eX)) hn1 hn4 om om hla0 hla9 HW hg).mono ?_;rintro e w9 ⟨i1,k1,i2,k2,rfl,s1,s2,⟨o9,n9,rfl⟩,n1,n2⟩;dsimp only;clear s1 s2 n1 n2))
    ·go_wp2_with fail
     generalize hW:World.alloc _ _=w2;have hx2:Ext wq w2:=xQ hW;clear hW;go_meet;exact ⟨_,rfl,rfl,rfl,hx2⟩
    ·go_wp2_with fail
     generalize hW:World.setCell _ _ _=w2;obtain ⟨-,-,-,hx2⟩:=put3b (w:=wq) hW eX sp (by rw [dB _ _ _ _ sp];first|exact pA _ _ _ sp|(rw [dB _ _ _ _ sp];exact pA _ _ _ sp)) rfl;clear hW;go_meet;exact ⟨_,rfl,rfl,rfl,hx2⟩
    ·go_wp2_with fail
     generalize hW:World.setCell _ _ _=w2;obtain ⟨-,-,-,hx2⟩:=put3b (w:=wq) hW eX sp (by rw [dB _ _ _ _ sp];first|exact pA _ _ _ sp|(rw [dB _ _ _ _ sp];exact pA _ _ _ sp)) rfl;clear hW;go_meet;exact ⟨_,rfl,rfl,rfl,hx2⟩
   case rest=>
    obtain ⟨A,rfl,rfl,rfl,hxc⟩:=hcut;have HSC:=aA (HS0.out.ext hxc);have HXC:=aA (HXA.out.trans hxc);clear hxc c0 c1 c2 b0 b1 b2 b3 zb zc;go_wp2
    go_ret2
    rw [HE.out];exact ⟨by unfold aC;rw [if_neg hg];rfl,fA.of_ext (HXC.out.trans eX),Y,la,ln,lc,ga,gn,gc,HSC.out.ext eX,HZZ.out⟩
  | ok r=>
   obtain ⟨⟨bl,bs,bj⟩,kk⟩:=r;have HW:=aA hpk
   have HBF:Hid (fC ⟨bl,bs,bj⟩ (ln:Int)=0):=by
    have h0:=HIN.out.park ⟨p.bay,⟨lo,hi',he'⟩⟩
    have e:House.park ⟨sizes,p,⟨last,l,js⟩,goals⟩ ⟨p.bay,⟨lo,hi',he'⟩⟩=(⟨sizes,p,⟨bl,bs,bj⟩,goals⟩,kk,0):=by unfold House.park;rw [if_neg HCE.out];dsimp only;rw [HW.out]
    rw [e] at h0;have h1:=h0.core.book;exact uF.2 (by rw [<-hn.out];exact h1)
   obtain ⟨⟨d',f⟩,HKP⟩:∃ v,Hid (aB.keep d (e0+1) ⟨bl,bs,bj⟩=v):=⟨_,rfl⟩
   have HTK:Hid ((⟨⟨sizes,p,⟨last,l,js⟩,goals⟩,e0,d⟩:Live.HD).park ⟨p.bay,⟨lo,hi',he'⟩⟩=if f=0 then ((⟨⟨sizes,p,⟨bl,bs,bj⟩,goals⟩,e0+1,d'⟩:Live.HD),kk,0) else ((⟨⟨sizes,p,⟨last,l,js⟩,goals⟩,e0,d'⟩:Live.HD),0,f)):=by
    unfold Hid Live.HD.park;rw [if_neg HCE.out];dsimp only;rw [HW.out];dsimp only;unfold Live.HD.keep;dsimp only;rw [HKP.out];dsimp only
    by_cases h0:f=0
    ·rw [if_pos h0,if_pos h0,if_pos rfl]
    ·rw [if_neg h0,if_neg h0,if_neg h0]
   clear hpk;go_enter func15,ntmps15
   go_upto_region 1 with fail
   generalize hW0:World.alloc _ _=wA;have hxA:Ext w wA:=xQ hW0;have b0:cI wA w.heap.size 0 p.bay:=cQ hW0;have b1:cI wA w.heap.size 1 lo:=cQ hW0;have b2:cI wA w.heap.size 2 hi':=cQ hW0;have b3:cI wA w.heap.size 3 he':=cQ hW0;obtain ⟨c0,c1,c2⟩:=xe3 hxA c0 c1 c2;replace HS0:=aA (HS0.out.ext hxA);have HXA:=aA hxA;have zb:=cA b0;have zc:=cA c0;clear hW0 hxA c3 cf hbl
   (refine rA kR kR ?_;(repeat (first|go_big_quiet_step ((intro _;go_at_call 22;exact qC (sense_val _ (HS0.out.pl.ext eX) HWF HSN)))|quiet_step (fail)));refine wpQuiet_nil ?_;rintro _ ⟨oq,nq,rfl⟩)
   go_upto_region 3 with fail
   generalize hWq:World.plus wA oq nq=wq;have hxq:Ext wA wq:=xQ hWq;obtain ⟨c0,c1,c2,b0,b1,b2,b3⟩:=xe7 hxq c0 c1 c2 b0 b1 b2 b3;replace HS0:=aA (HS0.out.ext hxq);replace HXA:=aA (HXA.out.trans hxq);have zwq:w.heap.size<wq.heap.size:=cA b0;clear hWq hxq zb zc;have zb:=cA b0;have zc:=cA c0
   go_cut [6,7,8] (fun s6 s7 s8 wx=>∃ (A:Nat) (i1:Option Addr) (k1:Nat) (i2:Option Addr) (k2:Nat),s6 = .pointer (some ⟨A,0,none⟩)/\s7=vi kk/\s8 = .nilIface/\Ext wq wx/\wq.heap.size<=A/\cI wx A 0 bl/\wx.cell? ⟨A,1,none⟩=some (.slice i1 bs.length k1)/\wx.cell? ⟨A,2,none⟩=some (.slice i2 bj.length k2)/\Sl wx 8 iA bs i1 bs.length k1/\Sl wx 2 jA bj i2 bj.length k2/\(∀ b o,i1=some ⟨b,o,none⟩->wq.heap.size<=b)/\(∀ b o,i2=some ⟨b,o,none⟩->wq.heap.size<=b))
   case first=>
    go_region_held3 (fun w'=>w'.cell? ⟨hb,0,none⟩=some (.slice la ln lc)/\w'.cell? ⟨hb,2,none⟩=some (.pointer (some ⟨lb,0,none⟩))/\w'.cell? ⟨w.heap.size,0,none⟩=some (vi p.bay)/\w'.cell? ⟨w.heap.size,1,none⟩=some (vi lo)/\w'.cell? ⟨w.heap.size,2,none⟩=some (vi hi')/\w'.cell? ⟨w.heap.size,3,none⟩=some (vi he')) (first|((try dsimp only);(repeat' apply And.intro) <;> exact xC (w:=wq))) (first
      | (go_at_call 51;refine (book_now (HS0.out.led.ext eX) (show l.length<=1000 by omega) (show js.length<=1000 by omega)).mono ?_;rintro e w8 ⟨z1,f1,z2,f2,rfl,s8,s9,⟨o8,n8,rfl⟩⟩;dsimp only at s8 s9 ⊢;have S8:=aA s8;have S9:=aA s9;clear s8 s9)
      | (go_at_call 50;refine (park_ok0 ⟨bl,bs,bj⟩ kk last p.bay lo hi' he' z1 l.length f1 z2 js.length f2 la ln lc l js sizes _ (Sl.below S8.out (Ext.below eX)) (Sl.below S9.out (Ext.below eX)) (Sl.below HS0.out.lv (Ext.below eX)) hn1 hn4 om om hla0 hla9 HW).mono ?_;rintro e w9 ⟨i1,k1,i2,k2,rfl,s1,s2,⟨o9,n9,rfl⟩,n1,n2⟩;dsimp only at s1 s2 ⊢;have T1:=aA s1;have T2:=aA s2;have M1:=aA n1;have M2:=aA n2;clear s1 s2 n1 n2))
    ·go_wp2_with fail
     generalize hW:World.alloc _ _=w2;generalize hA:wq.heap.size+_=A;have hx2:Ext wq w2:=xQ hW;have p0:cI w2 A 0 bl:=cR hW hA;have p1:cV w2 A 1 (.slice i1 bs.length k1):=cR hW hA;have p2:cV w2 A 2 (.slice i2 bj.length k2):=cR hW hA
     have hA2:wq.heap.size<=A:=by rw [<-hA];omega
     have HO1:=T1.out;have HO2:=T2.out;simp only [lE] at HO1 HO2
     have hl1:Sl w2 8 iA bs i1 bs.length k1:=by rw [<-hW];exact Sl.below HO1 (Ext.below eX)
     have hl2:Sl w2 2 jA bj i2 bj.length k2:=by rw [<-hW];exact Sl.below HO2 (Ext.below eX)
     have hm1':∀ b o,i1=some ⟨b,o,none⟩->wq.heap.size<=b:=fun b o e=>by
      rcases M1.out b o e with h|h
      ·exact Nat.le_trans so h
      ·rw [h] at e;cases e
     have hm2':∀ b o,i2=some ⟨b,o,none⟩->wq.heap.size<=b:=fun b o e=>Nat.le_trans so (M2.out b o e)
     clear hW hA HO1 HO2;go_meet;exact ⟨A,i1,k1,i2,k2,rfl,rfl,rfl,hx2,hA2,p0,p1,p2,hl1,hl2,hm1',hm2'⟩
    ·go_wp2_with fail
     have HO1:=T1.out;have HO2:=T2.out
     try simp only [lE] at HO1 HO2
     generalize hW:World.setCell _ _ _=w2;obtain ⟨p0,p1,p2,hx2⟩:=put3b (w:=wq) hW eX sp (by rw [dB _ _ _ _ sp];first|exact pA _ _ _ sp|(rw [dB _ _ _ _ sp];exact pA _ _ _ sp)) rfl
     have hl1:Sl w2 8 iA bs i1 bs.length k1:=by rw [<-hW];exact Sl.kept (Sl.kept (Sl.kept HO1 ((fA.refl _ _).put 0 _) (fun _ b o e=>by rcases M1.out b o e with h|h;(simp at h;omega);(rw [h] at e;cases e))) ((fA.refl _ _).put 1 _) (fun _ b o e=>by rcases M1.out b o e with h|h;(simp at h;omega);(rw [h] at e;cases e))) ((fA.refl _ _).put 2 _) (fun _ b o e=>by rcases M1.out b o e with h|h;(simp at h;omega);(rw [h] at e;cases e))
     have hl2:Sl w2 2 jA bj i2 bj.length k2:=by rw [<-hW];exact Sl.kept (Sl.kept (Sl.kept HO2 ((fA.refl _ _).put 0 _) (fun _ b o e=>by have h:=M2.out b o e;simp at h;omega)) ((fA.refl _ _).put 1 _) (fun _ b o e=>by have h:=M2.out b o e;simp at h;omega)) ((fA.refl _ _).put 2 _) (fun _ b o e=>by have h:=M2.out b o e;simp at h;omega)
     have hm1':∀ b o,i1=some ⟨b,o,none⟩->wq.heap.size<=b:=fun b o e=>by
      rcases M1.out b o e with h|h
      ·exact Nat.le_trans so h
      ·rw [h] at e;cases e
     have hm2':∀ b o,i2=some ⟨b,o,none⟩->wq.heap.size<=b:=fun b o e=>Nat.le_trans so (M2.out b o e)
     clear hW;go_meet;exact ⟨_,i1,k1,i2,k2,rfl,rfl,rfl,hx2,sp,p0,p1,p2,hl1,hl2,hm1',hm2'⟩
    ·go_wp2_with fail
     have HO1:=T1.out;have HO2:=T2.out
     try simp only [lE] at HO1 HO2
     generalize hW:World.setCell _ _ _=w2;obtain ⟨p0,p1,p2,hx2⟩:=put3b (w:=wq) hW eX sp (by rw [dB _ _ _ _ sp];first|exact pA _ _ _ sp|(rw [dB _ _ _ _ sp];exact pA _ _ _ sp)) rfl
     have hl1:Sl w2 8 iA bs i1 bs.length k1:=by rw [<-hW];exact Sl.kept (Sl.kept (Sl.kept HO1 ((fA.refl _ _).put 0 _) (fun _ b o e=>by rcases M1.out b o e with h|h;(simp at h;omega);(rw [h] at e;cases e))) ((fA.refl _ _).put 1 _) (fun _ b o e=>by rcases M1.out b o e with h|h;(simp at h;omega);(rw [h] at e;cases e))) ((fA.refl _ _).put 2 _) (fun _ b o e=>by rcases M1.out b o e with h|h;(simp at h;omega);(rw [h] at e;cases e))
     have hl2:Sl w2 2 jA bj i2 bj.length k2:=by rw [<-hW];exact Sl.kept (Sl.kept (Sl.kept HO2 ((fA.refl _ _).put 0 _) (fun _ b o e=>by have h:=M2.out b o e;simp at h;omega)) ((fA.refl _ _).put 1 _) (fun _ b o e=>by have h:=M2.out b o e;simp at h;omega)) ((fA.refl _ _).put 2 _) (fun _ b o e=>by have h:=M2.out b o e;simp at h;omega)
     have hm1':∀ b o,i1=some ⟨b,o,none⟩->wq.heap.size<=b:=fun b o e=>by
      rcases M1.out b o e with h|h
      ·exact Nat.le_trans so h
      ·rw [h] at e;cases e
     have hm2':∀ b o,i2=some ⟨b,o,none⟩->wq.heap.size<=b:=fun b o e=>Nat.le_trans so (M2.out b o e)
     clear hW;go_meet;exact ⟨_,i1,k1,i2,k2,rfl,rfl,rfl,hx2,sp,p0,p1,p2,hl1,hl2,hm1',hm2'⟩
   case rest=>
    obtain ⟨A,i1,k1,i2,k2,rfl,rfl,rfl,hxc,hA,p0,p1,p2,hs1,hs2,hm1',hm2'⟩:=hcut;have HS1:=aA hs1;have HS2:=aA hs2;have zwx:=HXA.out.below.size
    replace hA:w.heap.size<=A:=om
    have HN1:Hid (∀ b o,i1=some ⟨b,o,none⟩->w.heap.size<=b):=fun b o e=>Nat.le_trans zwx (hm1' b o e)
    have HN2:Hid (∀ b o,i2=some ⟨b,o,none⟩->w.heap.size<=b):=fun b o e=>Nat.le_trans zwx (hm2' b o e)
    replace HSC:=aA (HS0.out.ext hxc);have HXC:=aA (HXA.out.trans hxc);have zA:=cA p0;have d2:=gA hxc c2;have zh:=cA d2;clear hxc hs1 hs2 hm1' hm2' c0 c1 c2 b0 b1 b2 b3 zb zc zwx;have HYN:Hid (HS (fun k=>Y k\/wc.heap.size<=k) Z pb mb db lb hb n la ln lc ga gn gc ⟨⟨sizes,p,⟨last,l,js⟩,goals⟩,e0,d⟩ wc):=HSC.out.move (fun k hk=>⟨fun h=>h.elim id (fun h=>absurd hk om),Or.inl⟩)
    have HLN:Hid (LN (fun k=>Y k\/wc.heap.size<=k) db lb n (ln:Int) e0 ⟨last,l,js⟩ d wc):=by
     have h1:=HYN.out.led;rw [show House.n _=(ln:Int) from hn.out] at h1;exact h1
    have HNB:Hid (∀ b o,(0<bs.length/\i1=some ⟨b,o,none⟩)\/(0<bj.length/\i2=some ⟨b,o,none⟩)->¬ (Y b\/wc.heap.size<=b)):=by
     intro b o hh hz
     have h1:w.heap.size<=b:=by
      rcases hh with hh|hh
      ·exact HN1.out b o hh.2
      ·exact HN2.out b o hh.2
     have h2:b<wc.heap.size:=by
      rcases hh with ⟨hp,e⟩|⟨hp,e⟩
      ·subst e
       exact Sl.block_ltC HS1.out hp (by intro s;simp [iA])
      ·subst e
       exact Sl.block_ltC HS2.out hp (by intro s;simp [jA])
     rcases hz with hz|hz
     ·have:=HYY.out b hz
      omega
     ·omega
    have HWZ:Hid (∀ k,HB (fun k=>Y k\/wc.heap.size<=k) pb mb hb k->Z k):=by
     intro k hk
     rcases hk with (hk|hk)|hk
     ·exact HZZ.out k (Or.inl hk)
     ·exact hZ k (Nat.le_trans HXC.out.below.size hk)
     ·exact HZZ.out k (Or.inr hk)
    have HNH:Hid (¬ (Y hb\/wc.heap.size<=hb)):=by
     intro hh
     rcases hh with hh|hh
     ·exact HS0.out.yh hh
     ·omega
    have HNA:Hid (¬ (Y A\/wc.heap.size<=A)):=by
     intro hh
     rcases hh with hh|hh
     ·have:=HYY.out A hh
      omega
     ·omega
    go_upto_region 5 with fail
    go_region_held3 (fun w'=>w'.cell? ⟨hb,2,none⟩=some (.pointer (some ⟨lb,0,none⟩))/\w'.cell? ⟨A,0,none⟩=some (vi bl)/\w'.cell? ⟨A,1,none⟩=some (.slice i1 bs.length k1)/\w'.cell? ⟨A,2,none⟩=some (.slice i2 bj.length k2)) (first|(first|((try dsimp only);(repeat' apply And.intro) <;> exact xC (w:=wc)))|((try dsimp only);(repeat' apply And.intro) <;> assumption))
     (first
      | (go_at_call 52;refine (keep_led (Z:=fun k=>Y k\/wc.heap.size<=k) (fun k hk=>Or.inr (Nat.le_trans (Ext.below eX:Below wc.heap.size wc _).size hk)) (HLN.out.ext eX) hw l4 he (hTT.out.ext (HXC.out.trans eX)) bl i1 bs.length k1 i2 bj.length k2 bs bj (Sl.below HS1.out (Ext.below eX)) (Sl.below HS2.out (Ext.below eX)) HNB.out HBF.out).mono ?_;rintro e w9 ⟨he9,hk9,hr9⟩;have HK9:Hid (fA (fun k=>Y k\/wc.heap.size<=k) wc w9):=(fA.of_ext eX:fA (fun k=>Y k\/wc.heap.size<=k) wc _).trans hk9;rw [HKP.out] at he9 hr9;dsimp only at he9 hr9;have HR9:=aA hr9;have nd2:=qB HK9.out d2 HNH.out;have np0:=qB HK9.out p0 HNA.out;have np1:=qB HK9.out p1 HNA.out;have np2:=qB HK9.out p2 HNA.out;clear hk9 hr9;subst he9))
    all_goals
     have hkz:fA Z w w9:=(fA.of_ext HXC.out).trans (HK9.out.wide (fun i hi=>HWZ.out i (Or.inl hi)));have HKZ:=aA hkz;clear hkz
     rcases HR9.out with ⟨h0,hl⟩|⟨h0,hl⟩
     ·subst h0
      have HL:=aA hl;clear hl;rw [show aC 0 = .nilIface from rfl];go_wp2
      go_ret2
      rw [HTK.out]
      try rw [if_pos rfl]
      exact ⟨rfl,HKZ.out.trans (fA.of_ext eX),fun k=>Y k\/wc.heap.size<=k,la,ln,lc,ga,gn,gc,(HYN.out.ledger HK9.out (by rw [hn.out];exact HL.out)).ext eX,HWZ.out⟩
     ·have HL:=aA hl
      clear hl;rw [show aC f = .iface 92 (vi f) by unfold aC;rw [if_neg h0]];go_wp2
      go_ret2
      rw [HTK.out]
      try rw [if_neg h0]
      exact ⟨by unfold aC;rw [if_neg h0];rfl,HKZ.out.trans (fA.of_ext eX),fun k=>Y k\/wc.heap.size<=k,la,ln,lc,ga,gn,gc,(HYN.out.ledger HK9.out (by rw [hn.out];exact HL.out)).ext eX,HWZ.out⟩
 ·have HE:Hid ((⟨⟨sizes,p,⟨last,l,js⟩,goals⟩,e0,d⟩:Live.HD).park ⟨id,⟨lo,hi',he'⟩⟩=(⟨⟨sizes,p,⟨last,l,js⟩,goals⟩,e0,d⟩,0,7)):=by unfold Hid Live.HD.park;rw [if_pos (show p.bay≠id from hbi)]
  go_enter func15,ntmps15
  go_upto_region 1 with fail
  generalize hW0:World.alloc _ _=wA;have hxA:Ext w wA:=xQ hW0;have b0:cI wA w.heap.size 0 id:=cQ hW0;have b1:cI wA w.heap.size 1 lo:=cQ hW0;have b2:cI wA w.heap.size 2 hi':=cQ hW0;have b3:cI wA w.heap.size 3 he':=cQ hW0;obtain ⟨c0,c1,c2⟩:=xe3 hxA c0 c1 c2;replace HS0:=aA (HS0.out.ext hxA);have HXA:=aA hxA;have zb:=cA b0;have zc:=cA c0;clear hW0 hxA c3 cf hbl
  (refine rA kR kR ?_;(repeat (first|go_big_quiet_step ((intro _;go_at_call 22;exact qC (sense_val _ (HS0.out.pl.ext eX) HWF HSN)))|quiet_step (fail)));refine wpQuiet_nil ?_;rintro _ ⟨oq,nq,rfl⟩)
  go_wp2
  go_ret2
  rw [HE.out];exact ⟨rfl,fA.of_ext (HXA.out.trans eX),Y,la,ln,lc,ga,gn,gc,HS0.out.ext eX,HZZ.out⟩
def yI (w0:World) (N:Nat->Prop):Nat->Prop:=fun i=>w0.heap.size<=i/\¬ N i
structure SD (w0:World) (N:Nat->Prop) (pb mb db lb hb:Nat) (x:Live.HD) (w:World):Prop where
 ex:Ext w0 w
 hn:HN (yI w0 N) pb mb db lb hb 40 x w
 lt:∀ i,N i->i<w.heap.size
section
variable {w0:World} {N:Nat->Prop} {pb mb db lb hb:Nat} {x:Live.HD} {w w':World}
theorem SD.hZ (h:SD w0 N pb mb db lb hb x w):∀ k,w.heap.size<=k->yI w0 N k:=fun k hk=>⟨Nat.le_trans h.ex.below.size hk,fun hn=>by have:=h.lt k hn;omega⟩
theorem SD.ext (h:SD w0 N pb mb db lb hb x w) (e:Ext w w'):SD w0 N pb mb db lb hb x w':=⟨h.ex.trans e,h.hn.ext e,fun i hi=>Nat.lt_of_lt_of_le (h.lt i hi) e.below.size⟩
theorem SD.next {lb' hb':Nat} {x':Live.HD} (h:SD w0 N pb mb db lb hb x w) (k:fA (yI w0 N) w w') (hn:HN (yI w0 N) pb mb db lb' hb' 40 x' w'):SD w0 N pb mb db lb' hb' x' w':=
 ⟨Ext.of_below (bF h.ex.below (Nat.le_refl _) k (fun i hi=>hi.1)),hn,fun i hi=>Nat.lt_of_lt_of_le (h.lt i hi) k.size⟩
theorem SD.own (h:SD w0 N pb mb db lb hb x w) (e:Ext w w'):SD w0 (fun i=>N i\/(w.heap.size<=i/\i<w'.heap.size)) pb mb db lb hb x w':=by
 obtain ⟨Y,la,ln,lc,ga,gn,gc,hs,hz,hy⟩:=h.hn.open_ h.hZ;refine ⟨h.ex.trans e,⟨Y,la,ln,lc,ga,gn,gc,(hs.zed (Z':=yI w0 (fun i=>N i\/(w.heap.size<=i/\i<w'.heap.size))) (fun k hk hz=>⟨hz.1,fun hn=>hn.elim hz.2 (fun h=>by omega)⟩)).ext e,fun k hk=>⟨(hz k hk).1,?_⟩⟩,?_⟩
 ·rintro (hN|⟨h1,h2⟩)
  ·exact (hz k hk).2 hN
  ·have:k<w.heap.size:=by
    rcases hk with hk|rfl|rfl|rfl
    ·exact hy k hk
    ·exact hs.pl.lt.1
    ·exact hs.pl.lt.2
    ·exact hs.lt
   omega
 ·rintro i (hi|hi)
  ·exact Nat.lt_of_lt_of_le (h.lt i hi) e.below.size
  ·exact hi.2
theorem SD.drop {N':Nat->Prop} (h:SD w0 N pb mb db lb hb x w) (hs:∀ i,N' i->N i):SD w0 N' pb mb db lb hb x w:=by
 obtain ⟨hx,⟨Y,la,ln,lc,ga,gn,gc,h1,h2⟩,h3⟩:=h;exact ⟨hx,⟨Y,la,ln,lc,ga,gn,gc,h1.zed (fun k _ hz=>⟨hz.1,fun hn=>hz.2 (hs k hn)⟩),fun k hk=>⟨(h2 k hk).1,fun hn=>(h2 k hk).2 (hs k hn)⟩⟩,fun i hi=>h3 i (hs i hi)⟩
theorem SD.write {S:Nat->Prop} (h:SD w0 N pb mb db lb hb x w) (k:fA S w w') (hs:∀ i,S i->N i/\w0.heap.size<=i):SD w0 N pb mb db lb hb x w':=by
 obtain ⟨hx,⟨Y,la,ln,lc,ga,gn,gc,h1,h2⟩,h3⟩:=h;exact ⟨Ext.of_below (bF hx.below (Nat.le_refl _) k (fun i hi=>(hs i hi).2)),⟨Y,la,ln,lc,ga,gn,gc,h1.apart k h2 (fun i hi hz=>hz.2 (hs i hi).1),h2⟩,fun i hi=>Nat.lt_of_lt_of_le (h3 i hi) k.size⟩
theorem SD.grow {S:Nat->Prop} (h:SD w0 N pb mb db lb hb x w) (k:fA S w w') (hs:∀ i,S i->N i/\w0.heap.size<=i):SD w0 (fun i=>N i\/(w.heap.size<=i/\i<w'.heap.size)) pb mb db lb hb x w':=by
 obtain ⟨Y,la,ln,lc,ga,gn,gc,h1,hz,hy⟩:=h.hn.open_ h.hZ;have h2:=h1.zed (Z':=yI w0 (fun i=>N i\/(w.heap.size<=i/\i<w'.heap.size))) (fun k hk hz=>⟨hz.1,fun hn=>hn.elim hz.2 (fun h=>by omega)⟩)
 have hz2:∀ k,HB Y pb mb hb k->yI w0 (fun i=>N i\/(w.heap.size<=i/\i<w'.heap.size)) k:=fun k hk=>⟨(hz k hk).1,by
  rintro (hN|⟨a,b⟩)
  ·exact (hz k hk).2 hN
  ·have:k<w.heap.size:=by
    rcases hk with hk|rfl|rfl|rfl
    ·exact hy k hk
    ·exact h1.pl.lt.1
    ·exact h1.pl.lt.2
    ·exact h1.lt
   omega⟩
 refine ⟨Ext.of_below (bF h.ex.below (Nat.le_refl _) k (fun i hi=>(hs i hi).2)),⟨Y,la,ln,lc,ga,gn,gc,h2.apart k hz2 (fun i hi hz=>hz.2 (Or.inl (hs i hi).1)),hz2⟩,?_⟩;rintro i (hi|hi)
 ·exact Nat.lt_of_lt_of_le (h.lt i hi) k.size
 ·exact hi.2
theorem SD.plantAt (h:SD w0 N pb mb db lb hb x w):yA w pb mb x.h.p:=h.hn.plantAt
theorem SD.plant {p':dA} (h:SD w0 N pb mb db lb hb x w) (k:fA (Own pb mb) w w') (hp:yA w' pb mb p'):
  SD w0 N pb mb db lb hb { x with h:={ x.h with p:=p' } } w'/\fA (yI w0 N) w w':=by
 obtain ⟨h1,h2⟩:=h.hn.plant k hp;exact ⟨h.next h2 h1,h2⟩
end
def St (w0:World) (N:Nat->Prop) (pb mb db lb hb:Nat) (h:House) (k:Nat) (w:World):Prop:=
 ∃ x:Live.HD,x.h=h/\x.Up 40/\x.d.fuse=-1/\x.e<=k/\SD w0 N pb mb db lb hb x w
section
variable {w0:World} {N:Nat->Prop} {pb mb db lb hb:Nat} {h:House} {k:Nat} {w w':World}
theorem St.x (s:St w0 N pb mb db lb hb h k w):Ext w0 w:=by obtain ⟨x,_,_,_,_,s⟩:=s;exact s.ex
theorem St.lt (s:St w0 N pb mb db lb hb h k w):∀ i,N i->i<w.heap.size:=by obtain ⟨x,_,_,_,_,s⟩:=s;exact s.lt
theorem St.inv (s:St w0 N pb mb db lb hb h k w):Live.House.Inv2 h:=by obtain ⟨x,rfl,u,_,_,s⟩:=s;exact u.inv
theorem St.wf (s:St w0 N pb mb db lb hb h k w):h.p.WF:=s.inv.inv.core.safe.wf
theorem St.plantAt (s:St w0 N pb mb db lb hb h k w):yA w pb mb h.p:=by obtain ⟨x,rfl,_,_,_,s⟩:=s;exact s.plantAt
theorem St.ext (s:St w0 N pb mb db lb hb h k w) (e:Ext w w'):St w0 N pb mb db lb hb h k w':=by
 obtain ⟨x,h1,h2,h3,h4,s⟩:=s;exact ⟨x,h1,h2,h3,h4,s.ext e⟩
theorem St.more (s:St w0 N pb mb db lb hb h k w) {k':Nat} (hk:k<=k'):St w0 N pb mb db lb hb h k' w:=by
 obtain ⟨x,h1,h2,h3,h4,s⟩:=s;exact ⟨x,h1,h2,h3,Nat.le_trans h4 hk,s⟩
theorem St.own (s:St w0 N pb mb db lb hb h k w) (e:Ext w w'):St w0 (fun i=>N i\/(w.heap.size<=i/\i<w'.heap.size)) pb mb db lb hb h k w':=by
 obtain ⟨x,h1,h2,h3,h4,s⟩:=s;exact ⟨x,h1,h2,h3,h4,s.own e⟩
theorem St.drop {N':Nat->Prop} (s:St w0 N pb mb db lb hb h k w) (hs:∀ i,N' i->N i):St w0 N' pb mb db lb hb h k w:=by
 obtain ⟨x,h1,h2,h3,h4,s⟩:=s;exact ⟨x,h1,h2,h3,h4,s.drop hs⟩
theorem St.write {S:Nat->Prop} (s:St w0 N pb mb db lb hb h k w) (kk:fA S w w') (hs:∀ i,S i->N i/\w0.heap.size<=i):St w0 N pb mb db lb hb h k w':=by
 obtain ⟨x,h1,h2,h3,h4,s⟩:=s;exact ⟨x,h1,h2,h3,h4,s.write kk hs⟩
theorem St.grow {S:Nat->Prop} (s:St w0 N pb mb db lb hb h k w) (kk:fA S w w') (hs:∀ i,S i->N i/\w0.heap.size<=i):St w0 (fun i=>N i\/(w.heap.size<=i/\i<w'.heap.size)) pb mb db lb hb h k w':=by
 obtain ⟨x,h1,h2,h3,h4,s⟩:=s;exact ⟨x,h1,h2,h3,h4,s.grow kk hs⟩
theorem St.plant {p':dA} (s:St w0 N pb mb db lb hb h k w) (kk:fA (Own pb mb) w w') (hp:yA w' pb mb p') (hi:Live.House.Inv2 { h with p:=p' }):
  St w0 N pb mb db lb hb { h with p:=p' } k w'/\fA (yI w0 N) w w':=by
 obtain ⟨x,rfl,h2,h3,h4,s⟩:=s;obtain ⟨s1,s2⟩:=s.plant kk hp;exact ⟨⟨{ x with h:={ x.h with p:=p' } },rfl,⟨hi,h2.calm,h2.holds⟩,h3,h4,s1⟩,s2⟩
theorem st_tick (s:St w0 N pb mb db lb hb h k w) (hk:k+2<4294967296) (hT:Tab w0):
  Calls prog 20 #[.pointer (some ⟨hb,0,none⟩)] w fun r w'=>r = .returned .nilIface/\fA (yI w0 N) w w'/\St w0 N pb mb db lb hb h.tick (k+1) w':=by
 obtain ⟨x,rfl,h2,h3,h4,s⟩:=s;refine (tick_now s.hZ s.hn h2.inv.inv om (by rw [h2.calm.none];simp) (hT.ext s.ex)).mono ?_;rintro r w' ⟨rfl,hk,hn⟩
 rcases Live.HD.tick_up h2 dc om with ⟨a1,a2,a3,a4,a5⟩|⟨a1,a2,a3,a4,a5,a6⟩
 ·rw [a1]
  exact ⟨rfl,hk,x.tick.1,a3,a2,a5 h3,om,s.next hk hn⟩
 ·exact absurd h3 a5
theorem st_park (s:St w0 N pb mb db lb hb h k w) (hk:k+2<4294967296) (hT:Tab w0) (id lo hi he:Int):
  Calls prog 15 #[.pointer (some ⟨hb,0,none⟩),.agg #[vi id,vi lo,vi hi,vi he]] w fun r w'=>r = .returned (.tuple #[vi (h.park ⟨id,⟨lo,hi,he⟩⟩).2.1,aC (h.park ⟨id,⟨lo,hi,he⟩⟩).2.2])/\fA (yI w0 N) w w'/\St w0 N pb mb db lb hb (h.park ⟨id,⟨lo,hi,he⟩⟩).1 (k+1) w':=by
 obtain ⟨x,rfl,h2,h3,h4,s⟩:=s;refine (park_now s.hZ s.hn h2.inv.inv om (by rw [h2.calm.none];simp) (hT.ext s.ex) id lo hi he).mono ?_;rintro r w' ⟨rfl,hk,hn⟩
 rcases Live.HD.park_up h2 dc om ⟨id,⟨lo,hi,he⟩⟩ with ⟨a1,a2,a3,a4,a5⟩|⟨a1,a2,a3,a4,a5⟩
 ·rw [a3]
  exact ⟨rfl,hk,_,a2,a1,a5 h3,om,s.next hk hn⟩
 ·exact absurd h3 a5
theorem st_want (s:St w0 N pb mb db lb hb h k w) (hk:k+2<4294967296) (hT:Tab w0) (t:Int):
  Calls prog 17 #[.pointer (some ⟨hb,0,none⟩),vi t] w fun r w'=>r = .returned (aC (h.want t).2)/\fA (yI w0 N) w w'/\St w0 N pb mb db lb hb (h.want t).1 (k+1) w':=by
 obtain ⟨x,rfl,h2,h3,h4,s⟩:=s;refine (want_now s.hZ s.hn h2.inv.inv om (by rw [h2.calm.none];simp) (hT.ext s.ex) t).mono ?_;rintro r w' ⟨rfl,hk,hn⟩
 rcases Live.HD.want_up h2 dc om t with ⟨a1,a2,a3,a4,a5⟩|⟨a1,a2,a3,a4,a5⟩
 ·rw [a3]
  exact ⟨rfl,hk,_,a2,a1,a5 h3,om,s.next hk hn⟩
 ·exact absurd h3 a5
theorem St.book_small (s:St w0 N pb mb db lb hb h k w):h.b.stays.length<=16/\h.b.jobs.length<=8:=⟨s.inv.inv.core.book.s16,s.inv.inv.core.book.j8⟩
theorem st_book (s:St w0 N pb mb db lb hb h k w):
  Calls prog 28 #[.pointer (some ⟨hb,0,none⟩)] w fun r w'=>∃ y1 d1 y2 d2,r = .returned (lC h.b.last y1 h.b.stays.length d1 y2 h.b.jobs.length d2)/\Sl w' 8 iA h.b.stays y1 h.b.stays.length d1/\Sl w' 2 jA h.b.jobs y2 h.b.jobs.length d2/\Ext w w' /\
   (∀ g o,y1=some ⟨g,o,none⟩->w.heap.size<=g)/\(∀ g o,y2=some ⟨g,o,none⟩->w.heap.size<=g):=by
 obtain ⟨b1,b2⟩:=s.book_small;obtain ⟨x,rfl,h2,h3,h4,s⟩:=s;exact hbook_now s.hn om om
theorem st_new {la:Option Addr} {lc:Nat} {ln:Nat} (s:St w0 N pb mb db lb hb h k w) (hl:Sl w 3 yB h.sizes la ln lc) (L:kL w0):
  Calls prog 11 #[.slice la ln lc,.pointer (some ⟨pb,0,none⟩),.pointer (some ⟨db,0,none⟩)] w fun r w'=>∃ hb' lb',r = .returned (.tuple #[.pointer (some ⟨hb',0,none⟩),.nilIface])/\Ext w w'/\St w0 N pb mb db lb' hb' { h with goals:=[] } k w':=by
 obtain ⟨x,rfl,h2,h3,h4,s⟩:=s;obtain ⟨Y,la0,ln0,lc0,ga,gn,gc,hs,hz,hy⟩:=s.hn.open_ s.hZ;have hlen:=hl.len;refine (new_now hl h2.inv.inv.lv hs.pl hs.led.dz hy hs.yp hs.ym (by rw [<-hlen];exact ⟨h2.calm,h3,h2.holds⟩) dc (L.ext s.ex)).mono ?_;rintro r w' ⟨hb',lb',rfl,hx,Y',a1,a2,a3,b1,b2,b3,hs',hz'⟩;refine ⟨hb',lb',rfl,hx,⟨{ x.h with goals:=[] },x.e,x.d⟩,rfl,⟨Live.inv2_nil h2.inv,h2.calm,h2.holds⟩,h3,h4,s.ex.trans hx,⟨Y',a1,a2,a3,b1,b2,b3,hs'.zed (fun i _ hi=>s.hZ i hi),fun i hi=>?_⟩,fun i hi=>Nat.lt_of_lt_of_le (s.lt i hi) hx.below.size⟩
 rcases hz' i hi with hi|rfl|rfl|hi
 ·exact hz i (Or.inl hi)
 ·exact hz i (Or.inr (Or.inl rfl))
 ·exact hz i (Or.inr (Or.inr (Or.inl rfl)))
 ·exact s.hZ i hi
theorem sd_did {d':aB} {y:Live.HD} {g:FuncId} {args:Array Value} {r:Value} (s:SD w0 N pb mb db lb hb y w) (hc:∀ F,gH w F db 40 y.d->Calls prog g args w (DDid F db 40 w d' r)):
  Calls prog g args w fun x w'=>x = .returned r/\fA (yI w0 N) w w'/\SD w0 N pb mb db lb hb { y with d:=d' } w':=by
 obtain ⟨Y,la,ln,lc,ga,gn,gc,hs,hz,hy⟩:=s.hn.open_ s.hZ;have hs2:HS (fun k=>Y k\/w.heap.size<=k) (yI w0 N) pb mb db lb hb 40 la ln lc ga gn gc y w:=hs.move (fun k hk=>⟨fun h=>h.elim id (fun h=>by omega),Or.inl⟩);refine (ln_did (fun k hk=>Or.inr hk) hs2.led hc).mono ?_;rintro x w' ⟨rfl,hk,hl⟩;have hs3:=hs2.ledger hk hl
 have hz3:∀ k,HB (fun k=>Y k\/w.heap.size<=k) pb mb hb k->yI w0 N k:=fun k hk=>by
  rcases hk with (hk|hk)|hk
  ·exact hz k (Or.inl hk)
  ·exact s.hZ k hk
  ·exact hz k (Or.inr hk)
 have hk':fA (yI w0 N) w w':=⟨hk.os,hk.tape,hk.output,hk.size,fun i hi hn=>hk.block i hi (fun h=>hn (hz3 i (Or.inl h)))⟩
 exact ⟨rfl,hk',s.next hk' ⟨_,la,ln,lc,ga,gn,gc,hs3,hz3⟩⟩
theorem st_restart (s:St w0 N pb mb db lb hb h k w) (keep:Nat) (hk:keep<18446744073709551616):
  Calls prog 184 #[.pointer (some ⟨db,0,none⟩),.int .u64 (keep:Int)] w fun x w'=>x = .returned (.tuple #[])/\fA (yI w0 N) w w'/\St w0 N pb mb db lb hb h k w':=by
 obtain ⟨y,rfl,u,hf,he,s⟩:=s;refine (sd_did s fun _ hd=>restart_any hd keep hk (by rw [u.calm.none];simp)).mono ?_;rintro x w' ⟨rfl,hkk,s'⟩;refine ⟨rfl,hkk,{ y with d:=y.d.restart keep },rfl,⟨u.inv,⟨u.calm.wf.restart keep,rfl,rfl,rfl⟩,?_⟩,rfl,he,s'⟩
 have:(y.d.restart keep).now=y.d.now:=by
  show nH keep 0 y.d.wait y.d.kept=_;rw [u.calm.none,<-u.calm.all];rfl
 show rF (y.d.restart keep).now y.h.n y.e y.h.b;rw [this];exact u.holds
end
theorem itoaS_neg {n:Int} (h:n<0):fB n=(⟨#[45]⟩:ByteArray)++fB (-n):=by
 apply ba_ext;rw [oK,oF,oF];unfold Lib.itoa;rw [if_pos h,if_neg om,show n.natAbs=(-n).toNat by omega];rfl
set_option maxRecDepth 100000
set_option maxHeartbeats 4000000
theorem decimal_neg (n:Int) (w:World) (h0:n<0) (h1:-999999<=n):Calls prog 81 #[vi n] w fun e w'=>e = .returned (.string (fB n))/\Ext w w':=by
 have hz:=lB (n:=-n) om;have rc:=rB (⟨#[45]⟩:ByteArray) (fB (-n)) (fB n) (itoaS_neg h0) (by have:(⟨#[45]⟩:ByteArray).size=1:=rfl;omega)
 have HN:Hid (0<=-n/\-n<=999999):=by unfold Hid;omega
 have hw:IntKind.i64.wrap (-n)=-n:=IntWalk.i64_in _ om;go_enter func81,ntmps81;go_wp2_with (go_at_call 81;with_reducible refine mo (mG (-n) _ HN) fun o1 n1=>?_);go_ret;exact ⟨rfl,eX⟩
theorem decimal_int (n:Int) (w:World) (hn:Hid (-999999<=n/\n<=999999)):Calls prog 81 #[vi n] w fun e w'=>e = .returned (.string (fB n))/\Ext w w':=by
 by_cases h:n<0
 ·exact decimal_neg n w h hn.out.1
 ·exact mG n w ⟨om,hn.out.2⟩
theorem eF (f:Int) (w:World) (hf:Hid (0<=f/\f<=999999)):Calls prog 76 #[vi f] w fun e w'=>e = .returned (.string (zG f))/\Ext w w':=by
 have hz:=lB (n:=f) (by have:=hf.out;omega);have rc:=rB (⟨#[101,114,114,111,114,32]⟩:ByteArray) (fB f) (zG f) rfl (by have:(⟨#[101,114,114,111,114,32]⟩:ByteArray).size=6:=rfl;omega);go_enter func76,ntmps76;go_wp2_with (go_at_call 81;with_reducible refine mo (mG f _ hf) fun o1 n1=>?_);go_ret;exact ⟨rfl,eX⟩
theorem dM (f:Int) (w:World) (hf:Hid (0<=f/\f<=999999)):Calls prog 145 #[vi f] w fun e w'=>e = .returned (.string (doneB f))/\Ext w w':=by
 unfold doneB
 by_cases h0:f=0
 ·subst h0
  rw [if_pos rfl];go_enter func145,ntmps145;go_wp2;go_ret;exact ⟨rfl,eX⟩
 ·rw [if_neg h0]
  have h1:0<f:=by have:=hf.out;omega
  go_enter func145,ntmps145;go_wp2_with (go_at_call 76;with_reducible refine mo (eF f _ hf) fun o1 n1=>?_);go_ret;exact ⟨rfl,eX⟩
theorem rjoin_any (s t r:ByteArray) (w:World) (hr:r=if s=⟨#[]⟩ then t else s++rI++t) (hs:s.size<=1000000) (ht:t.size<=1000000):
  Calls prog 142 #[.string s,.string t] w fun e w'=>e = .returned (.string r)/\Ext w w':=by
 by_cases h0:s=⟨#[]⟩
 ·rw [if_pos h0] at hr
  subst h0;subst hr;go_enter func142,ntmps142;go_wp2;go_ret;exact ⟨rfl,eX⟩
 ·rw [if_neg h0] at hr
  have n0:(s.toList==[])=false:=wD h0;have z2:rI.size=2:=rfl
  obtain ⟨u,hu⟩:∃ u,u=s++rI:=⟨_,rfl⟩
  have z3:u.size=s.size+2:=by rw [hu,ByteArray.size_append];rfl
  have r1:=rB s (⟨#[59,32]⟩:ByteArray) u hu (by have:(⟨#[59,32]⟩:ByteArray).size=2:=rfl;omega);have r2:=rB u t r (by rw [hr,hu]) om;clear hu hr h0;go_enter func142,ntmps142;go_wp2;go_ret;exact ⟨rfl,eX⟩
theorem rdash_any (s r:ByteArray) (w:World) (hr:r=if s=⟨#[]⟩ then ⟨#[45]⟩ else s):
  Calls prog 144 #[.string s] w fun e w'=>e = .returned (.string r)/\Ext w w':=by
 by_cases h0:s=⟨#[]⟩
 ·rw [if_pos h0] at hr
  subst h0;subst hr;go_enter func144,ntmps144;go_wp2;go_ret;exact ⟨rfl,eX⟩
 ·rw [if_neg h0] at hr
  have n0:(s.toList==[])=false:=wD h0;subst hr;clear h0;go_enter func144,ntmps144;go_wp2;go_ret;exact ⟨rfl,eX⟩
theorem rplaceText_any (a b c:Int) (w:World) (h:Hid (0<=a/\a<=999/\0<=b/\b<=999/\0<=c/\c<=999)):
  Calls prog 143 #[.agg #[vi a,vi b,vi c]] w fun e w'=>e = .returned (.string (aI a b c))/\Ext w w':=by
 have h':=h.out
 have P1:Hid (0<=a/\a<=999999):=by unfold Hid;omega
 have P2:Hid (0<=b/\b<=999999):=by unfold Hid;omega
 have P3:Hid (0<=c/\c<=999999):=by unfold Hid;omega
 have y1:=lB (n:=a) om;have y2:=lB (n:=b) om;have y3:=lB (n:=c) om;have hdt:(⟨#[46]⟩:ByteArray).size=1:=rfl
 obtain ⟨t1,e1⟩:∃ t,t=fB a++(⟨#[46]⟩:ByteArray):=⟨_,rfl⟩
 have z1:t1.size<=101:=by rw [e1,ByteArray.size_append];omega
 have r1:=rB _ _ t1 e1 om
 obtain ⟨t2,e2⟩:∃ t,t=t1++fB b:=⟨_,rfl⟩
 have z2:t2.size<=201:=by rw [e2,ByteArray.size_append];omega
 have r2:=rB _ _ t2 e2 om
 obtain ⟨t3,e3⟩:∃ t,t=t2++(⟨#[46]⟩:ByteArray):=⟨_,rfl⟩
 have z3:t3.size<=202:=by rw [e3,ByteArray.size_append];omega
 have r3:=rB _ _ t3 e3 om
 obtain ⟨t4,e4⟩:∃ t,t=t3++fB c:=⟨_,rfl⟩
 have r4:=rB _ _ t4 e4 om
 have HE:Hid (aI a b c=t4):=by unfold Hid;rw [e4,e3,e2,e1];rfl
 clear h' e1 e2 e3 e4 z1 z2 z3 y1 y2 y3 hdt;go_enter func143,ntmps143
 go_upto_region 1 with fail
 generalize hW:World.alloc _ _=w0;have x0:cI w0 w.heap.size 0 a:=cQ hW;have x1:cI w0 w.heap.size 1 b:=cQ hW;have x2:cI w0 w.heap.size 2 c:=cQ hW;have hx:Ext w w0:=xQ hW;have HX:=aA hx;have zl:=cA x0;clear hW hx
 (refine rA kR kR ?_;(repeat (first|go_big_quiet_step ((intro _;go_at_call 81;exact qC (mG _ _ (by assumption))))|quiet_step (fail)));refine wpQuiet_nil ?_;rintro _ ⟨oq,nq,rfl⟩)
 go_wp2_with fail;go_ret;exact ⟨by rw [HE.out];rfl,HX.out.trans eX⟩
