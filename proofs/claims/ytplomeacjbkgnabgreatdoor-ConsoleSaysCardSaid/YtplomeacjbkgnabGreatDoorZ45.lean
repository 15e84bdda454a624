import Derived.Test.YtplomeacjbkgnabGreatDoorZ44
import Derived.Lib.SmallJoins
import Derived.HandedShaped
import Derived.Stop.LaidErr
import Derived.LaidMore
set_option linter.all false
set_option maxRecDepth 100000
set_option maxHeartbeats 16000000
namespace Go.Proofs.YtplomeacjbkgnabGreatDoor
open Go.RowKit Tryz Ch
theorem cstays_any {SB hb:Nat} {lv:Value} {pb db:Option Addr} {last:Int} {l:List sA} {js:List Job} {w:World} (hb0:w.heap[SB]? = some (.cells (qJ lv pb db (some ⟨hb,0,none⟩)) 146 (0,0))) (hbk:BookC w hb last l js) (hr:Hid (∀ s∈l,(0<=s.ticket/\s.ticket<=999999)/\(0<=s.car.id/\s.car.id<=999999)/\(0<=s.home.level/\s.home.level<=999)/\(0<=s.home.side/\s.home.side<=999)/\(0<=s.home.depth/\s.home.depth<=999))) (hn:l.length<=1000) (T:Tab w):
  Calls prog 180 #[.pointer (some ⟨SB,0,none⟩)] w fun e w'=>e = .returned (.string (sJ (l.map aK)))/\Ext w w':=by
 obtain ⟨i0,hi,hz0,hz1,hz2⟩:=info_parts oM;have c1:cV w SB 3 (.pointer (some ⟨hb,0,none⟩)):=tA hb0 rfl;have hlt:=cA c1;have HB:=aA hbk;have HT:=aA T;clear hb0 hbk T;go_enter func180,ntmps180
 go_upto_region 3 with (go_at_call 28;refine (HB.out _ eX).mono ?_;rintro r w1 ⟨y1,d1,y2,d2,rfl,t1,t2,hx1⟩;have T1:=aA t1;have HX1:Hid (Ext w w1):=Ext.trans eX hx1;clear t1 t2 hx1;have hfd:=book_stays last y1 l.length d1 y2 js.length d2)
 have hbd:=T1.out.bound;have hsz:=HX1.out.below.size;go_wp2;clear hfd c1 hlt
 go_loopw [3,13] (fun v i wr=>∃ (k:Nat) (D:List ByteArray) (g:Option Addr) (d:Nat),k<=l.length/\i = .int .i64 k/\v = .slice g D.length d/\Hid (D=(l.take k).map aK)/\Hid (D.length=k)/\Hid (Wds w1 D (.slice g D.length d) wr)) (fun _ i _=>l.length - (intOf i).toNat)
 case atStart=>exact ⟨0,[],none,0,om,rfl,rfl,by simp [Hid],rfl,⟨World.ownsRow_nil _ _ _ _,eX⟩⟩
 case round=>
  obtain ⟨k,D,g,d,hk,rfl,rfl,HD,HK,HG⟩:=hrel;have hsz2:=HG.out.ext.below.size
  have hDn:D.length<=1000:=by have:=HK.out;omega
  by_cases hlt:k<l.length
  ·obtain ⟨b,q,x,rfl,hx,dx⟩:=(Sl.below T1.out HG.out.ext.below).get hlt
   have dx:=at8 dx;obtain ⟨t,⟨ci,⟨cx,cy,cz⟩⟩,⟨u1,u2,u3⟩⟩:=x;dsimp only at dx;obtain ⟨dx0,dx1,dx2,dx3,dx4,dx5,dx6,dx7⟩:=dx;have zq:=cA dx0
   have hki:(k:Int)<(l.length:Int):=om
   have hR:=hr.out _ (List.mem_of_getElem? hx);dsimp only at hR
   have HR:Hid (∀ v∈[t,ci],-9223372036854775808<=v/\v<=9223372036854775807):=fun v hv=>by simp at hv;rcases hv with rfl|rfl <;> omega
   have HP:Hid (0<=u1/\u1<=999/\0<=u2/\u2<=999/\0<=u3/\u3<=999):=by unfold Hid;omega
   have HN:Hid (D++[aK ⟨t,⟨ci,⟨cx,cy,cz⟩⟩,⟨u1,u2,u3⟩⟩]=(l.take (k+1)).map aK):=by
    unfold Hid;rw [List.take_add_one,hx,List.map_append,HD.out];rfl
   have y1:=lB (n:=t) om;have y2:=lB (n:=ci) om;have y3:=lB (n:=u1) om;have y4:=lB (n:=u2) om;have y5:=lB (n:=u3) om;have hsp:(⟨#[32]⟩:ByteArray).size=1:=rfl;have hdt:dotS.size=1:=rfl
   obtain ⟨s1,e1⟩:∃ c,eE ⟨#[32]⟩ ([t,ci].map fB)=c:=⟨_,rfl⟩
   have g1:s1=fB t++⟨#[32]⟩++fB ci:=by rw [<-e1];exact joinB_two _ _ _
   have z1:s1.size<=300:=by rw [g1,ByteArray.size_append,ByteArray.size_append];omega
   obtain ⟨s2,e2⟩:∃ c,c=s1++(⟨#[32]⟩:ByteArray):=⟨_,rfl⟩
   have z2:s2.size<=301:=by rw [e2,ByteArray.size_append];omega
   have r1:=rB s1 (⟨#[32]⟩:ByteArray) s2 e2 om
   obtain ⟨s3,e3⟩:∃ c,aI u1 u2 u3=c:=⟨_,rfl⟩
   have z3:s3.size<=400:=by rw [<-e3];unfold aI;simp only [ByteArray.size_append];omega
   obtain ⟨s4,e4⟩:∃ c,c=s2++s3:=⟨_,rfl⟩
   have r2:=rB s2 s3 s4 e4 om
   have HS4:Hid (aK ⟨t,⟨ci,⟨cx,cy,cz⟩⟩,⟨u1,u2,u3⟩⟩=s4):=by
    unfold Hid aK;rw [e4,e2,g1,<-e3];rfl
   have E1:=aA e1;have E3:=aA e3;clear hx hR e1 e2 e3 e4 g1 z1 z2 z3 y1 y2 y3 y4 y5 hsp hdt;rw [HS4.out] at HN
   go_upto_block 1 with fail
   go_cut [3] (fun v wx=>∃ gg cap,v = .slice (some ⟨gg,0,none⟩) (D.length+1) cap/\Hid (Wds w1 (D++[s4]) (.slice (some ⟨gg,0,none⟩) (D.length+1) cap) wx))
   case first=>
    go_upto_region 5 with fail
    generalize hW:World.alloc _ _=w2;generalize hA:wr.heap.size=A at *;have hx:Ext wr w2:=xQ hW;have x0:cI w2 A 0 t:=cR hW hA;have x1:cI w2 A 1 ci:=cR hW hA;have x5:cI w2 A 5 u1:=cR hW hA;have x6:cI w2 A 6 u2:=cR hW hA;have x7:cI w2 A 7 u3:=cR hW hA;have HX2:=aA hx;have zA:=cA x0;clear hW hA hx dx0 dx1 dx2 dx3 dx4 dx5 dx6 dx7 zq
    go_region_law (first
     | (go_simp;go_at_call 202;(with_reducible refine (cO ⟨#[32]⟩ [t,ci] _ 2 2 _ (sl2 (by simp [go_sem]) (by simp [go_sem])) HR dc dc dc (HT.out.ext (HX1.out.trans (HG.out.ext.trans (HX2.out.trans eX))))).mono ?_);rw [E1.out];rintro e w3 ⟨rfl,o3,n3,rfl⟩)
     | (go_simp;go_at_call 203;(with_reducible refine (place_any u1 u2 u3 _ HP (HT.out.ext (HX1.out.trans (HG.out.ext.trans (HX2.out.trans eX))))).mono ?_);rw [E3.out];rintro e w4 ⟨rfl,o4,n4,rfl⟩)
     | (refine step_append_lies _ rfl _ _ _ rfl w1.heap.size 9 i0 _ 1 16 underlying77 hi hz0 hz1 hz2 rfl dc (.slice g D.length d) D.length _ rfl (iB (zC HG.out.own (HX2.out.trans eX)) _) _ 1 1 [.string s4] rfl rfl (World.news_of_block (pA _ _ _ sp)) (by simp [Value.oneCell']) dc (by unfold maxLen;omega) om ov _ rfl ?_;intro gg cap w5 hown3 hgrow hat hlt3;have HG3:Hid (Wds w1 (D++[s4]) (.slice (some ⟨gg,0,none⟩) (D.length+1) cap) w5):=⟨yM hown3,vB (w:=w1) (HG.out.ext.trans (HX2.out.trans eX)) hgrow (qA HG.out.own)⟩;clear hown3 hgrow hat hlt3))
    all_goals
     go_wp2_with fail;go_meet;exact ⟨_,_,rfl,HG3.out⟩
   case rest=>
    obtain ⟨gg,cap,rfl,HG3⟩:=hcut;go_wp2;go_roundw
    case rel=>first|exact ⟨k+1,D++[s4],some ⟨gg,0,none⟩,cap,om,by go_num,by rw [List.length_append];rfl,HN.out,by rw [List.length_append,HK.out];rfl,by rw [show (D++[s4]).length=D.length+1 by rw [List.length_append];rfl];exact HG3.out⟩|(repeat apply Exists.intro;refine ⟨?_,rfl⟩;exact ⟨k+1,D++[s4],some ⟨gg,0,none⟩,cap,om,by go_num,by rw [List.length_append];rfl,HN.out,by rw [List.length_append,HK.out];rfl,by rw [show (D++[s4]).length=D.length+1 by rw [List.length_append];rfl];exact HG3.out⟩)
    case measure=>simp [intOf];omega
  ·have hkn:k=l.length:=om
   subst hkn
   have HDD:Hid (D=l.map aK):=by unfold Hid;rw [HD.out,List.take_length]
   obtain ⟨g',cap',e,hs⟩:=Sl.of_owns (c:=1) (enc:=bC) HG.out.own dc (fun _=>rfl);cases e;have HS:=aA hs
   have HZ:Hid ((eE rI D).size<=1000000000):=by
    have h1:=kM (sep:=rI) (l:=D) (M:=700) (fun x hx=>by
     rw [HDD.out] at hx
     obtain ⟨y,hy,rfl⟩:=List.mem_map.1 hx
     obtain ⟨h1,h2,h3,h4,h5⟩:=hr.out y hy
     have z1:=lB (n:=y.ticket) om
     have z2:=lB (n:=y.car.id) om
     have z3:=lB (n:=y.home.level) om
     have z4:=lB (n:=y.home.side) om
     have z5:=lB (n:=y.home.depth) om
     have z6:spS.size=1:=rfl
     have z7:dotS.size=1:=rfl
     unfold aK aI
     simp only [ByteArray.size_append]
     omega)
    have h2:D.length * (rI.size+700)<=1000 * 702:=Nat.mul_le_mul hDn (Nat.le_refl _);unfold Hid;omega
   clear hs;go_wp2_with (go_at_call 204;with_reducible refine mo (joined_any D _ _ _ _ (Sl.below HS.out (Ext.below eX)) om HZ.out) fun o1 n1=>?_);go_ret;exact ⟨by rw [HDD.out];rfl,HX1.out.trans (HG.out.ext.trans eX)⟩
theorem placeN_at {m k:Nat} (hk:k<4):zH (4 * m+k)=⟨(m:Int)+1,((k / 2:Nat):Int),((k % 2:Nat):Int)⟩:=by
 unfold zH
 have e1:(4 * m+k) / 4=m:=om
 have e2:(4 * m+k) % 4 / 2=k / 2:=om
 have e3:(4 * m+k) % 2=k % 2:=om
 rw [e1,e2,e3]
theorem carsN_size {p:dA} {n:Nat} (hr:∀ x,0<=p.slots x/\p.slots x<=999999) (hn:n<=4):∀ i,i<=4 * n->∀ x∈jI p i,x.size<=600
 | 0,_,x,h=>by cases h
 | i+1,hi,x,h=>by
  rw [jI,List.mem_append] at h
  rcases h with h|h
  ·exact carsN_size hr hn i om x h
  ·split at h
   ·cases h
   ·obtain rfl:=List.mem_singleton.1 h
    have h1:=hr (zH i);have e1:(zH i).level=((i / 4:Nat):Int)+1:=rfl;have e2:(zH i).side=((i % 4 / 2:Nat):Int):=rfl;have e3:(zH i).depth=((i % 2:Nat):Int):=rfl;have y1:=lB (n:=(zH i).level) (by rw [e1];omega);have y2:=lB (n:=(zH i).side) (by rw [e2];omega);have y3:=lB (n:=(zH i).depth) (by rw [e3];omega);have y4:=lB (n:=p.slots (zH i)) om;have z6:spS.size=1:=rfl;have z7:dotS.size=1:=rfl;unfold aI;simp only [ByteArray.size_append];omega
theorem ccars_any {SB pb mb:Nat} {la:Option Addr} {ln lc:Nat} {db hb:Option Addr} {p:dA} {w:World} (hb0:w.heap[SB]? = some (.cells (qJ (.slice la ln lc) (some ⟨pb,0,none⟩) db hb) 146 (0,0))) (hp:yA w pb mb p) (hl4:ln<=4) (hr:Hid (∀ x,0<=p.slots x/\p.slots x<=999999)) (T:Tab w):
  Calls prog 179 #[.pointer (some ⟨SB,0,none⟩)] w fun e w'=>e = .returned (.string (sJ (jI p (4 * ln))))/\Ext w w':=by
 obtain ⟨i0,hi,hz0,hz1,hz2⟩:=info_parts oM;have c0:cV w SB 0 (.slice la ln lc):=tA hb0 rfl;have c1:cV w SB 1 (.pointer (some ⟨pb,0,none⟩)):=tA hb0 rfl;have hlt:=cA c1;have HP:=aA hp;have HT:=aA T;clear hb0 hp T;go_enter func179,ntmps179;go_wp2
 go_loopw [3,4] (fun v s4 wr=>∃ (m:Nat) (D:List ByteArray) (g:Option Addr) (d:Nat),m<=ln/\s4 = .int .i64 ((m:Int)+1)/\v = .slice g D.length d/\Hid (D=jI p (4 * m))/\Hid (D.length<=4 * m)/\Hid (Wds w D (.slice g D.length d) wr)) (fun _ s4 _=>ln+1 - (intOf s4).toNat)
 case atStart=>exact ⟨0,[],none,0,om,rfl,rfl,rfl,Nat.zero_le _,⟨World.ownsRow_nil _ _ _ _,eX⟩⟩
 case round=>
  obtain ⟨m,D,g,d,hm,rfl,rfl,HD,HK,HG⟩:=hrel;have hsz2:=HG.out.ext.below.size;have e0:=gA HG.out.ext c0;have el:=cA e0
  by_cases hlt2:m<ln
  ·have hmi:(m:Int)+1<=(ln:Int):=om
   go_wp2;clear e0 el
   go_loopw [3,16] (fun v s16 wr=>∃ (k:Nat) (D:List ByteArray) (g:Option Addr) (d:Nat),k<=4/\s16 = .int .i64 (k:Int)/\v = .slice g D.length d/\Hid (D=jI p (4 * m+k))/\Hid (D.length<=4 * m+k)/\Hid (Wds w D (.slice g D.length d) wr)) (fun _ s16 _=>4 - (intOf s16).toNat)
   case atStart=>exact ⟨0,D,g,d,om,rfl,rfl,HD.out,HK.out,⟨zC HG.out.own eX,HG.out.ext.trans eX⟩⟩
   case round=>
    obtain ⟨k,D,g,d,hk,rfl,rfl,HD,HK,HG⟩:=hrel;have hsz3:=HG.out.ext.below.size
    have hDn:D.length<=1000:=by have:=HK.out;omega
    have e1:=gA HG.out.ext c1;have el:=cA e1
    by_cases hk4:k<4
    ·have hki:(k:Int)<4:=om
     obtain ⟨a,ha⟩:∃ a:Nat,k / 2=a:=⟨_,rfl⟩
     obtain ⟨b,hb'⟩:∃ b:Nat,k % 2=b:=⟨_,rfl⟩
     have hab:a<=1/\b<=1:=om
     have q1:(k:Int).tdiv 2=(a:Int):=by rw [Int.tdiv_eq_ediv_of_nonneg om];omega
     have q2:(k:Int).tmod 2=(b:Int):=by rw [Int.tmod_eq_emod_of_nonneg om];omega
     have q3:(k:Int) / 2=(a:Int):=om
     have q4:(k:Int) % 2=(b:Int):=om
     obtain ⟨v,HV⟩:∃ v,Hid (p.slots ⟨(m:Int)+1,a,b⟩=v):=⟨_,rfl⟩
     have HPN:Hid (zH (4 * m+k)=⟨(m:Int)+1,(a:Int),(b:Int)⟩):=by unfold Hid;rw [placeN_at hk4,ha,hb']
     clear ha hb'
     go_upto_block 3 with fail
     go_cut [3] (fun u wx=>∃ (D2:List ByteArray) (g2:Option Addr) (d2:Nat),u = .slice g2 D2.length d2/\Hid (D2=jI p (4 * m+k+1))/\Hid (D2.length<=4 * m+k+1)/\Hid (Wds w D2 (.slice g2 D2.length d2) wx))
     case first=>
      have hv9:=hr.out ⟨(m:Int)+1,a,b⟩;rw [HV.out] at hv9
      have HVR:Hid (-9223372036854775808<=v/\v<=9223372036854775807):=by unfold Hid;omega
      have HPR:Hid (0<=(m:Int)+1/\(m:Int)+1<=999/\0<=(a:Int)/\(a:Int)<=999/\0<=(b:Int)/\(b:Int)<=999):=by unfold Hid;omega
      have y1:=lB (n:=(m:Int)+1) om;have y2:=lB (n:=(a:Int)) om;have y3:=lB (n:=(b:Int)) om;have y4:=lB HVR.out;have hsp:(⟨#[32]⟩:ByteArray).size=1:=rfl;have hdt:dotS.size=1:=rfl
      obtain ⟨t1,f1⟩:∃ c,aI ((m:Int)+1) a b=c:=⟨_,rfl⟩
      have z1:t1.size<=400:=by rw [<-f1];unfold aI;simp only [ByteArray.size_append];omega
      obtain ⟨t2,f2⟩:∃ c,c=t1++(⟨#[32]⟩:ByteArray):=⟨_,rfl⟩
      have z2:t2.size<=401:=by rw [f2,ByteArray.size_append];omega
      have r1:=rB t1 (⟨#[32]⟩:ByteArray) t2 f2 om
      obtain ⟨t3,f3⟩:∃ c,c=t2++fB v:=⟨_,rfl⟩
      have r2:=rB t2 (fB v) t3 f3 om
      have HT3:Hid (aI ((m:Int)+1) a b++spS++fB v=t3):=by unfold Hid;rw [f3,f2,f1];rfl
      have F1:=aA f1;have hv99:=hv9.1;clear f1 f2 f3 y1 y2 y3 y4 hsp hdt z1 z2 hv9
      go_upto_region 9 with fail
      generalize hW:World.alloc _ _=w2;generalize hA:wr.heap.size=A at *;have hx:Ext wr w2:=xQ hW;have x0:cI w2 A 0 ((m:Int)+1):=cR hW hA;have x1:cI w2 A 1 (a:Int):=cR hW hA;have x2:cI w2 A 2 (b:Int):=cR hW hA;have e2:=gA hx e1;have HX2:=aA (HG.out.ext.trans hx);have HXR:=aA hx;have zA:=cA x0;have zB:=cA e2;clear hW hA hx e1 el q1 q2 q3 q4
      (refine rA kR kR ?_;(repeat (first|go_big_quiet_step ((first|(intro _;go_at_call 35;exact qC (tF (HP.out.ext (HX2.out.trans eX)) _ _ _ v HV))))|quiet_step (fail)));refine wpQuiet_nil ?_;rintro _ ⟨oq,nq,rfl⟩)
      by_cases hv0:v=0
      ·subst hv0
       go_wp2_with fail;go_meet;exact ⟨D,g,d,rfl,by unfold Hid;rw [jI,HPN.out,HV.out,if_pos rfl,List.append_nil];exact HD.out,by have:=HK.out;unfold Hid;omega,⟨zC HG.out.own (HXR.out.trans eX),HX2.out.trans eX⟩⟩
      ·have HD3:Hid (D++[t3]=jI p (4 * m+k+1)):=by unfold Hid;rw [jI,HPN.out,HV.out,if_neg hv0,HT3.out,HD.out]
       go_upto_region 10 with fail
       go_region_law (first
        | (go_simp;go_at_call 35;(with_reducible refine (tF (HP.out.ext (HX2.out.trans eX)) _ _ _ v HV).mono ?_);rintro e w3 ⟨rfl,o3,n3,rfl⟩)
        | (go_simp;go_at_call 203;(with_reducible refine (place_any _ _ _ _ HPR (HT.out.ext (HX2.out.trans eX))).mono ?_);rw [F1.out];rintro e w4 ⟨rfl,o4,n4,rfl⟩)
        | (go_simp;go_at_call 84;(with_reducible refine (wG v _ HVR (HT.out.ext (HX2.out.trans eX))).mono ?_);rintro e w5 ⟨rfl,o5,n5,rfl⟩)
        | (refine step_append_lies _ rfl _ _ _ rfl w.heap.size 9 i0 _ 1 16 underlying77 hi hz0 hz1 hz2 rfl dc (.slice g D.length d) D.length _ rfl (iB (zC HG.out.own (HXR.out.trans eX)) _) _ 1 1 [.string t3] rfl rfl (World.news_of_block (pA _ _ _ sp)) (by simp [Value.oneCell']) dc (by unfold maxLen;omega) om ov _ rfl ?_;intro gg cap w6 hown3 hgrow hat hlt3;have HG3:Hid (Wds w (D++[t3]) (.slice (some ⟨gg,0,none⟩) (D.length+1) cap) w6):=⟨yM hown3,vB (w:=w) (HX2.out.trans eX) hgrow (qA HG.out.own)⟩;clear hown3 hgrow hat hlt3))
       all_goals
        go_wp2_with fail;go_meet;exact ⟨D++[t3],some ⟨gg,0,none⟩,cap,by rw [List.length_append];rfl,HD3.out,by have:=HK.out;unfold Hid;rw [List.length_append,List.length_singleton];omega,by rw [show (D++[t3]).length=D.length+1 by rw [List.length_append];rfl];exact HG3.out⟩
     case rest=>
      obtain ⟨D2,g2,d2,rfl,HD2,HK2,HG2⟩:=hcut;go_wp2;go_roundw
      case rel=>first|exact ⟨k+1,D2,g2,d2,om,by go_num,rfl,HD2.out,HK2.out,⟨zC HG2.out.own eX,HG2.out.ext.trans eX⟩⟩|(repeat apply Exists.intro;refine ⟨?_,rfl⟩;exact ⟨k+1,D2,g2,d2,om,by go_num,rfl,HD2.out,HK2.out,⟨zC HG2.out.own eX,HG2.out.ext.trans eX⟩⟩)
      case measure=>simp [intOf];omega
    ·have hkn:k=4:=om
     subst hkn;go_wp2;go_roundw
     case rel=>first|exact ⟨m+1,D,g,d,om,by go_num,rfl,HD.out,HK.out,⟨zC HG.out.own eX,HG.out.ext.trans eX⟩⟩|(repeat apply Exists.intro;refine ⟨?_,rfl⟩;exact ⟨m+1,D,g,d,om,by go_num,rfl,HD.out,HK.out,⟨zC HG.out.own eX,HG.out.ext.trans eX⟩⟩)
     case measure=>simp [intOf];omega
  ·have hkn:m=ln:=om
   subst hkn
   have hmi:¬ (m:Int)+1<=(m:Int):=om
   obtain ⟨g',cap',e,hs⟩:=Sl.of_owns (c:=1) (enc:=bC) HG.out.own dc (fun _=>rfl);cases e;have HS:=aA hs
   have hDn:D.length<=1000:=by have:=HK.out;omega
   have HZ:Hid ((eE rI D).size<=1000000000):=by
    have h1:=kM (sep:=rI) (l:=D) (M:=600) (fun x hx=>by
     rw [HD.out] at hx
     exact carsN_size hr.out hl4 (4 * m) (Nat.le_refl _) x hx)
    have h2:D.length * (rI.size+600)<=1000 * 602:=Nat.mul_le_mul hDn (Nat.le_refl _);unfold Hid;omega
   clear hs;go_wp2_with (go_at_call 204;with_reducible refine mo (joined_any D _ _ _ _ (Sl.below HS.out (Ext.below eX)) om HZ.out) fun o1 n1=>?_);go_ret;exact ⟨by rw [HD.out];rfl,HG.out.ext.trans eX⟩
theorem kF {w w':World} {b:Nat} {o:Obj} (h:w.heap[b]? = some o) (x:Ext w w'):w'.heap[b]? = some o:=by
 obtain ⟨os,n,rfl⟩:=x;rw [dB _ _ _ _ (Array.getElem?_eq_some_iff.1 h).1];exact h
structure jL (w0:World) (SB:Nat) (Q:Nat->Prop) (h:House) (k:Nat) (w:World) (N:Nat->Prop) (pb mb db lb hb:Nat) (la:Option Addr) (ln lc:Nat):Prop where
 blk:w.heap[SB]? = some (.cells (qJ (.slice la ln lc) (some ⟨pb,0,none⟩) (some ⟨db,0,none⟩) (some ⟨hb,0,none⟩)) 146 (0,0))
 st:St w0 N pb mb db lb hb h k w
 lv:Sl w 3 yB h.sizes la ln lc
 lf:0<ln->∀ b o,la=some ⟨b,o,none⟩->N b/\¬ Q b/\b≠SB
 nb:N SB
 nq:∀ i,Q i->w0.heap.size<=i->N i
structure pK (w0:World) (SB:Nat) (Q:Nat->Prop) (w:World):Prop where
 ex:Ext w0 w
 sb:w0.heap.size<=SB
 lt:SB<w.heap.size
 qn:¬ Q SB
 ql:∀ i,Q i->i<w.heap.size
def Ses (w0:World) (SB:Nat) (Q:Nat->Prop) (o:Option House) (k:Nat) (w:World):Prop:=
 pK w0 SB Q w/\match o with
  | none=>w.heap[SB]? = some (.cells (qJ (.slice none 0 0) none none none) 146 (0,0))
  | some h=>∃ N pb mb db lb hb la ln lc,jL w0 SB Q h k w N pb mb db lb hb la ln lc
abbrev SK (w0:World) (Q:Nat->Prop):Nat->Prop:=fun i=>w0.heap.size<=i/\¬ Q i
section
variable {w0:World} {SB:Nat} {Q:Nat->Prop} {o:Option House} {h h':House} {k k':Nat} {w w':World} {N:Nat->Prop} {pb mb db lb hb:Nat} {la:Option Addr} {ln lc:Nat}
theorem jL.ext (s:jL w0 SB Q h k w N pb mb db lb hb la ln lc) (x:Ext w w'):jL w0 SB Q h k w' N pb mb db lb hb la ln lc:=
 ⟨kF s.blk x,s.st.ext x,Sl.below s.lv x.below,s.lf,s.nb,s.nq⟩
theorem pK.ext (s:pK w0 SB Q w) (x:Ext w w'):pK w0 SB Q w':=
 ⟨s.ex.trans x,s.sb,Nat.lt_of_lt_of_le s.lt x.below.size,s.qn,fun i hi=>Nat.lt_of_lt_of_le (s.ql i hi) x.below.size⟩
theorem Ses.ext (s:Ses w0 SB Q o k w) (x:Ext w w'):Ses w0 SB Q o k w':=by
 obtain ⟨b,s⟩:=s;refine ⟨b.ext x,?_⟩
 cases o with
 | none=>exact kF s x
 | some h=>
  obtain ⟨N,pb,mb,db,lb,hb,la,ln,lc,s⟩:=s;exact ⟨N,pb,mb,db,lb,hb,la,ln,lc,s.ext x⟩
theorem Ses.more (s:Ses w0 SB Q o k w) (hk:k<=k'):Ses w0 SB Q o k' w:=by
 obtain ⟨b,s⟩:=s;refine ⟨b,?_⟩
 cases o with
 | none=>exact s
 | some h=>
  obtain ⟨N,pb,mb,db,lb,hb,la,ln,lc,s⟩:=s;exact ⟨N,pb,mb,db,lb,hb,la,ln,lc,s.blk,s.st.more hk,s.lv,s.lf,s.nb,s.nq⟩
theorem Ses.grow {S:Nat->Prop} (s:Ses w0 SB Q o k w) (kk:fA S w w') (hs:∀ i,S i->Q i/\w0.heap.size<=i):Ses w0 SB (fun i=>Q i\/(w.heap.size<=i/\i<w'.heap.size)) o k w':=by
 obtain ⟨b,s⟩:=s;have hlt:=b.lt
 have nS:∀ i,¬ Q i->¬ S i:=fun i hq hi=>hq (hs i hi).1
 refine ⟨⟨Ext.of_below (bF b.ex.below (Nat.le_refl _) kk (fun i hi=>(hs i hi).2)),b.sb,Nat.lt_of_lt_of_le b.lt kk.size,?_,?_⟩,?_⟩
 ·rintro (hq|hq)
  ·exact b.qn hq
  ·omega
 ·rintro i (hq|hq)
  ·exact Nat.lt_of_lt_of_le (b.ql i hq) kk.size
  ·exact hq.2
 ·cases o with
  | none=>exact (kk.block SB b.lt (nS SB b.qn)).trans s
  | some h=>
   obtain ⟨N,pb,mb,db,lb,hb,la,ln,lc,s⟩:=s
   have hsN:∀ i,S i->N i/\w0.heap.size<=i:=fun i hi=>⟨s.nq i (hs i hi).1 (hs i hi).2,(hs i hi).2⟩
   refine ⟨_,pb,mb,db,lb,hb,la,ln,lc,(kk.block SB b.lt (nS SB b.qn)).trans s.blk,s.st.grow kk hsN,s.lv.keptS kk (fun h0 b o e=>nS b (s.lf h0 b o e).2.1),fun h0 c q e=>⟨Or.inl (s.lf h0 c q e).1,?_,(s.lf h0 c q e).2.2⟩,Or.inl s.nb,?_⟩
   ·rintro (hq|hq)
    ·exact (s.lf h0 c q e).2.1 hq
    ·have:=hq.1
     subst e;have:=Sl.block_ltC s.lv h0 (by intro s;simp [yB]);omega
   ·rintro i (hq|hq) hi
    ·exact Or.inl (s.nq i hq hi)
    ·exact Or.inr hq
theorem jL.next (s:jL w0 SB Q h k w N pb mb db lb hb la ln lc) (hlt:SB<w.heap.size) (kk:fA (yI w0 N) w w') (st':St w0 N pb mb db lb hb h' k' w') (hs:h'.sizes=h.sizes):jL w0 SB Q h' k' w' N pb mb db lb hb la ln lc:=
 ⟨(kk.block SB hlt (fun ho=>ho.2 s.nb)).trans s.blk,st',by rw [hs];exact s.lv.keptS kk (fun h0 b o e ho=>ho.2 (s.lf h0 b o e).1),s.lf,s.nb,s.nq⟩
theorem pK.next {S:Nat->Prop} (b:pK w0 SB Q w) (kk:fA S w w') (hs:∀ i,S i->w0.heap.size<=i):pK w0 SB Q w':=
 ⟨Ext.of_below (bF b.ex.below (Nat.le_refl _) kk hs),b.sb,Nat.lt_of_lt_of_le b.lt kk.size,b.qn,fun i hi=>Nat.lt_of_lt_of_le (b.ql i hi) kk.size⟩
theorem jL.wide (s:jL w0 SB Q h k w N pb mb db lb hb la ln lc):∀ i,yI w0 N i->SK w0 Q i:=fun i hi=>⟨hi.1,fun hq=>hi.2 (s.nq i hq hi.1)⟩
end
theorem mD {f:Int} (h:0<=f/\f<=999999):Hid (-9223372036854775808<=f/\f<=9223372036854775807):=by unfold Hid;omega
theorem leave_f {p:dA} (h:p.WF):(0<=p.leave.2.1/\p.leave.2.1<=999999)/\(0<=p.leave.2.2/\p.leave.2.2<=999999):=by
 have h1:=h.ba1;have h2:=h.ba2;unfold dA.leave
 split <;> dsimp only <;> omega
theorem walk_f (p:dA) (n:Int):0<=(p.walk n).2/\(p.walk n).2<=999999:=by
 unfold dA.walk
 split
 ·dsimp only;omega
 ·split <;> dsimp only <;> omega
theorem arrive_f (p:dA) (n:Int):0<=(p.arrive n).2/\(p.arrive n).2<=999999:=by
 unfold dA.arrive
 split
 ·dsimp only;omega
 ·split
  ·dsimp only;omega
  ·split <;> dsimp only <;> omega
theorem stall_f (p:dA) (n:Int):0<=(p.setStall n).2/\(p.setStall n).2<=999999:=by
 unfold dA.setStall
 split <;> dsimp only <;> omega
theorem wf_shown {p:dA} (h:p.WF):Shown p:=by
 obtain ⟨h1,h2,h3,h4,h5,h6,h7,h8,h9,h10,h11,h12,h13,h14,-,-⟩:=h;intro v hv;simp only [List.mem_cons,List.not_mem_nil,or_false] at hv
 rcases hv with rfl|rfl|rfl|rfl|rfl <;> omega
theorem book_jr {b:gB} {n:Int} (h:b.OK n):∀ j∈b.jobs,0<=j.ticket/\j.ticket<=999999:=fun j hj=>by
 obtain ⟨s,hs,e⟩:=h.found j hj;obtain ⟨-,-,h1,h2,-⟩:=h.stays.1 s hs;have:=h.l2;omega
theorem book_sr {b:gB} {n:Int} (h:b.OK n) (hn:n<=4):∀ s∈b.stays,(0<=s.ticket/\s.ticket<=999999)/\(0<=s.car.id/\s.car.id<=999999)/\(0<=s.home.level/\s.home.level<=999)/\(0<=s.home.side/\s.home.side<=999)/\(0<=s.home.depth/\s.home.depth<=999):=fun s hs=>by
 obtain ⟨h0,h3,h1,h2,-⟩:=h.stays.1 s hs;have hl:=h.l2;have h4:=uC.1 h3
 have h5:¬ (s.car.id<1\/999<s.car.id):=by
  intro e;unfold gC at h0;rw [if_pos e] at h0;cases h0
 omega
theorem bookC_ext {w w':World} {hb:Nat} {last:Int} {l:List sA} {js:List Job} (h:BookC w hb last l js) (x:Ext w w'):BookC w' hb last l js:=fun wq y=>h wq (x.trans y)
section
variable {w0:World} {SB:Nat} {Q:Nat->Prop} {h:House} {k:Nat} {w:World} {N:Nat->Prop} {pb mb db lb hb:Nat} {la:Option Addr} {ln lc:Nat}
def SesR (w0:World) (SB:Nat) (Q:Nat->Prop) (h':House) (k':Nat) (w:World) (r:Value) (e:Ending) (w':World):Prop:=
 e = .returned r/\Ses w0 SB Q (some h') k' w'/\fA (SK w0 Q) w w'
theorem jL.ses (s:jL w0 SB Q h k w N pb mb db lb hb la ln lc) (b:pK w0 SB Q w):Ses w0 SB Q (some h) k w:=⟨b,N,pb,mb,db,lb,hb,la,ln,lc,s⟩
theorem jL.did {h':House} {k':Nat} {w' w2:World} (s:jL w0 SB Q h k w N pb mb db lb hb la ln lc) (b:pK w0 SB Q w) (kk:fA (yI w0 N) w w') (st':St w0 N pb mb db lb hb h' k' w') (hs:h'.sizes=h.sizes) (x:Ext w' w2):Ses w0 SB Q (some h') k' w2/\fA (SK w0 Q) w w2:=
 ⟨((s.next b.lt kk st' hs).ses (b.next kk (fun i hi=>hi.1))).ext x,(kk.wide s.wide).trans (fA.of_ext x)⟩
theorem jL.did2 {h':House} {k' k2:Nat} {w' w2:World} (s:jL w0 SB Q h k w N pb mb db lb hb la ln lc) (b:pK w0 SB Q w) (kk:fA (yI w0 N) w w') (st':St w0 N pb mb db lb hb h' k' w') (hs:h'.sizes=h.sizes) (x:Ext w' w2) (hk:k'<=k2):Ses w0 SB Q (some h') k2 w2/\fA (SK w0 Q) w w2:=
 ⟨(s.did b kk st' hs x).1.more hk,(s.did b kk st' hs x).2⟩
theorem jL.same {w2:World} (s:jL w0 SB Q h k w N pb mb db lb hb la ln lc) (b:pK w0 SB Q w) (x:Ext w w2):Ses w0 SB Q (some h) k w2/\fA (SK w0 Q) w w2:=⟨(s.ses b).ext x,fA.of_ext x⟩
theorem jL.bookC (s:jL w0 SB Q h k w N pb mb db lb hb la ln lc):BookC w hb h.b.last h.b.stays h.b.jobs:=fun wq x=>by
 refine (st_book (s.st.ext x)).mono ?_;rintro r w' ⟨y1,d1,y2,d2,rfl,t1,t2,t3,-,-⟩;exact ⟨y1,d1,y2,d2,rfl,t1,t2,t3⟩
theorem alone_any (s:jL w0 SB Q h k w N pb mb db lb hb la ln lc) (b:pK w0 SB Q w) (L:kL w0) (wd:ByteArray):
  Calls prog 139 #[.pointer (some ⟨SB,0,none⟩),.string wd] w (SesR w0 SB Q (xJ h wd).1 k w (.tuple #[.string ((xJ h wd).2.getD ⟨#[]⟩),.bool (xJ h wd).2.isSome])):=by
 have c1:cV w SB 1 (.pointer (some ⟨pb,0,none⟩)):=tA s.blk rfl;have hlt:=cA c1;have HWF:Hid (h.p.WF):=s.st.wf;have HLF:=aA (leave_f s.st.wf);have HTB:=aA (L.tab.ext b.ex);have HP:=aA s.st.plantAt;have hll:=s.lv.len;have HS:=aA s;have HB:=aA b;have HBL:=aA s.blk;have hlv:=jD s.st.inv.inv.lv
 have hl4:ln<=4:=by rw [<-hll];exact hlv.2
 have HOK:=aA s.st.inv.inv.core.book;have HLL:=aA hll;have HSH:=aA (wf_shown HWF.out)
 have HSV:Hid (∀ x,0<=h.p.slots x/\h.p.slots x<=999999):=fun x=>by have:=HWF.out.sv x;omega
 have HBC:=aA s.bookC;have HT0:=aA L.tab
 obtain ⟨hs16,hj8⟩:h.b.stays.length<=16/\h.b.jobs.length<=8:=⟨HOK.out.s16,HOK.out.j8⟩
 have HJR:Hid (∀ j∈h.b.jobs,0<=j.ticket/\j.ticket<=999999):=book_jr HOK.out;have HSR:=aA (book_sr HOK.out (show ((h.sizes.length:Nat):Int)<=4 by have:=hlv.2;omega));unfold xJ;clear s b L hll hlv
 by_cases hk0:wd=wLeave
 ·rw [if_pos hk0]
  subst hk0
  obtain ⟨v1,HV1⟩:∃ v,Hid (h.p.leave.2.1=v):=⟨_,rfl⟩
  obtain ⟨f,HFE⟩:∃ v,Hid (h.p.leave.2.2=v):=⟨_,rfl⟩
  obtain ⟨V,HEV⟩:∃ v,Hid (aC f=v):=⟨_,rfl⟩
  have HR1:=mD HLF.out.1;have HR2:=mD HLF.out.2;rw [HV1.out] at HR1;rw [HFE.out] at HR2;go_enter func139,ntmps139
  go_wp2_with (first
   | (go_at_call 61;refine (leave_any (HP.out.ext eX)).mono ?_;rw [HV1.out,HFE.out,HEV.out];rintro e w1 ⟨rfl,hq1,hk1⟩;have HK1:Hid (fA (Own pb mb) w w1):=(fA.of_ext eX:fA (Own pb mb) w _).trans hk1;have HST:=aA (HS.out.st.plant HK1.out hq1 (Live.inv2_plant HS.out.st.inv HWF.out.leave));have HX1:Hid (Ext w0 w1):=(HB.out.next HST.out.2 (fun i hi=>hi.1)).ex;clear hq1 hk1)
   | (go_at_call 141;(with_reducible refine (told_any v1 f V HEV _ HR1 HR2 (HT0.out.ext (HX1.out.trans eX))).mono ?_);rintro e w2 ⟨rfl,o2,n2,rfl⟩))
  go_ret2
  exact ⟨by rw [HV1.out,HFE.out];rfl,HS.out.did HB.out HST.out.2 HST.out.1 rfl eX⟩
 rw [if_neg hk0];have n0:(wd.toList==[108,101,97,118,101])=false:=wD hk0
 by_cases hk1:wd=wPlant
 ·rw [if_pos hk1]
  clear n0 hk0;subst hk1;go_enter func139,ntmps139;go_wp2_with (go_at_call 178;(with_reducible refine (cplant_any (kF HBL.out eX) (HP.out.ext eX) HWF.out HSH (HTB.out.ext eX)).mono ?_);rintro e w2 ⟨rfl,o2,n2,rfl⟩)
  go_ret2
  exact ⟨rfl,HS.out.same HB.out eX⟩
 rw [if_neg hk1];have n1:(wd.toList==[112,108,97,110,116])=false:=wD hk1
 by_cases hk2:wd=wCars
 ·rw [if_pos hk2]
  clear n0 hk0 n1 hk1;subst hk2;go_enter func139,ntmps139;go_wp2_with (go_at_call 179;(with_reducible refine (ccars_any (kF HBL.out eX) (HP.out.ext eX) hl4 HSV (HTB.out.ext eX)).mono ?_);rintro e w2 ⟨rfl,o2,n2,rfl⟩)
  go_ret2
  exact ⟨by rw [HLL.out];rfl,HS.out.same HB.out eX⟩
 rw [if_neg hk2];have n2:(wd.toList==[99,97,114,115])=false:=wD hk2
 by_cases hk3:wd=wStays
 ·rw [if_pos hk3]
  clear n0 hk0 n1 hk1 n2 hk2;subst hk3;go_enter func139,ntmps139;go_wp2_with (go_at_call 180;(with_reducible refine (cstays_any (kF HBL.out eX) (bookC_ext HBC.out eX) HSR om (HTB.out.ext eX)).mono ?_);rintro e w2 ⟨rfl,o2,n2,rfl⟩)
  go_ret2
  exact ⟨rfl,HS.out.same HB.out eX⟩
 rw [if_neg hk3];have n3:(wd.toList==[115,116,97,121,115])=false:=wD hk3
 by_cases hk4:wd=wJobs
 ·rw [if_pos hk4]
  clear n0 hk0 n1 hk1 n2 hk2 n3 hk3;subst hk4;go_enter func139,ntmps139;go_wp2_with (go_at_call 181;(with_reducible refine (cjobs_any (kF HBL.out eX) (bookC_ext HBC.out eX) HJR om (HTB.out.ext eX)).mono ?_);rintro e w2 ⟨rfl,o2,n2,rfl⟩)
  go_ret2
  exact ⟨rfl,HS.out.same HB.out eX⟩
 rw [if_neg hk4];have n4:(wd.toList==[106,111,98,115])=false:=wD hk4;clear hk0 hk1 hk2 hk3 hk4;go_enter func139,ntmps139;go_wp2
 go_ret2
 exact ⟨rfl,HS.out.same HB.out eX⟩
end
theorem ticks_sizesC:∀ (n:Nat) (h:House),(House.ticks n h).sizes=h.sizes
 | 0,_=>rfl
 | n+1,h=>(ticks_sizesC n h.tick).trans (by
   unfold House.tick
   split
   ·split <;> rfl
   ·rfl)
section
variable {w0:World} {SB:Nat} {Q:Nat->Prop} {h:House} {k:Nat} {w:World} {N:Nat->Prop} {pb mb db lb hb:Nat} {la:Option Addr} {ln lc:Nat}
theorem cticks_any (s:jL w0 SB Q h k w N pb mb db lb hb la ln lc) (b:pK w0 SB Q w) (L:kL w0) (n:Int) (n0:0<=n) (n9:n<=999999) (hk:k+203<4294967296):
  Calls prog 182 #[.pointer (some ⟨SB,0,none⟩),vi n] w (SesR w0 SB Q (House.ticks (min n 200).toNat h) (k+200) w (.string okB)):=by
 have HS:=aA s;have HB:=aA b;have HT0:=aA L.tab;clear s b L
 obtain ⟨M,hM⟩:∃ M:Nat,(min n 200).toNat=M:=⟨_,rfl⟩
 have hM2:min n 200=(M:Int):=om
 have hM3:M<=200:=om
 have HMM:=aA hM;rw [hM];clear hM;go_enter func182,ntmps182
 go_upto_region 2 with fail
 clear hM2
 go_loopw [8] (fun i wr=>∃ j:Nat,j<=M/\i = .int .i64 (j:Int)/\Hid (jL w0 SB Q (House.ticks j h) (k+j) wr N pb mb db lb hb la ln lc)/\Hid (pK w0 SB Q wr)/\Hid (fA (yI w0 N) w wr)) (fun i _=>M - (intOf i).toNat)
 case atStart=>exact ⟨0,om,rfl,HS.out.ext eX,HB.out.ext eX,fA.of_ext eX⟩
 case round=>
  obtain ⟨j,hj,rfl,HSR,HBR,HKR⟩:=hrel;have c3:cV wr SB 3 (.pointer (some ⟨hb,0,none⟩)):=tA HSR.out.blk rfl;have hlt:=cA c3
  by_cases hjm:j<M
  ·have hji:(j:Int)<(M:Int):=om
   have hk2:k+j+2<4294967296:=om
   go_wp2_with (go_at_call 20;refine (st_tick (HSR.out.st.ext eX) hk2 HT0.out).mono ?_;rintro r w2 ⟨rfl,hk1,hs1⟩;have HK1:Hid (fA (yI w0 N) wr w2):=(fA.of_ext eX:fA (yI w0 N) wr _).trans hk1;have HS1:=aA hs1;clear hk1 hs1);have HS2:=aA (HSR.out.next HBR.out.lt HK1.out HS1.out ((ticks_sizesC 1 _)));have HB2:=aA (HBR.out.next HK1.out (fun i hi=>hi.1));go_roundw
   case rel=>exact ⟨j+1,om,by go_num,by unfold Hid;rw [Live.ticks_add j 1];exact HS2.out.ext eX,HB2.out.ext eX,HKR.out.trans (HK1.out.trans (fA.of_ext eX))⟩
   case measure=>simp [intOf];omega
  ·have hje:j=M:=om
   subst hje;go_wp2;go_ret;exact ⟨rfl,((HSR.out.ses HBR.out).ext eX).more om,(HKR.out.trans (fA.of_ext eX)).wide HS.out.wide⟩
end
theorem copen_any {SB:Nat} {lv:Value} {p d h0:Option Addr} {P:Nat->World->Prop} {w:World} (hb0:w.heap[SB]? = some (.cells (qJ lv p d h0) 146 (0,0)))
  (hc:∀ wq,Ext w wq->Calls prog 11 #[lv,.pointer p,.pointer d] wq fun r w'=>∃ hb',r = .returned (.tuple #[.pointer (some ⟨hb',0,none⟩),.nilIface])/\Ext wq w'/\P hb' w') (hP:∀ i a b,Ext a b->P i a->P i b):
  Calls prog 177 #[.pointer (some ⟨SB,0,none⟩)] w fun e w'=>∃ hb' w1,e = .returned .nilIface/\Ext w w1/\P hb' w1/\w'=w1.setCell ⟨SB,3,none⟩ (.pointer (some ⟨hb',0,none⟩)):=by
 have c0:cV w SB 0 lv:=tA hb0 rfl;have c1:cV w SB 1 (.pointer p):=tA hb0 rfl;have c2:cV w SB 2 (.pointer d):=tA hb0 rfl;have c3:cV w SB 3 (.pointer h0):=tA hb0 rfl
 have cf:∀ w',Ext w w'->w'.frozen? ⟨SB,3,none⟩=false:=fun w' x=>vA (kF hb0 x) 3
 have hlt:=cA c0;have HC:=aA hc;have HP:=aA hP;have HF:=aA cf;clear hb0 hc hP cf;go_enter func177,ntmps177
 go_upto_region 1 with fail
 go_region_held3 (fun w'=>w'.cell? ⟨SB,0,none⟩=some lv/\w'.cell? ⟨SB,1,none⟩=some (.pointer p)/\w'.cell? ⟨SB,2,none⟩=some (.pointer d))
  (first|((try dsimp only);(repeat' apply And.intro) <;> (first|assumption|exact xC (w:=w)|exact xC (w:=w1))))
  (first|(go_at_call 11;refine (HC.out _ eX).mono ?_;rintro r w1 ⟨hb',rfl,hx,hp⟩;have HX1:Hid (Ext w w1):=Ext.trans eX hx;have HQ:=aA hp;have d0:=gA HX1.out c0;have d1:=gA HX1.out c1;have d2:=gA HX1.out c2;have d3:=gA HX1.out c3;have dl:=cA d0;clear hx hp))
 all_goals
  have df:=HF.out w1 HX1.out;go_wp2_with fail;go_ret;exact ⟨hb',w1,rfl,HX1.out,HQ.out,rfl⟩
end Go.Proofs.YtplomeacjbkgnabGreatDoor
namespace Go.Proofs.YtplomeacjbkgnabGreatDoor
open Go.ChangeShapes Go.WideShapes Go.ChangeAt Go.RowKit Tryz Ch
def Rd {H:Type} (enc:TypeId×Value->H) (P:Program) (w:World) (t:TypeId) (cs:List Value):Prop:=∃ fuel x,DataW.trod enc P w 0 (fun _=>true) true fuel t cs=some x
section
variable {H:Type} {enc:TypeId×Value->H} {P:Program} {w:World}
theorem rd_string {t:TypeId} {cs:List Value} (ht:P.underlying t=some .string) (h:Rd enc P w t cs):∃ s:ByteArray,cs=[.string s]/\s.size<=maxLen:=by
 obtain ⟨fuel,x,hx⟩:=h;obtain ⟨b,rfl,_,hb⟩:=DataW.trod_string ht hx;exact ⟨b,rfl,hb⟩
theorem rd_slice {t e:TypeId} {cs:List Value} {c:Nat} (ht:P.underlying t=some (.slice e)) (hc:P.cellsOf e=c) (h:Rd enc P w t cs):
  ∃ a len cap,cs=[.slice a len cap]/\len<=cap/\cap<=maxLen/\(a=none->len=0/\cap=0) /\
   ∀ ad,a=some ad->∀ i,i<len->∃ ecs:List Value,ecs.length=c/\Rd enc P w e ecs/\∀ j y,ecs[j]? = some y->w.cell? ((ad.add (i * c)).add j)=some y:=by
 obtain ⟨fuel,x,hx⟩:=h;subst hc
 rcases DataW.trod_slice ht hx with ⟨rfl,_⟩|⟨a,len,cap,elems,rest,n,rfl,rfl,_,_,hl,hcap,hel,hat,_⟩
 ·exact ⟨none,0,0,rfl,Nat.le_refl _,Nat.zero_le _,fun _=>⟨rfl,rfl⟩,fun _ h=>by cases h⟩
 ·refine ⟨some a,len,cap,rfl,hl,hcap,(fun h=>by cases h),?_⟩
  intro ad had i hi;cases had;have hh:=hat i hi
  have hlt:i<elems.length:=om
  rw [List.getElem?_eq_getElem hlt] at hh;simp only [Option.bind_eq_some_iff] at hh;obtain ⟨ecs,h1,h2⟩:=hh;obtain ⟨_,h3,h4⟩:=World.cells?_some h1;refine ⟨ecs,h3,⟨n,_,h2⟩,fun j y hy=>?_⟩
  have hj:j<ecs.length:=by
   by_cases hj:j<ecs.length
   ·exact hj
   ·rw [List.getElem?_eq_none om] at hy;cases hy
  rw [h4 j om,hy]
end
theorem add_add (a:Addr) (m n:Nat) (h:a.spot=none):(a.add m).add n=⟨a.block,a.off+m+n,none⟩:=by
 obtain ⟨b,o,s⟩:=a;simp only at h;subst h;unfold Addr.add
 by_cases hm:m=0 <;> by_cases hn:n=0 <;> simp [hm,hn]
theorem rd_list {H:Type} {enc:TypeId×Value->H} {P:Program} {w:World} {α:Type} {t e:TypeId} {cs:List Value} {c:Nat} (cells:α->List Value) (good:α->Prop) (hc0:0<c) (hlen:∀ x,(cells x).length=c)
  (ht:P.underlying t=some (.slice e)) (hc:P.cellsOf e=c)
  (he:∀ ecs,Rd enc P w e ecs->∃ x:α,ecs=cells x/\good x) (h:Rd enc P w t cs):
  ∃ l a n cap,cs=[.slice a n cap]/\Sl w c cells l a n cap/\∀ x∈l,good x:=by
 obtain ⟨a,len,cap,rfl,h1,h2,h3,h4⟩:=rd_slice ht hc h
 cases a with
 | none=>
  obtain ⟨rfl,rfl⟩:=h3 rfl;exact ⟨[],none,0,0,rfl,Sl.nil w c cells,sp⟩
 | some ad=>
  have key:∀ m,m<=len->∃ l:List α,l.length=m/\(∀ x∈l,good x)/\∀ i x,l[i]? = some x->∀ j y,(cells x)[j]? = some y->w.cell? ((ad.add (i * c)).add j)=some y:=by
   intro m
   induction m with
   | zero=>intro _;exact ⟨[],rfl,sp,by intro i x hx;simp at hx⟩
   | succ m ih=>
    intro hm;obtain ⟨l,hl,hg,hx⟩:=ih om;obtain ⟨ecs,hel,hrd,hcell⟩:=h4 ad rfl m om;obtain ⟨x,rfl,hgx⟩:=he ecs hrd;refine ⟨l++[x],by simp [hl],by intro y hy;simp at hy;rcases hy with hy|rfl;exact hg y hy;exact hgx,?_⟩;intro i y hy j z hz
    by_cases hi:i<l.length
    ·rw [List.getElem?_append_left hi] at hy
     exact hx i y hy j z hz
    ·rw [List.getElem?_append_right om] at hy
     have:i - l.length=0:=by
      by_cases h0:i - l.length=0
      ·exact h0
      ·rw [List.getElem?_eq_none so] at hy;cases hy
     rw [this] at hy;simp at hy;subst hy
     have hi2:i=m:=om
     subst hi2;exact hcell j z hz
  obtain ⟨l,hl,hg,hx⟩:=key len (Nat.le_refl _)
  have hspot:0<len->ad.spot=none:=by
   intro hlen0
   have hl0:0<l.length:=om
   have h0:=hx 0 (l[0]) sp 0 ((cells l[0])[0]'(by rw [hlen];exact hc0)) sp;simp only [Nat.zero_mul,Addr.add,if_true] at h0;obtain ⟨b,o,s⟩:=ad
   cases s with
   | none=>rfl
   | some s=>simp [World.cell?] at h0;split at h0 <;> simp at h0
  refine ⟨l,some ad,len,cap,rfl,⟨hl,h1,h2,fun h0=>⟨ad.block,ad.off,?_,?_⟩⟩,hg⟩
  ·have:=hspot h0
   cases ad;simp at this ⊢;exact this
  ·intro i x hix j y hy
   have:=hx i x hix j y hy;rw [add_add _ _ _ (hspot h0)] at this;exact this
section
variable {H:Type} {enc:TypeId×Value->H} {w:World}
end
theorem rd_of_trod {H:Type} {enc:TypeId×Value->H} {P:Program} {w:World} {t:TypeId} {v:Value} {d:DataW H} {p:List MemPlace} (h:DataW.Trod enc P w 0 (fun _=>true) true t v d p):Rd enc P w t v.cells.toList:=by
 obtain ⟨fuel,hf⟩:=h;exact ⟨fuel,_,hf⟩
theorem handed_laid_shaped {H:Type} {enc:TypeId×Value->H} {a:Assume} {C:Checked} {os:Os} {f:FuncId} {fn:Func} {s:ChangeSpec} {conds:List PathCond} {apart fresh handsOn again:Bool} {X:World->Array Value->Prop}
  (hX:∀ (w w':World) (args:Array Value),w.heap=w'.heap->X w args->X w' args)
  (own:ownKnob C.prog.godebug=none) (started:os.Started) (noInit:C.prog.inits.idxOf? f=none) (hfn:C.prog.funcs[f]? = some fn)
  (witness:∃ (w:World) (tape:Tape) (i:Input),w.os=os/\(w.forCall tape i).Shaped C.prog/\i.vars=[]/\Input.okWide C.prog (w.forCall tape i) .any w.heap.size f i /\
   ((s.pre enc C.prog fn conds apart (w.forCall tape i).memory i.args/\X (w.forCall tape i).memory i.args)/\sizedMet enc C.prog fn (OpenSpec.ofChange s) apart (w.forCall tape i).memory i.args)/\a.holds C.prog (lone (Frame.enter C.prog f i.args .normal) [] (w.forCall tape i)))
  (contract:∀ (W:World) (base:Nat) (args:Array Value) (ds gs:List (DataW H)) (before:List MemPlace),
   (∀ (j:Nat) t v,fn.params[j]? = some t->args[j]? = some v->Value.okWide C.prog W .any base t v) ->
   DataW.Whole enc C.prog fn.params.toList s.vars apart W args.toList ds gs before ->
   (DataW.weightsEach C.prog (fn.params.toList++s.plain.varTypes C.prog) (ds++gs)).all (·<=reachBytes)=true->X W args->W.ShapedOpen C.prog ->
   Calls C.prog f args W fun e W'=>∃ v,e = .returned v/\s.post enc C.prog fn apart fresh handsOn again W args v W'):
  ReturnsInHanded a C os f .any (fun w args=>(s.pre enc C.prog fn conds apart w args/\X w args)/\sizedMet enc C.prog fn (OpenSpec.ofChange s) apart w args) (s.post enc C.prog fn apart fresh handsOn again):=by
 refine returnsInHanded_of_calls own started noInit witness fun w tape i _ hshape _ hok hpre _=>?_
 obtain ⟨_,_,_,g,hg,_,_,_,_,hval⟩:=hok;obtain rfl:g=fn:=Option.some.inj (hg.symm.trans hfn);obtain ⟨⟨⟨ds,gs,before,hw,_⟩,hx⟩,hz⟩:=hpre;refine (contract (w.forCall tape i) w.heap.size i.args ds gs before hval (DataW.Whole.of_heap (by rfl) hw) (hz.weights hw) (hX _ _ _ (by rfl) hx) hshape).mono ?_;rintro e W' ⟨v,rfl,hp⟩;exact ChangeSpec.post_blind hp
def starN:String:=String.ofList (Char.ofNat 42 :: String.toList "errors.errorString")
theorem star_rows:∀ t,t=starN->((List.range prog.types.size).all fun u=>prog.typeName? 3 u != some t || u==279)=true:=by
 intro t ht;subst ht;kernel_rfl
theorem rowErr (s:String) (hs:s=starN) (u:TypeId) (h:prog.typeName? 3 u=some s):u=279:=
 typeName_ptr_named (nm := "errors.errorString") (star_rows _ dc) kR dc u (by rw [h,hs];exact congrArg some dc)
theorem tab_of {w:World} {name:String} (hg:prog.globalNamed name=some 0) (h:Lib.TabIs prog w name .u64 Lib.pow10Tab):Tab w:=by
 unfold Lib.TabIs World.var? at h;rw [hg] at h;simp only [Option.bind_some] at h
 split at h
 ·rename_i cs t fr hb
  cases h;exact ⟨t,fr,hb⟩
 ·cases h
theorem cell_of_var {w:World} {name:String} {g:Nat} {tp:TypeId} {p:Value} (hg:prog.globalNamed name=some g) (h:w.var? prog name=some #[.iface tp p]):w.cell? ⟨g,0,none⟩=some (.iface tp p):=by
 have h0:=World.var?_cell hg h 0
 simpa using h0
theorem libs_of {w:World} {n0 n1 n2 n3 n4 n5:String} {d0 d1 d2 d3 d4 d5:DataW Unit} {s4 s5:String} {x4 x5:List UInt8} {r:List (String×DataW Unit)}
  (h:laidMet prog ((n0,d0) :: (n1,d1) :: (n2,d2) :: (n3,d3) :: (n4,d4) :: (n5,d5) :: r) w) (hs:w.ShapedOpen prog)
  (e2:d2=Lib.tabData .u64 Lib.pow10Tab) (e4:d4 = .iface s4 (.ptr (.agg [.lit (.string x4)]))) (q4:s4=starN) (e5:d5 = .iface s5 (.ptr (.agg [.lit (.string x5)]))) (q5:s5=starN)
  (g2:prog.globalNamed n2=some 0) (g4:prog.globalNamed n4=some 2) (g5:prog.globalNamed n5=some 1):kL w:=by
 subst e2 e4 e5;have h2:=h.tail.tail;obtain ⟨_,_,hv4,-,-,-⟩:=laid_sentinel h2.tail.tail g4 kR (underlying29) (rowErr _ q4) underlying279 underlying281 rfl rfl underlying9 kR kR;obtain ⟨_,_,hv5,-,-,-⟩:=laid_sentinel h2.tail.tail.tail g5 kR (underlying29) (rowErr _ q5) underlying279 underlying281 rfl rfl underlying9 kR kR;exact ⟨tab_of g2 (Lib.tabIs_of_head g2 (t:=264) (e:=57) (n:=20) kR kR kR kR kR h2),Tryz.laysM146.s1_3 w hs,⟨_,_,cell_of_var g5 hv5⟩,⟨_,_,cell_of_var g4 hv4⟩⟩
