import Derived.Test.YtplomeacjbkgnabGreatDoorZ49
set_option linter.all false
set_option maxRecDepth 100000
set_option maxHeartbeats 16000000
namespace Go.Proofs.YtplomeacjbkgnabGreatDoor
open Go.RowKit Tryz Ch
theorem head_cell {w:World} {x:ByteArray} {r:List ByteArray} {b n cap:Nat} (h:Sl w 1 bC (x :: r) (some ⟨b,0,none⟩) n cap):w.cell? ⟨b,0,none⟩=some (.string x):=by
 have hl:=h.len;simp only [List.length_cons] at hl;obtain ⟨y,hy,dy⟩:=h.get' (show 0<n by omega);cases hy;exact at1 dy
theorem park_sizesC (h:House) (c:Car):(h.park c).1.sizes=h.sizes:=by
 unfold House.park
 split
 ·rfl
 ·split <;> rfl
theorem car_f (c:Car):0<=gC c/\gC c<=999999:=by
 unfold gC iC
 repeat' split
 all_goals omega
theorem park_f {h:House} {n:Int} (hb:h.b.OK n) (c:Car):(0<=(h.park c).2.1/\(h.park c).2.1<=999999)/\(0<=(h.park c).2.2/\(h.park c).2.2<=999999):=by
 have hc:=car_f c;have l1:=hb.l1;have l2:=hb.l2;unfold House.park park
 by_cases h1:h.p.bay≠c.id
 ·rw [if_pos h1];dsimp only;omega
 rw [if_neg h1]
 by_cases h2:gC c≠0
 ·rw [if_pos h2];dsimp only;omega
 rw [if_neg h2]
 by_cases h3:(h.b.of c.id).isSome
 ·rw [if_pos h3];dsimp only;omega
 rw [if_neg h3]
 cases pick h.b h.sizes c with
 | none=>dsimp only;omega
 | some p=>
  dsimp only
  by_cases h4:h.b.last=999999\/h.b.jobs.length=8
  ·rw [if_pos h4];dsimp only;omega
  ·rw [if_neg h4];dsimp only;omega
theorem four_of {N:List Int} (h:N.length=4):∃ a b c d,N=[a,b,c,d]:=by
 match N,h with
 | [a,b,c,d],_=>exact ⟨a,b,c,d,rfl⟩
theorem one_of {N:List Int} (h:N.length=1):∃ a,N=[a]:=by
 match N,h with
 | [a],_=>exact ⟨a,rfl⟩
theorem restB_else {h:House} {w:ByteArray} {N:List Int} (h0:N.length≠0) (h1:N.length≠1) (h4:¬ (N.length=4/\w=wPark)):restB (some h) w N=(some h,zG 4):=by
 unfold restB
 match N,h0,h1,h4 with
 | [],h0,_,_=>exact absurd rfl h0
 | [x],_,h1,_=>exact absurd rfl h1
 | [a,b],_,_,_=>rfl
 | [a,b,c],_,_,_=>rfl
 | [a,b,c,d],_,_,h4=>exact if_neg fun e=>h4 ⟨rfl,e⟩
 | a :: b :: c :: d :: e :: r,_,_,_=>rfl
section
variable {w0:World} {SB:Nat} {Q:Nat->Prop} {o:Option House} {k:Nat} {w:World}
theorem say_ok (s:Ses w0 SB Q o k w) (L:kL w0) (line:ByteArray) (hb:line.size<=60) {hd:ByteArray} {r:List ByteArray} {N:List Int} (hw:bD line=hd :: r) (hn:vI r=some N) (hk:k+203<4294967296) (ha:hd=wArm->N.length≠1):
  Calls prog 75 #[.pointer (some ⟨SB,0,none⟩),.string line] w (SayR w0 SB Q (vM o line).1 (k+200) w (vM o line).2):=by
 rw [sayB_is o hb hw hn]
 have HSZ:Hid (line.size<=1000000):=by unfold Hid;omega
 have HWS:Hid (∀ x∈r,x.size<=1000000):=fun x hx=>by
  obtain ⟨i,hi⟩:=List.mem_iff_getElem?.1 (show x∈bD line by rw [hw];exact List.mem_cons_of_mem _ hx);have:=word_size hi;omega
 have hrl:r.length<=60:=by
  have h1:=eJ line;have h2:=nJ line;rw [hw] at h1;simp only [List.length_cons] at h1;omega
 have HNR:=aA (numsB_r hn)
 have hNr:N.length<=60:=by rw [(numsB_r hn).1];exact hrl
 have HW:=aA hw;have HO:=aA hn;have HS:=aA s;have HL:=aA L;have HLW:=aA (L.ext s.1.ex);have HA:=aA ha
 obtain ⟨P,HP⟩:∃ P,Hid ((if hd=wTower/\0<N.length/\N.length % 3=0 then (if jB (gD N)=0 then (some (House.new (gD N)),okB) else (o,zG (jB (gD N)))) else restB o hd N)=P):=⟨_,rfl⟩
 rw [HP.out];obtain ⟨o',R⟩:=P
 have hb0:¬ (60:Int)<(line.size:Int):=om
 clear s L hw hn hb ha;dsimp only;go_enter func75,ntmps75
 go_upto_region 2 with (go_at_call 135;(with_reducible refine (split_any line _ HSZ (HLW.out.ext eX)).mono ?_);rw [HW.out];rintro e w1 ⟨wb,wn,rfl,hsl,hwn,hx1⟩;have HX1:Hid (Ext w w1):=Ext.trans eX hx1;clear hx1)
 have hwl:wn=r.length+1:=hwn.out;subst hwl;have HT:Hid (Sl w1 1 bC r (some ⟨wb,1,none⟩) r.length r.length):=sl_tail hsl;have HC:=aA (head_cell hsl);have s1:=hsl.bound.2;clear hsl hwn
 go_cut [5,6,7,10] (fun s5 s6 s7 s10 wx=>∃ (g:Option Addr) (d c5:Nat),s5 = .slice (some ⟨wb,0,none⟩) c5 c5/\0<c5/\s6 = .slice g N.length d/\s7 = .bool true/\Hid (Ext w wx)/\wx.cell? ⟨wb,0,none⟩=some (.string hd)/\Hid (Sl wx 1 jG N g N.length d)/\Hid (∀ b q,g=some ⟨b,q,none⟩->w.heap.size<=b))
 case first=>
  go_wp2_with (go_at_call 136;(with_reducible refine (numbers_yes N (l:=r) (by first|exact HT.out|exact sl_gone ‹r=[]› _) HWS om (HLW.out.ext (HX1.out.trans eX)) HO).mono ?_);rintro e w2 ⟨g,d,rfl,hsn,hnw,o2,n2,rfl⟩;have HSN:=aA hsn;have HNW:=aA hnw;clear hsn hnw)
  all_goals
   go_meet;exact ⟨_,_,_,rfl,om,rfl,rfl,HX1.out.trans eX,gA eX HC.out,HSN,fun b q e=>Nat.le_trans (HX1.out.trans eX).below.size (HNW.out b q e)⟩
 case rest=>
  obtain ⟨g,d,c5,rfl,h5,rfl,rfl,HX,cw,HSN,HNW⟩:=hcut;have cl:=cA cw;clear HT HC HSZ HWS s1 hrl
  by_cases hT:hd=wTower/\0<N.length/\N.length % 3=0
  ·obtain ⟨m,hm⟩:∃ m,N.length=3 * m:=⟨N.length / 3,om⟩
   have hm0:0<m:=om
   rw [if_pos hT] at HP;obtain ⟨rfl,hT1,hT2⟩:=hT
   have t1:(0:Int)<(N.length:Int):=om
   have t2:(N.length:Int) % 3=0:=om
   have HE:Hid ((if jB (gD N)=0 then okB else zG (jB (gD N)))=R/\(if jB (gD N)=0 then some (House.new (gD N)) else o)=o'):=by
    have hp:=HP.out
    split at hp <;> cases hp <;> simp_all
   clear HP hT1 hT2;have HBG:=aA (fun wq (x:Ext wc wq)=>begin_any (HS.out.ext (HX.out.trans x)) HL.out N (Sl.below HSN.out x.below) m hm hm0 om);rw [HE.out.1,HE.out.2] at HBG;clear hm hm0;go_wp2_with (go_at_call 138;refine (HBG.out _ eX).mono ?_;rintro e w2 ⟨rfl,hs2,hk2⟩;have HS2:=aA hs2;have HK2:Hid (fA (SK w0 Q) wc w2):=(fA.of_ext eX:fA (SK w0 Q) wc _).trans hk2;clear hs2 hk2);go_ret;exact ⟨rfl,(HS2.out.more om).ext eX,(fA.of_ext HX.out).trans (HK2.out.trans (fA.of_ext eX))⟩
  ·rw [if_neg hT] at HP
   go_upto_region 7 with fail
   go_cut [27] (fun s27 wx=>s27 = .bool false/\wx=wc)
   case first=>
    by_cases h1:hd=wTower
    ·subst h1
     by_cases h2:(0:Int)<(N.length:Int)
     ·have t2:¬ (N.length:Int) % 3=0:=fun e=>hT ⟨rfl,om,om⟩
      clear hT;go_wp2_with fail;go_meet;exact ⟨by simp [t2],rfl⟩
     ·clear hT
      go_wp2_with fail;go_meet;exact ⟨rfl,rfl⟩
    ·have h2:(hd.toList==[116,111,119,101,114])=false:=wD h1
     clear hT;go_wp2_with fail;go_meet;exact ⟨rfl,rfl⟩
   case rest=>
    obtain ⟨rfl,rfl⟩:=hcut;clear hT
    cases o with
    | none=>
     obtain ⟨rfl,rfl⟩:none=o'/\zG 7=R:=by have hp:=HP.out;cases hp;exact ⟨rfl,rfl⟩
     have c3:cV wc SB 3 (.pointer none):=tA (kF HS.out.2 HX.out) rfl;go_wp2_with (go_at_call 137;with_reducible refine mo (mH 7 _ (mD om) (HLW.out.tab.ext (HX.out.trans eX))) fun o1 n1=>?_);go_ret;exact ⟨rfl,HS.out.said (HX.out.trans eX)⟩
    | some h=>
     have hq:Ses w0 SB (QM Q w wc) (some h) k wc:=HS.out.made HX.out;obtain ⟨hB,M,pb,mb,db,lb,hb,la,ln,lc,hh⟩:=hq;have c3:cV wc SB 3 (.pointer (some ⟨hb,0,none⟩)):=tA hh.blk rfl;have HB:=aA hB;have HH:=aA hh;have HTB:=aA HL.out.tab;have HTX:=aA (HTB.out.ext hB.ex);clear hB hh
     by_cases n0:N.length=0
     ·obtain rfl:=List.length_eq_zero_iff.1 n0
      obtain ⟨h',X,HAB⟩:∃ h' X,Hid (xJ h hd=(h',X)):=⟨_,_,rfl⟩
      have hp:=HP.out;unfold restB at hp;dsimp only at hp;rw [HAB.out] at hp;clear n0 HP;have HAL:=aA (fun wq (x:Ext wc wq)=>alone_any (HH.out.ext x) (HB.out.ext x) HL.out hd);rw [HAB.out] at HAL
      cases X with
      | none=>
       dsimp only [Option.getD,Option.isSome] at hp HAL;cases hp
       go_wp2_with (first
        | (go_at_call 139;refine (HAL.out _ eX).mono ?_;rintro e w2 ⟨rfl,hs2,hk2⟩;have HS2:=aA hs2;have HX2:Hid (Ext w0 w2):=hs2.1.ex;have HK2:Hid (fA (SK w0 (QM Q w wc)) wc w2):=(fA.of_ext eX:fA (SK w0 (QM Q w wc)) wc _).trans hk2;clear hs2 hk2)
        | (go_at_call 137;with_reducible refine mo (mH 4 _ (mD om) (HTB.out.ext (HX2.out.trans eX))) fun o1 n1=>?_))
       go_ret;exact ⟨rfl,Ses.ended ⟨HS2.out,HK2.out⟩ HX.out eX om⟩
      | some t=>
       dsimp only [Option.getD,Option.isSome] at hp HAL;cases hp;go_wp2_with (go_at_call 139;refine (HAL.out _ eX).mono ?_;rintro e w2 ⟨rfl,hs2,hk2⟩;have HS2:=aA hs2;have HK2:Hid (fA (SK w0 (QM Q w wc)) wc w2):=(fA.of_ext eX:fA (SK w0 (QM Q w wc)) wc _).trans hk2;clear hs2 hk2);go_ret;exact ⟨rfl,Ses.ended ⟨HS2.out,HK2.out⟩ HX.out eX om⟩
     by_cases n1:N.length=1
     ·obtain ⟨x,rfl⟩:=one_of n1
      obtain ⟨h',X,HAB⟩:∃ h' X,Hid (oneB h hd x=(h',X)):=⟨_,_,rfl⟩
      have hp:=HP.out;unfold restB at hp;dsimp only at hp;rw [HAB.out] at hp;obtain ⟨b',q',x',rfl,hx',dx⟩:=HSN.out.get (show 0<[x].length by simp);cases hx';have dx:=at1 dx;have HNX:=HNR.out.2 x sp
      have hA:hd≠wArm:=fun e=>HA.out e rfl
      have HAL:=aA (fun wq (y:Ext wc wq)=>cone_any (HH.out.ext y) (HB.out.ext y) HL.out hd x HNX.1 HNX.2 hk hA);rw [HAB.out] at HAL;clear n0 HP n1 hA HNX;simp only [Nat.zero_mul,Nat.add_zero] at dx;have dxl:=cA dx
      cases X with
      | none=>
       dsimp only [Option.getD,Option.isSome] at hp HAL;cases hp
       go_upto_region 14 with fail
       go_region_law (go_simp;go_at_call 140;refine (HAL.out _ eX).mono ?_;rintro e w2 ⟨rfl,hs2,hk2⟩;have HS2:=aA hs2;have HX2:Hid (Ext w0 w2):=hs2.1.ex;have HK2:Hid (fA (SK w0 (QM Q w wc)) wc w2):=(fA.of_ext eX:fA (SK w0 (QM Q w wc)) wc _).trans hk2;clear hs2 hk2)
       all_goals
        go_wp2_with (go_at_call 137;with_reducible refine mo (mH 4 _ (mD om) (HTB.out.ext (HX2.out.trans eX))) fun o1 n1=>?_);go_ret;exact ⟨rfl,Ses.ended ⟨HS2.out,HK2.out⟩ HX.out eX (Nat.le_refl _)⟩
      | some t=>
       dsimp only [Option.getD,Option.isSome] at hp HAL;cases hp
       go_upto_region 14 with fail
       go_region_law (go_simp;go_at_call 140;refine (HAL.out _ eX).mono ?_;rintro e w2 ⟨rfl,hs2,hk2⟩;have HS2:=aA hs2;have HK2:Hid (fA (SK w0 (QM Q w wc)) wc w2):=(fA.of_ext eX:fA (SK w0 (QM Q w wc)) wc _).trans hk2;clear hs2 hk2)
       all_goals
        go_wp2_with fail;go_ret;exact ⟨rfl,Ses.ended ⟨HS2.out,HK2.out⟩ HX.out eX (Nat.le_refl _)⟩
     by_cases n4:N.length=4/\hd=wPark
     ·obtain ⟨n4,rfl⟩:=n4
      obtain ⟨a,b,c,e,rfl⟩:=four_of n4;have hp:=HP.out;unfold restB at hp;dsimp only at hp;rw [if_pos rfl] at hp;obtain ⟨b',q',x',rfl,hx0,d0⟩:=HSN.out.get (show 0<[a,b,c,e].length by simp);obtain ⟨x1,hx1,d1⟩:=HSN.out.get' (show 1<[a,b,c,e].length by simp);obtain ⟨x2,hx2,d2⟩:=HSN.out.get' (show 2<[a,b,c,e].length by simp);obtain ⟨x3,hx3,d3⟩:=HSN.out.get' (show 3<[a,b,c,e].length by simp);cases hx0;cases hx1;cases hx2;cases hx3;have d0:=at1 d0;have d1:=at1 d1;have d2:=at1 d2;have d3:=at1 d3;simp only [Nat.zero_mul,Nat.add_zero,Nat.one_mul,Nat.mul_one] at d0 d1 d2 d3;have dl:=cA d0
      have HMN:Hid (¬ yI w0 M b'):=fun o=>o.2 (HH.out.nq b' (Or.inr ⟨HNW.out _ _ rfl,dl⟩) o.1)
      have HMS:Hid (¬ yI w0 M SB):=fun o=>o.2 HH.out.nb
      have HPF:=aA (park_f HH.out.st.inv.inv.core.book ⟨a,⟨b,c,e⟩⟩);have HPK:=aA (fun wq (y:Ext wc wq)=>st_park (HH.out.st.ext y) om HTB.out a b c e);have HPZ:=aA (park_sizesC h ⟨a,⟨b,c,e⟩⟩)
      obtain ⟨H',hH'⟩:∃ v,h.park ⟨a,⟨b,c,e⟩⟩=v:=⟨_,rfl⟩
      rw [hH'] at hp HPF HPK HPZ;obtain ⟨h',t,f⟩:=H';dsimp only at hp HPF HPK HPZ
      obtain ⟨V,HEV⟩:∃ v,Hid (aC f=v):=⟨_,rfl⟩
      rw [HEV.out] at HPK;have HR1:=mD HPF.out.1;have HR2:=mD HPF.out.2;clear n0 n1 n4 HP hH';cases hp
      go_upto_region 16 with fail
      go_region_held3 (fun w'=>w'.cell? ⟨SB,3,none⟩=some (.pointer (some ⟨hb,0,none⟩))/\w'.cell? ⟨b',q',none⟩=some (vi a)/\w'.cell? ⟨b',q'+1,none⟩=some (vi b)/\w'.cell? ⟨b',q'+2,none⟩=some (vi c)/\w'.cell? ⟨b',q'+3,none⟩=some (vi e)) (first|(first|((try dsimp only);(repeat' apply And.intro) <;> exact xC (w:=wc)))|(first|((try dsimp only);(repeat' apply And.intro) <;> exact xC (w:=w2)))) (first
       | (go_at_call 15;refine (HPK.out _ eX).mono ?_;rintro r w2 ⟨rfl,hk2,hs2⟩;have HK2:Hid (fA (yI w0 M) wc w2):=(fA.of_ext eX:fA (yI w0 M) wc _).trans hk2;have HS2:=aA hs2;have HX2:Hid (Ext w0 w2):=(HB.out.next HK2.out (fun i hi=>hi.1)).ex;have e3:=qB HK2.out c3 HMS.out;have e0:=qB HK2.out d0 HMN.out;have e1:=qB HK2.out d1 HMN.out;have e2:=qB HK2.out d2 HMN.out;have e4:=qB HK2.out d3 HMN.out;clear hk2 hs2)
       | (go_at_call 141;(with_reducible refine (told_any t f V HEV _ HR1 HR2 (HTB.out.ext (HX2.out.trans eX))).mono ?_);rintro e w3 ⟨rfl,o3,n3,rfl⟩))
      all_goals
       go_wp2_with fail;go_ret;exact ⟨rfl,Ses.ended (HH.out.did HB.out HK2.out HS2.out HPZ.out eX) HX.out (Ext.refl _) om⟩
     rw [restB_else n0 n1 n4] at HP
     obtain ⟨rfl,rfl⟩:some h=o'/\zG 4=R:=by have hp:=HP.out;cases hp;exact ⟨rfl,rfl⟩
     have m0:¬ (N.length:Int)=0:=om
     have m1:¬ (N.length:Int)=1:=om
     by_cases m4:(N.length:Int)=4
     ·have h4:(hd.toList==[112,97,114,107])=false:=wD (fun e=>n4 ⟨om,e⟩)
      clear n0 n1 n4 HP;go_wp2_with (go_at_call 137;with_reducible refine mo (mH 4 _ (mD om) (HTX.out.ext eX)) fun o1 n1=>?_);go_ret;exact ⟨rfl,HS.out.said (HX.out.trans eX)⟩
     ·clear n0 n1 n4 HP
      go_wp2_with (go_at_call 137;with_reducible refine mo (mH 4 _ (mD om) (HTX.out.ext eX)) fun o1 n1=>?_);go_ret;exact ⟨rfl,HS.out.said (HX.out.trans eX)⟩
end
theorem say_any {w0:World} {SB:Nat} {Q:Nat->Prop} {o:Option House} {k:Nat} {w:World} (s:Ses w0 SB Q o k w) (L:kL w0) (line:ByteArray) (hz:line.size<=1000) (hk:k+203<4294967296) (ha:∀ x,bD line≠[wArm,x]):
  Calls prog 75 #[.pointer (some ⟨SB,0,none⟩),.string line] w (SayR w0 SB Q (vM o line).1 (k+200) w (vM o line).2):=by
 obtain ⟨hd,r,hw⟩:=words_cons line
 by_cases hb:60<line.size\/vI r=none
 ·rw [sayB_bad o hw hb]
  exact say_bad s L line hz hw hb
 ·cases hn:vI r with
  | none=>exact absurd (Or.inr hn) hb
  | some N=>
   refine say_ok s L line om hw hn hk fun e h1=>?_
   have hl:=(numsB_r hn).1
   obtain ⟨x,rfl⟩:∃ x,r=[x]:=by
    match r,hl.symm.trans h1 with
    | [x],_=>exact ⟨x,rfl⟩
   exact ha x (by rw [hw,e])
theorem saysB_len (o:Option House) (l:List ByteArray):(xD o l).2.length=l.length:=by
 induction l generalizing o with
 | nil=>rfl
 | cons x r ih=>simp only [xD,List.length_cons,ih]
structure RunI (w0:World) (SB:Nat) (l:List ByteArray) (v:Value) (wr:World):Prop where
 own:wr.ownsRow w0.heap.size 9 1 v (xD none l).2.length ((xD none l).2.flatMap bC)
 ses:Ses w0 SB (fun i=>v.ownBlock=some i) (xD none l).1 (200 * l.length) wr
theorem RunI.push {w0:World} {SB:Nat} {l:List ByteArray} {v:Value} {w1 wa w3:World} {x:ByteArray} {gg cap:Nat}
  (s:Ses w0 SB (fun i=>v.ownBlock=some i) (vM (xD none l).1 x).1 (200 * l.length+200) w1) (hx:Ext w1 wa)
  (hown:w3.ownsRow w0.heap.size 9 1 (.slice (some ⟨gg,0,none⟩) ((xD none l).2.length+1) cap) ((xD none l).2.length+1) ((xD none l).2.flatMap bC++[.string (vM (xD none l).1 x).2]))
  (hg:wa.grownBy w3 v.ownBlock) (hat:v.ownBlock=some gg\/gg=wa.heap.size) (hlt:gg<w3.heap.size) (hv:∀ b,v.ownBlock=some b->w0.heap.size<=b):RunI w0 SB (l++[x]) (.slice (some ⟨gg,0,none⟩) ((xD none l).2.length+1) cap) w3:=by
 have hsn:=dO none l x;have kk:fA (fun i=>v.ownBlock=some i) w1 w3:=(fA.of_ext hx).trans (grown_kept hg);have s3:=s.grow kk (fun i hi=>⟨hi,hv i hi⟩);refine ⟨?_,?_⟩
 ·rw [hsn]
  exact yM hown
 ·rw [hsn,show 200 * (l++[x]).length=200 * l.length+200 by rw [List.length_append,List.length_singleton];omega]
  refine s3.less (fun i hi=>?_);have hi:gg=i:=Option.some.inj hi;subst hi;have:=hx.below.size
  rcases hat with h|h
  ·exact Or.inl h
  ·exact Or.inr ⟨om,hlt⟩
def RunR (w:World) (l:List ByteArray) (e:Ending) (w':World):Prop:=∃ g d,e = .returned (.tuple #[.slice g l.length d,.nilIface])/\w'.ownsRow w.heap.size 9 1 (.slice g l.length d) l.length (l.flatMap bC)/\Ext w w'
theorem run_many (a:Option Addr) (n cap:Nat) (w:World) (hn:80<n):
  Calls prog 30 #[.slice a n cap] w fun e w'=>e = .returned (.tuple #[.slice none 0 0,.iface 92 (vi 2)])/\Ext w w':=by
 have hn':(80:Int)<(n:Int):=om
 go_enter func30,ntmps30;go_wp2
 go_ret2
 exact ⟨rfl,eX⟩
theorem run_any (l:List ByteArray) (a:Option Addr) (n cap:Nat) (w:World) (h:Sl w 1 bC l a n cap) (hn:n<=80) (hz:∀ x∈l,x.size<=1000) (ha:∀ x∈l,∀ y,bD x≠[wArm,y]) (L:kL w):
  Calls prog 30 #[.slice a n cap] w (RunR w (xD none l).2):=by
 obtain ⟨i0,hi,hz0,hz1,hz2⟩:=info_parts oM;have hbd:=h.bound;have HF:=aA h;have HLN:=aA h.len;have HL:=aA L;have HZ:Hid (∀ x∈l,x.size<=1000):=hz;have HA:Hid (∀ x∈l,∀ y,bD x≠[wArm,y]):=ha
 have hn':¬ (80:Int)<(n:Int):=om
 clear h L hz ha;go_enter func30,ntmps30
 go_upto_region 4 with fail
 generalize hW:World.alloc _ _=w1;have hx1:Ext w w1:=xQ hW
 have HI0:Hid (RunI w w.heap.size [] (.slice none 0 0) w1):=⟨World.ownsRow_nil _ _ _ _,⟨hx1,Nat.le_refl _,by rw [<-hW];simp,(fun h=>by cases h),(fun i h=>by cases h)⟩,by rw [<-hW];exact heap_alloc_new w _⟩
 have HX1:=aA hx1;clear hW hx1;go_wp2
 go_loopw [5,16] (fun v i wr=>∃ (k:Nat) (g:Option Addr) (d:Nat),k<=n/\i = .int .i64 k/\v = .slice g (xD none (l.take k)).2.length d/\Hid (RunI w w.heap.size (l.take k) (.slice g (xD none (l.take k)).2.length d) wr)) (fun _ i _=>n - (intOf i).toNat)
 case atStart=>exact ⟨0,none,0,om,rfl,rfl,HI0⟩
 case round=>
  obtain ⟨k,g,d,hk,rfl,rfl,HI⟩:=hrel
  obtain ⟨D,hD⟩:∃ D,(xD none (l.take k)).2=D:=⟨_,rfl⟩
  have HDL:Hid (D.length=k):=by
   unfold Hid;rw [<-hD,saysB_len,List.length_take];have:=HLN.out;omega
  have HTL:Hid ((l.take k).length=k):=by
   unfold Hid;rw [List.length_take];have:=HLN.out;omega
  have HXR:Hid (Ext w wr):=HI.out.ses.1.ex
  by_cases hlt:k<n
  ·obtain ⟨b,q,x,rfl,hx,dx⟩:=(Sl.below HF.out HXR.out.below).get hlt
   have dx:=at1 dx;rw [Nat.mul_one] at dx;have zq:=cA dx
   have hki:(k:Int)<(n:Int):=om
   have HTK:Hid (l.take (k+1)=l.take k++[x]):=by
    unfold Hid;rw [List.take_add_one,hx];rfl
   have hxm:=List.mem_of_getElem? hx;have hsz:=HXR.out.below.size;have HSY:=aA (fun wq (y:Ext wr wq)=>say_any (HI.out.ses.ext y) HL.out x (HZ.out x hxm) (by have:=HTL.out;omega) (HA.out x hxm))
   obtain ⟨s,HSE⟩:∃ s,Hid ((vM (xD none (l.take k)).1 x).2=s):=⟨_,rfl⟩
   have HOW:=aA HI.out.own;have HVB:=aA (qA HI.out.own)
   have HSN:Hid ((xD none (l.take (k+1))).2=D++[s]):=by
    unfold Hid;rw [HTK.out,dO,hD,HSE.out]
   rw [HSE.out] at HSY;rw [hD] at HOW HVB HSY
   have hDn:D.length<=80:=by have:=HDL.out;omega
   have HDD:=aA hD;rw [hD];clear hx hxm hD
   go_wp2_with (first
    | (go_at_call 75;refine (HSY.out _ eX).mono ?_;rintro e w2 ⟨rfl,hs2,hk2⟩;have HOW2:=aA (kK (zC HOW.out eX) hk2 (fun b e h=>h.2 e));have HS2:=aA hs2;have HX2:Hid (Ext w w2):=hs2.1.ex;have hsz2:=hs2.1.ex.below.size;clear hs2 hk2)
    | (at_builtin;refine wpList_append_lies _ rfl _ _ _ rfl w.heap.size 9 i0 _ 1 16 underlying77 hi hz0 hz1 hz2 rfl dc (.slice g D.length d) D.length _ rfl (iB HOW2.out _) _ 1 1 [.string s] rfl rfl (World.news_of_block (pA _ _ _ sp)) (by simp [Value.oneCell']) dc (by unfold maxLen;omega) om ov _ rfl ?_;intro gg cap w3 hown3 hgrow hat hlt3;have HI3:Hid (RunI w w.heap.size (l.take k++[x]) (.slice (some ⟨gg,0,none⟩) ((xD none (l.take k)).2.length+1) cap) w3):=RunI.push HS2.out eX (by rw [HDD.out,HSE.out];exact hown3) hgrow hat hlt3 HVB.out;clear hown3 hgrow hat hlt3))
   go_roundw
   case rel=>exact ⟨k+1,some ⟨gg,0,none⟩,cap,om,by go_num,by rw [HSN.out,List.length_append];rfl,by rw [HSN.out,List.length_append,HTK.out];have:=HI3.out;rw [HDD.out] at this;exact this⟩
   case measure=>simp [intOf];omega
  ·have hkn:k=n:=om
   subst hkn
   have hnl:¬ (k:Int)<(k:Int):=om
   have HDD:Hid ((xD none l).2=D):=by unfold Hid;rw [<-hD,List.take_of_length_le (by have:=HLN.out;omega)]
   have HOW:=aA HI.out.own;rw [hD] at HOW;rw [hD];clear hD;go_wp2
   go_ret2
   rw [HDD.out];exact ⟨_,_,rfl,zC HOW.out eX,HXR.out.trans eX⟩
