import Derived.Test.YtplomeacjbkgnabGreatDoorZ51
import Derived.Test.YtplomeacjbkgnabGreatDoorZ50
set_option linter.all false
set_option maxRecDepth 100000
set_option maxHeartbeats 16000000
namespace Go.Proofs.YtplomeacjbkgnabGreatDoor
open Go.RowKit Tryz
open Ch hiding Act
section
variable {w0:World} {XB:Nat} {Q:Nat->Prop} {h:House} {w:World} {hb rb:Nat}
theorem RSH.anew {la:Option Addr} {ln lc:Nat} {a1:Option Addr} {m1 d1:Nat} {a2:Option Addr} {m2 d2:Nat} {ga:Option Addr} {gn gc:Nat} {w2:World} (s:RSH w0 XB Q h w hb rb) (b:pK w0 XB Q w)
  (r:RHS (FR XB Q w) hb rb la ln lc a1 m1 d1 a2 m2 d2 ga gn gc h w) (x:Ext (w.setCell ⟨XB,0,none⟩ (.pointer (some ⟨w.heap.size,0,none⟩))) w2) (hk:w2.heap[w.heap.size]? = some (.cells (rhCells (.slice la ln lc) rb h.b.last a1 m1 d1 a2 m2 d2 (.slice none 0 0)) 52 (0,0))):
  dL w0 XB Q (some { h with goals:=[] }) w2/\fA (SK w0 Q) w w2:=by
 have kp:fA (Is XB) w (w.setCell ⟨XB,0,none⟩ (.pointer (some ⟨w.heap.size,0,none⟩))):=(fA.refl (Is XB) w).put 0 _
 have hsk:∀ i,Is XB i->SK w0 Q i:=fun i hi=>by rw [show i=XB from hi];exact ⟨b.sb,b.qn⟩
 have hlt:=b.lt;have hH:=tI hk;have hsz:=x.below.size;have hks:=kp.size;have hrb:=r.pl.lt
 have hQ:¬ Q w.heap.size:=fun hq=>by have:=b.ql _ hq;omega
 have far:∀ {a:Option Addr} {n:Nat},zI (FR XB Q w) hb rb a n->zI (FR XB Q w2) w.heap.size rb a n:=fun f g0 c o e=>by
  obtain ⟨⟨f1,f2,f3⟩,f4⟩:=f g0 c o e;refine ⟨⟨om,f2,f3⟩,?_⟩;rintro (rfl|rfl)
  ·omega
  ·exact f4 (Or.inr rfl)
 have no:∀ {a:Option Addr} {n:Nat},zI (FR XB Q w) hb rb a n->0<n->∀ c o,a=some ⟨c,o,none⟩->¬ Is XB c:=fun f g0 c o e hS=>(f g0 c o e).1.2.1 hS
 refine ⟨⟨(b.next kp (fun i hi=>(hsk i hi).1)).ext x,w.heap.size,rb,s.inv.nil,kF (by rw [tB s.blk];rfl) x,⟨la,ln,lc,a1,m1,d1,a2,m2,d2,none,0,0,hk,Sl.below (r.lv.keptS kp (no r.f0)) x.below,Sl.below (r.st.keptS kp (no r.f1)) x.below,Sl.below (r.jb.keptS kp (no r.f2)) x.below,Sl.nilT _ _ _ _,
  (r.pl.kept kp (fun e=>r.fr.2.1 e)).ext x,om,far r.f0,far r.f1,far r.f2,fun h=>absurd h om,⟨hH,om,hQ⟩,⟨om,r.fr.2⟩⟩,b.ex.below.size,s.n2⟩,(kp.wide hsk).trans (fA.of_ext x)⟩
theorem rone_any (s:RSH w0 XB Q h w hb rb) (b:pK w0 XB Q w) (wd:ByteArray) (n:Int) (n0:0<=n) (n9:n<=999999):
  Calls prog 80 #[.pointer (some ⟨XB,0,none⟩),.string wd,vi n] w (RSayR w0 XB Q (some (oneB h wd n).1) w ((oneB h wd n).2.getD (zG 4))):=by
 have c0:cV w XB 0 (.pointer (some ⟨hb,0,none⟩)):=tA s.blk rfl;obtain ⟨la,ln,lc,a1,m1,d1,a2,m2,d2,ga,gn,gc,r⟩:=s.rn;obtain ⟨k0,k1,k2,k3,k4,-⟩:=r.at_.cells;have hc:=cA c0;have hk:=cA k0;have HWF:Hid (h.p.WF):=s.inv.core.safe.wf;have HP:=aA r.pl;have HS:=aA s;have HB:=aA b;have HR:=aA r;have HI:Hid h.Inv':=s.inv;unfold oneB;clear s b r
 by_cases hk0:wd=wArrive
 ·rw [if_pos hk0]
  subst hk0
  obtain ⟨f,HFE⟩:∃ v,Hid ((h.p.arrive n).2=v):=⟨_,rfl⟩
  have HR2:=aA (arrive_f h.p n);rw [HFE.out] at HR2;go_enter func80,ntmps80
  go_wp2_with (first
   | (go_at_call 60;refine (rarrive_any (HP.out.ext eX) HWF.out _).mono ?_;rw [HFE.out];rintro e w1 ⟨rfl,hq1,hk1⟩;have HK1:Hid (fA (Is rb) w w1):=(fA.of_ext eX:fA (Is rb) w _).trans hk1;have HQ1:=aA hq1;clear hq1 hk1)
   | (go_at_call 145;with_reducible refine mo (dM f _ HR2) fun o1 n1=>?_))
  go_ret;exact ⟨by rw [HFE.out];rfl,HS.out.plant HB.out HK1.out HQ1.out (HWF.out.arrive n) eX⟩
 rw [if_neg hk0];have m0:(wd.toList==[97,114,114,105,118,101])=false:=wD hk0
 by_cases hk1:wd=wCome
 ·rw [if_pos hk1]
  clear m0 hk0;subst hk1
  obtain ⟨f,HFE⟩:∃ v,Hid ((h.p.walk n).2=v):=⟨_,rfl⟩
  have HR2:=aA (walk_f h.p n);rw [HFE.out] at HR2;go_enter func80,ntmps80
  go_wp2_with (first
   | (go_at_call 59;refine (rwalk_any (HP.out.ext eX) HWF.out _).mono ?_;rw [HFE.out];rintro e w1 ⟨rfl,hq1,hk1⟩;have HK1:Hid (fA (Is rb) w w1):=(fA.of_ext eX:fA (Is rb) w _).trans hk1;have HQ1:=aA hq1;clear hq1 hk1)
   | (go_at_call 145;with_reducible refine mo (dM f _ HR2) fun o1 n1=>?_))
  go_ret;exact ⟨by rw [HFE.out];rfl,HS.out.plant HB.out HK1.out HQ1.out (HWF.out.walk n) eX⟩
 rw [if_neg hk1];have m1':(wd.toList==[99,111,109,101])=false:=wD hk1
 by_cases hk2:wd=wGo
 ·rw [if_pos hk2]
  clear m0 hk0 m1' hk1;subst hk2
  obtain ⟨f,HFE⟩:∃ v,Hid ((h.p.walk (-n)).2=v):=⟨_,rfl⟩
  have HR2:=aA (walk_f h.p (-n));rw [HFE.out] at HR2;have hw:IntKind.i64.wrap (-n)=-n:=IntWalk.i64_in _ om;go_enter func80,ntmps80
  go_wp2_with (first
   | (go_at_call 59;refine (rwalk_any (HP.out.ext eX) HWF.out _).mono ?_;rw [HFE.out];rintro e w1 ⟨rfl,hq1,hk1⟩;have HK1:Hid (fA (Is rb) w w1):=(fA.of_ext eX:fA (Is rb) w _).trans hk1;have HQ1:=aA hq1;clear hq1 hk1)
   | (go_at_call 145;with_reducible refine mo (dM f _ HR2) fun o1 n1=>?_))
  go_ret;exact ⟨by rw [HFE.out];rfl,HS.out.plant HB.out HK1.out HQ1.out (HWF.out.walk (-n)) eX⟩
 rw [if_neg hk2];have m2':(wd.toList==[103,111])=false:=wD hk2
 by_cases hk3:wd=wStall
 ·rw [if_pos hk3]
  clear m0 hk0 m1' hk1 m2' hk2;subst hk3
  obtain ⟨f,HFE⟩:∃ v,Hid ((h.p.setStall n).2=v):=⟨_,rfl⟩
  have HR2:=aA (stall_f h.p n);rw [HFE.out] at HR2;go_enter func80,ntmps80
  go_wp2_with (first
   | (go_at_call 64;refine (rstall_any (HP.out.ext eX) _).mono ?_;rw [HFE.out];rintro e w1 ⟨rfl,hq1,hk1⟩;have HK1:Hid (fA (Is rb) w w1):=(fA.of_ext eX:fA (Is rb) w _).trans hk1;have HQ1:=aA hq1;clear hq1 hk1)
   | (go_at_call 145;with_reducible refine mo (dM f _ HR2) fun o1 n1=>?_))
  go_ret;exact ⟨by rw [HFE.out];rfl,HS.out.plant HB.out HK1.out HQ1.out (HWF.out.setStall n) eX⟩
 rw [if_neg hk3];have m3:(wd.toList==[115,116,97,108,108])=false:=wD hk3
 by_cases hk4:wd=wWant
 ·rw [if_pos hk4]
  clear m0 hk0 m1' hk1 m2' hk2 m3 hk3;subst hk4
  obtain ⟨f,HFE⟩:∃ v,Hid ((h.want n).2=v):=⟨_,rfl⟩
  have HR2:=aA (want_f h n);rw [HFE.out] at HR2;go_enter func80,ntmps80
  go_wp2_with (first
   | (go_at_call 18;refine (rwanted_now (HS.out.rn.ext eX) HI.out n).mono ?_;rw [HFE.out];rintro e w1 ⟨rfl,hk1,hr1⟩;have HK1:Hid (fA (rN hb rb) w w1):=(fA.of_ext eX:fA (rN hb rb) w _).trans hk1;have HQ1:=aA hr1;clear hk1 hr1)
   | (go_at_call 145;with_reducible refine mo (dM f _ HR2) fun o1 n1=>?_))
  go_ret;exact ⟨by rw [HFE.out];rfl,HS.out.did HB.out HK1.out HQ1.out (HI.out.want n) eX⟩
 rw [if_neg hk4];have m4:(wd.toList==[119,97,110,116])=false:=wD hk4
 by_cases hk5:wd=wTick
 ·rw [if_pos hk5]
  clear m0 hk0 m1' hk1 m2' hk2 m3 hk3 m4 hk4;subst hk5
  obtain ⟨M,hM⟩:∃ M:Nat,(min n 200).toNat=M:=⟨_,rfl⟩
  have hM3:M<=200:=om
  have hM4:(M:Int)<=n:=om
  have hM5:(M:Int)=n\/M=200:=om
  have HMM:=aA hM;rw [hM];clear hM k0 k1 k2 k3 k4 hk;go_enter func80,ntmps80;go_wp2
  go_loopw [7] (fun i wr=>∃ j:Nat,j<=M/\i = .int .i64 (j:Int)/\Hid (RSH w0 XB Q (House.ticks j h) wr hb rb)/\Hid (pK w0 XB Q wr)/\Hid (fA (rN hb rb) w wr)) (fun i _=>M - (intOf i).toNat)
  case atStart=>exact ⟨0,om,rfl,HS.out.ext eX,HB.out.ext eX,fA.of_ext eX⟩
  case round=>
   obtain ⟨j,hj,rfl,HSR,HBR,HKR⟩:=hrel;have e0:cV wr XB 0 (.pointer (some ⟨hb,0,none⟩)):=tA HSR.out.blk rfl;have hlt:=cA e0
   by_cases hjm:j<M
   ·have hji:(j:Int)<n:=om
    have hj2:(j:Int)<200:=om
    go_wp2_with (go_at_call 21;refine (rticked_now (HSR.out.rn.ext eX) HSR.out.inv).mono ?_;rintro r w2 ⟨rfl,hk1,hr1⟩;have HK1:Hid (fA (rN hb rb) wr w2):=(fA.of_ext eX:fA (rN hb rb) wr _).trans hk1;have HR1:=aA hr1;clear hk1 hr1);have HN:=aA (HSR.out.next HBR.out HK1.out HR1.out HSR.out.inv.tick);go_roundw
    case rel=>exact ⟨j+1,om,by go_num,by unfold Hid;rw [Live.ticks_add j 1];exact HN.out.1.ext eX,HN.out.2.ext eX,HKR.out.trans (HK1.out.trans (fA.of_ext eX))⟩
    case measure=>simp [intOf];omega
   ·have hje:j=M:=om
    subst hje
    have HO:Hid (RSayR w0 XB Q (some (House.ticks j h)) w okB (.returned (.string okB)) wr):=⟨rfl,HSR.out.ses HBR.out,HKR.out.wide HS.out.wide⟩
    rcases hM5 with h1|h1
    ·have hji:¬ (j:Int)<n:=om
     go_wp2;go_ret;exact ⟨rfl,HO.out.2.1.ext eX,HO.out.2.2.trans (fA.of_ext eX)⟩
    ·have hj2:¬ (j:Int)<200:=om
     clear h1
     by_cases hji:(j:Int)<n
     ·go_wp2
      go_ret;exact ⟨rfl,HO.out.2.1.ext eX,HO.out.2.2.trans (fA.of_ext eX)⟩
     ·go_wp2
      go_ret;exact ⟨rfl,HO.out.2.1.ext eX,HO.out.2.2.trans (fA.of_ext eX)⟩
 rw [if_neg hk5];have m5:(wd.toList==[116,105,99,107])=false:=wD hk5
 by_cases hk6:wd=wRestart
 ·rw [if_pos hk6]
  clear m0 hk0 m1' hk1 m2' hk2 m3 hk3 m4 hk4 m5 hk5;subst hk6;have hfz:w.frozen? ⟨XB,0,none⟩=false:=vA HS.out.blk 0;go_enter func80,ntmps80
  go_upto_region 19 with fail
  refine tH 26 (fun w'=>w'.cell? ⟨XB,0,none⟩=some (.pointer (some ⟨hb,0,none⟩))/\w'.cell? ⟨hb,0,none⟩=some (.slice la ln lc)/\w'.cell? ⟨hb,1,none⟩=some (.pointer (some ⟨rb,0,none⟩))/\w'.cell? ⟨hb,2,none⟩=some (vi h.b.last)/\w'.cell? ⟨hb,3,none⟩=some (.slice a1 m1 d1)/\w'.cell? ⟨hb,4,none⟩=some (.slice a2 m2 d2)) kR ⟨c0,k0,k1,k2,k3,k4⟩ ?_;intro hS
  (refine tT (i:=0) (D:=85) ?_;try simp only [Act.put,bA])
  (refine tT (i:=1) (D:=86) ?_;try simp only [Act.put,bA])
  (refine tT (i:=2) (D:=87) ?_;try simp only [Act.put,bA])
  (refine tT (i:=3) (D:=88) ?_;try simp only [Act.put,bA])
  (refine tT (i:=4) (D:=89) ?_;try simp only [Act.put,bA])
  (refine tT (i:=5) (D:=90) ?_;try simp only [Act.put,bA])
  (refine tT (i:=6) (D:=91) ?_;try simp only [Act.put,bA])
  (refine tT (i:=7) (D:=92) ?_;try simp only [Act.put,bA])
  (refine tT (i:=8) (D:=93) ?_;try simp only [Act.put,bA])
  (refine tT (i:=9) (D:=94) ?_;try simp only [Act.put,bA])
  (refine tT (i:=10) (D:=95) ?_;try simp only [Act.put,bA])
  (refine tT (i:=11) (D:=96) ?_;try simp only [Act.put,bA])
  (refine tT (i:=12) (D:=97) ?_;try simp only [Act.put,bA])
  (refine tT (i:=13) (D:=98) ?_;try simp only [Act.put,bA])
  (refine tT (i:=14) (D:=99) ?_;try simp only [Act.put,bA])
  (refine tT (i:=15) (D:=100) ?_;try simp only [Act.put,bA])
  (refine tT (i:=16) (D:=101) ?_;try simp only [Act.put,bA])
  (refine tT (i:=17) (D:=102) ?_;try simp only [Act.put,bA])
  (refine tT (i:=18) (D:=103) ?_;try simp only [Act.put,bA])
  (refine tT (i:=19) (D:=104) ?_;try simp only [Act.put,bA])
  (refine tT (i:=20) (D:=105) ?_;try simp only [Act.put,bA])
  (refine tT (i:=21) (D:=106) ?_;try simp only [Act.put,bA])
  (refine tT (i:=22) (D:=107) ?_;try simp only [Act.put,bA])
  refine xB (i:=23) kR rfl (fun K hK=>?_);go_simp;refine hK _ _ ⟨fun _=>⟨gA (w:=w) eX c0,gA (w:=w) eX k0,gA (w:=w) eX k1,gA (w:=w) eX k2,gA (w:=w) eX k3,gA (w:=w) eX k4⟩,?_⟩;clear hK K hS
  (try simp only [Act.put,bA])
  refine xB (i:=24) kR rfl (fun K hK=>?_);go_simp;refine hK _ _ ⟨fun _=>⟨gA (w:=w) eX c0,gA (w:=w) eX k0,gA (w:=w) eX k1,gA (w:=w) eX k2,gA (w:=w) eX k3,gA (w:=w) eX k4⟩,?_⟩;clear hK K
  (try simp only [Act.put,bA])
  refine xB (i:=25) kR rfl (fun K hK=>?_);go_simp;refine hK _ _ ⟨fun _=>⟨gA (w:=w) eX c0,gA (w:=w) eX k0,gA (w:=w) eX k1,gA (w:=w) eX k2,gA (w:=w) eX k3,gA (w:=w) eX k4⟩,?_⟩;clear hK K
  (try simp only [Act.put,bA])
  refine xB (i:=26) kR rfl (fun K hK=>?_);go_simp;refine hK _ _ ⟨fun h=>absurd rfl h,eG kR ?_ _⟩;clear hK K
  (try simp only [Act.put,List.setIfInBounds_toArray])
  go_wp2_with fail;go_ret;exact ⟨rfl,HS.out.anew HB.out HR.out eX (pA _ _ _ sp)⟩
 rw [if_neg hk6];have m6:(wd.toList==[114,101,115,116,97,114,116])=false:=wD hk6
 have H4:Hid ((0:Int)<=4/\(4:Int)<=999999):=⟨dc,dc⟩
 clear hk0 hk1 hk2 hk3 hk4 hk5 hk6;go_enter func80,ntmps80;go_wp2_with (go_at_call 76;with_reducible refine mo (eF 4 _ H4) fun o1 n1=>?_);go_ret;exact ⟨rfl,HS.out.same HB.out eX⟩
end
theorem natural_is (s:ByteArray) (w:World) (hs:Hid (s.size<=1000000)) (v:Int) (hv:natV s=v):Calls prog 78 #[.string s,vi 999999] w fun e w'=>e = .returned (vi v)/\Ext w w':=hv▸natural_all s w hs
section
variable {w0:World} {XB:Nat} {Q:Nat->Prop} {o:Option House} {w:World}
theorem dL.blk (s:dL w0 XB Q o w):∃ v,w.heap[XB]? = some (.cells #[.pointer v] 82 (0,0)):=by
 obtain ⟨b,s⟩:=s
 cases o with
 | none=>exact ⟨_,s⟩
 | some h=>
  obtain ⟨hb,rb,s⟩:=s;exact ⟨_,s.blk⟩
theorem dL.tower {wy w2:World} {D:List dD} {bz qz cap rb:Nat} (s:dL w0 XB Q o w) (x:Ext w wy) (hl:Sl wy 3 yB D (some ⟨bz,qz,none⟩) D.length cap) (hz:w.heap.size<=bz) (hz2:bz<rb) (hp:bB wy rb (dA.new (D.length:Int))) (hf:jB D=0)
  (y:Ext (wy.setCell ⟨XB,0,none⟩ (.pointer (some ⟨wy.heap.size,0,none⟩))) w2) (hk:w2.heap[wy.heap.size]? = some (.cells (rhCells (.slice (some ⟨bz,qz,none⟩) D.length cap) rb 0 none 0 0 none 0 0 (.slice none 0 0)) 52 (0,0))):
  dL w0 XB Q (some (House.new D)) w2/\fA (SK w0 Q) w w2:=by
 obtain ⟨v,hv⟩:=s.blk;have b:=s.1;have kp:fA (Is XB) wy (wy.setCell ⟨XB,0,none⟩ (.pointer (some ⟨wy.heap.size,0,none⟩))):=(fA.refl (Is XB) wy).put 0 _
 have hsk:∀ i,Is XB i->SK w0 Q i:=fun i hi=>by rw [show i=XB from hi];exact ⟨b.sb,b.qn⟩
 have hlt:=b.lt;have hH:=tI hk;have hx:=x.below.size;have hy:=y.below.size;have hks:=kp.size;have hrb:=hp.lt;have h0:=b.ex.below.size
 have hQ:∀ i,w.heap.size<=i->¬ Q i:=fun i hi hq=>by have:=b.ql _ hq;omega
 refine ⟨⟨((b.ext x).next kp (fun i hi=>(hsk i hi).1)).ext y,wy.heap.size,rb,House.Inv'.new hf,kF (by rw [tB (kF hv x)];rfl) y,⟨_,_,_,none,0,0,none,0,0,none,0,0,hk,Sl.below (hl.keptS kp (fun _ c q e hS=>by cases e;have:bz=XB:=hS;omega)) y.below,Sl.nilT _ _ _ _,Sl.nilT _ _ _ _,Sl.nilT _ _ _ _,
  (hp.kept kp (fun e=>by have:rb=XB:=e;omega)).ext y,om,fun _ c q e=>by cases e;exact ⟨⟨om,om,hQ bz hz⟩,by rintro (e|e) <;> omega⟩,fun h=>absurd h om,fun h=>absurd h om,fun h=>absurd h om,⟨hH,om,hQ _ hx⟩,⟨om,om,hQ _ om⟩⟩,om,om⟩,(fA.of_ext x).trans ((kp.wide hsk).trans (fA.of_ext y))⟩
theorem rsay_any (s:dL w0 XB Q o w) (line:ByteArray) (hz:line.size<=1000):
  Calls prog 31 #[.pointer (some ⟨XB,0,none⟩),.string line] w (RSayR w0 XB Q (vM o line).1 w (vM o line).2):=by
 obtain ⟨hd,r,hw⟩:=words_cons line;obtain ⟨i0,hi,hz0,hz1,hz2⟩:=info_parts infoIntP
 have H4:Hid ((0:Int)<=4/\(4:Int)<=999999):=⟨dc,dc⟩
 have H7:Hid ((0:Int)<=7/\(7:Int)<=999999):=⟨dc,dc⟩
 have HS:=aA s;have HW:=aA hw
 have HXS:Hid (∀ x∈r,x.size<=1000000):=fun x hx=>by
  obtain ⟨i,hi⟩:=List.mem_iff_getElem?.1 (show x∈bD line by rw [hw];exact List.mem_cons_of_mem _ hx);have:=word_size hi;omega
 have hrl:r.length<=1001:=by
  have h1:=eJ line;have h2:=nJ line;rw [hw] at h1;simp only [List.length_cons] at h1;omega
 obtain ⟨P,HP⟩:∃ P,Hid (vM o line=P):=⟨_,rfl⟩
 rw [HP.out];have hlt:=s.1.lt;clear s hw
 by_cases hb:60<line.size
 ·obtain rfl:(o,zG 4)=P:=by rw [<-HP.out];exact (sayB_bad o HW.out (Or.inl hb)).symm
  have hb':(60:Int)<(line.size:Int):=om
  go_enter func31,ntmps31;go_wp2_with (go_at_call 76;with_reducible refine mo (eF 4 _ H4) fun o1 n1=>?_);go_ret;exact ⟨rfl,HS.out.said eX⟩
 have hb':¬ (60:Int)<(line.size:Int):=om
 have hrl:r.length<=60:=by
  have h1:=eJ line;have h2:=nJ line;rw [HW.out] at h1;simp only [List.length_cons] at h1;omega
 go_enter func31,ntmps31
 go_upto_region 4 with (go_at_call 77;refine (words_any line _ om).mono ?_;rintro e w1 ⟨v,rfl,hws⟩;have HW1:=aA hws.own;have HX1:Hid (Ext w w1):=Ext.trans eX hws.ext;clear hws)
 obtain ⟨wa,wc,rfl,hsl⟩:=Sl.of_owns (c:=1) (enc:=bC) HW1.out dc (fun _=>rfl);rw [HW.out] at hsl;obtain ⟨wb,q0,x0,rfl,-,-⟩:=hsl.get (show 0<_ by simp);have HWL:=aA hsl
 have hcl:(bD line).length=r.length+1:=by rw [HW.out];rfl
 rw [hcl];have hbd:=hsl.bound;simp only [List.length_cons] at hbd;have hsz1:=HX1.out.below.size;clear hsl HW1 hcl;go_wp2
 go_loopw [6,7] (fun v i wr=>∃ (k:Nat) (N:List Int) (g:Option Addr) (d:Nat),k<=r.length/\i = .int .i64 ((k:Int)+1)/\v = .slice g N.length d/\Hid ((r.take k).mapM iH=some N/\N.length=k)/\Hid (Nums w1 N (.slice g N.length d) wr)) (fun _ i _=>r.length+1 - (intOf i).toNat)
 case atStart=>exact ⟨0,[],none,0,om,rfl,rfl,⟨sp,rfl⟩,⟨World.ownsRow_nil _ _ _ _,Ext.trans eX (Ext.refl _)⟩⟩
 case round=>
  obtain ⟨k,N,g,d,hk,rfl,rfl,HM,HG⟩:=hrel;have HNK:Hid (N.length=k):=HM.out.2;have HXR:=aA (HX1.out.trans HG.out.ext);have hszr:=HXR.out.below.size;have HWR:=aA (Sl.below HWL.out HG.out.ext.below)
  by_cases hlt2:k<r.length
  ·obtain ⟨b',q',x,e,hxk,dx⟩:=HWR.out.get (show k+1<(hd :: r).length by simp;omega)
   cases e;have dx:=at1 dx;rw [Nat.mul_one] at dx
   have hxk:r[k]? = some x:=by simpa using hxk
   have zq:=cA dx
   have hkj:(k:Int)+1<((r.length+1:Nat):Int):=om
   have hk1:(k:Int)+1<(wc:Int):=om
   have HXX:Hid (x.size<=1000000):=HXS.out x (List.mem_of_getElem? hxk);have HXK:=aA hxk;clear hxk
   cases hn:iH x with
   | none=>
    have HNV:Hid (natV x=-1):=natV_none hn
    obtain rfl:(o,zG 4)=P:=by rw [<-HP.out];exact (sayB_bad o HW.out (Or.inr (mapM_bad HXK.out hn))).symm
    clear hn
    go_wp2_with (first
     | (go_at_call 78;with_reducible refine mo (natural_is x _ HXX (-1) HNV.out) fun o1 n1=>?_)
     | (go_at_call 76;with_reducible refine mo (eF 4 _ H4) fun o1 n1=>?_))
    go_ret;exact ⟨rfl,HS.out.said (HXR.out.trans eX)⟩
   | some v=>
    have HNV:Hid (natV x=v):=by unfold Hid natV;rw [show bK x.data.toList=some v from hn]
    have hv0:=(numOf_r (show bK x.data.toList=some v from hn)).1
    have hv1:¬ v<0:=om
    have HM2:=aA (mapM_take HM.out.1 HXK.out hn)
    have hNb:N.length<=100:=by have:=HNK.out;omega
    have hszg:=HG.out.ext.below.size;clear hn
    go_wp2_with (first
     | (go_at_call 78;with_reducible refine mo (natural_is x _ HXX v HNV.out) fun o1 n1=>?_)
     | (at_builtin;refine wpList_append_lies _ rfl _ _ _ rfl w1.heap.size 3 i0 _ 1 8 underlying149 hi hz0 hz1 hz2 rfl dc (.slice g N.length d) N.length _ rfl (iB (zC HG.out.own eX) _) _ 1 1 [vi v] rfl rfl (World.news_of_block (pA _ _ _ sp)) (by simp [Value.oneCell']) dc (by unfold maxLen;omega) om ov _ rfl ?_;intro gg cap w3 hown3 hgrow hat hlt3;have HG3:Hid (Nums w1 (N++[v]) (.slice (some ⟨gg,0,none⟩) (N.length+1) cap) w3):=⟨num_last hown3,vB (w:=w1) (HG.out.ext.trans eX) hgrow (qA HG.out.own)⟩;clear hown3 hgrow hat hlt3))
    go_roundw
    case rel=>exact ⟨k+1,N++[v],some ⟨gg,0,none⟩,cap,om,by go_num,by rw [List.length_append];rfl,⟨HM2.out,by rw [List.length_append,HNK.out];rfl⟩,by rw [show (N++[v]).length=N.length+1 by rw [List.length_append];rfl];exact HG3.out⟩
    case measure=>simp [intOf];omega
  ·have hkw:k=r.length:=om
   subst hkw
   have hn:vI r=some N:=by
    have:=HM.out.1;rw [List.take_length] at this;exact this
   have HN:=aA hn;have HNR:=aA (numsB_r hn)
   have hNr:N.length<=60:=by rw [(numsB_r hn).1];exact hrl
   obtain ⟨_,_,e,hsn⟩:=Sl.of_owns (c:=1) (enc:=jG) HG.out.own dc (fun _=>rfl);cases e;have HSN:=aA hsn;have hdb:=hsn.bound;obtain ⟨_,_,_,e,hx0,dx⟩:=HWR.out.get (show 0<(hd :: r).length by simp);cases e;cases hx0;have dx:=at1 dx;rw [Nat.zero_mul,Nat.add_zero] at dx;have zq:=cA dx
   have hw0:(0:Int)<((r.length+1:Nat):Int):=om
   have hw1:(0:Int)<(wc:Int):=om
   have hk1:¬ (r.length:Int)+1<((r.length+1:Nat):Int):=om
   rw [sayB_is o om HW.out hn] at HP;clear hn hsn
   by_cases hT:hd=wTower/\0<N.length/\N.length % 3=0
   ·obtain ⟨m,hm⟩:∃ m,N.length=3 * m:=⟨N.length / 3,om⟩
    have hm0:0<m:=om
    rw [if_pos hT] at HP;obtain ⟨rfl,hT1,hT2⟩:=hT
    have t1:(0:Int)<(N.length:Int):=om
    have t2:(N.length:Int) % 3=0:=om
    have HAT:Hid (∀ j,j<m->∃ a b c,N[3 * j]? = some a/\N[3 * j+1]? = some b/\N[3 * j+2]? = some c/\(gD N)[j]? = some ⟨a,b,c⟩):=fun j hj=>sizesOf_at m N j om hj
    have HLN:Hid ((gD N).length=m):=sizesOf_len m N om
    obtain ⟨S,HSZ⟩:∃ S,Hid (gD N=S):=⟨_,rfl⟩
    obtain ⟨F,HFF⟩:∃ F,Hid (jB S=F):=⟨_,rfl⟩
    rw [HSZ.out] at HAT HLN HP;rw [HFF.out] at HP
    have hF0:0<=F:=by rw [<-HFF.out];exact levelsFault_nn _
    have hF9:F<=999999:=by rw [<-HFF.out];exact levelsFault_few _
    obtain ⟨s0,hs,hsz0,hsz1',hsz2⟩:=info_parts infoSizeC
    have hbm:N.length<=1000:=om
    clear hT1 hT2 hNr
    rw [hm] at t1 t2 hdb HSN ⊢
    rename World=>wq
    go_wp2
    go_loopw [9,10] (fun v i wr'=>∃ (j:Nat) (D:List dD) (g':Option Addr) (d':Nat),j<=m/\i = .int .i64 (3 * (j:Int))/\v = .slice g' D.length d'/\Hid (D=S.take j)/\Hid (D.length=j)/\Hid (Szs wq D (.slice g' D.length d') wr')) (fun _ i _=>3 * m - (intOf i).toNat)
    case atStart=>exact ⟨0,[],none,0,om,rfl,rfl,by simp [Hid],rfl,⟨World.ownsRow_nil _ _ _ _,Ext.trans eX (Ext.refl _)⟩⟩
    case round=>
     obtain ⟨j,D,g',d',hj,rfl,rfl,HD,HK,HZ⟩:=hrel;have hszD:=HZ.out.ext.below.size
     have hDn:D.length<=1000:=by have:=HK.out;omega
     by_cases hlt3:j<m
     ·obtain ⟨x,y,z,e1,e2,e3,e4⟩:=HAT.out j hlt3
      obtain ⟨b,q,x',rfl,hx,dx⟩:=(Sl.below HSN.out HZ.out.ext.below).get (show 3 * j<3 * m by omega);obtain ⟨y',hy,dy⟩:=(Sl.below HSN.out HZ.out.ext.below).get' (show 3 * j+1<3 * m by omega);obtain ⟨z',hz',dz⟩:=(Sl.below HSN.out HZ.out.ext.below).get' (show 3 * j+2<3 * m by omega);rw [e1] at hx;rw [e2] at hy;rw [e3] at hz';cases hx;cases hy;cases hz';have dx:=at1 dx;have dy:=at1 dy;have dz:=at1 dz;rw [Nat.mul_one] at dx dy dz;have zq:=cA dx
      have hji:3 * (j:Int)<3 * (m:Int):=om
      have HN2:Hid (D++[⟨x,y,z⟩]=S.take (j+1)):=by
       unfold Hid;rw [List.take_add_one,e4,HD.out];rfl
      clear e1 e2 e3 e4
      have ht0:(3 * (j:Int)).toNat=3 * j:=om
      have ht1:(3 * (j:Int)+1).toNat=3 * j+1:=om
      have ht2:(3 * (j:Int)+2).toNat=3 * j+2:=om
      have hb0:0<=3 * (j:Int):=om
      have hb1:0<=3 * (j:Int)+1:=om
      have hb2:0<=3 * (j:Int)+2:=om
      have hc1:3 * (j:Int)+1<3 * (m:Int):=om
      have hc2:3 * (j:Int)+2<3 * (m:Int):=om
      have hw1:IntKind.i64.wrap (3 * (j:Int)+1)=3 * (j:Int)+1:=IntWalk.i64_in _ om;have hw2:IntKind.i64.wrap (3 * (j:Int)+2)=3 * (j:Int)+2:=IntWalk.i64_in _ om
      go_upto_region 17 with fail
      go_region_law (first|(refine step_append_lies _ rfl _ _ _ rfl wq.heap.size 54 s0 _ 3 24 underlying22 hs hsz0 hsz1' hsz2 rfl dc (.slice g' D.length d') D.length (D.flatMap yB) rfl (mI (iB HZ.out.own _)) _ 1 1 [vi x,vi y,vi z] rfl rfl (lK _ #[vi x,vi y,vi z] 54) (by simp [Value.oneCell']) dc (by unfold maxLen;omega) om so _ rfl ?_;intro gg cap' w5 hown5 hgrow hat hlt5;have HG3:Hid (Szs wq (D++[⟨x,y,z⟩]) (.slice (some ⟨gg,0,none⟩) (D.length+1) cap') w5):=⟨sz_last hown5,vB (w:=wq) (HZ.out.ext.trans eX) hgrow (qA HZ.out.own)⟩;clear hown5 hgrow hat hlt5))
      all_goals
       go_wp2_with fail;go_roundw
       case rel=>exact ⟨j+1,D++[(⟨x,y,z⟩:dD)],some ⟨gg,0,none⟩,cap',om,by go_num;try omega,by rw [List.length_append];rfl,HN2.out,by rw [List.length_append,HK.out];rfl,by rw [show (D++[(⟨x,y,z⟩:dD)]).length=D.length+1 by rw [List.length_append];rfl];exact HG3.out⟩
       case measure=>simp [intOf];omega
     ·have hkn:j=m:=om
      subst hkn
      have hnl:¬ 3 * (j:Int)<3 * (j:Int):=om
      have HDD:Hid (S=D):=by unfold Hid;rw [HD.out,List.take_of_length_le (by have:=HLN.out;omega)]
      obtain ⟨_,_,e,hs⟩:=Sl.of_owns (c:=3) (enc:=yB) HZ.out.own dc (fun _=>rfl);cases e;have hds:=HDD.out.symm;subst hds;have HSL:=aA hs;obtain ⟨bz,qz,_,rfl,-,-⟩:=hs.get (show 0<D.length by have:=HK.out;omega);have hbz:=qA HZ.out.own bz rfl;have hbr:bz<wr.heap.size:=(rE HZ.out.own rfl).2;have HXZ:=aA (HXR.out.trans HZ.out.ext);clear hs hnl
      by_cases hF:F=0
      rotate_left
      ·rw [if_neg hF] at HP
       obtain rfl:(o,zG F)=P:=HP.out
       have hF1:0<F:=om
       have HF:Hid (0<=F/\F<=999999):=⟨hF0,hF9⟩
       have hji:¬ 3 * (j:Int)<3 * (j:Int):=om
       go_wp2_with (first
        | (go_at_call 7;with_reducible refine mo (rlevels_at F _ _ _ D _ (Sl.below HSL.out (Ext.below eX)) HFF) fun o1 n1=>?_)
        | (go_at_call 76;with_reducible refine mo (eF F _ HF) fun o1 n1=>?_))
       go_ret;exact ⟨rfl,HS.out.said (HXZ.out.trans eX)⟩
      ·subst hF
       rw [if_pos rfl] at HP;obtain rfl:(some (House.new D),okB)=P:=HP.out;have hlv:=jD HFF.out
       have l1:(1:Int)<=(D.length:Int):=om
       have l4:(D.length:Int)<=4:=om
       have hji:¬ 3 * (j:Int)<3 * (j:Int):=om
       go_upto_region 22 with (first
        | (go_at_call 7;with_reducible refine mo (rlevels_at 0 _ _ _ D _ (Sl.below HSL.out (Ext.below eX)) HFF) fun o1 n1=>?_)
        | (go_at_call 14;refine (rnew_any (D.length:Int) _ l1 l4).mono ?_;rintro e wy ⟨rb,rfl,hp,hx,hb1⟩;have HXY:Hid (Ext wr wy):=Ext.trans eX hx;have HPL:=aA hp;have hrb:wr.heap.size<=rb:=(by simp at hb1;omega);clear hp hx hb1))
       have HXW:=aA (HXZ.out.trans HXY.out);obtain ⟨v0,hv0⟩:=HS.out.blk;have blk:=kF hv0 HXW.out;have c0:cV wy XB 0 (.pointer v0):=tA blk rfl;have cf:=vA blk 0;have cl:=cA c0;clear hv0 blk;go_wp2_with fail;go_ret;exact ⟨rfl,HS.out.tower HXW.out (Sl.below HSL.out HXY.out.below) om om HPL.out HFF.out eX (pA _ _ _ sp)⟩
   ·rw [if_neg hT] at HP
    go_upto_region 12 with fail
    go_cut [54] (fun s54 wx=>s54 = .bool false/\wx=wr)
    case first=>
     by_cases h1:hd=wTower
     ·subst h1
      by_cases h2:(0:Int)<(N.length:Int)
      ·have t2:¬ (N.length:Int) % 3=0:=fun e=>hT ⟨rfl,om,om⟩
       clear hT;go_wp2_with fail;go_meet;exact ⟨by simp [t2],rfl⟩
      ·clear hT
       go_wp2_with fail;go_meet;exact ⟨rfl,rfl⟩
     ·have h2:(hd.toList==[116,111,119,101,114])=false:=wD h1
      clear hT;go_wp2_with fail;go_meet;exact ⟨rfl,rfl⟩
    case rest=>
     obtain ⟨rfl,rfl⟩:=hcut;clear hT
     cases o with
     | none=>
      obtain rfl:(none,zG 7)=P:=HP.out;have c3:cV wc XB 0 (.pointer none):=tA (kF HS.out.2 HXR.out) rfl;go_wp2_with (go_at_call 76;with_reducible refine mo (eF 7 _ H7) fun o1 n1=>?_);go_ret;exact ⟨rfl,HS.out.said (HXR.out.trans eX)⟩
     | some h=>
      obtain ⟨hb,rb,hh⟩:=HS.out.2;have HH:=aA (hh.ext HXR.out);have HB:=aA (HS.out.1.ext HXR.out);have c3:cV wc XB 0 (.pointer (some ⟨hb,0,none⟩)):=tA HH.out.blk rfl;have HO:=aA hh.rn.own;clear hh
      by_cases n0:N.length=0
      ·obtain rfl:=List.length_eq_zero_iff.1 n0
       obtain rfl:(some (xJ h hd).1,(xJ h hd).2.getD (zG 4))=P:=HP.out;clear n0 HP;go_wp2_with (go_at_call 79;refine (ralone_any (HH.out.ext eX) (HB.out.ext eX) hd).mono ?_;rintro e w2 ⟨rfl,hs2,hk2⟩;have HS2:=aA hs2;have HK2:Hid (fA (SK w0 Q) w w2):=(fA.of_ext (HXR.out.trans eX)).trans hk2;clear hs2 hk2);go_ret;exact ⟨rfl,HS2.out.ext eX,HK2.out.trans (fA.of_ext eX)⟩
      by_cases n1:N.length=1
      ·obtain ⟨x,rfl⟩:=one_of n1
       obtain rfl:(some (oneB h hd x).1,(oneB h hd x).2.getD (zG 4))=P:=HP.out;obtain ⟨b',q',x',rfl,hx',d0⟩:=HSN.out.get (show 0<[x].length by simp);cases hx';have d0:=at1 d0;have HNX:=HNR.out.2 x sp;clear n0 HP n1;simp only [Nat.zero_mul,Nat.add_zero] at d0;have dxl:=cA d0
       go_upto_region 30 with fail
       go_region_law (go_simp;go_at_call 80;refine (rone_any (HH.out.ext eX) (HB.out.ext eX) hd x HNX.1 HNX.2).mono ?_;rintro e w2 ⟨rfl,hs2,hk2⟩;have HS2:=aA hs2;have HK2:Hid (fA (SK w0 Q) w w2):=(fA.of_ext (HXR.out.trans eX)).trans hk2;clear hs2 hk2)
       all_goals
        go_wp2_with fail;go_ret;exact ⟨rfl,HS2.out.ext eX,HK2.out.trans (fA.of_ext eX)⟩
      by_cases n4:N.length=4/\hd=wPark
      ·obtain ⟨n4,rfl⟩:=n4
       obtain ⟨a,b,c,e,rfl⟩:=four_of n4;obtain ⟨b',q',x',rfl,hx0,d0⟩:=HSN.out.get (show 0<[a,b,c,e].length by simp);obtain ⟨x1,hx1,d1⟩:=HSN.out.get' (show 1<[a,b,c,e].length by simp);obtain ⟨x2,hx2,d2⟩:=HSN.out.get' (show 2<[a,b,c,e].length by simp);obtain ⟨x3,hx3,d3⟩:=HSN.out.get' (show 3<[a,b,c,e].length by simp);cases hx0;cases hx1;cases hx2;cases hx3;have d0:=at1 d0;have d1:=at1 d1;have d2:=at1 d2;have d3:=at1 d3;simp only [Nat.zero_mul,Nat.add_zero,Nat.one_mul,Nat.mul_one] at d0 d1 d2 d3;have dl:=cA d0;have cl:=cA c3;have hbw:=qA HG.out.own b' rfl
       have HMX:Hid (¬ rN hb rb XB):=by
        have:=HH.out.rn.own;rintro (e|e)
        ·exact this.1.2.1 e.symm
        ·exact this.2.2.1 e.symm
       have HMN:Hid (¬ rN hb rb b'):=by
        have h1:=HO.out.1.1;have h2:=HO.out.2.1
        rintro (e|e) <;> omega
       have HPF:=aA (park_f HH.out.inv.core.book ⟨a,⟨b,c,e⟩⟩);have HPI:=aA (HH.out.inv.park ⟨a,⟨b,c,e⟩⟩);have HPK:=aA (fun wq (y:Ext wc wq)=>rparked_now (HH.out.ext y).rn HH.out.inv a b c e)
       obtain ⟨H',hH'⟩:∃ v,h.park ⟨a,⟨b,c,e⟩⟩=v:=⟨_,rfl⟩
       have hp:(some (h.park ⟨a,⟨b,c,e⟩⟩).1,toldB (h.park ⟨a,⟨b,c,e⟩⟩).2.1 (h.park ⟨a,⟨b,c,e⟩⟩).2.2)=P:=HP.out;rw [hH'] at hp HPF HPK HPI;obtain ⟨h',t,f⟩:=H';dsimp only at hp HPF HPK HPI;obtain rfl:=hp;have HR1:=aA HPF.out.1;have HR2:=aA HPF.out.2;clear n0 n1 n4 HP hH'
       by_cases hf:f=0
       ·subst hf
        go_upto_region 33 with fail
        go_region_held3 (fun w'=>w'.cell? ⟨XB,0,none⟩=some (.pointer (some ⟨hb,0,none⟩))/\w'.cell? ⟨b',q',none⟩=some (vi a)/\w'.cell? ⟨b',q'+1,none⟩=some (vi b)/\w'.cell? ⟨b',q'+2,none⟩=some (vi c)/\w'.cell? ⟨b',q'+3,none⟩=some (vi e)) (first|(first|((try dsimp only);(repeat' apply And.intro) <;> exact xC (w:=wc)))|(first|((try dsimp only);(repeat' apply And.intro) <;> exact xC (w:=w2)))) (first
         | (go_at_call 16;refine (HPK.out _ eX).mono ?_;rintro r' w2 ⟨rfl,hk2,hs2⟩;have HK2:Hid (fA (rN hb rb) wc w2):=(fA.of_ext eX:fA (rN hb rb) wc _).trans hk2;have HN2:=aA ((HH.out.ext eX).did (HB.out.ext eX) hk2 hs2 HPI.out (Ext.refl _));have HKW:Hid (fA (SK w0 Q) w w2):=(fA.of_ext (HXR.out.trans eX)).trans HN2.out.2;have e3:=qB HK2.out c3 HMX.out;have e0:=qB HK2.out d0 HMN.out;have e1:=qB HK2.out d1 HMN.out;have e2:=qB HK2.out d2 HMN.out;have e4:=qB HK2.out d3 HMN.out;have el:=cA e0;have el2:=cA e3;clear hk2 hs2))
        all_goals
         go_wp2_with (go_at_call 81;with_reducible refine mo (mG t _ HR1) fun o1 n1=>?_);go_ret;exact ⟨rfl,HN2.out.1.ext eX,HKW.out.trans (fA.of_ext eX)⟩
       ·have hf0:0<f:=by have:=HR2.out;omega
        go_upto_region 33 with fail
        go_region_held3 (fun w'=>w'.cell? ⟨XB,0,none⟩=some (.pointer (some ⟨hb,0,none⟩))/\w'.cell? ⟨b',q',none⟩=some (vi a)/\w'.cell? ⟨b',q'+1,none⟩=some (vi b)/\w'.cell? ⟨b',q'+2,none⟩=some (vi c)/\w'.cell? ⟨b',q'+3,none⟩=some (vi e)) (first|(first|((try dsimp only);(repeat' apply And.intro) <;> exact xC (w:=wc)))|(first|((try dsimp only);(repeat' apply And.intro) <;> exact xC (w:=w2)))) (first
         | (go_at_call 16;refine (HPK.out _ eX).mono ?_;rintro r' w2 ⟨rfl,hk2,hs2⟩;have HK2:Hid (fA (rN hb rb) wc w2):=(fA.of_ext eX:fA (rN hb rb) wc _).trans hk2;have HN2:=aA ((HH.out.ext eX).did (HB.out.ext eX) hk2 hs2 HPI.out (Ext.refl _));have HKW:Hid (fA (SK w0 Q) w w2):=(fA.of_ext (HXR.out.trans eX)).trans HN2.out.2;have e3:=qB HK2.out c3 HMX.out;have e0:=qB HK2.out d0 HMN.out;have e1:=qB HK2.out d1 HMN.out;have e2:=qB HK2.out d2 HMN.out;have e4:=qB HK2.out d3 HMN.out;have el:=cA e0;have el2:=cA e3;clear hk2 hs2))
        all_goals
         go_wp2_with (go_at_call 76;with_reducible refine mo (eF f _ HR2) fun o1 n1=>?_);go_ret;exact ⟨by unfold toldB;rw [if_neg hf];rfl,HN2.out.1.ext eX,HKW.out.trans (fA.of_ext eX)⟩
      rw [restB_else n0 n1 n4] at HP;obtain rfl:(some h,zG 4)=P:=HP.out
      have m0:¬ (N.length:Int)=0:=om
      have m1:¬ (N.length:Int)=1:=om
      by_cases m4:(N.length:Int)=4
      ·have h4:(hd.toList==[112,97,114,107])=false:=wD (fun e=>n4 ⟨om,e⟩)
       clear n0 n1 n4 HP;go_wp2_with (go_at_call 76;with_reducible refine mo (eF 4 _ H4) fun o1 n1=>?_);go_ret;exact ⟨rfl,HS.out.said (HXR.out.trans eX)⟩
      ·clear n0 n1 n4 HP
       go_wp2_with (go_at_call 76;with_reducible refine mo (eF 4 _ H4) fun o1 n1=>?_);go_ret;exact ⟨rfl,HS.out.said (HXR.out.trans eX)⟩
end
