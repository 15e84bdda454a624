import Derived.Test.YtplomeacjbkgnabGreatDoorZ45
import Derived.Test.YtplomeacjbkgnabGreatDoorZ33
set_option linter.all false
set_option maxRecDepth 100000
set_option maxHeartbeats 16000000
namespace Go.Proofs.YtplomeacjbkgnabGreatDoor
open Go.RowKit Tryz Ch
theorem want_sizesC (h:House) (t:Int):(h.want t).1.sizes=h.sizes:=by
 unfold House.want
 split <;> rfl
theorem want_f (h:House) (t:Int):0<=(h.want t).2/\(h.want t).2<=999999:=by
 unfold House.want want
 split
 ·rename_i e he
  split at he
  ·cases he;dsimp only;omega
  ·split at he
   ·cases he;dsimp only;omega
   ·split at he
    ·cases he;dsimp only;omega
    ·cases he
 ·dsimp only;omega
section
variable {w0:World} {SB:Nat} {Q:Nat->Prop} {h:House} {k:Nat} {w:World} {N:Nat->Prop} {pb mb db lb hb:Nat} {la:Option Addr} {ln lc:Nat}
theorem jL.put {h':House} {lb' hb' k':Nat} {w':World} (s:jL w0 SB Q h k w N pb mb db lb hb la ln lc) (b:pK w0 SB Q w) (x:Ext w w') (st':St w0 N pb mb db lb' hb' h' k' w') (hs:h'.sizes=h.sizes):
  Ses w0 SB Q (some h') k' (w'.setCell ⟨SB,3,none⟩ (.pointer (some ⟨hb',0,none⟩)))/\fA (SK w0 Q) w (w'.setCell ⟨SB,3,none⟩ (.pointer (some ⟨hb',0,none⟩))):=by
 have kp:fA (Is SB) w' (w'.setCell ⟨SB,3,none⟩ (.pointer (some ⟨hb',0,none⟩))):=(fA.refl (Is SB) w').put 3 _;have b':=b.ext x
 have hw:∀ i,Is SB i->N i/\w0.heap.size<=i:=fun i hi=>by rw [show i=SB from hi];exact ⟨s.nb,b.sb⟩
 have hsk:∀ i,Is SB i->SK w0 Q i:=fun i hi=>by rw [show i=SB from hi];exact ⟨b.sb,b.qn⟩
 refine ⟨⟨b'.next kp (fun i hi=>(hw i hi).2),N,pb,mb,db,lb',hb',la,ln,lc,?_,st'.write kp hw,?_,s.lf,s.nb,s.nq⟩,(fA.of_ext x).trans (kp.wide hsk)⟩
 ·rw [tB (kF s.blk x)];rfl
 ·rw [hs]
  exact (Sl.below s.lv x.below).keptS kp (fun h0 c o e hh=>(s.lf h0 c o e).2.2 hh)
theorem cone_any (s:jL w0 SB Q h k w N pb mb db lb hb la ln lc) (b:pK w0 SB Q w) (L:kL w0) (wd:ByteArray) (n:Int) (n0:0<=n) (n9:n<=999999) (hk:k+203<4294967296) (ha:wd≠wArm):
  Calls prog 140 #[.pointer (some ⟨SB,0,none⟩),.string wd,vi n] w (SesR w0 SB Q (oneB h wd n).1 (k+200) w (.tuple #[.string ((oneB h wd n).2.getD ⟨#[]⟩),.bool (oneB h wd n).2.isSome])):=by
 have c1:cV w SB 1 (.pointer (some ⟨pb,0,none⟩)):=tA s.blk rfl;have c2:cV w SB 2 (.pointer (some ⟨db,0,none⟩)):=tA s.blk rfl;have c3:cV w SB 3 (.pointer (some ⟨hb,0,none⟩)):=tA s.blk rfl;have hlt:=cA c1;have HWF:Hid (h.p.WF):=s.st.wf;have HP:=aA s.st.plantAt;have HS:=aA s;have HB:=aA b;have HL:=aA L;have HT0:=aA L.tab;unfold oneB;clear s b L
 by_cases hk0:wd=wArrive
 ·rw [if_pos hk0]
  subst hk0
  obtain ⟨f,HFE⟩:∃ v,Hid ((h.p.arrive n).2=v):=⟨_,rfl⟩
  obtain ⟨V,HEV⟩:∃ v,Hid (aC f=v):=⟨_,rfl⟩
  have HR2:=mD (arrive_f h.p n);rw [HFE.out] at HR2;go_enter func140,ntmps140
  go_wp2_with (first
   | (go_at_call 34;refine (arrive_any (HP.out.ext eX) HWF.out _).mono ?_;rw [HFE.out,HEV.out];rintro e w1 ⟨rfl,hq1,hk1⟩;have HK1:Hid (fA (Own pb mb) w w1):=(fA.of_ext eX:fA (Own pb mb) w _).trans hk1;have HST:=aA (HS.out.st.plant HK1.out hq1 (Live.inv2_plant HS.out.st.inv (HWF.out.arrive n)));have HX1:Hid (Ext w0 w1):=(HB.out.next HST.out.2 (fun i hi=>hi.1)).ex;clear hq1 hk1)
   | (go_at_call 176;(with_reducible refine (nK f V HEV _ HR2 (HT0.out.ext (HX1.out.trans eX))).mono ?_);rintro e w2 ⟨rfl,o2,n2,rfl⟩))
  go_ret2
  exact ⟨by rw [HFE.out];rfl,HS.out.did2 HB.out HST.out.2 HST.out.1 rfl eX om⟩
 rw [if_neg hk0];have m0:(wd.toList==[97,114,114,105,118,101])=false:=wD hk0
 by_cases hk1:wd=wCome
 ·rw [if_pos hk1]
  clear m0 hk0;subst hk1
  obtain ⟨f,HFE⟩:∃ v,Hid ((h.p.walk n).2=v):=⟨_,rfl⟩
  obtain ⟨V,HEV⟩:∃ v,Hid (aC f=v):=⟨_,rfl⟩
  have HR2:=mD (walk_f h.p n);rw [HFE.out] at HR2;go_enter func140,ntmps140
  go_wp2_with (first
   | (go_at_call 58;refine (walk_any (HP.out.ext eX) HWF.out _).mono ?_;rw [HFE.out,HEV.out];rintro e w1 ⟨rfl,hq1,hk1⟩;have HK1:Hid (fA (Own pb mb) w w1):=(fA.of_ext eX:fA (Own pb mb) w _).trans hk1;have HST:=aA (HS.out.st.plant HK1.out hq1 (Live.inv2_plant HS.out.st.inv (HWF.out.walk n)));have HX1:Hid (Ext w0 w1):=(HB.out.next HST.out.2 (fun i hi=>hi.1)).ex;clear hq1 hk1)
   | (go_at_call 176;(with_reducible refine (nK f V HEV _ HR2 (HT0.out.ext (HX1.out.trans eX))).mono ?_);rintro e w2 ⟨rfl,o2,n2,rfl⟩))
  go_ret2
  exact ⟨by rw [HFE.out];rfl,HS.out.did2 HB.out HST.out.2 HST.out.1 rfl eX om⟩
 rw [if_neg hk1];have m1:(wd.toList==[99,111,109,101])=false:=wD hk1
 by_cases hk2:wd=wGo
 ·rw [if_pos hk2]
  clear m0 hk0 m1 hk1;subst hk2
  obtain ⟨f,HFE⟩:∃ v,Hid ((h.p.walk (-n)).2=v):=⟨_,rfl⟩
  obtain ⟨V,HEV⟩:∃ v,Hid (aC f=v):=⟨_,rfl⟩
  have HR2:=mD (walk_f h.p (-n));rw [HFE.out] at HR2;go_enter func140,ntmps140
  go_wp2_with (first
   | (go_at_call 58;refine (walk_any (HP.out.ext eX) HWF.out _).mono ?_;rw [HFE.out,HEV.out];rintro e w1 ⟨rfl,hq1,hk1⟩;have HK1:Hid (fA (Own pb mb) w w1):=(fA.of_ext eX:fA (Own pb mb) w _).trans hk1;have HST:=aA (HS.out.st.plant HK1.out hq1 (Live.inv2_plant HS.out.st.inv (HWF.out.walk (-n))));have HX1:Hid (Ext w0 w1):=(HB.out.next HST.out.2 (fun i hi=>hi.1)).ex;clear hq1 hk1)
   | (go_at_call 176;(with_reducible refine (nK f V HEV _ HR2 (HT0.out.ext (HX1.out.trans eX))).mono ?_);rintro e w2 ⟨rfl,o2,n2,rfl⟩))
  go_ret2
  exact ⟨by rw [HFE.out];rfl,HS.out.did2 HB.out HST.out.2 HST.out.1 rfl eX om⟩
 rw [if_neg hk2];have m2:(wd.toList==[103,111])=false:=wD hk2
 by_cases hk3:wd=wStall
 ·rw [if_pos hk3]
  clear m0 hk0 m1 hk1 m2 hk2;subst hk3
  obtain ⟨f,HFE⟩:∃ v,Hid ((h.p.setStall n).2=v):=⟨_,rfl⟩
  obtain ⟨V,HEV⟩:∃ v,Hid (aC f=v):=⟨_,rfl⟩
  have HR2:=mD (stall_f h.p n);rw [HFE.out] at HR2;go_enter func140,ntmps140
  go_wp2_with (first
   | (go_at_call 63;refine (stall_any (HP.out.ext eX) _).mono ?_;rw [HFE.out,HEV.out];rintro e w1 ⟨rfl,hq1,hk1⟩;have HK1:Hid (fA (Own pb mb) w w1):=(fA.of_ext eX:fA (Own pb mb) w _).trans hk1;have HST:=aA (HS.out.st.plant HK1.out hq1 (Live.inv2_plant HS.out.st.inv (HWF.out.setStall n)));have HX1:Hid (Ext w0 w1):=(HB.out.next HST.out.2 (fun i hi=>hi.1)).ex;clear hq1 hk1)
   | (go_at_call 176;(with_reducible refine (nK f V HEV _ HR2 (HT0.out.ext (HX1.out.trans eX))).mono ?_);rintro e w2 ⟨rfl,o2,n2,rfl⟩))
  go_ret2
  exact ⟨by rw [HFE.out];rfl,HS.out.did2 HB.out HST.out.2 HST.out.1 rfl eX om⟩
 rw [if_neg hk3];have m3:(wd.toList==[115,116,97,108,108])=false:=wD hk3
 by_cases hk4:wd=wWant
 ·rw [if_pos hk4]
  clear m0 hk0 m1 hk1 m2 hk2 m3 hk3;subst hk4
  obtain ⟨f,HFE⟩:∃ v,Hid ((h.want n).2=v):=⟨_,rfl⟩
  obtain ⟨V,HEV⟩:∃ v,Hid (aC f=v):=⟨_,rfl⟩
  have HR2:=mD (want_f h n);rw [HFE.out] at HR2;go_enter func140,ntmps140
  go_wp2_with (first
   | (go_at_call 17;refine (st_want (HS.out.st.ext eX) om HT0.out _).mono ?_;rw [HFE.out,HEV.out];rintro e w1 ⟨rfl,hk1,hs1⟩;have HK1:Hid (fA (yI w0 N) w w1):=(fA.of_ext eX:fA (yI w0 N) w _).trans hk1;have HS1:=aA hs1;have HX1:Hid (Ext w0 w1):=(HB.out.next HK1.out (fun i hi=>hi.1)).ex;clear hk1 hs1)
   | (go_at_call 176;(with_reducible refine (nK f V HEV _ HR2 (HT0.out.ext (HX1.out.trans eX))).mono ?_);rintro e w2 ⟨rfl,o2,n2,rfl⟩))
  go_ret2
  exact ⟨by rw [HFE.out];rfl,HS.out.did2 HB.out HK1.out HS1.out (want_sizesC _ _) eX om⟩
 rw [if_neg hk4];have m4:(wd.toList==[119,97,110,116])=false:=wD hk4
 by_cases hk5:wd=wTick
 ·rw [if_pos hk5]
  clear m0 hk0 m1 hk1 m2 hk2 m3 hk3 m4 hk4;subst hk5;go_enter func140,ntmps140;go_wp2_with (go_at_call 182;refine (cticks_any (HS.out.ext eX) (HB.out.ext eX) HL.out n n0 n9 hk).mono ?_;rintro e w1 ⟨rfl,hs1,hk1⟩;have HS1:=aA hs1;have HK1:Hid (fA (SK w0 Q) w w1):=(fA.of_ext eX:fA (SK w0 Q) w _).trans hk1;clear hs1 hk1)
  go_ret2
  exact ⟨rfl,HS1.out.ext eX,HK1.out.trans (fA.of_ext eX)⟩
 rw [if_neg hk5];have m5:(wd.toList==[116,105,99,107])=false:=wD hk5
 by_cases hk6:wd=wRestart
 ·rw [if_pos hk6]
  clear m0 hk0 m1 hk1 m2 hk2 m3 hk3 m4 hk4 m5 hk5 ha;subst hk6;obtain ⟨keep,rfl⟩:=Int.eq_ofNat_of_zero_le n0
  have hkp:keep<18446744073709551616:=om
  go_enter func140,ntmps140
  go_wp2_with (first
   | (go_at_call 184;refine (st_restart (HS.out.st.ext eX) keep hkp).mono ?_;rintro e w1 ⟨rfl,hk1,hs1⟩;have HK1:Hid (fA (yI w0 N) w w1):=(fA.of_ext eX:fA (yI w0 N) w _).trans hk1;have HH1:=aA (HS.out.next HB.out.lt HK1.out hs1 rfl);have HB1:=aA (HB.out.next HK1.out (fun i hi=>hi.1));clear hk1 hs1)
   | (go_at_call 177;refine (copen_any (P:=fun hb' w'=>∃ lb',St w0 N pb mb db lb' hb' { h with goals:=[] } k w') (kF HH1.out.blk eX) (fun wq x=>(st_new (HH1.out.st.ext (Ext.trans eX x)) (Sl.below HH1.out.lv (Ext.trans eX x).below) HL.out).mono fun r w' ⟨hb',lb',e,hx,hs⟩=>⟨hb',e,hx,lb',hs⟩) (fun _ _ _ x ⟨lb',hs⟩=>⟨lb',hs.ext x⟩)).mono ?_;rintro e w3 ⟨hb',w2,rfl,hx2,⟨lb',hs2⟩,rfl⟩;have HX2:Hid (Ext w1 w2):=Ext.trans eX hx2;have HPU:=aA (HH1.out.put HB1.out HX2.out hs2 rfl);have HX3:Hid (Ext w0 _):=HPU.out.1.1.ex;clear hx2 hs2)
   | (go_at_call 176;refine (nK 0 .nilIface rfl _ (mD om) (HT0.out.ext (HX3.out.trans eX))).mono ?_;rintro e w4 ⟨rfl,o4,n4,rfl⟩))
  go_ret2
  exact ⟨rfl,(HPU.out.1.more om).ext eX,(HK1.out.wide HS.out.wide).trans (HPU.out.2.trans (fA.of_ext eX))⟩
 rw [if_neg hk6];have m6:(wd.toList==[114,101,115,116,97,114,116])=false:=wD hk6;have m7:(wd.toList==[97,114,109])=false:=wD ha;clear hk0 hk1 hk2 hk3 hk4 hk5 hk6 ha;go_enter func140,ntmps140;go_wp2
 go_ret2
 exact ⟨rfl,((HS.out.same HB.out eX).1).more om,(HS.out.same HB.out eX).2⟩
end
theorem rnext_jfB {w:World} {hb rb:Nat} {la:Option Addr} {ln lc:Nat} {last:Int} {a1:Option Addr} {m1 c1:Nat} {a2:Option Addr} {m2 c2:Nat} {gv:Value} {l:List sA} {js:List Job} {p:dA} (hh:eL w hb rb (.slice la ln lc) last a1 m1 c1 a2 m2 c2 gv l js p)
  (hwf:p.WF) (hj:Hid (∀ j∈js,∃ s∈l,s.ticket=j.ticket)) (h0:Hid (∀ s∈l,s.ticket≠0)) (hpl:Hid (∀ s∈l,uA s.home (ln:Int)=0)) (l1:1<=ln) (l4:ln<=4) (hlc:ln<=lc) (hlm:lc<=maxLen) (hm1:m1<=100) (hm2:m2<=100)
  (jt li ba:Int) (jf is dd:Bool) (hba:Hid (p.bay=ba)) (hli:Hid (p.lift=li)) (hdd:Hid (p.door=dd)) (HFJ:Hid (pC (sB ⟨last,l,js⟩ ba)=(jt,jf,is))) (hl:li=0) (c:Int) (HC:Hid (p.slots ⟨(ln:Int),1,0⟩=c)) (hgo:Hid (c=0\/∃ xt xi x1 x2 x3 u1 u2 u3,(⟨last,l,js⟩:gB).of c=some ⟨xt,⟨xi,⟨x1,x2,x3⟩⟩,⟨u1,u2,u3⟩⟩/\bE ⟨last,l,js⟩ p ⟨xt,⟨xi,⟨x1,x2,x3⟩⟩,⟨u1,u2,u3⟩⟩ ⟨jt,jf⟩=true)) (hi:is=true) (hjf:jf=true) (hno:Hid (¬ (p.bay=((⟨last,l,js⟩:gB).stay jt).car.id\/p.has ((⟨last,l,js⟩:gB).stay jt).car.id=false))) (hB:¬ ba=0\/dd=true):
  Calls prog 68 #[.pointer (some ⟨hb,0,none⟩)] w (xI w (xA ⟨last,l,js⟩ (ln:Int) p).1 (xA ⟨last,l,js⟩ (ln:Int) p).2):=by
 subst hl;subst hi;subst hjf;have b1:=hh.st.bound;have b2:=hh.jb.bound;have HH:=aA hh;have hlt0:=cA hh.cells.1;unfold maxLen at hlm;have e0':=hh.cells.1;have e1':=hh.cells.2.1
 have L1:(1:Int)<=(ln:Int):=om
 have L4:(ln:Int)<=4:=om
 clear hh;go_enter func68,ntmps68
 go_upto_region 2 with fail
 generalize hW:World.alloc _ _=w0;have hx0:Ext w w0:=xQ hW;have r0:cI w0 w.heap.size 0 0:=cQ hW;have r1:cV w0 w.heap.size 1 (.slice none 0 0):=cQ hW;have r2:cV w0 w.heap.size 2 (.slice none 0 0):=cQ hW
 have fz:∀ i,w0.frozen? ⟨w.heap.size,i,none⟩=false:=by intro i;rw [<-hW];simp [go_sem]
 have FZ:=aA fz;have k0:=gA hx0 e0';have k1:=gA hx0 e1';have HX0:=aA hx0;clear hW hx0 fz e0' e1' hlt0
 go_upto_region 3 with (go_at_call 124;with_reducible refine mo (wF _ _) fun o1 n1=>?_)
 generalize hW:World.alloc _ _=w1;generalize hA:w0.heap.size+_=SP;have hx1:Ext w0 w1:=xQ hW;have s0:cI w1 SP 0 (ln:Int):=cR hW hA;have s1:cI w1 SP 1 1:=cR hW hA;have s2:cI w1 SP 2 0:=cR hW hA;have HX1:=aA (HX0.out.trans hx1);obtain ⟨m0,m1',v0,v1,v2⟩:=xe5 hx1 k0 k1 r0 r1 r2
 have fz1:∀ i,w1.frozen? ⟨w.heap.size,i,none⟩=false:=fun i=>kA hx1 (cA r0) (FZ.out i)
 have FZ1:=aA fz1;clear hW hA hx1 k0 k1 r0 r1 r2 FZ fz1 HX0
 go_upto_region 4 with (go_at_call 125;with_reducible refine mo (iE jt true true (HH.out.ext (HX1.out.trans eX)) hj h0 ba hba HFJ) fun o1 n1=>?_)
 generalize hW:World.alloc _ _=w2;generalize hA:w1.heap.size+_=JB;have hx2:Ext w1 w2:=xQ hW;have j0:cI w2 JB 0 jt:=cR hW hA;have j1:cV w2 JB 1 (.bool true):=cR hW hA;have HX2:=aA (HX1.out.trans hx2);obtain ⟨t0,t1,t2,q0,q1,q2⟩:=xe6 hx2 s0 s1 s2 v0 v1 v2
 have fz2:∀ i,w2.frozen? ⟨w.heap.size,i,none⟩=false:=fun i=>kA hx2 (cA v0) (FZ1.out i)
 have FZ2:=aA fz2;have H2:=aA (HH.out.ext HX2.out);have g1:=H2.out.cells.2.1;have g2:=H2.out.cells.2.2.1;have g3:=H2.out.cells.2.2.2.1;have g4:=H2.out.cells.2.2.2.2.1;have pd:=H2.out.pl.cells.2.2.2.1;have pl:=H2.out.pl.cells.2.2.2.2.2.1;have pb:=H2.out.pl.cells.2.2.2.2.2.2.1;rw [hdd.out] at pd;rw [hli.out] at pl;rw [hba.out] at pb;have z1:=cA q0;have z2:=cA t0;have z3:=cA j0;have z4:=cA g1;have z5:=cA pl;have hRw:w.heap.size<=w.heap.size:=Nat.le_refl _;clear hW hA hx2 m0 m1' v0 v1 v2 s0 s1 s2 FZ1 fz2 HX1 HH;have HJX:Hid (∃ s∈l,s.ticket=jt):=gJ hj HFJ.out rfl
 have HJ1:Hid (jt≠0):=by unfold Hid;obtain ⟨s,hs,e⟩:=HJX.out;rw [<-e];exact h0.out s hs
 go_upto_region 17 with fail
 have hxs:Ext w2 w2:=Ext.refl _;obtain ⟨q0,q1,q2,t0,t1,t2,j0,j1,g1,pd,pl,pb⟩:=iF hxs q0 q1 q2 t0 t1 t2 j0 j1 g1 pd pl pb;obtain ⟨g2,g3,g4⟩:=xe3 hxs g2 g3 g4
 have FQ:Hid (∀ i,w2.frozen? ⟨w.heap.size,i,none⟩=false):=fun i=>kA hxs z1 (FZ2.out i)
 have HXB:=aA (HX2.out.trans hxs);have HB:=aA (H2.out.ext hxs);clear hxs z1 z2 z3 z4 z5 FZ2 HX2 H2;have z1:=cA q0;have z2:=cA t0;have z3:=cA j0;have z4:=cA g1;have z5:=cA pl
 go_upto_if 112 with (go_at_call 74;with_reducible refine mo (cD (HB.out.pl.ext eX) hwf _ _ _ c HC) fun o1 n1=>?_)
 generalize hWq:World.plus _ _ _=wq;have hxq:Ext w2 wq:=xQ hWq;clear hWq;obtain ⟨q0,q1,q2,t0,t1,t2,j0,j1,g1,pd,pl,pb⟩:=iF hxq q0 q1 q2 t0 t1 t2 j0 j1 g1 pd pl pb;obtain ⟨g2,g3,g4⟩:=xe3 hxq g2 g3 g4
 replace FQ:Hid (∀ i,wq.frozen? ⟨w.heap.size,i,none⟩=false):=fun i=>kA hxq z1 (FQ.out i)
 replace HXB:=aA (HXB.out.trans hxq);replace HB:=aA (HB.out.ext hxq);clear hxq z1 z2 z3 z4 z5;have z1:=cA q0;have z2:=cA t0;have z3:=cA j0;have z4:=cA g1;have z5:=cA pl
 go_cut [] (fun wx=>Ext wq wx)
 case first=>
  rcases hgo.out with hc0|⟨xt,xi,x1,x2,x3,u1,u2,u3,ho,hbv⟩
  ·subst hc0
   go_wp2_with fail;go_meet;exact Ext.refl _
  ·have HO:=aA ho
   have HBV:=aA hbv;clear ho hbv
   by_cases hc:c=0
   ·subst hc
    go_wp2_with fail;go_meet;exact Ext.refl _
   ·go_upto_region 18 with fail
    go_region_held3 (fun w'=>w'.cell? ⟨hb,2,none⟩=some (vi last)/\w'.cell? ⟨hb,3,none⟩=some (.slice a1 m1 c1)/\w'.cell? ⟨hb,4,none⟩=some (.slice a2 m2 c2)/\w'.cell? ⟨SP,0,none⟩=some (vi (ln:Int))/\w'.cell? ⟨SP,1,none⟩=some (vi 1)/\w'.cell? ⟨SP,2,none⟩=some (vi 0)) (first|((try dsimp only);(repeat' apply And.intro) <;> exact xC (w:=wq))) (first|(go_at_call 74;with_reducible refine mo (cD (HB.out.pl.ext eX) hwf _ _ _ c HC) fun o1 n1=>?_)|(go_at_call 100;with_reducible refine mo (fF xt xi x1 x2 x3 u1 u2 u3 _ _ _ _ _ _ _ _ l js _ (Sl.below HB.out.st (Ext.below eX)) h0 HO) fun o1 n1=>?_))
    ·generalize hW:World.alloc _ _=w5
     generalize hA:wq.heap.size+_=A5;have hx5:Ext wq w5:=xQ hW;have xx0:cI w5 A5 0 xt:=cR hW hA;have xx1:cI w5 A5 1 xi:=cR hW hA;have xx2:cI w5 A5 2 x1:=cR hW hA;have xx3:cI w5 A5 3 x2:=cR hW hA;have xx4:cI w5 A5 4 x3:=cR hW hA;have xx5:cI w5 A5 5 u1:=cR hW hA;have xx6:cI w5 A5 6 u2:=cR hW hA;have xx7:cI w5 A5 7 u3:=cR hW hA;clear hW hA;have y0:=gA hx5 j0;have y1:=gA hx5 j1;have yl:=cA y0;have xl:=cA xx0;go_wp2_with (go_at_call 128;with_reducible refine mo (tD true xt xi x1 x2 x3 u1 u2 u3 jt true (HB.out.ext (hx5.trans eX)) hwf HJX HJ1 HBV) fun o1 n1=>?_);go_meet;exact hx5.trans eX
    ·generalize hW:World.setCell _ _ _=w5
     obtain ⟨xx0,xx1,xx2,xx3,xx4,xx5,xx6,xx7,hx5⟩:=rJ (w:=wq) hW eX (by first|exact Nat.le_refl _|(simp;done)|(simp;omega)) (by rw [dB _ _ _ _ sp];exact pA _ _ _ (by first|rfl|simp)) rfl;clear hW;have y0:=gA hx5 j0;have y1:=gA hx5 j1;have yl:=cA y0;have xl:=cA xx0;go_wp2_with (go_at_call 128;with_reducible refine mo (tD true xt xi x1 x2 x3 u1 u2 u3 jt true (HB.out.ext (hx5.trans eX)) hwf HJX HJ1 HBV) fun o1 n1=>?_);go_meet;exact hx5.trans eX
    ·generalize hW:World.setCell _ _ _=w5
     obtain ⟨xx0,xx1,xx2,xx3,xx4,xx5,xx6,xx7,hx5⟩:=rJ (w:=wq) hW eX (by first|exact Nat.le_refl _|(simp;done)|(simp;omega)) (by rw [dB _ _ _ _ sp];exact pA _ _ _ (by first|rfl|simp)) rfl;clear hW;have y0:=gA hx5 j0;have y1:=gA hx5 j1;have yl:=cA y0;have xl:=cA xx0;go_wp2_with (go_at_call 128;with_reducible refine mo (tD true xt xi x1 x2 x3 u1 u2 u3 jt true (HB.out.ext (hx5.trans eX)) hwf HJX HJ1 HBV) fun o1 n1=>?_);go_meet;exact hx5.trans eX
 case rest=>
  obtain ⟨q0,q1,q2,t0,t1,t2,j0,j1,g1,pd,pl,pb⟩:=iF hcut q0 q1 q2 t0 t1 t2 j0 j1 g1 pd pl pb;obtain ⟨g2,g3,g4⟩:=xe3 hcut g2 g3 g4
  replace FQ:Hid (∀ i,wc.frozen? ⟨w.heap.size,i,none⟩=false):=fun i=>kA hcut z1 (FQ.out i)
  replace HXB:=aA (HXB.out.trans hcut);replace HB:=aA (HB.out.ext hcut);clear hcut z1 z2 z3 z4 z5;have z1:=cA q0;have z2:=cA t0;have z3:=cA j0;have z4:=cA g1;have z5:=cA pl
  obtain ⟨⟨xt,⟨xi,⟨x1,x2,x3⟩⟩,⟨u1,u2,u3⟩⟩,HST⟩:∃ x,Hid ((⟨last,l,js⟩:gB).stay jt=x):=⟨_,rfl⟩
  obtain ⟨hv,HHV⟩:∃ x,Hid (p.has xi=x):=⟨_,rfl⟩
  obtain ⟨sv,HSV⟩:∃ x,Hid (p.slots ⟨u1,u2,u3⟩=x):=⟨_,rfl⟩
  have HT:Hid (xA ⟨last,l,js⟩ (ln:Int) p=gE ⟨last,l,js⟩ p ⟨jt,true⟩):=rturn_job hli.out hba.out HC.out HFJ.out hgo.out
  go_upto_region 28 with fail
  go_cut [16,17] (fun s16 s17 wx=>∃ A5:Nat,s16 = .pointer (some ⟨A5,0,none⟩)/\s17 = .bool true/\Ext wc wx  /\cI wx A5 0 xt/\cI wx A5 1 xi/\cI wx A5 2 x1/\cI wx A5 3 x2/\cI wx A5 4 x3/\cI wx A5 5 u1/\cI wx A5 6 u2/\cI wx A5 7 u3)
  case first=>
   go_region_held3 (fun w'=>w'.cell? ⟨hb,2,none⟩=some (vi last)/\w'.cell? ⟨hb,3,none⟩=some (.slice a1 m1 c1)/\w'.cell? ⟨hb,4,none⟩=some (.slice a2 m2 c2)/\w'.cell? ⟨JB,0,none⟩=some (vi jt)) (first|((try dsimp only);(repeat' apply And.intro) <;> exact xC (w:=wc))) (first|(go_at_call 100;with_reducible refine mo (aN xt xi x1 x2 x3 u1 u2 u3 _ _ _ _ _ _ _ _ l js _ (Sl.below HB.out.st (Ext.below eX)) HJ1 HJX HST) fun o1 n1=>?_))
   ·generalize hW:World.alloc _ _=w5
    generalize hA:wc.heap.size+_=A5;have hx5:Ext wc w5:=xQ hW;have xx0:cI w5 A5 0 xt:=cR hW hA;have xx1:cI w5 A5 1 xi:=cR hW hA;have xx2:cI w5 A5 2 x1:=cR hW hA;have xx3:cI w5 A5 3 x2:=cR hW hA;have xx4:cI w5 A5 4 x3:=cR hW hA;have xx5:cI w5 A5 5 u1:=cR hW hA;have xx6:cI w5 A5 6 u2:=cR hW hA;have xx7:cI w5 A5 7 u3:=cR hW hA;clear hW hA;go_wp2_with fail;go_meet;exact ⟨A5,rfl,rfl,hx5,xx0,xx1,xx2,xx3,xx4,xx5,xx6,xx7⟩
   ·generalize hW:World.setCell _ _ _=w5
    obtain ⟨xx0,xx1,xx2,xx3,xx4,xx5,xx6,xx7,hx5⟩:=rJ (w:=wc) hW eX (by first|exact Nat.le_refl _|(simp;done)|(simp;omega)) (by rw [dB _ _ _ _ sp];exact pA _ _ _ (by first|rfl|simp)) rfl;clear hW;go_wp2_with fail;go_meet;exact ⟨_,rfl,rfl,hx5,xx0,xx1,xx2,xx3,xx4,xx5,xx6,xx7⟩
  case rest=>
   obtain ⟨A5,rfl,rfl,hx5,c0',c1',c2',c3',c4',c5',c6',c7'⟩:=hcut;obtain ⟨q0,q1,q2,t0,t1,t2,j0,j1,g1,pd,pl,pb⟩:=iF hx5 q0 q1 q2 t0 t1 t2 j0 j1 g1 pd pl pb;obtain ⟨g2,g3,g4⟩:=xe3 hx5 g2 g3 g4
   replace FQ:Hid (∀ i,wc.frozen? ⟨w.heap.size,i,none⟩=false):=fun i=>kA hx5 z1 (FQ.out i)
   replace HXB:=aA (HXB.out.trans hx5);replace HB:=aA (HB.out.ext hx5);clear hx5 z1 z2 z3 z4 z5;have z1:=cA q0;have z2:=cA t0;have z3:=cA j0;have z4:=cA g1;have z5:=cA pl;have z6:=cA c0'
   go_upto_region 31 with (go_at_call 111;with_reducible refine mo (rhas_at hv (HB.out.pl.ext eX) hwf _ HHV) fun o1 n1=>?_)
   generalize hWq:World.plus _ _ _=we;have hxq:Ext wc we:=xQ hWq;clear hWq;obtain ⟨c0',c1',c2',c3',c4',c5',c6',c7',q0,q1,q2,t0⟩:=iF hxq c0' c1' c2' c3' c4' c5' c6' c7' q0 q1 q2 t0;obtain ⟨t1,t2,j0,j1,g1,pd,pl,pb,g2,g3,g4⟩:=xe11 hxq t1 t2 j0 j1 g1 pd pl pb g2 g3 g4
   replace FQ:Hid (∀ i,we.frozen? ⟨w.heap.size,i,none⟩=false):=fun i=>kA hxq z1 (FQ.out i)
   replace HXB:=aA (HXB.out.trans hxq);replace HB:=aA (HB.out.ext hxq);clear hxq z1 z2 z3 z4 z5;have z1:=cA q0;have z2:=cA t0;have z3:=cA j0;have z4:=cA g1;have z5:=cA pl;have z6:=cA c0';have ho:=hno.out;rw [HST.out] at ho;dsimp only at ho;rw [hba.out,HHV.out] at ho
   have h1:¬ ba=xi:=fun e=>ho (Or.inl e)
   have hv1:hv=true:=by
    cases hv
    ·exact absurd (Or.inr rfl) ho
    ·rfl
   clear ho;subst hv1
   have HN1:Hid (¬ p.bay=xi):=by unfold Hid;rw [hba.out];exact h1
   by_cases h2:ba=0
   rotate_left
   ·have HN2:Hid (¬ p.bay=0):=by unfold Hid;rw [hba.out];exact h2
    go_upto_region 42 with fail
    cases dd
    ·go_upto_region 44 with fail
     repeat (first|(go_big_may;(go_at_call 129;(with_reducible refine (rWelcome_any _).mono ?_);rintro e wv ⟨v1,rfl,hown,hxv⟩;have hxz:Ext we wv:=Ext.trans eX hxv;have fq0:=kA hxz (cA q0) (FQ.out 0);have fq1:=kA hxz (cA q0) (FQ.out 1);have fq2:=kA hxz (cA q0) (FQ.out 2);obtain ⟨pq0,pq1,pq2⟩:=xe3 hxz q0 q1 q2))|go_values|go_skip|go_guarded|go_step|go_upon|simp only [])
     have HE:xA ⟨last,l,js⟩ (ln:Int) p=(rG,none):=by rw [HT.out,rf2 HST.out HN1.out HHV.out HN2.out hdd.out];rfl
     obtain ⟨o0,o1,o2,ox⟩:=dE (w:=w) (x:=vi 0) (y:=.slice none 0 0) (z:=.slice none 0 0) (HXB.out.trans hxz) (Nat.le_refl _) pq0 pq1 pq2;refine bodyPost_ret (v:=.tuple #[v1,.agg #[vi 0,.slice none 0 0,.slice none 0 0],.bool false]) (by simp [results,results68,go_sem,o0,o1,o2]) rfl ?_;rw [HE];exact ⟨v1,_,_,rfl,mA (dC hown (by have:=cA q0;first|omega|(simp;omega))) (by have:=HXB.out.below.size;first|omega|(simp;omega)),mC _ _,ox⟩
    ·have fq0:=FQ.out 0
     have fq1:=FQ.out 1;have fq2:=FQ.out 2
     go_upto_region 43 with fail
     repeat (first|(go_big_may;fail)|go_values|go_skip|go_guarded|go_step|go_upon|simp only [])
     have HE:xA ⟨last,l,js⟩ (ln:Int) p=([],none):=by rw [HT.out,rf2 HST.out HN1.out HHV.out HN2.out hdd.out];rfl
     obtain ⟨o0,o1,o2,ox⟩:=dE (w:=w) (x:=vi 0) (y:=.slice none 0 0) (z:=.slice none 0 0) HXB.out (Nat.le_refl _) q0 q1 q2;refine bodyPost_ret (v:=.tuple #[.slice none 0 0,.agg #[vi 0,.slice none 0 0,.slice none 0 0],.bool false]) (by simp [results,results68,go_sem,o0,o1,o2]) rfl ?_;rw [HE];exact ⟨_,_,_,rfl,fD _ _ _ _,mC _ _,ox⟩
   have HB0:Hid (p.bay=0):=by unfold Hid;rw [hba.out];exact h2
   subst h2;cases dd
   rotate_left
   ·have fq0:=FQ.out 0
    have fq1:=FQ.out 1;have fq2:=FQ.out 2
    go_upto_region 46 with fail
    repeat (first|(go_big_may;fail)|go_values|go_skip|go_guarded|go_step|go_upon|simp only [])
    obtain ⟨o0,o1,o2,ox⟩:=dE (w:=w) (a:=we) (x:=vi 0) (y:=.slice none 0 0) (z:=.slice none 0 0) HXB.out (Nat.le_refl _) q0 q1 q2
    have hsz:(((we.setCell ⟨w.heap.size,0,none⟩ (vi 0)).setCell ⟨w.heap.size,1,none⟩ (.slice none 0 0)).setCell ⟨w.heap.size,2,none⟩ (.slice none 0 0)).heap.size=we.heap.size:=sp
    have hsw:=HXB.out.below.size
    generalize hW3:World.setCell _ _ _=W3 at o0 o1 o2 ox hsz ⊢
    generalize hWq:World.alloc _ _=wa;have hx3:Ext W3 wa:=xQ hWq;obtain ⟨r0,r1,r2⟩:=xe3 hx3 o0 o1 o2
    have hown:wa.ownsRow w.heap.size 135 2 (.slice (some ⟨we.heap.size,0,none⟩) 1 1) ([⟨5,0⟩]:List aG).length (([⟨5,0⟩]:List aG).flatMap jC):=by
     rw [<-hWq];exact owns_newA 135 2 1 #[vi 5,vi 0] rfl (by unfold maxLen;omega) hsz.symm om
    have HE:xA ⟨last,l,js⟩ (ln:Int) p=([⟨5,0⟩],none):=by rw [HT.out,rf3 HST.out HN1.out HHV.out HB0.out hdd.out]
    refine bodyPost_ret (v:=.tuple #[.slice (some ⟨we.heap.size,0,none⟩) 1 1,.agg #[vi 0,.slice none 0 0,.slice none 0 0],.bool false]) (by simp [results,results68,go_sem,r0,r1,r2]) rfl ?_;rw [HE];exact ⟨_,_,_,rfl,hown,mC _ _,ox.trans hx3⟩
   rcases hB with h|h
   ·exact absurd rfl h
   ·cases h
