import Derived.Test.YtplomeacjbkgnabGreatDoorZ17
set_option linter.all false
set_option maxRecDepth 100000
set_option maxHeartbeats 16000000
namespace Go.Proofs.YtplomeacjbkgnabGreatDoor
open Go.RowKit Tryz Ch
def bJ (jt:Int) (jf ov:Bool) (x:Job):Bool:=decide (x=⟨jt,jf⟩) || (ov&&x.ticket==jt)
theorem jobOver_kept (j:Job) (gone:Bool):(fun x=>!bJ j.ticket j.fetch (j.fetch || gone) x)=fun x=>!(x==j || ((j.fetch || gone)&&x.ticket==j.ticket)):=by
 funext x
 unfold bJ
 congr 2
theorem done1_any (t jt:Int) (f jf ov:Bool) (B BB:Nat) (w:World) (h0:w.cell? ⟨B,0,none⟩=some (vi jt)) (h1:w.cell? ⟨B,1,none⟩=some (.bool jf)) (hc:w.cell? ⟨BB,0,none⟩=some (.bool ov)):
  Calls prog 196 #[.agg #[vi t,.bool f],.pointer (some ⟨B,0,none⟩),.pointer (some ⟨BB,0,none⟩)] w fun e w'=>e = .returned (.bool (bJ jt jf ov ⟨t,f⟩))/\Ext w w':=by
 have hB:=cA h0;have hBB:=cA hc
 by_cases e1:(⟨t,f⟩:Job)=⟨jt,jf⟩
 ·have hq1:∀ w,(Go.binOp .eql 143 (.agg #[vi t,.bool f]) (.agg #[vi jt,.bool jf])).run prog w = .ok (.bool true) w:=fun w=>by rw [eqlJob_of];simp [e1]
  have HR:Hid (bJ jt jf ov ⟨t,f⟩=true):=by unfold Hid bJ;rw [decide_eq_true e1];rfl
  clear e1;go_enter func196,ntmps196;go_wp2;go_ret;exact ⟨by rw [HR.out];rfl,eX⟩
 ·have hq1:∀ w,(Go.binOp .eql 143 (.agg #[vi t,.bool f]) (.agg #[vi jt,.bool jf])).run prog w = .ok (.bool false) w:=fun w=>by rw [eqlJob_of];congr 2;exact decide_eq_false e1
  have HR:Hid (bJ jt jf ov ⟨t,f⟩=(ov&&t==jt)):=by unfold Hid bJ;rw [decide_eq_false e1];rfl
  clear e1;cases ov
  ·go_enter func196,ntmps196
   go_wp2;go_ret;exact ⟨by rw [HR.out];rfl,eX⟩
  ·go_enter func196,ntmps196
   go_wp2;go_ret;exact ⟨by rw [HR.out];rfl,eX⟩
theorem done2_any (s0 s1 s2 s3 s4 s5 s6 s7 jt:Int) (B:Nat) (w:World) (hc:w.cell? ⟨B,0,none⟩=some (vi jt)):
  Calls prog 198 #[.agg #[vi s0,vi s1,vi s2,vi s3,vi s4,vi s5,vi s6,vi s7],.pointer (some ⟨B,0,none⟩)] w fun e w'=>e = .returned (.bool (s0==jt))/\Ext w w':=by
 have hB:=cA hc;go_enter func198,ntmps198;go_wp2;go_ret;exact ⟨rfl,eX⟩
theorem done1_pred (jt:Int) (jf ov:Bool) (B BB:Nat) (S:Nat->Prop) (w:World) (h0:w.cell? ⟨B,0,none⟩=some (vi jt)) (h1:w.cell? ⟨B,1,none⟩=some (.bool jf)) (hc:w.cell? ⟨BB,0,none⟩=some (.bool ov)) (n0:¬ S B) (n1:¬ S BB):
  JobPredIn w S 196 #[.pointer (some ⟨B,0,none⟩),.pointer (some ⟨BB,0,none⟩)] (bJ jt jf ov) where
 enters:=fun args w=>by kernel_rfl
 answers:=fun s W k=>done1_any s.ticket jt s.fetch jf ov B BB W (qB k h0 n0) (qB k h1 n0) (qB k hc n1)
theorem done2_pred (jt:Int) (B:Nat) (S:Nat->Prop) (w:World) (h0:w.cell? ⟨B,0,none⟩=some (vi jt)) (n0:¬ S B):
  tM w S 198 #[.pointer (some ⟨B,0,none⟩)] (fun s=>s.ticket==jt) where
 enters:=fun args w=>by kernel_rfl
 answers:=fun s W k=>done2_any _ _ _ _ _ _ _ _ jt B W (qB k h0 n0)
theorem kK {S:Nat->Prop} {w w':World} {base e size:Nat} {v:Value} {n:Nat} {xs:List Value} (h:w.ownsRow base e size v n xs) (k:fA S w w') (hn:∀ b,v.ownBlock=some b->¬ S b):w'.ownsRow base e size v n xs:=by
 refine ⟨h.1,?_⟩
 rcases h.2 with h2|⟨g,cap,cur,rfl,hb,hg,hnc,hc,hs,ht⟩
 ·exact .inl h2
 ·refine .inr ⟨g,cap,cur,rfl,hb,?_,hnc,hc,hs,ht⟩
  have hlt:g<w.heap.size:=by
   rcases Nat.lt_or_ge g w.heap.size with h1|h1
   ·exact h1
   ·rw [Array.getElem?_eq_none h1] at hg;cases hg
  rw [k.block g hlt (hn g rfl)];exact hg
theorem eB.kept {S:Nat->Prop} {w w':World} {T:Nat} {x y z:Value} (h:eB w T x y z) (k:fA S w w') (hn:¬ S T):eB w' T x y z:=h.same (k.block T h.lt hn)
theorem done_any (last jt:Int) (jf gone:Bool) (a1:Option Addr) (m1 c1:Nat) (a2:Option Addr) (m2 c2:Nat) (l:List sA) (js:List Job) (w:World)
  (h:Sl w 8 iA l a1 m1 c1) (h2:Sl w 2 jA js a2 m2 c2) (hm1:m1<=100) (hm2:m2<=100):
  Calls prog 171 #[lC last a1 m1 c1 a2 m2 c2,.agg #[vi jt,.bool jf],.bool gone] w (fH w (yC ⟨last,l,js⟩ ⟨jt,jf⟩ gone) (fun b=>b)):=by
 have b1:=h.bound;have b2:=h2.bound;have HF:=aA h;have HJ:=aA h2;have E1:=aA h.len;have E2:=aA h2.len
 obtain ⟨ov,hov⟩:∃ ov,(jf || gone)=ov:=⟨_,rfl⟩
 have HD:Hid (yC ⟨last,l,js⟩ ⟨jt,jf⟩ gone=⟨last,if ov then l.filter (fun s=>!(s.ticket==jt)) else l,js.filter (fun x=>!bJ jt jf ov x)⟩):=by
  unfold Hid yC;rw [<-hov];have e:=jobOver_kept ⟨jt,jf⟩ gone
  dsimp only at e ⊢
  rw [e]
 have HOV:=aA hov;clear h h2 hov;go_enter func171,ntmps171
 go_upto_region 1 with fail
 generalize hW:World.alloc _ _=w0
 have kb:eB w0 w.heap.size (vi last) (.slice a1 m1 c1) (.slice a2 m2 c2):=by
  rw [<-hW];exact ⟨by simp [go_sem],by simp [go_sem],by simp [go_sem],by simp [go_sem]⟩
 have kr:eB w0 (w.heap.size+1+1) (vi 0) (.slice none 0 0) (.slice none 0 0):=by
  rw [<-hW];exact ⟨by simp [go_sem],by simp [go_sem],by simp [go_sem],by simp [go_sem]⟩
 have q0:cI w0 (w.heap.size+1) 0 jt:=cQ hW;have q1:cV w0 (w.heap.size+1) 1 (.bool jf):=cQ hW;have hx:Ext w w0:=xQ hW;have HX:=aA hx;have HKB:=aA kb;have HKR:=aA kr;have HS:=aA (Sl.below HF.out hx.below);have HK:=aA (Sl.below HJ.out hx.below);have z0:=cA q0;have z00:=kr.lt;obtain ⟨k0,k1,k2,kf⟩:=kb;clear hW hx kr HF HJ
 go_upto_region 2 with (go_at_call 96;(with_reducible refine (copy_any last a1 m1 c1 a2 m2 c2 l js _ HS.out HK.out om om).mono ?_);rintro e wc ⟨v1,v2,rfl,hob,hxc⟩;obtain ⟨g1,d1,rfl,-⟩:=Sl.of_owns (c:=8) (enc:=iA) hob.stays dc (fun _=>rfl);obtain ⟨g2,d2,rfl,-⟩:=Sl.of_owns (c:=2) (enc:=jA) hob.jobs dc (fun _=>rfl);obtain ⟨kc0,kc1,kc2,kcf⟩:=HKB.out.ext hxc;have zc:=cA kc0)
 have hl100:l.length<=100:=by rw [E1.out];exact hm1
 have hj100:js.length<=100:=by rw [E2.out];exact hm2
 generalize hW:World.setCell (World.setCell (World.setCell _ _ _) _ _) _ _=wd
 have kd:eB wd w.heap.size (vi last) (.slice g1 l.length d1) (.slice g2 js.length d2):=by
  rw [<-hW];exact eB.set ⟨kc0,kc1,kc2,kcf⟩ _ _ _
 have K1:fA (Is w.heap.size) w0 wd:=by
  rw [<-hW];exact (((fA.of_ext hxc).put 0 _).put 1 _).put 2 _
 have nb:∀ k,(Value.slice g1 l.length d1).ownBlock=some k->w0.heap.size<=k:=qA hob.stays
 have nb2:∀ k,(Value.slice g2 js.length d2).ownBlock=some k->w0.heap.size<=k:=qA hob.jobs
 have os1:wd.ownsRow w0.heap.size 141 8 (.slice g1 l.length d1) l.length (l.flatMap iA):=by
  rw [<-hW]
  refine lA (lA (lA hob.stays _ ?_) _ ?_) _ ?_ <;> (intro e;have:=nb _ e;(try dsimp only at this);omega)
 have oj1:wd.ownsRow w0.heap.size 143 2 (.slice g2 js.length d2) js.length (js.flatMap jA):=by
  rw [<-hW]
  refine lA (lA (lA hob.jobs _ ?_) _ ?_) _ ?_ <;> (intro e;have:=nb2 _ e;(try dsimp only at this);omega)
 have qd0:=K1.cell q0 om;have qd1:=K1.cell q1 om;have HAP:=aA hob.apart;have HN1:=aA nb;have HN2:=aA nb2;have HOS1:=aA os1;have HOJ1:=aA oj1;have HK1:=aA K1;have HKD:=aA kd;have HQ0:=aA qd0;have HQ1:=aA qd1;obtain ⟨kd0,kd1,kd2,kdf⟩:=kd;have zd:=cA kd0;have zd2:=cA qd0;have zs:=K1.size;clear hW hob hxc kc0 kc1 kc2 kcf zc K1 nb nb2 os1 oj1 k0 k1 k2 kf q0 q1;cases ov
 ·obtain ⟨rfl,rfl⟩:jf=false/\gone=false:=by have:=HOV.out;cases jf <;> cases gone <;> simp_all
  go_upto_region 3 with fail
  generalize hW:World.alloc _ _=we;generalize hO:wd.heap.size=O at *;have hxe:Ext wd we:=xQ hW;have ko:cV we O 0 (.bool false):=cR hW hO;have ke:=HKD.out.ext hxe;have qe0:=eA hxe HQ0.out;have qe1:=eA hxe HQ1.out;have os2:=zC HOS1.out hxe;have oj2:=zC HOJ1.out hxe;have K2:=HK1.out.ext hxe
  have nS1:¬ (fun k=>(Value.slice g2 js.length d2).ownBlock=some k) (w.heap.size+1):=by intro e;have:=HN2.out _ e;omega
  have nS0:¬ (fun k=>(Value.slice g2 js.length d2).ownBlock=some k) w.heap.size:=by intro e;have:=HN2.out _ e;omega
  have nSO:¬ (fun k=>(Value.slice g2 js.length d2).ownBlock=some k) O:=by intro e;have:=(rE HOJ1.out e).2;omega
  have HKE:=aA ke;have HOS2:=aA os2;have HOJ2:=aA oj2;have HK2:=aA K2;have HNS0:=aA nS0;have HNS1:=aA nS1;have HNSO:=aA nSO;have HQE0:=aA qe0;have HQE1:=aA qe1;have HKO:=aA ko;obtain ⟨ke0,ke1,ke2,kef⟩:=ke;have ze0:=cA ke0;have ze1:=cA qe0;have ze2:=cA ko;have hO0:w0.heap.size<=O:=zs;clear hW hxe os2 oj2 K2 nS0 nS1 nSO kd0 kd1 kd2 kdf zd zd2 qd0 qd1
  go_upto_region 4 with (go_at_call 195;(with_reducible refine (qN w0.heap.size (.slice g2 js.length d2) js _ _ (bJ jt false false) _ HOJ2.out (done1_pred jt false false _ _ _ _ HQE0.out HQE1.out HKO.out HNS1.out HNSO.out) om).mono ?_);rintro e w3 ⟨v3,rfl,ho3,hsub3,hk3⟩;obtain ⟨g3,d3,rfl,-⟩:=Sl.of_owns (c:=2) (enc:=jA) ho3 dc (fun _=>rfl);obtain ⟨kg0,kg1,kg2,kgf⟩:=HKE.out.kept hk3 HNS0.out)
  have zg:=cA kg0;generalize hW:World.setCell _ _ _=wf
  have hsw:wf.heap.size=w3.heap.size:=by rw [<-hW,cF]
  have kf':eB wf w.heap.size (vi last) (.slice g1 l.length d1) (.slice g3 (js.filter (fun x=>!bJ jt false false x)).length d3):=by
   rw [<-hW];exact eB.set2 ⟨kg0,kg1,kg2,kgf⟩ _
  have K3:fA (Is w.heap.size) w0 wf:=by
   rw [<-hW];exact (HK2.out.own hk3 HN2.out).put 2 _
  have nb3:∀ k,(Value.slice g3 (js.filter (fun x=>!bJ jt false false x)).length d3).ownBlock=some k->w0.heap.size<=k:=qA ho3
  have oj3:wf.ownsRow w0.heap.size 143 2 (.slice g3 (js.filter (fun x=>!bJ jt false false x)).length d3) (js.filter (fun x=>!bJ jt false false x)).length ((js.filter (fun x=>!bJ jt false false x)).flatMap jA):=by
   rw [<-hW];exact lA ho3 _ (by intro e;have:=nb3 _ e;(try dsimp only at this);omega)
  have os3:wf.ownsRow w0.heap.size 141 8 (.slice g1 l.length d1) l.length (l.flatMap iA):=by
   rw [<-hW];exact lA (kK HOS2.out hk3 (fun b hb hb2=>HAP.out b hb hb2)) _ (by intro e;have:=HN1.out _ e;(try dsimp only at this);omega)
  have kof:wf.cell? ⟨O,0,none⟩=some (.bool false):=by
   rw [<-hW,World.cell?_setCell_far (h:=by dsimp only;omega)];exact qB hk3 HKO.out HNSO.out
  have qf0:wf.cell? ⟨w.heap.size+1,0,none⟩=some (vi jt):=by
   rw [<-hW,World.cell?_setCell_far (h:=by dsimp only;omega)];exact qB hk3 HQE0.out HNS1.out
  have hap3:∀ k,(Value.slice g1 l.length d1).ownBlock=some k->(Value.slice g3 (js.filter (fun x=>!bJ jt false false x)).length d3).ownBlock≠some k:=fun k h1 h2=>HAP.out k h1 (hsub3 k h2)
  have HAP3:=aA hap3;have HNB3:=aA nb3;have HKF:=aA kf';have HQF0:=aA qf0;obtain ⟨kf0,kf1,kf2,kff⟩:=kf';have zf0:=cA kf0;have zf1:=cA kof;have zfs:=K3.size;have HOS3:=aA os3;have HOJ3:=aA oj3;have HK3:=aA K3;clear hW ho3 hsub3 hk3 nb3 oj3 os3 K3 hap3 ke0 ke1 ke2 kef qe0 qe1 ze0 ze1 ze2 kg0 kg1 kg2 kgf zg ko
  go_upto_region 6 with fail
  generalize hW:wf=wh at *;have kh:=HKF.out;have K4:=HK3.out;have nb4:=HN1.out;have os4:=HOS3.out;have oj4:=HOJ3.out;have hap4:=HAP3.out;have kr:=HKR.out.same (K4.other HKR.out.lt om);obtain ⟨kr0,kr1,kr2,krf⟩:=kr;obtain ⟨kh0,kh1,kh2,khf⟩:=kh;have zh0:=cA kh0;have zh1:=cA kr0;have zhs:=K4.size;have HNB4:=aA nb4;have HAP4:=aA hap4;have HOS4:=aA os4;have HOJ4:=aA oj4;have HXH:=aA (K4.widen HX.out (Nat.le_refl _));clear nb4 hap4 os4 oj4 K4;have kq:=eB.set ⟨kr0,kr1,kr2,krf⟩ (vi last) (.slice g1 l.length d1) (.slice g3 (js.filter (fun x=>!bJ jt false false x)).length d3);obtain ⟨p0,p1,p2,pf⟩:=kq;go_wp2;refine bodyPost_ret (v:=.agg #[vi last,(.slice g1 l.length d1),.slice g3 (js.filter (fun x=>!bJ jt false false x)).length d3]) (by simp [results,results171,go_sem,p0,p1,p2]) rfl ?_;unfold fH;rw [HD.out];have zx:=HX.out.below.size;refine ⟨_,_,rfl,⟨?_,?_,HAP4.out⟩,?_⟩
  ·refine mA (lA (lA (lA HOS4.out _ ?_) _ ?_) _ ?_) zx <;> (intro e;have:=HNB4.out _ e;(try dsimp only at this);omega)
  ·refine mA (lA (lA (lA HOJ4.out _ ?_) _ ?_) _ ?_) zx <;> (intro e;have:=HNB3.out _ e;(try dsimp only at this);omega)
  ·have hxh:=HXH.out
   exact Ext.setCell (Ext.setCell (Ext.setCell hxh (by dsimp only;omega) _) (by dsimp only;omega) _) (by dsimp only;omega) _
 ·cases jf
  ·obtain rfl:gone=true:=by have:=HOV.out;simpa using this
   go_upto_region 3 with fail
   generalize hW:World.alloc _ _=we;generalize hO:wd.heap.size=O at *;have hxe:Ext wd we:=xQ hW;have ko:cV we O 0 (.bool true):=cR hW hO;have ke:=HKD.out.ext hxe;have qe0:=eA hxe HQ0.out;have qe1:=eA hxe HQ1.out;have os2:=zC HOS1.out hxe;have oj2:=zC HOJ1.out hxe;have K2:=HK1.out.ext hxe
   have nS1:¬ (fun k=>(Value.slice g2 js.length d2).ownBlock=some k) (w.heap.size+1):=by intro e;have:=HN2.out _ e;omega
   have nS0:¬ (fun k=>(Value.slice g2 js.length d2).ownBlock=some k) w.heap.size:=by intro e;have:=HN2.out _ e;omega
   have nSO:¬ (fun k=>(Value.slice g2 js.length d2).ownBlock=some k) O:=by intro e;have:=(rE HOJ1.out e).2;omega
   have HKE:=aA ke;have HOS2:=aA os2;have HOJ2:=aA oj2;have HK2:=aA K2;have HNS0:=aA nS0;have HNS1:=aA nS1;have HNSO:=aA nSO;have HQE0:=aA qe0;have HQE1:=aA qe1;have HKO:=aA ko;obtain ⟨ke0,ke1,ke2,kef⟩:=ke;have ze0:=cA ke0;have ze1:=cA qe0;have ze2:=cA ko;have hO0:w0.heap.size<=O:=zs;clear hW hxe os2 oj2 K2 nS0 nS1 nSO kd0 kd1 kd2 kdf zd zd2 qd0 qd1
   go_upto_region 4 with (go_at_call 195;(with_reducible refine (qN w0.heap.size (.slice g2 js.length d2) js _ _ (bJ jt false true) _ HOJ2.out (done1_pred jt false true _ _ _ _ HQE0.out HQE1.out HKO.out HNS1.out HNSO.out) om).mono ?_);rintro e w3 ⟨v3,rfl,ho3,hsub3,hk3⟩;obtain ⟨g3,d3,rfl,-⟩:=Sl.of_owns (c:=2) (enc:=jA) ho3 dc (fun _=>rfl);obtain ⟨kg0,kg1,kg2,kgf⟩:=HKE.out.kept hk3 HNS0.out)
   have zg:=cA kg0;generalize hW:World.setCell _ _ _=wf
   have hsw:wf.heap.size=w3.heap.size:=by rw [<-hW,cF]
   have kf':eB wf w.heap.size (vi last) (.slice g1 l.length d1) (.slice g3 (js.filter (fun x=>!bJ jt false true x)).length d3):=by
    rw [<-hW];exact eB.set2 ⟨kg0,kg1,kg2,kgf⟩ _
   have K3:fA (Is w.heap.size) w0 wf:=by
    rw [<-hW];exact (HK2.out.own hk3 HN2.out).put 2 _
   have nb3:∀ k,(Value.slice g3 (js.filter (fun x=>!bJ jt false true x)).length d3).ownBlock=some k->w0.heap.size<=k:=qA ho3
   have oj3:wf.ownsRow w0.heap.size 143 2 (.slice g3 (js.filter (fun x=>!bJ jt false true x)).length d3) (js.filter (fun x=>!bJ jt false true x)).length ((js.filter (fun x=>!bJ jt false true x)).flatMap jA):=by
    rw [<-hW];exact lA ho3 _ (by intro e;have:=nb3 _ e;(try dsimp only at this);omega)
   have os3:wf.ownsRow w0.heap.size 141 8 (.slice g1 l.length d1) l.length (l.flatMap iA):=by
    rw [<-hW];exact lA (kK HOS2.out hk3 (fun b hb hb2=>HAP.out b hb hb2)) _ (by intro e;have:=HN1.out _ e;(try dsimp only at this);omega)
   have kof:wf.cell? ⟨O,0,none⟩=some (.bool true):=by
    rw [<-hW,World.cell?_setCell_far (h:=by dsimp only;omega)];exact qB hk3 HKO.out HNSO.out
   have qf0:wf.cell? ⟨w.heap.size+1,0,none⟩=some (vi jt):=by
    rw [<-hW,World.cell?_setCell_far (h:=by dsimp only;omega)];exact qB hk3 HQE0.out HNS1.out
   have hap3:∀ k,(Value.slice g1 l.length d1).ownBlock=some k->(Value.slice g3 (js.filter (fun x=>!bJ jt false true x)).length d3).ownBlock≠some k:=fun k h1 h2=>HAP.out k h1 (hsub3 k h2)
   have HAP3:=aA hap3;have HNB3:=aA nb3;have HKF:=aA kf';have HQF0:=aA qf0;obtain ⟨kf0,kf1,kf2,kff⟩:=kf';have zf0:=cA kf0;have zf1:=cA kof;have zfs:=K3.size;have HOS3:=aA os3;have HOJ3:=aA oj3;have HK3:=aA K3;clear hW ho3 hsub3 hk3 nb3 oj3 os3 K3 hap3 ke0 ke1 ke2 kef qe0 qe1 ze0 ze1 ze2 kg0 kg1 kg2 kgf zg ko
   have nS1:¬ (fun k=>(Value.slice g1 l.length d1).ownBlock=some k) (w.heap.size+1):=by intro e;have:=HN1.out _ e;omega
   have nS0:¬ (fun k=>(Value.slice g1 l.length d1).ownBlock=some k) w.heap.size:=by intro e;have:=HN1.out _ e;omega
   have HMS0:=aA nS0;have HMS1:=aA nS1;clear nS0 nS1
   go_upto_region 6 with (go_at_call 197;(with_reducible refine (deleteStay_any w0.heap.size (.slice g1 l.length d1) l _ _ (fun s=>s.ticket==jt) _ HOS3.out (done2_pred jt _ _ _ HQF0.out HMS1.out) om).mono ?_);rintro e w4 ⟨v4,rfl,ho4,hsub4,hk4⟩;obtain ⟨g4,d4,rfl,-⟩:=Sl.of_owns (c:=8) (enc:=iA) ho4 dc (fun _=>rfl);obtain ⟨kg0,kg1,kg2,kgf⟩:=HKF.out.kept hk4 HMS0.out)
   have zg:=cA kg0;generalize hW:World.setCell _ _ _=wh
   have kh:eB wh w.heap.size (vi last) (.slice g4 (l.filter (fun s=>!(s.ticket==jt))).length d4) (.slice g3 (js.filter (fun x=>!bJ jt false true x)).length d3):=by
    rw [<-hW];exact eB.set1 ⟨kg0,kg1,kg2,kgf⟩ _
   have K4:fA (Is w.heap.size) w0 wh:=by
    rw [<-hW];exact (HK3.out.own hk4 HN1.out).put 1 _
   have nb4:∀ k,(Value.slice g4 (l.filter (fun s=>!(s.ticket==jt))).length d4).ownBlock=some k->w0.heap.size<=k:=qA ho4
   have os4:wh.ownsRow w0.heap.size 141 8 (.slice g4 (l.filter (fun s=>!(s.ticket==jt))).length d4) (l.filter (fun s=>!(s.ticket==jt))).length ((l.filter (fun s=>!(s.ticket==jt))).flatMap iA):=by
    rw [<-hW];exact lA ho4 _ (by intro e;have:=nb4 _ e;(try dsimp only at this);omega)
   have oj4:wh.ownsRow w0.heap.size 143 2 (.slice g3 (js.filter (fun x=>!bJ jt false true x)).length d3) (js.filter (fun x=>!bJ jt false true x)).length ((js.filter (fun x=>!bJ jt false true x)).flatMap jA):=by
    rw [<-hW];exact lA (kK HOJ3.out hk4 (fun b hb hb2=>HAP3.out b hb2 hb)) _ (by intro e;have:=HNB3.out _ e;(try dsimp only at this);omega)
   have hap4:∀ k,(Value.slice g4 (l.filter (fun s=>!(s.ticket==jt))).length d4).ownBlock=some k->(Value.slice g3 (js.filter (fun x=>!bJ jt false true x)).length d3).ownBlock≠some k:=fun k h1 h2=>HAP3.out k (hsub4 k h1) h2
   have kr:=HKR.out.same (K4.other HKR.out.lt om);obtain ⟨kr0,kr1,kr2,krf⟩:=kr;obtain ⟨kh0,kh1,kh2,khf⟩:=kh;have zh0:=cA kh0;have zh1:=cA kr0;have zhs:=K4.size;have HNB4:=aA nb4;have HAP4:=aA hap4;have HOS4:=aA os4;have HOJ4:=aA oj4;have HXH:=aA (K4.widen HX.out (Nat.le_refl _));clear nb4 hap4 os4 oj4 K4;have kq:=eB.set ⟨kr0,kr1,kr2,krf⟩ (vi last) (.slice g4 (l.filter (fun s=>!(s.ticket==jt))).length d4) (.slice g3 (js.filter (fun x=>!bJ jt false true x)).length d3);obtain ⟨p0,p1,p2,pf⟩:=kq;go_wp2;refine bodyPost_ret (v:=.agg #[vi last,(.slice g4 (l.filter (fun s=>!(s.ticket==jt))).length d4),.slice g3 (js.filter (fun x=>!bJ jt false true x)).length d3]) (by simp [results,results171,go_sem,p0,p1,p2]) rfl ?_;unfold fH;rw [HD.out];have zx:=HX.out.below.size;refine ⟨_,_,rfl,⟨?_,?_,HAP4.out⟩,?_⟩
   ·refine mA (lA (lA (lA HOS4.out _ ?_) _ ?_) _ ?_) zx <;> (intro e;have:=HNB4.out _ e;(try dsimp only at this);omega)
   ·refine mA (lA (lA (lA HOJ4.out _ ?_) _ ?_) _ ?_) zx <;> (intro e;have:=HNB3.out _ e;(try dsimp only at this);omega)
   ·have hxh:=HXH.out
    exact Ext.setCell (Ext.setCell (Ext.setCell hxh (by dsimp only;omega) _) (by dsimp only;omega) _) (by dsimp only;omega) _
  ·clear HOV
   go_upto_region 3 with fail
   generalize hW:World.alloc _ _=we;generalize hO:wd.heap.size=O at *;have hxe:Ext wd we:=xQ hW;have ko:cV we O 0 (.bool true):=cR hW hO;have ke:=HKD.out.ext hxe;have qe0:=eA hxe HQ0.out;have qe1:=eA hxe HQ1.out;have os2:=zC HOS1.out hxe;have oj2:=zC HOJ1.out hxe;have K2:=HK1.out.ext hxe
   have nS1:¬ (fun k=>(Value.slice g2 js.length d2).ownBlock=some k) (w.heap.size+1):=by intro e;have:=HN2.out _ e;omega
   have nS0:¬ (fun k=>(Value.slice g2 js.length d2).ownBlock=some k) w.heap.size:=by intro e;have:=HN2.out _ e;omega
   have nSO:¬ (fun k=>(Value.slice g2 js.length d2).ownBlock=some k) O:=by intro e;have:=(rE HOJ1.out e).2;omega
   have HKE:=aA ke;have HOS2:=aA os2;have HOJ2:=aA oj2;have HK2:=aA K2;have HNS0:=aA nS0;have HNS1:=aA nS1;have HNSO:=aA nSO;have HQE0:=aA qe0;have HQE1:=aA qe1;have HKO:=aA ko;obtain ⟨ke0,ke1,ke2,kef⟩:=ke;have ze0:=cA ke0;have ze1:=cA qe0;have ze2:=cA ko;have hO0:w0.heap.size<=O:=zs;clear hW hxe os2 oj2 K2 nS0 nS1 nSO kd0 kd1 kd2 kdf zd zd2 qd0 qd1
   go_upto_region 4 with (go_at_call 195;(with_reducible refine (qN w0.heap.size (.slice g2 js.length d2) js _ _ (bJ jt true true) _ HOJ2.out (done1_pred jt true true _ _ _ _ HQE0.out HQE1.out HKO.out HNS1.out HNSO.out) om).mono ?_);rintro e w3 ⟨v3,rfl,ho3,hsub3,hk3⟩;obtain ⟨g3,d3,rfl,-⟩:=Sl.of_owns (c:=2) (enc:=jA) ho3 dc (fun _=>rfl);obtain ⟨kg0,kg1,kg2,kgf⟩:=HKE.out.kept hk3 HNS0.out)
   have zg:=cA kg0;generalize hW:World.setCell _ _ _=wf
   have hsw:wf.heap.size=w3.heap.size:=by rw [<-hW,cF]
   have kf':eB wf w.heap.size (vi last) (.slice g1 l.length d1) (.slice g3 (js.filter (fun x=>!bJ jt true true x)).length d3):=by
    rw [<-hW];exact eB.set2 ⟨kg0,kg1,kg2,kgf⟩ _
   have K3:fA (Is w.heap.size) w0 wf:=by
    rw [<-hW];exact (HK2.out.own hk3 HN2.out).put 2 _
   have nb3:∀ k,(Value.slice g3 (js.filter (fun x=>!bJ jt true true x)).length d3).ownBlock=some k->w0.heap.size<=k:=qA ho3
   have oj3:wf.ownsRow w0.heap.size 143 2 (.slice g3 (js.filter (fun x=>!bJ jt true true x)).length d3) (js.filter (fun x=>!bJ jt true true x)).length ((js.filter (fun x=>!bJ jt true true x)).flatMap jA):=by
    rw [<-hW];exact lA ho3 _ (by intro e;have:=nb3 _ e;(try dsimp only at this);omega)
   have os3:wf.ownsRow w0.heap.size 141 8 (.slice g1 l.length d1) l.length (l.flatMap iA):=by
    rw [<-hW];exact lA (kK HOS2.out hk3 (fun b hb hb2=>HAP.out b hb hb2)) _ (by intro e;have:=HN1.out _ e;(try dsimp only at this);omega)
   have kof:wf.cell? ⟨O,0,none⟩=some (.bool true):=by
    rw [<-hW,World.cell?_setCell_far (h:=by dsimp only;omega)];exact qB hk3 HKO.out HNSO.out
   have qf0:wf.cell? ⟨w.heap.size+1,0,none⟩=some (vi jt):=by
    rw [<-hW,World.cell?_setCell_far (h:=by dsimp only;omega)];exact qB hk3 HQE0.out HNS1.out
   have hap3:∀ k,(Value.slice g1 l.length d1).ownBlock=some k->(Value.slice g3 (js.filter (fun x=>!bJ jt true true x)).length d3).ownBlock≠some k:=fun k h1 h2=>HAP.out k h1 (hsub3 k h2)
   have HAP3:=aA hap3;have HNB3:=aA nb3;have HKF:=aA kf';have HQF0:=aA qf0;obtain ⟨kf0,kf1,kf2,kff⟩:=kf';have zf0:=cA kf0;have zf1:=cA kof;have zfs:=K3.size;have HOS3:=aA os3;have HOJ3:=aA oj3;have HK3:=aA K3;clear hW ho3 hsub3 hk3 nb3 oj3 os3 K3 hap3 ke0 ke1 ke2 kef qe0 qe1 ze0 ze1 ze2 kg0 kg1 kg2 kgf zg ko
   have nS1:¬ (fun k=>(Value.slice g1 l.length d1).ownBlock=some k) (w.heap.size+1):=by intro e;have:=HN1.out _ e;omega
   have nS0:¬ (fun k=>(Value.slice g1 l.length d1).ownBlock=some k) w.heap.size:=by intro e;have:=HN1.out _ e;omega
   have HMS0:=aA nS0;have HMS1:=aA nS1;clear nS0 nS1
   go_upto_region 6 with (go_at_call 197;(with_reducible refine (deleteStay_any w0.heap.size (.slice g1 l.length d1) l _ _ (fun s=>s.ticket==jt) _ HOS3.out (done2_pred jt _ _ _ HQF0.out HMS1.out) om).mono ?_);rintro e w4 ⟨v4,rfl,ho4,hsub4,hk4⟩;obtain ⟨g4,d4,rfl,-⟩:=Sl.of_owns (c:=8) (enc:=iA) ho4 dc (fun _=>rfl);obtain ⟨kg0,kg1,kg2,kgf⟩:=HKF.out.kept hk4 HMS0.out)
   have zg:=cA kg0;generalize hW:World.setCell _ _ _=wh
   have kh:eB wh w.heap.size (vi last) (.slice g4 (l.filter (fun s=>!(s.ticket==jt))).length d4) (.slice g3 (js.filter (fun x=>!bJ jt true true x)).length d3):=by
    rw [<-hW];exact eB.set1 ⟨kg0,kg1,kg2,kgf⟩ _
   have K4:fA (Is w.heap.size) w0 wh:=by
    rw [<-hW];exact (HK3.out.own hk4 HN1.out).put 1 _
   have nb4:∀ k,(Value.slice g4 (l.filter (fun s=>!(s.ticket==jt))).length d4).ownBlock=some k->w0.heap.size<=k:=qA ho4
   have os4:wh.ownsRow w0.heap.size 141 8 (.slice g4 (l.filter (fun s=>!(s.ticket==jt))).length d4) (l.filter (fun s=>!(s.ticket==jt))).length ((l.filter (fun s=>!(s.ticket==jt))).flatMap iA):=by
    rw [<-hW];exact lA ho4 _ (by intro e;have:=nb4 _ e;(try dsimp only at this);omega)
   have oj4:wh.ownsRow w0.heap.size 143 2 (.slice g3 (js.filter (fun x=>!bJ jt true true x)).length d3) (js.filter (fun x=>!bJ jt true true x)).length ((js.filter (fun x=>!bJ jt true true x)).flatMap jA):=by
    rw [<-hW];exact lA (kK HOJ3.out hk4 (fun b hb hb2=>HAP3.out b hb2 hb)) _ (by intro e;have:=HNB3.out _ e;(try dsimp only at this);omega)
   have hap4:∀ k,(Value.slice g4 (l.filter (fun s=>!(s.ticket==jt))).length d4).ownBlock=some k->(Value.slice g3 (js.filter (fun x=>!bJ jt true true x)).length d3).ownBlock≠some k:=fun k h1 h2=>HAP3.out k (hsub4 k h1) h2
   have kr:=HKR.out.same (K4.other HKR.out.lt om);obtain ⟨kr0,kr1,kr2,krf⟩:=kr;obtain ⟨kh0,kh1,kh2,khf⟩:=kh;have zh0:=cA kh0;have zh1:=cA kr0;have zhs:=K4.size;have HNB4:=aA nb4;have HAP4:=aA hap4;have HOS4:=aA os4;have HOJ4:=aA oj4;have HXH:=aA (K4.widen HX.out (Nat.le_refl _));clear nb4 hap4 os4 oj4 K4;have kq:=eB.set ⟨kr0,kr1,kr2,krf⟩ (vi last) (.slice g4 (l.filter (fun s=>!(s.ticket==jt))).length d4) (.slice g3 (js.filter (fun x=>!bJ jt true true x)).length d3);obtain ⟨p0,p1,p2,pf⟩:=kq;go_wp2;refine bodyPost_ret (v:=.agg #[vi last,(.slice g4 (l.filter (fun s=>!(s.ticket==jt))).length d4),.slice g3 (js.filter (fun x=>!bJ jt true true x)).length d3]) (by simp [results,results171,go_sem,p0,p1,p2]) rfl ?_;unfold fH;rw [HD.out];have zx:=HX.out.below.size;refine ⟨_,_,rfl,⟨?_,?_,HAP4.out⟩,?_⟩
   ·refine mA (lA (lA (lA HOS4.out _ ?_) _ ?_) _ ?_) zx <;> (intro e;have:=HNB4.out _ e;(try dsimp only at this);omega)
   ·refine mA (lA (lA (lA HOJ4.out _ ?_) _ ?_) _ ?_) zx <;> (intro e;have:=HNB3.out _ e;(try dsimp only at this);omega)
   ·have hxh:=HXH.out
    exact Ext.setCell (Ext.setCell (Ext.setCell hxh (by dsimp only;omega) _) (by dsimp only;omega) _) (by dsimp only;omega) _
structure eH (w1:World) (O:Nat) (last:Int) (dl:List sA) (dj:List Job) (v1 v2:Value) (wr:World):Prop where
 cell:eB wr O (vi last) v1 v2
 kept:fA (Is O) w1 wr
 stays:wr.ownsRow w1.heap.size 141 8 v1 dl.length (dl.flatMap iA)
 jobs:wr.ownsRow w1.heap.size 143 2 v2 dj.length (dj.flatMap jA)
 apart:∀ k,v1.ownBlock=some k->v2.ownBlock≠some k
theorem eH.ext {w1 wr wr':World} {O:Nat} {last:Int} {dl:List sA} {dj:List Job} {v1 v2:Value} (h:eH w1 O last dl dj v1 v2 wr) (x:Ext wr wr'):eH w1 O last dl dj v1 v2 wr':=
 ⟨h.cell.ext x,h.kept.ext x,zC h.stays x,zC h.jobs x,h.apart⟩
theorem eH.far1 {w1 wr:World} {O:Nat} {last:Int} {dl:List sA} {dj:List Job} {v1 v2:Value} (h:eH w1 O last dl dj v1 v2 wr) (hO:O<w1.heap.size):v1.ownBlock≠some O:=by
 intro e;have:=qA h.stays _ e;omega
theorem eH.far2 {w1 wr:World} {O:Nat} {last:Int} {dl:List sA} {dj:List Job} {v1 v2:Value} (h:eH w1 O last dl dj v1 v2 wr) (hO:O<w1.heap.size):v2.ownBlock≠some O:=by
 intro e;have:=qA h.jobs _ e;omega
theorem eH.addStay {w1 wp A w5:World} {O:Nat} {last:Int} {dl:List sA} {dj:List Job} {v1 v2:Value} (h:eH w1 O last dl dj v1 v2 wp) (s:sA) (x:Ext wp A) (hO:O<w1.heap.size) {gg cap n:Nat}
  (hown:w5.ownsRow w1.heap.size 141 8 (.slice (some ⟨gg,0,none⟩) n cap) n (dl.flatMap iA++iA s)) (hgrow:A.grownBy w5 v1.ownBlock) (hat:v1.ownBlock=some gg\/gg=A.heap.size) (hn:n=dl.length+1:=by rfl):
  eH w1 O last (dl++[s]) dj (.slice (some ⟨gg,0,none⟩) n cap) v2 (w5.setCell ⟨O,1,none⟩ (.slice (some ⟨gg,0,none⟩) n cap)):=by
 subst hn
 have hb:∀ k,v1.ownBlock=some k->w1.heap.size<=k:=qA h.stays
 have hb2:∀ k,v2.ownBlock=some k->w1.heap.size<=k:=qA h.jobs
 have hg:w1.heap.size<=gg:=qA hown gg rfl;have hc:=(h.cell.ext x).grown hgrow (h.far1 hO);refine ⟨hc.set1 _,((h.kept.ext x).grown hgrow hb).put 1 _,?_,?_,?_⟩
 ·rw [List.length_append,List.flatMap_append,List.flatMap_singleton]
  exact lA hown _ (by intro e;have:=Option.some.inj e;dsimp only at this;omega)
 ·refine lA ((zC h.jobs x).kept hgrow ?_) _ (h.far2 hO)
  cases hv:v2.ownBlock with
  | none=>exact Or.inl rfl
  | some k=>exact Or.inr (fun e=>h.apart k e.symm hv)
 ·intro k hk hk2
  obtain rfl:gg=k:=Option.some.inj hk
  rcases hat with e|e
  ·exact h.apart gg e hk2
  ·have:=(rE (zC h.jobs x) hk2).2
   omega
theorem eH.addJob {w1 wp A w5:World} {O:Nat} {last:Int} {dl:List sA} {dj:List Job} {v1 v2:Value} (h:eH w1 O last dl dj v1 v2 wp) (s:Job) (x:Ext wp A) (hO:O<w1.heap.size) {gg cap n:Nat}
  (hown:w5.ownsRow w1.heap.size 143 2 (.slice (some ⟨gg,0,none⟩) n cap) n (dj.flatMap jA++jA s)) (hgrow:A.grownBy w5 v2.ownBlock) (hat:v2.ownBlock=some gg\/gg=A.heap.size) (hn:n=dj.length+1:=by rfl):
  eH w1 O last dl (dj++[s]) v1 (.slice (some ⟨gg,0,none⟩) n cap) (w5.setCell ⟨O,2,none⟩ (.slice (some ⟨gg,0,none⟩) n cap)):=by
 subst hn
 have hb:∀ k,v2.ownBlock=some k->w1.heap.size<=k:=qA h.jobs
 have hg:w1.heap.size<=gg:=qA hown gg rfl;have hc:=(h.cell.ext x).grown hgrow (h.far2 hO);refine ⟨hc.set2 _,((h.kept.ext x).grown hgrow hb).put 2 _,?_,?_,?_⟩
 ·refine lA ((zC h.stays x).kept hgrow ?_) _ (h.far1 hO)
  cases hv:v1.ownBlock with
  | none=>exact Or.inl rfl
  | some k=>exact Or.inr (fun e=>h.apart k hv e.symm)
 ·rw [List.length_append,List.flatMap_append,List.flatMap_singleton]
  exact lA hown _ (by intro e;have:=Option.some.inj e;dsimp only at this;omega)
 ·intro k hk hk2
  obtain rfl:gg=k:=Option.some.inj hk2
  rcases hat with e|e
  ·exact h.apart gg hk e
  ·have:=(rE (zC h.stays x) hk).2
   omega
theorem bookcheck_at (V:Value) (last levels:Int) (a1:Option Addr) (m1 c1:Nat) (a2:Option Addr) (m2 c2:Nat) (l:List sA) (js:List Job) (w:World) (h:Sl w 8 iA l a1 m1 c1) (h2:Sl w 2 jA js a2 m2 c2) (hl4:levels<=4) (hv:Hid (aC (fC ⟨last,l,js⟩ levels)=V)):
  Calls prog 97 #[lC last a1 m1 c1 a2 m2 c2,vi levels] w fun e w'=>e = .returned V/\Ext w w':=by
 have:=bookcheck_any last levels a1 m1 c1 a2 m2 c2 l js w h h2 hl4;rw [hv.out] at this;exact this
theorem jD {l:List dD} (h:jB l=0):1<=l.length/\l.length<=4:=by
 unfold jB at h
 split at h
 ·cases h
 ·omega
theorem errV_ne {n:Int} (h:¬ n=0):∃ E,Hid (aC n = .iface 92 (vi E)):=⟨n,by unfold Hid aC;rw [if_neg h]⟩
