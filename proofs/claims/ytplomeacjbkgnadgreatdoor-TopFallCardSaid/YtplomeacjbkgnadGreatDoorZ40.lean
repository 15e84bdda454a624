import Derived.Test.YtplomeacjbkgnadGreatDoorZ39
set_option linter.all false
set_option maxRecDepth 100000
set_option maxHeartbeats 16000000
namespace Go.Proofs.YtplomeacjbkgnadGreatDoor
open Go.RowKit
theorem DZ.narrow {Z:Nat→Prop} {db n:Nat} {d:Ch.Disk} {w:World} (h:DZ Z db n d w):DZ (fun k=>Z k∧k<w.heap.size) db n d w:=by
 obtain ⟨F,h1,h2⟩:=h;exact ⟨F,h1,fun k hk=>⟨h2 k hk,disk_ltL h1 k hk⟩⟩
theorem DZ.mono {Z Z':Nat→Prop} {db n:Nat} {d:Ch.Disk} {w:World} (h:DZ Z db n d w) (hz:∀ i,Z i→Z' i):DZ Z' db n d w:=by
 obtain ⟨F,h1,h2⟩:=h;exact ⟨F,h1,fun k hk=>hz k (h2 k hk)⟩
theorem want_ok0 (x:Ch.Book) (last t:Int) (a1:Option Addr) (m1 c1:Nat) (a2:Option Addr) (m2 c2:Nat) (l:List Ch.Stay) (js:List Ch.Job) (w:World)
  (h:Sl w 8 stayCells l a1 m1 c1) (h2:Sl w 2 jobCells js a2 m2 c2) (hm1:m1≤100) (hm2:m2≤100) (hp:Hid (Ch.want ⟨last,l,js⟩ t = .ok x)):
  Calls Tryz.prog 37 #[bookA last a1 m1 c1 a2 m2 c2,vi t] w (Back none w x (fun b=>.tuple #[b,.nilIface])):=
 want_back last t a1 m1 c1 a2 m2 c2 l js w h h2 hm1 hm2 x 0 (by unfold Hid;rw [hp.out];rfl)
theorem want_no0 (g:Int) (last t:Int) (a1:Option Addr) (m1 c1:Nat) (a2:Option Addr) (m2 c2:Nat) (l:List Ch.Stay) (js:List Ch.Job) (w:World)
  (h:Sl w 8 stayCells l a1 m1 c1) (h2:Sl w 2 jobCells js a2 m2 c2) (hm1:m1≤100) (hm2:m2≤100) (hp:Hid (Ch.want ⟨last,l,js⟩ t = .error g)) (hg:g≠0):
  Calls Tryz.prog 37 #[bookA last a1 m1 c1 a2 m2 c2,vi t] w (Back none w ⟨0,[],[]⟩ (fun b=>.tuple #[b,.iface 114 (vi g)])):=by
 have:=want_back last t a1 m1 c1 a2 m2 c2 l js w h h2 hm1 hm2 ⟨0,[],[]⟩ g (by unfold Hid;rw [hp.out];rfl);unfold errV at this;rw [if_neg hg] at this;exact this
theorem park_ok0 (x:Ch.Book) (kk:Int) (last id lo hi he:Int) (a1:Option Addr) (m1 c1:Nat) (a2:Option Addr) (m2 c2:Nat) (aL:Option Addr) (nL cL:Nat) (l:List Ch.Stay) (js:List Ch.Job) (ls:List Ch.Size) (w:World)
  (h:Sl w 8 stayCells l a1 m1 c1) (h2:Sl w 2 jobCells js a2 m2 c2) (hL:Sl w 3 sizeCells ls aL nL cL) (n1':1≤nL) (n4:nL≤4) (hm1:m1≤100) (hm2:m2≤100) (l0:0≤last) (l9:last≤999999) (hp:Hid (Ch.park ⟨last,l,js⟩ ls ⟨id,⟨lo,hi,he⟩⟩ = .ok (x,kk))):
  Calls Tryz.prog 51 #[bookA last a1 m1 c1 a2 m2 c2,.slice aL nL cL,.agg #[vi id,vi lo,vi hi,vi he]] w (Back none w x (fun b=>.tuple #[b,vi kk,.nilIface])):=
 park_back last id lo hi he a1 m1 c1 a2 m2 c2 aL nL cL l js ls w h h2 hL n1' n4 hm1 hm2 l0 l9 x kk 0 (by unfold Hid;rw [hp.out];rfl)
theorem park_no0 (g:Int) (last id lo hi he:Int) (a1:Option Addr) (m1 c1:Nat) (a2:Option Addr) (m2 c2:Nat) (aL:Option Addr) (nL cL:Nat) (l:List Ch.Stay) (js:List Ch.Job) (ls:List Ch.Size) (w:World)
  (h:Sl w 8 stayCells l a1 m1 c1) (h2:Sl w 2 jobCells js a2 m2 c2) (hL:Sl w 3 sizeCells ls aL nL cL) (n1':1≤nL) (n4:nL≤4) (hm1:m1≤100) (hm2:m2≤100) (l0:0≤last) (l9:last≤999999) (hp:Hid (Ch.park ⟨last,l,js⟩ ls ⟨id,⟨lo,hi,he⟩⟩ = .error g)) (hg:g≠0):
  Calls Tryz.prog 51 #[bookA last a1 m1 c1 a2 m2 c2,.slice aL nL cL,.agg #[vi id,vi lo,vi hi,vi he]] w (Back none w ⟨0,[],[]⟩ (fun b=>.tuple #[b,vi 0,.iface 114 (vi g)])):=by
 have:=park_back last id lo hi he a1 m1 c1 a2 m2 c2 aL nL cL l js ls w h h2 hL n1' n4 hm1 hm2 l0 l9 ⟨0,[],[]⟩ 0 g (by unfold Hid;rw [hp.out];rfl);unfold errV at this;rw [if_neg hg] at this;exact this
theorem want_ne {b:Ch.Book} {t g:Int} (h:Ch.want b t = .error g):g≠0:=by
 unfold Ch.want at h
 split at h
 ·cases h;decide
 ·split at h
  ·cases h;decide
  ·split at h
   ·cases h;decide
   ·cases h
theorem park_ne {b:Ch.Book} {ls:List Ch.Size} {c:Ch.Car} {g:Int} (h:Ch.park b ls c = .error g):g≠0:=by
 have h0:=carFault_nn c;unfold Ch.park at h
 split at h
 ·rename_i hc
  cases h;omega
 ·split at h
  ·cases h;decide
  ·split at h
   ·cases h;decide
   ·split at h
    ·cases h;decide
    ·cases h
theorem check_ok (a:Option Addr) (n cap:Nat) (l:List Ch.Size) (w:World) (h:Sl w 3 sizeCells l a n cap) (hf:Ch.levelsFault l=0):Calls Tryz.prog 28 #[.slice a n cap] w fun e w'=>e = .returned .nilIface∧Ext w w':=by
 have:=check_any a n cap l w h;rw [hf] at this;exact this
theorem new_now {Y0:Nat→Prop} {pb mb db n:Nat} {sizes:List Ch.Size} {la:Option Addr} {ln lc:Nat} {p:Ch.Plant} {b:Ch.Book} {e0:Nat} {d:Ch.Disk} {w:World} (hl:Sl w 3 sizeCells sizes la ln lc) (hf:Ch.levelsFault sizes=0) (hp:PlantAt w pb mb p) (hd:DZ Y0 db n d w) (hy:∀ k,Y0 k→k<w.heap.size) (yp:¬ Y0 pb) (ym:¬ Y0 mb) (hP:LP n (ln:Int) e0 b d) (hn:22≤n) (L:Libs w):
  Calls Tryz.prog 18 #[.slice la ln lc,.pointer (some ⟨pb,0,none⟩),.pointer (some ⟨db,0,none⟩)] w fun r w'=>∃ hb lb,r = .returned (.tuple #[.pointer (some ⟨hb,0,none⟩),.nilIface])∧Ext w w' ∧
   ∃ Y la' ln' lc' ga gn gc,HS Y (fun i=>w.heap.size≤i) pb mb db lb hb n la' ln' lc' ga gn gc ⟨⟨sizes,p,b,[]⟩,e0,d⟩ w'∧∀ k,HB Y pb mb hb k→Y0 k∨k=pb∨k=mb∨w.heap.size≤k:=by
 have hlen:=hl.len;subst hlen;have hlv:=Ch.levels_len hf
 have l1:(1:Int)≤(sizes.length:Int):=by omega
 have l4:(sizes.length:Int)≤4:=by omega
 have hl4:sizes.length≤1000:=by omega
 have lbd:=hl.bound;have hpl:=hp.lt;have HF:=Lib.hid hl;have HLF:=Lib.hid hf;have HP:=Lib.hid hp;have HD:=Lib.hid hd;have HY:=Lib.hid hy;have HYP:=Lib.hid yp;have HYM:=Lib.hid ym;have HPP:=Lib.hid hP;have HL:=Lib.hid L;clear hl hf hp hd hy yp ym hP L hlv;go_enter Tryz.func18,Tryz.ntmps18
 go_wp2_with (first
  | (go_at_call 28;(with_reducible refine (check_ok _ _ _ _ _ (Sl.below HF.out (Ext.below (by simp (maxDischargeDepth:=60)))) HLF.out).mono ?_);rintro e w1 ⟨rfl,o1,n1,rfl⟩)
  | (go_at_call 44;refine (open_now (Z:=fun k=>Y0 k∨w.heap.size≤k) (fun k hk=>Or.inr (Nat.le_trans (Ext.below (by simp (maxDischargeDepth:=60)):Below w.heap.size w _).size hk)) ((HD.out.ext (by simp (maxDischargeDepth:=60))).mono (fun i hi=>Or.inl hi)) HPP.out l1 l4 hn (HL.out.ext (by simp (maxDischargeDepth:=60)))).mono ?_;rintro e w2 ⟨lb,rfl,hn2,hx⟩;have HX2:Hid (Ext w w2):=Ext.trans (by simp (maxDischargeDepth:=60)) hx;have HN2:=Lib.hid hn2;clear hn2 hx)
  | (go_at_call 45;(with_reducible refine (cloneSize_any _ _ _ sizes _ (Sl.below HF.out (HX2.out.trans (by simp (maxDischargeDepth:=60)):Ext w _).below) hl4).mono ?_);rintro e w3 ⟨v,rfl,hown,hx⟩;obtain ⟨a,c,rfl,hs⟩:=Sl.of_owns (c:=3) (enc:=sizeCells) hown (by decide) (fun _=>rfl);have HX3:Hid (Ext w2 w3):=Ext.trans (by simp (maxDischargeDepth:=60)) hx;have HS3:=Lib.hid hs;have HO3:=Lib.hid (own_new hown);clear hown hs hx))
 generalize hW:World.alloc _ _=w4
 have HXA:Ext w3 w4:=by rw [←hW];exact (by simp (maxDischargeDepth:=60))
 have hblk:w4.heap[w3.heap.size]? = some (.cells (houseCells a sizes.length c pb lb none 0 0) 83 (0,0)):=by rw [←hW];exact alloc_at _ _ _ rfl
 clear hW
 go_ret2
 have hx4:=HX2.out.trans (HX3.out.trans HXA);have z2:=HX2.out.below.size;have z3:=HX3.out.below.size;refine ⟨w3.heap.size,lb,rfl,hx4,fun k=>Y0 k∨(w.heap.size≤k∧k<w2.heap.size),a,sizes.length,c,none,0,0,⟨HP.out.ext hx4,(HN2.out.move ?_).ext (HX3.out.trans HXA),hblk,Sl.below HS3.out HXA.below,Sl.nilT _ _ _ _,?_,?_,?_,?_,?_,?_,fun h0=>absurd h0 (by omega)⟩,?_⟩
 ·intro k hk hz
  rcases hz with hz|hz
  ·exact Or.inl hz
  ·exact Or.inr ⟨hz,hk⟩
 ·rintro (hh|hh)
  ·exact HYP.out hh
  ·omega
 ·rintro (hh|hh)
  ·exact HYM.out hh
  ·omega
 ·rintro (hh|hh)
  ·have:=HY.out _ hh;omega
  ·omega
 ·omega
 ·omega
 ·intro hn0 b o e
  subst e;have h1:=HO3.out b o rfl;have h2:=Sl.block_ltC HS3.out hn0 (by intro s;simp [sizeCells]);refine ⟨fun hh=>?_,by omega⟩
  rcases hh with (hh|hh)|rfl|rfl|rfl
  ·have:=HY.out _ hh;omega
  ·omega
  ·omega
  ·omega
  ·omega
 ·rintro k ((hk|hk)|rfl|rfl|rfl)
  ·exact Or.inl hk
  ·exact Or.inr (Or.inr (Or.inr hk.1))
  ·exact Or.inr (Or.inl rfl)
  ·exact Or.inr (Or.inr (Or.inl rfl))
  ·exact Or.inr (Or.inr (Or.inr (by omega)))
theorem want_now {Z:Nat→Prop} {pb mb db lb hb n:Nat} {x:Ch.Live.HD} {w:World} (hZ:∀ k,w.heap.size≤k→Z k) (h:HN Z pb mb db lb hb n x w) (hi:x.h.Inv') (he:x.e+1<4294967296) (hw:x.d.wait.length≤1000) (hT:Tab w) (t:Int):
  Calls Tryz.prog 13 #[.pointer (some ⟨hb,0,none⟩),vi t] w fun r w'=>r = .returned (errV (x.want t).2)∧Kept Z w w'∧HN Z pb mb db lb hb n (x.want t).1 w':=by
 obtain ⟨Y,la,ln,lc,ga,gn,gc,hs,hz,hy⟩:=h.open_ hZ;obtain ⟨⟨sizes,p,⟨last,l,js⟩,goals⟩,e0,d⟩:=x;have hln:=hs.lv.len;have hcore:=hi.core;have hlen:=Ch.levels_len hi.lv;dsimp only at hln hlen he hw
 have l1:(1:Int)≤(ln:Int):=by omega
 have l4:(ln:Int)≤4:=by omega
 have hn1:1≤ln:=by omega
 have hn4:ln≤4:=by omega
 have hn:Hid ((⟨sizes,p,⟨last,l,js⟩,goals⟩:Ch.House).n=(ln:Int)):=by show ((sizes.length:Nat):Int)=_;rw [hln]
 have hc2:Ch.Core (ln:Int) ⟨last,l,js⟩ p:=by have h1:=hcore;rw [show Ch.House.n _=(ln:Int) from hn.out] at h1;exact h1
 have HWF:p.WF:=hc2.safe.wf;have hm1:l.length≤16:=hc2.book.s16;have hm2:js.length≤8:=hc2.book.j8;have hla0:0≤last:=hc2.book.l1;have hla9:last≤999999:=hc2.book.l2;obtain ⟨c0,c1,c2,c3,cf⟩:=hs.cells;have hbl:=hs.lt;have HS0:=Lib.hid hs;have HC2:=Lib.hid hc2;have HZZ:=Lib.hid hz;have HYY:=Lib.hid hy;have lbd:=hs.lv.bound;have HIN:=Lib.hid hi;clear hs hcore hlen hc2 hz hy h hi;have hTT:=Lib.hid hT;clear hT
 cases hwt:Ch.want ⟨last,l,js⟩ t with
 | error g=>
  have hg:=want_ne hwt;have HW:=Lib.hid hwt
  have HE:Hid ((⟨⟨sizes,p,⟨last,l,js⟩,goals⟩,e0,d⟩:Ch.Live.HD).want t=(⟨⟨sizes,p,⟨last,l,js⟩,goals⟩,e0,d⟩,g)):=by unfold Hid Ch.Live.HD.want;dsimp only;rw [HW.out]
  clear hwt;go_enter Tryz.func13,Tryz.ntmps13
  go_wp2_with (first
   | (go_at_call 36;refine (book_now (HS0.out.led.ext (by simp (maxDischargeDepth:=60))) (show l.length≤1000 by omega) (show js.length≤1000 by omega)).mono ?_;rintro e w8 ⟨z1,f1,z2,f2,rfl,s8,s9,⟨o8,n8,rfl⟩⟩;dsimp only at s8 s9 ⊢;have S8:=Lib.hid s8;have S9:=Lib.hid s9;clear s8 s9)
   | (go_at_call 37;refine (want_no0 g last t z1 l.length f1 z2 js.length f2 l js _ (Sl.below S8.out (Ext.below (by simp (maxDischargeDepth:=60)))) (Sl.below S9.out (Ext.below (by simp (maxDischargeDepth:=60)))) (by omega) (by omega) HW hg).mono ?_;rintro e w9 ⟨i1,k1,i2,k2,rfl,-,-,⟨o9,n9,rfl⟩,-,-⟩))
  go_ret;rw [HE.out];exact ⟨by unfold errV;rw [if_neg hg];rfl,Kept.of_ext (by simp (maxDischargeDepth:=60)),Y,la,ln,lc,ga,gn,gc,HS0.out.ext (by simp (maxDischargeDepth:=60)),HZZ.out⟩
 | ok x'=>
  obtain ⟨bl,bs,bj⟩:=x';have HW:=Lib.hid hwt
  have HBF:Hid (Ch.bookFault ⟨bl,bs,bj⟩ (ln:Int)=0):=by
   have h0:=HIN.out.want t
   have e:Ch.House.want ⟨sizes,p,⟨last,l,js⟩,goals⟩ t=(⟨sizes,p,⟨bl,bs,bj⟩,goals⟩,0):=by unfold Ch.House.want;dsimp only;rw [HW.out]
   rw [e] at h0;have h1:=h0.core.book;exact Ch.bookFault_iff.2 (by rw [←hn.out];exact h1)
  obtain ⟨⟨d',f⟩,HKP⟩:∃ v,Hid (Ch.Disk.keep d (e0+1) ⟨bl,bs,bj⟩=v):=⟨_,rfl⟩
  have HTK:Hid ((⟨⟨sizes,p,⟨last,l,js⟩,goals⟩,e0,d⟩:Ch.Live.HD).want t=Ch.Live.HD.keep ⟨⟨sizes,p,⟨last,l,js⟩,goals⟩,e0,d⟩ ⟨bl,bs,bj⟩):=by unfold Hid Ch.Live.HD.want;dsimp only;rw [HW.out]
  clear hwt;go_enter Tryz.func13,Tryz.ntmps13
  go_upto_region 2 with (first
   | (go_at_call 36;refine (book_now (HS0.out.led.ext (by simp (maxDischargeDepth:=60))) (show l.length≤1000 by omega) (show js.length≤1000 by omega)).mono ?_;rintro e w8 ⟨z1,f1,z2,f2,rfl,s8,s9,⟨o8,n8,rfl⟩⟩;dsimp only at s8 s9 ⊢;have S8:=Lib.hid s8;have S9:=Lib.hid s9;clear s8 s9)
   | (go_at_call 37;refine (want_ok0 ⟨bl,bs,bj⟩ last t z1 l.length f1 z2 js.length f2 l js _ (Sl.below S8.out (Ext.below (by simp (maxDischargeDepth:=60)))) (Sl.below S9.out (Ext.below (by simp (maxDischargeDepth:=60)))) (by omega) (by omega) HW).mono ?_;rintro e w9 ⟨i1,k1,i2,k2,rfl,s1,s2,hx9,n1,n2⟩;dsimp only at s1 s2 ⊢;have HX9:Hid (Ext w w9):=Ext.trans (by simp (maxDischargeDepth:=60)) hx9;have T1:=Lib.hid s1;have T2:=Lib.hid s2;have M1:=Lib.hid n1;have M2:=Lib.hid n2;clear s1 s2 hx9 n1 n2))
  generalize hW:World.alloc _ _=wc;generalize hAA:w9.heap.size=A
  have hxc9:Ext w9 wc:=by rw [←hW];exact (by simp (maxDischargeDepth:=60))
  have hxc:=HX9.out.trans hxc9
  have p0:wc.cell? ⟨A,0,none⟩=some (vi bl):=by rw [←hW,←hAA];simp [go_sem]
  have p1:wc.cell? ⟨A,1,none⟩=some (.slice i1 bs.length k1):=by rw [←hW,←hAA];simp [go_sem]
  have p2:wc.cell? ⟨A,2,none⟩=some (.slice i2 bj.length k2):=by rw [←hW,←hAA];simp [go_sem]
  have hA:w.heap.size≤A:=by rw [←hAA];exact HX9.out.below.size
  have HS1:=Lib.hid (Sl.below T1.out hxc9.below);have HS2:=Lib.hid (Sl.below T2.out hxc9.below)
  have HN1:Hid (∀ b o,i1=some ⟨b,o,none⟩→w.heap.size≤b):=fun b o e=>by
   rcases M1.out b o e with h|h
   ·exact Nat.le_trans (by first|(simp;done)|(simp;omega)) h
   ·rw [h] at e;cases e
  have HN2:Hid (∀ b o,i2=some ⟨b,o,none⟩→w.heap.size≤b):=fun b o e=>by
   have h:=M2.out b o e;exact Nat.le_trans (by first|(simp;done)|(simp;omega)) h
  have HSC:=Lib.hid (HS0.out.ext hxc);have HXC:=Lib.hid hxc;have zA:=cell_lt p0;have d2:=xcell hxc c2;have zh:=cell_lt d2;clear hW hAA hxc hxc9 c0 c1 c2 c3 cf T1 T2 M1 M2 HX9;have HYN:Hid (HS (fun k=>Y k∨wc.heap.size≤k) Z pb mb db lb hb n la ln lc ga gn gc ⟨⟨sizes,p,⟨last,l,js⟩,goals⟩,e0,d⟩ wc):=HSC.out.move (fun k hk=>⟨fun h=>h.elim id (fun h=>absurd hk (by omega)),Or.inl⟩)
  have HLN:Hid (LN (fun k=>Y k∨wc.heap.size≤k) db lb n (ln:Int) e0 ⟨last,l,js⟩ d wc):=by
   have h1:=HYN.out.led;rw [show Ch.House.n _=(ln:Int) from hn.out] at h1;exact h1
  have HNB:Hid (∀ b o,(0<bs.length∧i1=some ⟨b,o,none⟩)∨(0<bj.length∧i2=some ⟨b,o,none⟩)→¬ (Y b∨wc.heap.size≤b)):=by
   intro b o hh hz
   have h1:w.heap.size≤b:=by
    rcases hh with hh|hh
    ·exact HN1.out b o hh.2
    ·exact HN2.out b o hh.2
   have h2:b<wc.heap.size:=by
    rcases hh with ⟨hp,e⟩|⟨hp,e⟩
    ·subst e
     exact Sl.block_ltC HS1.out hp (by intro s;simp [stayCells])
    ·subst e
     exact Sl.block_ltC HS2.out hp (by intro s;simp [jobCells])
   rcases hz with hz|hz
   ·have:=HYY.out b hz
    omega
   ·omega
  have HWZ:Hid (∀ k,HB (fun k=>Y k∨wc.heap.size≤k) pb mb hb k→Z k):=by
   intro k hk
   rcases hk with (hk|hk)|hk
   ·exact HZZ.out k (Or.inl hk)
   ·exact hZ k (Nat.le_trans HXC.out.below.size hk)
   ·exact HZZ.out k (Or.inr hk)
  have HNH:Hid (¬ (Y hb∨wc.heap.size≤hb)):=by
   intro hh
   rcases hh with hh|hh
   ·exact HS0.out.yh hh
   ·omega
  have HNA:Hid (¬ (Y A∨wc.heap.size≤A)):=by
   intro hh
   rcases hh with hh|hh
   ·have:=HYY.out A hh
    omega
   ·omega
  go_upto_region 3 with fail
  go_region_held3 (fun w'=>w'.cell? ⟨hb,2,none⟩=some (.pointer (some ⟨lb,0,none⟩))∧w'.cell? ⟨A,0,none⟩=some (vi bl)∧w'.cell? ⟨A,1,none⟩=some (.slice i1 bs.length k1)∧w'.cell? ⟨A,2,none⟩=some (.slice i2 bj.length k2)) (first|(first|((try dsimp only);(repeat' apply And.intro) <;> (refine xcell (w:=wc) ?_ (by assumption);simp (maxDischargeDepth:=60);done)))|((try dsimp only);(repeat' apply And.intro) <;> assumption))
   (first
    | (go_at_call 38;refine (keep_led (Z:=fun k=>Y k∨wc.heap.size≤k) (fun k hk=>Or.inr (Nat.le_trans (Ext.below (by simp (maxDischargeDepth:=60)):Below wc.heap.size wc _).size hk)) (HLN.out.ext (by simp (maxDischargeDepth:=60))) hw l4 he (hTT.out.ext (HXC.out.trans (by simp (maxDischargeDepth:=60)))) bl i1 bs.length k1 i2 bj.length k2 bs bj (Sl.below HS1.out (Ext.below (by simp (maxDischargeDepth:=60)))) (Sl.below HS2.out (Ext.below (by simp (maxDischargeDepth:=60)))) HNB.out HBF.out).mono ?_;rintro e w9 ⟨he9,hk9,hr9⟩;have HK9:Hid (Kept (fun k=>Y k∨wc.heap.size≤k) wc w9):=(Kept.of_ext (by simp (maxDischargeDepth:=60)):Kept (fun k=>Y k∨wc.heap.size≤k) wc _).trans hk9;rw [HKP.out] at he9 hr9;dsimp only at he9 hr9;have HR9:=Lib.hid hr9;have nd2:=cell_kept HK9.out d2 HNH.out;have np0:=cell_kept HK9.out p0 HNA.out;have np1:=cell_kept HK9.out p1 HNA.out;have np2:=cell_kept HK9.out p2 HNA.out;clear hk9 hr9;subst he9))
  all_goals
   have hkz:Kept Z w w9:=(Kept.of_ext HXC.out).trans (HK9.out.wide (fun i hi=>HWZ.out i (Or.inl hi)));have HKZ:=Lib.hid hkz;clear hkz
   rcases HR9.out with ⟨h0,hl⟩|⟨h0,hl⟩
   ·subst h0
    have HL:=Lib.hid hl;clear hl;rw [show errV 0 = .nilIface from rfl];go_wp2;go_ret;rw [HTK.out];unfold Ch.Live.HD.keep;dsimp only;rw [HKP.out];dsimp only
    try rw [if_pos rfl]
    exact ⟨rfl,HKZ.out.trans (Kept.of_ext (by simp (maxDischargeDepth:=60))),fun k=>Y k∨wc.heap.size≤k,la,ln,lc,ga,gn,gc,(HYN.out.ledger HK9.out (by rw [hn.out];exact HL.out)).ext (by simp (maxDischargeDepth:=60)),HWZ.out⟩
   ·have HL:=Lib.hid hl
    clear hl;rw [show errV f = .iface 114 (vi f) by unfold errV;rw [if_neg h0]];go_wp2;go_ret;rw [HTK.out];unfold Ch.Live.HD.keep;dsimp only;rw [HKP.out];dsimp only
    try rw [if_neg h0]
    exact ⟨by unfold errV;rw [if_neg h0];rfl,HKZ.out.trans (Kept.of_ext (by simp (maxDischargeDepth:=60))),fun k=>Y k∨wc.heap.size≤k,la,ln,lc,ga,gn,gc,(HYN.out.ledger HK9.out (by rw [hn.out];exact HL.out)).ext (by simp (maxDischargeDepth:=60)),HWZ.out⟩
end Go.Proofs.YtplomeacjbkgnadGreatDoor
