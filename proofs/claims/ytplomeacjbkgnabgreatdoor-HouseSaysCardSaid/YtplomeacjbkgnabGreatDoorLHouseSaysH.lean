/-
  'HouseSays' holds, and its card: the law's Go text answers true, whatever the input; what it lists is tied to the program's text. No conditions.
-/
import Derived.Test.YtplomeacjbkgnabGreatDoorZ49
import Derived.Test.YtplomeacjbkgnabGreatDoorZ52
import Derived.Test.YtplomeacjbkgnabGreatDoorZ34
import Derived.Test.YtplomeacjbkgnabGreatDoorZ30
import Derived.Test.YtplomeacjbkgnabGreatDoorZ50
import Derived.Deep.DeepCutAuto
import Derived.Deep.CutBlock
import Derived.Test.YtplomeacjbkgnabGreatDoorRows
import Derived.Test.YtplomeacjbkgnabGreatDoorTie
import Derived.Test.YtplomeacjbkgnabGreatDoorCards
import Derived.SevenTiedAt
import Derived.Shelf.Lay
import Derived.Lay
import Derived.LaidOnce
import Derived.Stop.Joined
set_option linter.unusedSimpArgs false
set_option linter.unusedVariables false
set_option maxRecDepth 100000
set_option maxHeartbeats 16000000

namespace Go.Proofs.YtplomeacjbkgnabGreatDoor
open Go.RowKit
theorem st_goalsH {w0:World} {N:Nat→Prop} {pb mb db lb hb:Nat} {h:Ch.House} {k:Nat} {w:World} (s:St w0 N pb mb db lb hb h k w):
  Calls Tryz.prog 25 #[.pointer (some ⟨hb,0,none⟩)] w fun r w'=>∃ a c,r = .returned (.slice a h.goals.length c)∧Sl w' 2 eB h.goals a h.goals.length c∧Ext w w':=by
 have hg:h.goals.length≤1000:=Nat.le_trans (Ch.Live.goals_few s.inv) (by decide);obtain ⟨x,rfl,h2,h3,h4,s⟩:=s;exact hgoals_now s.hn hg
theorem check_noH (a:Option Addr) (n cap:Nat) (l:List Ch.Size) (w:World) (h:Sl w 3 lB l a n cap) (hf:¬ Ch.levelsFault l=0):Calls Tryz.prog 47 #[.slice a n cap] w fun e w'=>e = .returned (.iface 92 (vi (Ch.levelsFault l)))∧Ext w w':=by
 have:=check_any a n cap l w h;unfold kB at this;rw [if_neg hf] at this;exact this
theorem new_no {la:Option Addr} {ln lc:Nat} {sizes:List Ch.Size} {w:World} (hl:Sl w 3 lB sizes la ln lc) (hf:¬ Ch.levelsFault sizes=0) (a b:Option Addr):
  Calls Tryz.prog 11 #[.slice la ln lc,.pointer a,.pointer b] w fun e w'=>e = .returned (.tuple #[.pointer none,.iface 92 (vi (Ch.levelsFault sizes))])∧Ext w w':=by
 have HF:=aA hl;have HN:=aA hf;clear hl hf;go_enter Tryz.func11,Tryz.ntmps11;go_wp2_with (go_at_call 47;(with_reducible refine (check_noH _ _ _ sizes _ (Sl.below HF.out (Ext.below eX)) HN.out).mono ?_);rintro e w1 ⟨rfl,o1,n1,rfl⟩)
 go_ret2
 exact ⟨rfl,eX⟩
theorem same_val (f:Int) (V:Value) (h0:0≤f) (hV:Hid (kB f=V)) (w:World):Calls Tryz.prog 12 #[V,vi f] w fun e w'=>e = .returned (.bool true)∧Ext w w':=by
 rw [←hV.out];exact same_yes f w h0
theorem Tw.own {w0:World} {N:Nat→Prop} {pb mb db lb hb rh rb:Nat} {h h':Ch.House} {k:Nat} {w w':World} (t:Tw w0 N pb mb db lb hb rh rb h h' k w) (x:Ext w w'):Tw w0 (fun i=>N i∨(w.heap.size≤i∧i<w'.heap.size)) pb mb db lb hb rh rb h h' k w':=
 ⟨t.s.own x,(t.r.ext x).mono (fun i hi=>far_next i (Or.inl hi)),t.n1,t.n2⟩
theorem eqlSensed (w:World) (p:Ch.Plant):(Go.binOp .eql 69 (qI p) (qI p)).run Tryz.prog w = .ok (.bool true) w:=by
 refine aG w ?_
 have h:=cI (P:=Tryz.prog) (r:=p.height==p.height&&(p.ext==p.ext&&(p.door==p.door&&(p.people==p.people&&(p.lift==p.lift&&(p.bay==p.bay&&(p.full p.ext==p.full p.ext&&(p.full (p.ext - 1)==p.full (p.ext - 1)&&(p.full (p.ext+1)==p.full (p.ext+1)&&true)))))))))
  (xs:=#[vi p.height,vi p.ext,.bool p.door,vi p.people,vi p.lift,vi p.bay,.bool (p.full p.ext),.bool (p.full (p.ext - 1)),.bool (p.full (p.ext+1))]) (ys:=#[vi p.height,vi p.ext,.bool p.door,vi p.people,vi p.lift,vi p.bay,.bool (p.full p.ext),.bool (p.full (p.ext - 1)),.bool (p.full (p.ext+1))]) w (d:=9999) (t:=69)
  [(true,3,0),(true,3,1),(true,4,2),(true,3,3),(true,3,4),(true,3,5),(true,4,6),(true,4,7),(true,4,8)] kR kR kR
  (fD Tryz.underlying3 kR kR (fD Tryz.underlying3 kR kR (eqShapeB Tryz.underlying4 kR kR (fD Tryz.underlying3 kR kR (fD Tryz.underlying3 kR kR (fD Tryz.underlying3 kR kR (eqShapeB Tryz.underlying4 kR kR (eqShapeB Tryz.underlying4 kR kR (eqShapeB Tryz.underlying4 kR kR (cF w))))))))))
 simpa using h
theorem lout_at {pb mb rb:Nat} {p:Ch.Plant} {w:World} (h:pJ w pb mb rb p) (hp:p.WF) (x:RAct) (hg:x.Good) {s:ByteArray} (hs:Hid (x.kind=s)):
  Calls Tryz.prog 19 #[.pointer (some ⟨pb,0,none⟩),.pointer (some ⟨rb,0,none⟩),.agg #[.string s,vi x.a,vi x.b,vi x.car.id,vi x.car.size.long,vi x.car.size.high,vi x.car.size.heavy,.string x.s,.int .u64 x.k,vi x.last,.slice x.a1 x.n1 x.c1,.slice x.a2 x.n2 x.c2]] w (pI pb mb rb w (p.outside x.act) (.bool true)):=by
 rw [←hs.out];exact loutside_any h hp x hg
theorem hpark_nn (h:Ch.House) (c:Ch.Car):0≤(h.park c).2.2:=by
 unfold Ch.House.park
 split
 ·exact (by decide:(0:Int)≤7)
 ·have:=park_nn h.b h.sizes c
  split <;> (rename_i e;rw [e] at this;exact this)
theorem hwant_nn (h:Ch.House) (t:Int):0≤(h.want t).2:=by
 unfold Ch.House.want
 cases hw:Ch.want h.b t with
 | error e=>have:=want_nn h.b t;rw [hw] at this;exact this
 | ok b=>exact Int.le_refl 0
theorem park_sizesH (h:Ch.House) (c:Ch.Car):(h.park c).1.sizes=h.sizes:=by
 unfold Ch.House.park
 split
 ·rfl
 ·split <;> rfl
theorem tick_sizesH (h:Ch.House):h.tick.sizes=h.sizes:=by
 unfold Ch.House.tick
 split
 ·split <;> rfl
 ·rfl
theorem want_sizesH (h:Ch.House) (t:Int):(h.want t).1.sizes=h.sizes:=by
 unfold Ch.House.want
 split <;> rfl
theorem RN.lth {F:Nat→Prop} {hb rb:Nat} {h:Ch.House} {w:World} (r:RN F hb rb h w):hb<w.heap.size:=by
 obtain ⟨la,ln,lc,a1,m1,c1,a2,m2,c2,ga,gn,gc,r⟩:=r;exact r.lth
theorem Tw.start {w1 w3 w5:World} {pb mb db lb hb rb RH k:Nat} {sizes:List Ch.Size} {la:Option Addr} {ln lc:Nat} (s:St w1 (fun _=>False) pb mb db lb hb (Ch.House.new sizes) k w3) (x:Ext w3 w5) (hl:Sl w1 3 lB sizes la ln lc) (hlo:0<ln→∀ b o,la=some ⟨b,o,none⟩→b<w1.heap.size)
  (hR:vA w5 rb (Ch.Plant.new (sizes.length:Int))) (hrb:w3.heap.size≤rb) (hH:w3.heap.size≤RH) (hne:RH≠rb) (blk:w5.heap[RH]? = some (.cells (rhCells (.slice la ln lc) rb 0 none 0 0 none 0 0 (.slice none 0 0)) 52 (0,0))):
  Tw w1 (fun i=>False∨(w3.heap.size≤i∧i<w5.heap.size)) pb mb db lb hb RH rb (Ch.House.new sizes) (Ch.House.new sizes) k w5:=by
 have h1:=s.x.below.size;have h5:=dG blk;have hr:=hR.lt;refine ⟨s.own x,⟨la,ln,lc,none,0,0,none,0,0,none,0,0,blk,Sl.below hl (s.x.trans x).below,Sl.nilT _ _ _ _,Sl.nilT _ _ _ _,Sl.nilT _ _ _ _,hR,hne,?_,fun h0=>absurd h0 (by omega),fun h0=>absurd h0 (by omega),fun h0=>absurd h0 (by omega),fun hO=>hO.2 (Or.inr ⟨hH,h5⟩),fun hO=>hO.2 (Or.inr ⟨hrb,hr⟩)⟩,by omega,by omega⟩;intro h0 b o e;have:=hlo h0 b o e;exact ⟨fun hO=>by have:=hO.1;omega,by rintro (rfl|rfl) <;> omega⟩
theorem houseSays_walk {la:Option Addr} {ln lc:Nat} {sizes:List Ch.Size} {a:Option Addr} {n cap:Nat} {l:List RAct} {w:World} (hl:Sl w 3 lB sizes la ln lc) (h:Sl w 12 ractCells l a n cap) (hg:∀ x∈l,x.Good) (L:Libs w):
  Calls Tryz.prog 3 #[.slice la ln lc,.slice a n cap] w fun e w'=>e = .returned (.bool true)∧Ext w w':=by
 have lbd:=hl.bound;have abd:=h.bound;have hlen:=hl.len;have HF:=aA hl;have HA:=aA h;have HG:=aA hg;have HL:=aA L;clear hl h hg L;go_enter Tryz.func3,Tryz.ntmps3
 by_cases h6:6<(ln:Int)
 ·go_wp2_with (go_at_call 5;(with_reducible refine (drives_any _ (HL.out.ext eX)).mono ?_);rintro e w1 ⟨rfl,o1,n1,rfl⟩)
  go_ret;exact ⟨rfl,eX⟩
 have h6':¬ (6:Int)<(ln:Int):=h6
 go_upto_region 3 with (first
  | (go_at_call 5;(with_reducible refine (drives_any _ (HL.out.ext eX)).mono ?_);rintro e w1 ⟨rfl,o1,n1,rfl⟩)
  | (go_at_call 6;(with_reducible refine (lightActs_len _ _ _ _ l _ (Sl.below HA.out (Ext.below eX)) HG.out).mono ?_);rintro e w2 ⟨lb,rfl,hb1,o2,n2,rfl⟩;cases lb))
 ·go_wp2_with fail
  go_ret;exact ⟨rfl,eX⟩
 have hn80:n≤80:=by have:=hb1 trivial;omega
 clear hb1
 obtain ⟨F,HFF⟩:∃ F,Hid (Ch.levelsFault sizes=F):=⟨_,rfl⟩
 have hF0:0≤F:=by rw [←HFF.out];exact levelsFault_nn _
 by_cases hF:F=0
 rotate_left
 ·have hFp:0<F:=by omega
  have HFN:Hid (¬ Ch.levelsFault sizes=0):=by unfold Hid;rw [HFF.out];exact hF
  have HEV:Hid (kB F = .iface 92 (vi F)):=by unfold Hid kB;rw [if_neg hF]
  go_wp2_with (first
   | (go_at_call 7;(with_reducible refine (rlevels_at F _ _ _ sizes _ (Sl.below HF.out (Ext.below eX)) HFF).mono ?_);rintro e w1 ⟨rfl,o1,n1,rfl⟩)
   | (go_at_call 8;(with_reducible refine (new_any 1 _ (by decide) (by decide)).mono ?_);rintro e w3 ⟨pb,mb,rfl,hp,hx,-,-⟩;have HX1:Hid (Ext w w3):=Ext.trans eX hx;clear hp hx)
   | (go_at_call 9;refine (new_dz 22 _ (by decide) (by decide)).mono ?_;rintro e w4 ⟨db,rfl,hd,hx⟩;have HX2:Hid (Ext w3 w4):=Ext.trans eX hx;have HD2:=aA hd;clear hd hx)
   | (go_at_call 10;refine (format_now (fun k hk=>Nat.le_trans HX2.out.below.size hk) HD2.out (Ch.calm_new 22) rfl (Nat.le_refl _) 1 (HL.out.tab.ext (HX1.out.trans HX2.out))).mono ?_;rintro e w5 ⟨rfl,hk,d,hp,hd3⟩;have HX3:Hid (Ext w3 w5):=Ext.of_below (xD HX2.out.below (Nat.le_refl _) hk (fun _ h=>h));clear hk hp hd3)
   | (go_at_call 11;(with_reducible refine (new_no (Sl.below HF.out ((HX1.out.trans HX3.out).trans eX).below) HFN.out _ _).mono ?_);rw [HFF.out];rintro e w6 ⟨rfl,o6,n6,rfl⟩)
   | (go_at_call 12;(with_reducible refine (same_val F _ hF0 HEV _).mono ?_);rintro e w1 ⟨rfl,o1,n1,rfl⟩))
  go_ret;exact ⟨rfl,(HX1.out.trans HX3.out).trans eX⟩
 subst hF;have hlv:=Ch.levels_len HFF.out
 have l1:(1:Int)≤(ln:Int):=by omega
 have l4:(ln:Int)≤4:=by omega
 clear hlv
 go_upto_region 12 with (go_at_call 7;(with_reducible refine (rlevels_at 0 _ _ _ sizes _ (Sl.below HF.out (Ext.below eX)) HFF).mono ?_);rintro e w1 ⟨rfl,o1,n1,rfl⟩)
 generalize hW:World.plus _ _ _=w1;have hx1:Ext w w1:=xQ hW;have HX1:=aA hx1;have HL1:=aA (HL.out.ext hx1);have HF1:=aA (Sl.below HF.out hx1.below);have HA1:=aA (Sl.below HA.out hx1.below)
 have HFO:Hid (0<ln→∀ b o,la=some ⟨b,o,none⟩→b<w1.heap.size):=fun h0 b o e=>by
  subst e;exact Sl.block_ltC HF1.out h0 (by intro s;simp [lB])
 clear hW hx1
 go_upto_region 16 with (first
  | (go_at_call 13;(with_reducible refine (housed_now HF1.out HFF.out HL1.out).mono ?_);rintro e w3 ⟨pb,mb,db,lb0,hb0,rfl,hs⟩;have HS3:=aA hs;clear hs)
  | (go_at_call 14;(with_reducible refine (rnew_any (ln:Int) _ l1 l4).mono ?_);rintro e w4 ⟨rb,rfl,hr,hx,hb3⟩;have HX4:Hid (Ext w3 w4):=Ext.trans eX hx;have HR4:=aA hr;have HB4:Hid (w3.heap.size≤rb):=Nat.le_trans (Ext.below eX:Below w3.heap.size w3 _).size hb3;clear hr hx hb3))
 go_upto_region 18 with fail
 generalize hW:World.alloc _ _=w5;generalize hA:w4.heap.size=RH;have hx5:Ext w4 w5:=xQ hW
 have hblk:w5.heap[RH]? = some (.cells (rhCells (.slice la ln lc) rb 0 none 0 0 none 0 0 (.slice none 0 0)) 52 (0,0)):=by rw [←hW,←hA];exact sA _ _ _ rfl
 have hrl:=HR4.out.lt;have hT0:=Tw.start HS3.out (HX4.out.trans hx5) HF1.out HFO.out (by rw [hlen];exact HR4.out.ext hx5) HB4.out (by rw [←hA];exact HX4.out.below.size) (by omega) hblk;have HT0:=aA hT0;clear hW hA hx5 hblk hT0 hrl HS3 HX4 HR4 HB4
 go_loopw [14,17,18] (fun s14 s17 s18 wr=>∃ (j lb hb rh:Nat) (N:Nat→Prop) (h:Ch.House),j≤n∧s14 = .pointer (some ⟨hb,0,none⟩)∧s17 = .pointer (some ⟨rh,0,none⟩)∧s18 = .int .i64 (j:Int)∧Hid (h.sizes=sizes)∧Hid (Tw w1 N pb mb db lb hb rh rb h h (2+60 * j) wr)) (fun _ _ s18 _=>n - (intOf s18).toNat)
 case atStart=>exact ⟨0,lb0,hb0,RH,_,Ch.House.new sizes,Nat.zero_le _,rfl,rfl,rfl,rfl,HT0.out.ext eX⟩
 case round=>
  obtain ⟨j,lb,hb,rh,N,h,hj,rfl,rfl,rfl,HSZ,HT⟩:=hrel
  by_cases hlt:j<n
  ·obtain ⟨bA,qA,x,rfl,hx,dx⟩:=HA1.out.get hlt
   have dx:=at12 dx;have gx:=HG.out x (List.mem_of_getElem? hx);obtain ⟨dx0,dx1,dx2,dx3,dx4,dx5,dx6,dx7,dx8,dx9,dx10,dx11⟩:=dx
   have hj0:(0:Int)≤(j:Int):=by omega
   have hj1:(j:Int)<(n:Int):=by omega
   have hj2:(j:Int)≤(cap:Int):=by omega
   clear hx;have ex0:=eA HT.out.s.x dx0;have ex1:=eA HT.out.s.x dx1;have ex2:=eA HT.out.s.x dx2;have ex3:=eA HT.out.s.x dx3;have ex4:=eA HT.out.s.x dx4;have ex5:=eA HT.out.s.x dx5;have ex6:=eA HT.out.s.x dx6;have ex7:=eA HT.out.s.x dx7;have ex8:=eA HT.out.s.x dx8;have ex9:=eA HT.out.s.x dx9;have ex10:=eA HT.out.s.x dx10;have ex11:=eA HT.out.s.x dx11;have exl:=dA ex0;clear dx0 dx1 dx2 dx3 dx4 dx5 dx6 dx7 dx8 dx9 dx10 dx11
   go_upto_region 21 with fail
   generalize hW:World.alloc _ _=w6;generalize hA:wr.heap.size=AX
   obtain ⟨KD,HKD⟩:∃ s,Hid (x.kind=s):=⟨_,rfl⟩
   have hx6:Ext wr w6:=xQ hW
   have c0:w6.cell? ⟨AX,0,none⟩=some (.string KD):=by rw [←HKD.out,←hW,←hA];simp [go_sem]
   have c1:w6.cell? ⟨AX,1,none⟩=some (vi x.a):=cR hW hA;have c2:w6.cell? ⟨AX,2,none⟩=some (vi x.b):=cR hW hA;have c3:w6.cell? ⟨AX,3,none⟩=some (vi x.car.id):=cR hW hA;have c4:w6.cell? ⟨AX,4,none⟩=some (vi x.car.size.long):=cR hW hA;have c5:w6.cell? ⟨AX,5,none⟩=some (vi x.car.size.high):=cR hW hA;have c6:w6.cell? ⟨AX,6,none⟩=some (vi x.car.size.heavy):=cR hW hA;have c7:w6.cell? ⟨AX,7,none⟩=some (.string x.s):=cR hW hA;have c8:w6.cell? ⟨AX,8,none⟩=some (.int .u64 x.k):=cR hW hA;have c9:w6.cell? ⟨AX,9,none⟩=some (vi x.last):=cR hW hA;have c10:w6.cell? ⟨AX,10,none⟩=some (.slice x.a1 x.n1 x.c1):=cR hW hA;have c11:w6.cell? ⟨AX,11,none⟩=some (.slice x.a2 x.n2 x.c2):=cR hW hA;have hAX:AX<w6.heap.size:=dA c0;have hrh:=HT.out.r.lth;have hrb:=HT.out.r.pl.lt
   have HNR:Hid (¬ Own2 rh rb AX):=by rintro (e|e) <;> omega
   obtain ⟨N6,hN6,ht6⟩:∃ N6:Nat→Prop,N6 AX∧Tw w1 N6 pb mb db lb hb rh rb h h (2+60 * j) w6:=⟨_,Or.inr ⟨by omega,hAX⟩,HT.out.own hx6⟩
   have HNA:Hid (¬ Own0 w1 N6 AX):=fun hh=>hh.2 hN6
   have HN6:=aA hN6;have HT6:=aA ht6;clear hW hA hx6 ht6 hN6 hrh hrb HT exl ex0 ex1 ex2 ex3 ex4 ex5 ex6 ex7 ex8 ex9 ex10 ex11
   go_upto_block 2 with fail
   go_cut [14,17,20] (fun s14 s17 s20 wx=>∃ (lb hb rh:Nat) (N:Nat→Prop) (h:Ch.House),s14 = .pointer (some ⟨hb,0,none⟩)∧s17 = .pointer (some ⟨rh,0,none⟩)∧s20 = .bool true∧Hid (h.sizes=sizes)∧Hid (Tw w1 N pb mb db lb hb rh rb h h (2+60 * (j+1)) wx))
   case first=>
    have hk2:2+60 * j+62<4294967296:=by omega
    by_cases hk0:KD=Ch.kPark
    ·as_aux_lemma=>
      unfold Ch.kPark at hk0;subst hk0
      obtain ⟨v1,HV1⟩:∃ v,Hid ((h.park ⟨x.car.id,⟨x.car.size.long,x.car.size.high,x.car.size.heavy⟩⟩).2.1=v):=⟨_,rfl⟩
      obtain ⟨f,HFE⟩:∃ v,Hid ((h.park ⟨x.car.id,⟨x.car.size.long,x.car.size.high,x.car.size.heavy⟩⟩).2.2=v):=⟨_,rfl⟩
      obtain ⟨V,HEV⟩:∃ v,Hid (kB f=v):=⟨_,rfl⟩
      have hf0:0≤f:=by rw [←HFE.out];exact hpark_nn h _
      go_wp2_with (first
       | (go_at_call 15;refine (st_park (HT6.out.s.ext eX) (by omega) HL1.out.tab _ _ _ _).mono ?_;rw [HV1.out,HFE.out,HEV.out];rintro r w7 ⟨rfl,hk7,hs7⟩;have HK7:Hid (mA (Own0 w1 N6) w6 w7):=(mA.of_ext eX:mA (Own0 w1 N6) w6 _).trans hk7;have HT7:=aA (HT6.out.prog HK7.out hs7);have d0:=gB HK7.out c0 HNA.out;have d3:=gB HK7.out c3 HNA.out;have d4:=gB HK7.out c4 HNA.out;have d5:=gB HK7.out c5 HNA.out;have d6:=gB HK7.out c6 HNA.out;have dl:=dA d3;clear hk7 hs7)
       | (go_at_call 16;refine (rparked_now (HT7.out.r.ext eX) HT6.out.s.inv.inv _ _ _ _).mono ?_;rw [HV1.out,HFE.out];rintro r w8 ⟨rfl,hk8,hr8⟩;have HT8:=aA ((HT7.out.ext eX).ref hk8 hr8);clear hk8 hr8)
       | (go_at_call 12;(with_reducible refine (same_val f V hf0 HEV _).mono ?_);rintro e w1 ⟨rfl,o1,n1,rfl⟩))
      go_meet;exact ⟨lb,hb,rh,_,_,rfl,rfl,rfl,(by unfold Hid;rw [park_sizesH];exact HSZ.out),(HT8.out.ext eX).more (by omega)⟩
    have s0':(KD.toList==[112,97,114,107])=false:=str_ne hk0
    go_upto_region 33 with fail
    by_cases hk1:KD=Ch.kWant
    ·as_aux_lemma=>
      clear s0' hk0;unfold Ch.kWant at hk1;subst hk1
      obtain ⟨f,HFE⟩:∃ v,Hid ((h.want x.a).2=v):=⟨_,rfl⟩
      obtain ⟨V,HEV⟩:∃ v,Hid (kB f=v):=⟨_,rfl⟩
      have hf0:0≤f:=by rw [←HFE.out];exact hwant_nn h _
      go_upto_region 34 with fail
      go_region_held3 (fun w'=>w'.cell? ⟨AX,1,none⟩=some (vi x.a))
       (first|((try dsimp only);first|assumption|exact xC (w:=w6)|exact xC (w:=w7)|exact xC (w:=w8)))
       (first
       | (go_at_call 17;refine (st_want (HT6.out.s.ext eX) (by omega) HL1.out.tab _).mono ?_;rw [HFE.out,HEV.out];rintro r w7 ⟨rfl,hk7,hs7⟩;have HK7:Hid (mA (Own0 w1 N6) w6 w7):=(mA.of_ext eX:mA (Own0 w1 N6) w6 _).trans hk7;have HT7:=aA (HT6.out.prog HK7.out hs7);have d1:=gB HK7.out c1 HNA.out;have dl:=dA d1;clear hk7 hs7)
       | (go_at_call 18;refine (rwanted_now (HT7.out.r.ext eX) HT6.out.s.inv.inv _).mono ?_;rw [HFE.out];rintro r w8 ⟨rfl,hk8,hr8⟩;have HK8:Hid (mA (Own2 rh rb) w7 w8):=(mA.of_ext eX:mA (Own2 rh rb) w7 _).trans hk8;have HT8:=aA ((HT7.out.ext eX).ref hk8 hr8);have d2:=gB HK8.out d1 HNR.out;have dl2:=dA d2;clear hk8 hr8)
       | (go_at_call 12;(with_reducible refine (same_val f V hf0 HEV _).mono ?_);rintro e w1 ⟨rfl,o1,n1,rfl⟩))
      all_goals
       go_wp2_with fail;go_meet;exact ⟨lb,hb,rh,_,_,rfl,rfl,rfl,(by unfold Hid;rw [want_sizesH];exact HSZ.out),(HT8.out.ext eX).more (by omega)⟩
    have s1':(KD.toList==[119,97,110,116])=false:=str_ne hk1
    go_upto_region 35 with fail
    by_cases hk2:KD=Ch.kOpen
    ·as_aux_lemma=>
      clear s0' hk0 s1' hk1;unfold Ch.kOpen at hk2;subst hk2
      have hlv:Sl w1 3 lB h.sizes la ln lc:=by rw [HSZ.out];exact HF1.out
      have HLV:=aA hlv;clear hlv
      go_upto_region 40 with (first
       | (go_at_call 11;refine (st_new (HT6.out.s.ext eX) HLV.out HL1.out).mono ?_;rintro r w7 ⟨hb2,lb2,rfl,hx7,hs7⟩;have HX7:Hid (Ext w6 w7):=Ext.trans eX hx7;have HT7:=aA (HT6.out.prog (mA.of_ext HX7.out) hs7);clear hx7 hs7))
      obtain ⟨la',ln',lc',i1,m1,d1,i2,m2,d2,ga,gn,gc,hr⟩:=HT7.out.r;obtain ⟨-,-,r2,r3,r4,-⟩:=hr.at_.cells;have zr:=dA r2;have HR:=aA hr;clear hr;go_wp2_with fail;go_meet;generalize hW:World.alloc _ _=w9;have hx9:Ext w7 w9:=xQ hW
      have hk9:w9.heap[w7.heap.size]? = some (.cells (rhCells (.slice la ln lc) rb h.b.last i1 m1 d1 i2 m2 d2 (.slice none 0 0)) 52 (0,0)):=by rw [←hW];exact sA _ _ _ rfl
      exact ⟨lb2,hb2,w7.heap.size,_,{ h with goals:=[] },rfl,rfl,rfl,HSZ.out,(HT7.out.anew hx9 (Nat.le_refl _) HLV.out HR.out.st HR.out.jb HR.out.f1 HR.out.f2 HFO.out hk9).more (by omega)⟩
    have s2':(KD.toList==[111,112,101,110])=false:=str_ne hk2
    go_upto_region 41 with fail
    by_cases hk3:KD=Ch.kWalk
    ·as_aux_lemma=>
      clear s0' hk0 s1' hk1 s2' hk2;unfold Ch.kWalk at hk3;subst hk3;have HWP:h.p.WF:=HT6.out.s.inv.inv.core.safe.wf;go_wp2_with (go_at_call 19;refine (lout_at (HT6.out.pl.ext eX) HWP x gx HKD).mono ?_;rintro r w7 ⟨rfl,hb7,hk7⟩;have HT7:=aA ((HT6.out.ext eX).both hk7 hb7 (Ch.Live.inv2_plant HT6.out.s.inv (Ch.Plant.WF.outside HWP _)));clear hb7 hk7);go_meet;exact ⟨lb,hb,rh,_,{ h with p:=h.p.outside x.act },rfl,rfl,rfl,HSZ.out,(HT7.out.ext eX).more (by omega)⟩
    have s3':(KD.toList==[119,97,108,107])=false:=str_ne hk3
    go_upto_region 42 with fail
    by_cases hk4:KD=Ch.kArrive
    ·as_aux_lemma=>
      clear s0' hk0 s1' hk1 s2' hk2 s3' hk3;unfold Ch.kArrive at hk4;subst hk4;have HWP:h.p.WF:=HT6.out.s.inv.inv.core.safe.wf;go_wp2_with (go_at_call 19;refine (lout_at (HT6.out.pl.ext eX) HWP x gx HKD).mono ?_;rintro r w7 ⟨rfl,hb7,hk7⟩;have HT7:=aA ((HT6.out.ext eX).both hk7 hb7 (Ch.Live.inv2_plant HT6.out.s.inv (Ch.Plant.WF.outside HWP _)));clear hb7 hk7);go_meet;exact ⟨lb,hb,rh,_,{ h with p:=h.p.outside x.act },rfl,rfl,rfl,HSZ.out,(HT7.out.ext eX).more (by omega)⟩
    have s4':(KD.toList==[97,114,114,105,118,101])=false:=str_ne hk4
    go_upto_region 43 with fail
    by_cases hk5:KD=Ch.kLeave
    ·as_aux_lemma=>
      clear s0' hk0 s1' hk1 s2' hk2 s3' hk3 s4' hk4;unfold Ch.kLeave at hk5;subst hk5;have HWP:h.p.WF:=HT6.out.s.inv.inv.core.safe.wf;go_wp2_with (go_at_call 19;refine (lout_at (HT6.out.pl.ext eX) HWP x gx HKD).mono ?_;rintro r w7 ⟨rfl,hb7,hk7⟩;have HT7:=aA ((HT6.out.ext eX).both hk7 hb7 (Ch.Live.inv2_plant HT6.out.s.inv (Ch.Plant.WF.outside HWP _)));clear hb7 hk7);go_meet;exact ⟨lb,hb,rh,_,{ h with p:=h.p.outside x.act },rfl,rfl,rfl,HSZ.out,(HT7.out.ext eX).more (by omega)⟩
    have s5':(KD.toList==[108,101,97,118,101])=false:=str_ne hk5
    go_upto_region 44 with fail
    by_cases hk6:KD=Ch.kStall
    ·as_aux_lemma=>
      clear s0' hk0 s1' hk1 s2' hk2 s3' hk3 s4' hk4 s5' hk5;unfold Ch.kStall at hk6;subst hk6;have HWP:h.p.WF:=HT6.out.s.inv.inv.core.safe.wf;go_wp2_with (go_at_call 19;refine (lout_at (HT6.out.pl.ext eX) HWP x gx HKD).mono ?_;rintro r w7 ⟨rfl,hb7,hk7⟩;have HT7:=aA ((HT6.out.ext eX).both hk7 hb7 (Ch.Live.inv2_plant HT6.out.s.inv (Ch.Plant.WF.outside HWP _)));clear hb7 hk7);go_meet;exact ⟨lb,hb,rh,_,{ h with p:=h.p.outside x.act },rfl,rfl,rfl,HSZ.out,(HT7.out.ext eX).more (by omega)⟩
    have s6':(KD.toList==[115,116,97,108,108])=false:=str_ne hk6;clear hk0 hk1 hk2 hk3 hk4 hk5 hk6
    go_upto_region 24 with fail
    go_loopw [20,27] (fun s20 s27 wl=>∃ (kk:Nat) (N:Nat→Prop) (g:Ch.House),kk≤60∧s20 = .bool true∧s27 = .int .i64 (kk:Int)∧wl.cell? ⟨AX,1,none⟩=some (vi x.a)∧Hid (N AX)∧Hid (g.sizes=sizes)∧Hid (Tw w1 N pb mb db lb hb rh rb g g (2+60 * j+kk) wl)) (fun _ s27 _=>60 - (intOf s27).toNat)
    case atStart=>exact ⟨0,N6,h,by omega,rfl,rfl,by first|exact c1|exact eA eX c1,HN6.out,HSZ.out,HT6.out.ext eX⟩
    case round=>
     obtain ⟨kk,N,g,hkk,rfl,rfl,ca,HN,HSG,HTG⟩:=hrel;have cz:=dA ca
     have HNG:Hid (¬ Own0 w1 N AX):=fun hh=>hh.2 HN.out
     have HWG:Hid (g.p.WF):=HTG.out.s.inv.inv.core.safe.wf
     by_cases h1:(kk:Int)<x.a
     ·by_cases h2:(kk:Int)<60
      ·have hk3:2+60 * j+kk+2<4294967296:=by omega
       go_upto_region 28 with (first
        | (go_at_call 20;refine (st_tick (HTG.out.s.ext eX) hk3 HL1.out.tab).mono ?_;rintro r w7 ⟨rfl,hk7,hs7⟩;have HK7:Hid (mA (Own0 w1 N) wr w7):=(mA.of_ext eX:mA (Own0 w1 N) wr _).trans hk7;have HT7:=aA (HTG.out.prog HK7.out hs7);have d1:=gB HK7.out ca HNG.out;have dl:=dA d1;clear hk7 hs7)
        | (go_at_call 21;refine (rticked_now (HT7.out.r.ext eX) HTG.out.s.inv.inv).mono ?_;rintro r w8 ⟨rfl,hk8,hr8⟩;have HK8:Hid (mA (Own2 rh rb) w7 w8):=(mA.of_ext eX:mA (Own2 rh rb) w7 _).trans hk8;obtain ⟨N8,hN8,ht8⟩:∃ N8:Nat→Prop,N8 AX∧Tw w1 N8 pb mb db lb hb rh rb g.tick g.tick (2+60 * j+kk+1) w8:=⟨_,Or.inl HN.out,(HT7.out.ext eX).ref hk8 hr8⟩;have HT8:=aA ht8;have HN8:=aA hN8;have d2:=gB HK8.out d1 HNR.out;have dl2:=dA d2;clear hk8 hr8 ht8 hN8))
       have HWT:Hid (g.tick.p.WF):=HT8.out.s.inv.inv.core.safe.wf;obtain ⟨la',ln',lc',i1,m1,v1,i2,m2,v2,ga,gn,gc,hr⟩:=HT8.out.r;have r5:=hr.at_.cells.2.2.2.2.2;obtain rfl:=hr.go.len;have zr:=dA r5;have HR:=aA hr
       have hqs:=fun w=>eqlSensed w g.tick.p
       clear hr
       go_region_held3 (fun w'=>w'.cell? ⟨rh,5,none⟩=some (.slice ga g.tick.goals.length gc)) (first|((try dsimp only);(repeat' apply And.intro) <;> exact xC (w:=w8)))
        (first
        | (go_at_call 22;(with_reducible refine (sense_any (HT8.out.pl.a.ext eX) HWT.out).mono ?_);rintro e w1 ⟨rfl,o1,n1,rfl⟩)
        | (go_at_call 23;(with_reducible refine (rsense_any (HT8.out.pl.b.ext eX) HWT.out).mono ?_);rintro e w1 ⟨rfl,o1,n1,rfl⟩)
        | (go_at_call 25;refine (st_goalsH (HT8.out.s.ext eX)).mono ?_;rintro r w9 ⟨y3,v3,rfl,t3,⟨o9,n9,rfl⟩⟩;have T3:=aA t3;clear t3)
        | (go_at_call 24;(with_reducible refine (sameGoals_yes _ _ _ _ _ _ g.tick.goals g.tick.goals _ (Sl.below T3.out (Ext.below eX)) (Sl.below HR.out.go (Ext.below eX)) rfl).mono ?_);rintro e w1 ⟨rfl,o1,n1,rfl⟩))
       all_goals
        go_wp2_with fail;go_roundw
        case rel=>first|exact ⟨kk+1,N8,g.tick,by omega,rfl,by go_num,eA eX d2,HN8.out,by unfold Hid;rw [tick_sizesH];exact HSG.out,HT8.out.ext eX⟩|(repeat apply Exists.intro;refine ⟨?_,rfl⟩;exact ⟨kk+1,N8,g.tick,by omega,rfl,by go_num,eA eX d2,HN8.out,by unfold Hid;rw [tick_sizesH];exact HSG.out,HT8.out.ext eX⟩)
        case measure=>simp [intOf];omega
      ·go_wp2_with fail
       go_meet;exact ⟨lb,hb,rh,N,g,rfl,rfl,rfl,HSG.out,(HTG.out.ext eX).more (by omega)⟩
     ·go_wp2_with fail
      go_meet;exact ⟨lb,hb,rh,N,g,rfl,rfl,rfl,HSG.out,(HTG.out.ext eX).more (by omega)⟩
   case rest=>
    obtain ⟨lb,hb,rh,N,h,rfl,rfl,rfl,HSZ,HT⟩:=hcut;have HWP:Hid (h.p.WF):=HT.out.s.inv.inv.core.safe.wf;obtain ⟨la',ln',lc',i1,m1,d1,i2,m2,d2,ga,gn,gc,hr⟩:=HT.out.r;obtain ⟨-,-,r2,r3,r4,r5⟩:=hr.at_.cells;obtain rfl:=hr.st.len;obtain rfl:=hr.jb.len;obtain rfl:=hr.go.len;have HR:=aA hr;have zr:=dA r2;clear hr
    go_upto_region 46 with fail
    go_region_held3 (fun w'=>w'.cell? ⟨rh,2,none⟩=some (vi h.b.last)∧w'.cell? ⟨rh,3,none⟩=some (.slice i1 h.b.stays.length d1)∧w'.cell? ⟨rh,4,none⟩=some (.slice i2 h.b.jobs.length d2)∧w'.cell? ⟨rh,5,none⟩=some (.slice ga h.goals.length gc)) (first|((try dsimp only);(repeat' apply And.intro) <;> exact xC (w:=wc)))
     (first
     | (go_at_call 26;(with_reducible refine (asPlant_any (HT.out.pl.ext eX) HWP.out).mono ?_);rintro e w1 ⟨rfl,o1,n1,rfl⟩)
     | (go_at_call 28;refine (st_book (HT.out.s.ext eX)).mono ?_;rintro r w8 ⟨y1,v1,y2,v2,rfl,t1,t2,⟨o8,n8,rfl⟩,-,-⟩;have T1:=aA t1;have T2:=aA t2;clear t1 t2)
     | (go_at_call 27;(with_reducible refine (sameBook_yes _ _ _ _ _ _ _ _ _ _ _ h.b.stays h.b.jobs _ (Sl.below T1.out (Ext.below eX)) (Sl.below T2.out (Ext.below eX)) (Sl.below HR.out.st (Ext.below eX)) (Sl.below HR.out.jb (Ext.below eX))).mono ?_);rintro e w1 ⟨rfl,o1,n1,rfl⟩)
     | (go_at_call 25;refine (st_goalsH (HT.out.s.ext eX)).mono ?_;rintro r w9 ⟨y3,v3,rfl,t3,⟨o9,n9,rfl⟩⟩;have T3:=aA t3;clear t3)
     | (go_at_call 24;(with_reducible refine (sameGoals_yes _ _ _ _ _ _ h.goals h.goals _ (Sl.below T3.out (Ext.below eX)) (Sl.below HR.out.go (Ext.below eX)) rfl).mono ?_);rintro e w1 ⟨rfl,o1,n1,rfl⟩))
    all_goals
     go_wp2_with fail;go_roundw
     case rel=>first|exact ⟨j+1,lb,hb,rh,N,h,by omega,rfl,rfl,by go_num,HSZ.out,HT.out.ext eX⟩|(repeat apply Exists.intro;refine ⟨?_,rfl⟩;exact ⟨j+1,lb,hb,rh,N,h,by omega,rfl,rfl,by go_num,HSZ.out,HT.out.ext eX⟩)
     case measure=>simp [intOf];omega
  ·have hnlt:¬ (j:Int)<(n:Int):=by omega
   go_wp2_with fail;go_ret;exact ⟨rfl,HX1.out.trans (HT.out.s.x.trans eX)⟩
end Go.Proofs.YtplomeacjbkgnabGreatDoor
namespace Go.Proofs.YtplomeacjbkgnabGreatDoor
open Go.ChangeShapes Go.WideShapes Go.ChangeAt Go.RowKit
theorem houseSays_libs {W:World} (hL:laidMetH Tryz.prog Rows.houseSaysRow.laid W) (hs:W.ShapedOpen Tryz.prog):Libs W:=by
 rw [Go.MakeChecks.laidMetH_plain _ _ _ kR] at hL;exact libs_of hL hs rfl rfl (by decide) rfl (by decide) kR kR kR
theorem houseSays_lifted (os:Os) (started:os.Started) (H:Type) (enc:TypeId×Value→H):
  ReturnsInHanded {} Tryz.checked os 3 .any (fun w args=>(Rows.houseSaysSpec.pre enc Tryz.prog Tryz.f3 [] false w args∧laidMetH Tryz.prog Rows.houseSaysRow.laid w)∧sizedMet enc Tryz.prog Tryz.f3 (OpenSpec.ofChange Rows.houseSaysSpec) false w args)
   (Rows.houseSaysSpec.post enc Tryz.prog Tryz.f3 false true false false):=by
 refine handed_laid_shaped (C:=Tryz.checked) (X:=fun w _=>laidMetH Tryz.prog Rows.houseSaysRow.laid w) (fun _ _ _ hh h=>h.of_heap hh) own started kR Tryz.func3
  (ChangeSpec.witness_shaped (enc:=enc) (C:=Tryz.checked) (os:=os) (X:=fun w _=>laidMetH Tryz.prog Rows.houseSaysRow.laid w) false (World.laidAll Tryz.prog os Rows.houseSaysRow.laid) #[.slice none 0 0,.slice none 0 0] 8 (World.laidAll_os _ _ _)
   (World.shaped_of_ZipB kR kR) kR kR kR
   (by rw [Go.MakeChecks.laidMetH_plain _ _ _ kR];exact laidMet_laidAll _ kR kR)) ?_
 intro W base args ds gs before hval0 hW _ hL hsh
 have hval:∀ (j:Nat) t v,Tryz.f3.params[j]? = some t→args[j]? = some v→Value.okWide Tryz.prog W .any base t v:=hval0
 refine law_contract (tb:=4) laidOut Tryz.underlying4 kR rfl (fun ds hd=>?_) kR hW ?_
 ·match ds,hd with
  | [_,_],_=>rfl
 obtain ⟨p,q,hA0,hV,rfl,hfz,hnd⟩:=hW;have hA:DataW.TrodAll enc Tryz.prog W 0 (fun _=>true) true Tryz.f3.params.toList args.toList ds p:=hA0;rw [Tryz.params3] at hA hval;obtain ⟨v0,vs0,d0,ds0,p0,q0,hargs,rfl,rfl,h0,r0⟩:=trodAll_cons hA;obtain ⟨v1,vs1,d1,ds1,p1,q1,rfl,rfl,rfl,h1,r1⟩:=trodAll_cons r0;obtain ⟨rfl,rfl,rfl⟩:=trodAll_nil r1
 obtain rfl:args=#[v0,v1]:=by cases args;simp_all
 obtain ⟨a0,n0,c0,rfl⟩:=okWide_slice Tryz.underlying22 (hval 0 _ v0 rfl rfl);obtain ⟨x0,_,_,_,e0,s0,g0⟩:=rd_list (c:=3) lB I64S (by decide) (fun _=>rfl) Tryz.underlying22 kR (fun ecs h=>rd_size h) (rd_of_trod h0);simp only [Value.cells,List.cons.injEq,Value.slice.injEq,and_true] at e0;obtain ⟨rfl,rfl,rfl⟩:=e0;obtain ⟨a1,n1,c1,rfl⟩:=okWide_slice Tryz.underlying23 (hval 1 _ v1 rfl rfl);obtain ⟨x1,_,_,_,e1,s1,g1⟩:=rd_list (c:=12) ractCells (RAct.Whole W) (by decide) (fun _=>rfl) Tryz.underlying23 kR (fun ecs h=>rd_actB h) (rd_of_trod h1);simp only [Value.cells,List.cons.injEq,Value.slice.injEq,and_true] at e1;obtain ⟨rfl,rfl,rfl⟩:=e1;exact houseSays_walk s0 s1 (wholes_good g1) (houseSays_libs hL hsh)
theorem houseSays_holds:Rows.HouseSaysSaid:=
 OpenClaim.holds_of_wide 3 Tryz.f3 rfl rfl rfl rfl rfl rfl rfl ⟨rfl,rfl,rfl,rfl,rfl⟩ rfl rfl rfl rfl rfl kR Tryz.func3 kR
  (of_decide_eq_true kR) (by unfold Func.isWrapper;first|(rw [if_pos (by decide +kernel)];kernel_rfl)|(rw [if_neg (by decide +kernel)];exact ⟨rfl,rfl⟩))
  (fun os started H enc _=>houseSays_lifted os started H enc)
theorem houseSays_proved:Rows.HouseSaysCardSaid:=
 Claim7.holds_tied_plain_at .later [] [.data,.data,.data,.data,.sentinel,.sentinel,.pinned] true Rows.houseSaysCard.stood.harness true
  houseSays_holds (fun _ h=>by cases h) kR (fun _ h=>by cases h) houseSays_row_tie rfl ⟨rfl,rfl⟩ kR rfl
  (fun f fn hf hfn=>by
   obtain rfl:f=3:=Option.some.inj ((show Tryz.prog.funcNamed Tryz.f3.name=some 3 by kernel_rfl).symm.trans hf) |>.symm
   obtain rfl:fn=Tryz.f3:=(Option.some.inj (Tryz.func3.symm.trans hfn)).symm
   have hall:(Tryz.f3.params.toList.all fun u=>!Tryz.prog.wantsStandIn u)=true:=by kernel_rfl
   exact ⟨by kernel_rfl,fun j t ht=>by
    have hm:t∈Tryz.f3.params.toList:=Array.mem_toList_iff.2 (Array.mem_of_getElem? ht)
    exact (show Tryz.prog.wantsStandIn t=false by simpa using List.all_eq_true.1 hall t hm)⟩)
  kR
#print axioms houseSays_proved
