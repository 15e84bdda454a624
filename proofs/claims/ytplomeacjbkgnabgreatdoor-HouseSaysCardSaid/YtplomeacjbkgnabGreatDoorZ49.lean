import Derived.Test.YtplomeacjbkgnabGreatDoorZ48
import Derived.Test.YtplomeacjbkgnabGreatDoorZ42
set_option linter.all false
set_option maxRecDepth 100000
set_option maxHeartbeats 16000000
namespace Go.Proofs.YtplomeacjbkgnabGreatDoor
open Go.RowKit
theorem housed_now {la:Option Addr} {ln lc:Nat} {sizes:List Ch.Size} {w:World} (hl:Sl w 3 lB sizes la ln lc) (hf:Ch.levelsFault sizes=0) (L:Libs w):
  Calls Tryz.prog 13 #[.slice la ln lc] w fun e w'=>∃ pb mb db lb hb,e = .returned (.tuple #[.pointer (some ⟨pb,0,none⟩),.pointer (some ⟨db,0,none⟩),.pointer (some ⟨hb,0,none⟩),.bool true])∧St w (fun _=>False) pb mb db lb hb (Ch.House.new sizes) 2 w':=by
 have hlen:=hl.len;subst hlen;have hlv:=Ch.levels_len hf
 have l1:(1:Int)≤(sizes.length:Int):=by omega
 have l4:(sizes.length:Int)≤4:=by omega
 have HF:=aA hl;have HLF:=aA hf;have HL:=aA L;clear hl hf L hlv;go_enter Tryz.func13,Tryz.ntmps13
 go_wp2_with (first
  | (go_at_call 8;refine (new_any (sizes.length:Int) _ l1 l4).mono ?_;rintro e w1 ⟨pb,mb,rfl,hp,hx,b1,b2⟩;have HX1:Hid (Ext w w1):=hx;have HP1:=aA hp;clear hp hx)
  | (go_at_call 9;refine (new_dz 22 _ (by decide) (by decide)).mono ?_;rintro e w2 ⟨db,rfl,hd,hx⟩;have HX2:Hid (Ext w1 w2):=hx;have HD2:=aA hd;clear hd hx)
  | (go_at_call 10;refine (format_now (fun k hk=>Nat.le_trans HX2.out.below.size hk) HD2.out (Ch.calm_new 22) rfl (Nat.le_refl _) (sizes.length:Int) (HL.out.tab.ext (HX1.out.trans HX2.out))).mono ?_;rintro e w3 ⟨rfl,hk,d,hp,hd3⟩;have HX3:Hid (Ext w1 w3):=Ext.of_below (xD HX2.out.below (Nat.le_refl _) hk (fun _ h=>h));have HPP:=aA hp;have HD3:=aA hd3.narrow;clear hk hp hd3)
  | (go_at_call 11;refine (new_now (Sl.below HF.out (HX1.out.trans HX3.out).below) HLF.out (HP1.out.ext HX3.out) HD3.out (fun k hk=>hk.2) (fun hh=>by have:=HP1.out.lt.1;omega) (fun hh=>by have:=HP1.out.lt.2;omega) HPP.out (Nat.le_refl _) (HL.out.ext (HX1.out.trans HX3.out))).mono ?_;rintro e w4 ⟨hb,lb,rfl,hx,hh⟩;have HX4:Hid (Ext w3 w4):=hx;have HH:=aA hh;clear hx hh))
 refine bodyPost_ret (v:=.tuple #[.pointer (some ⟨pb,0,none⟩),.pointer (some ⟨db,0,none⟩),.pointer (some ⟨hb,0,none⟩),.bool true]) (by simp [results,Tryz.results13,go_sem]) rfl ?_;obtain ⟨Y,a1,a2,a3,b1',b2',b3',hs,hz⟩:=HH.out;have z1:=HX1.out.below.size;have z3:=HX3.out.below.size;refine ⟨pb,mb,db,lb,hb,rfl,⟨⟨sizes,Ch.Plant.new (sizes.length:Int),⟨0,[],[]⟩,[]⟩,2,d⟩,rfl,⟨Ch.Live.House.Inv2.new HLF.out,HPP.out.calm,HPP.out.holds⟩,HPP.out.fuse,Nat.le_refl _,HX1.out.trans (HX3.out.trans HX4.out),⟨Y,a1,a2,a3,b1',b2',b3',hs.zed (fun k _ hk=>⟨by omega,fun h=>h⟩),fun k hk=>⟨?_,fun h=>h⟩⟩,fun i h=>h.elim⟩
 rcases hz k hk with hk|rfl|rfl|hk
 ·omega
 ·exact b1
 ·exact b2
 ·omega
end Go.Proofs.YtplomeacjbkgnabGreatDoor
namespace Ch.Live
def w0:House:=House.new [⟨99,99,99⟩]
def w1:House:={ w0 with p:=(w0.p.arrive 7).1 }
def w2:House:=(w1.park ⟨7,⟨1,1,1⟩⟩).1
theorem w0_ok:levelsFault [⟨99,99,99⟩]=0:=by decide
theorem w2_ok:(w1.park ⟨7,⟨1,1,1⟩⟩).2=(1,0):=by decide
theorem w3_ok:(House.ticks 40 w2).p.slots ⟨1,0,1⟩=7:=by decide +kernel
theorem w3_jobs:(House.ticks 40 w2).b.jobs.length=0:=by decide +kernel
theorem w3_hurt:(House.ticks 40 w2).p.hurt=false:=by decide +kernel
theorem inv2_plant {h:House} (hi:House.Inv2 h) {p:Plant} (hp:p.WF):House.Inv2 { h with p:=p }:=⟨hi.inv.plant hp⟩
theorem inv2_arrive {h:House} (hi:House.Inv2 h) (n:Int):House.Inv2 { h with p:=(h.p.arrive n).1 }:=inv2_plant hi (hi.inv.core.safe.wf.arrive n)
theorem ticks_add:∀ (n m:Nat) (h:House),House.ticks (n+m) h=House.ticks m (House.ticks n h)
 | 0,m,h=>by rw [Nat.zero_add];rfl
 | n+1,m,h=>by rw [Nat.add_right_comm];exact ticks_add n m h.tick
end Ch.Live
namespace Go.Proofs.YtplomeacjbkgnabGreatDoor
open Go.RowKit
theorem same_nil (w:World):Calls Tryz.prog 12 #[.nilIface,vi 0] w fun e w'=>e = .returned (.bool true)∧Ext w w':=same_yes 0 w (by decide)
abbrev NoN:Nat→Prop:=fun _=>False
theorem arr_val {w0:World} {N:Nat→Prop} {pb mb db lb hb:Nat} {h:Ch.House} {k:Nat} {w:World} (s:St w0 N pb mb db lb hb h k w) (n:Int):
  Calls Tryz.prog 34 #[.pointer (some ⟨pb,0,none⟩),vi n] w fun e w'=>e = .returned (kB (h.p.arrive n).2)∧St w0 N pb mb db lb hb { h with p:=(h.p.arrive n).1 } k w'∧mA (Own0 w0 N) w w':=by
 refine (arrive_any s.plantAt s.wf n).mono ?_;rintro e w' ⟨rfl,hp,hk⟩;obtain ⟨q1,q2⟩:=s.plant hk hp (Ch.Live.inv2_arrive s.inv n);exact ⟨rfl,q1,q2⟩
theorem drives_any (w:World) (L:Libs w):Calls Tryz.prog 5 #[] w fun e w'=>e = .returned (.bool true)∧Ext w w':=by
 have HL:=aA L;have e1:kB (Ch.House.new [⟨99,99,99⟩] |>.p.arrive 7).2 = .nilIface:=rfl;have E1:=aA e1
 have P1:Hid ((Ch.Live.w1.park ⟨7,⟨1,1,1⟩⟩).2.1=1):=by unfold Hid;rw [Ch.Live.w2_ok]
 have P2:Hid (kB (Ch.Live.w1.park ⟨7,⟨1,1,1⟩⟩).2.2 = .nilIface):=by unfold Hid;rw [Ch.Live.w2_ok];rfl
 have HA:Hid ((Ch.House.ticks 40 Ch.Live.w2).p.slots ⟨1,0,1⟩=7):=Ch.Live.w3_ok;clear L e1;go_enter Tryz.func5,Tryz.ntmps5
 go_upto_region 6 with (first
  | (go_at_call 33;refine (one_any _).mono ?_;rintro e w1 ⟨b,rfl,hs,hx⟩;have HX1:Hid (Ext w w1):=Ext.trans eX hx;have HO:=aA hs;clear hs hx)
  | (go_at_call 13;refine (housed_now HO.out Ch.Live.w0_ok (HL.out.ext HX1.out)).mono ?_;rintro e w2 ⟨pb,mb,db,lb,hb,rfl,hs⟩;have HS2:=aA hs;clear hs)
  | (go_at_call 34;refine (arr_val HS2.out 7).mono ?_;rintro e w3 ⟨rfl,hs,-⟩;have HS3:Hid (St w1 NoN pb mb db lb hb Ch.Live.w1 2 w3):=hs;rw [E1.out];clear hs)
  | (go_at_call 15;refine (st_park (HS3.out.ext eX) (by decide) (HL.out.tab.ext HX1.out) _ _ _ _).mono ?_;rintro e w4 ⟨rfl,-,hs⟩;have HS4:Hid (St w1 NoN pb mb db lb hb Ch.Live.w2 3 w4):=hs;rw [P1.out,P2.out];clear hs))
 go_loopw [7] (fun i2 wr=>∃ j:Nat,i2 = .int .i64 (j:Int)∧Hid (j≤40)∧Hid (St w1 NoN pb mb db lb hb (Ch.House.ticks j Ch.Live.w2) (3+j) wr)) (fun i2 _=>40 - (intOf i2).toNat)
 case atStart=>exact ⟨0,rfl,by unfold Hid;decide,HS4.out.ext eX⟩
 case round=>
  obtain ⟨j,rfl,HJ,HSR⟩:=hrel;have hj:=HJ.out
  by_cases hlt:j<40
  ·have h2:(j:Int)<40:=by omega
   have hk2:3+j+2<4294967296:=by omega
   go_wp2_with (go_at_call 20;refine (st_tick (HSR.out.ext eX) hk2 (HL.out.tab.ext HX1.out)).mono ?_;rintro r w5 ⟨rfl,-,hs⟩;have HS5:=aA hs;clear hs);go_roundw
   case rel=>exact ⟨j+1,by go_num,by unfold Hid;omega,by unfold Hid;rw [Ch.Live.ticks_add j 1];exact HS5.out.ext eX⟩
   case measure=>simp [intOf];omega
  ·obtain rfl:j=40:=by omega
   have hjb:=Ch.Live.w3_jobs;have hhu:=Ch.Live.w3_hurt
   obtain ⟨⟨hs,p,⟨last,bs,js⟩,gs⟩,HH⟩:∃ x,Hid (Ch.House.ticks 40 Ch.Live.w2=x):=⟨_,rfl⟩
   rw [HH.out] at HSR hjb hhu;have HA2:=HA.out;rw [HH.out] at HA2;dsimp only at hjb hhu HA2;have HA3:=aA HA2;clear HA2 HA
   go_wp2_with (first
    | (go_at_call 28;refine (st_book (HSR.out.ext eX)).mono ?_;rintro r w8 ⟨y3,d3,y4,d4,rfl,t1,t2,⟨o8,n8,rfl⟩,-,-⟩;dsimp only;clear t1 t2)
    | (go_at_call 12;(with_reducible refine (same_nil _).mono ?_);rintro e w1 ⟨rfl,o1,n1,rfl⟩)
    | (go_at_call 35;(with_reducible refine (nD (HSR.out.plantAt.ext eX) _ _ _ 7 HA3).mono ?_);rintro e w1 ⟨rfl,o1,n1,rfl⟩)
    | (go_at_call 36;(with_reducible refine (hurt_any (HSR.out.plantAt.ext eX)).mono ?_);rintro e w1 ⟨rfl,o1,n1,rfl⟩))
   go_ret;exact ⟨rfl,HX1.out.trans (HSR.out.x.trans eX)⟩
theorem rnext_jfB {w:World} {hb rb:Nat} {la:Option Addr} {ln lc:Nat} {last:Int} {a1:Option Addr} {m1 c1:Nat} {a2:Option Addr} {m2 c2:Nat} {gv:Value} {l:List Ch.Stay} {js:List Ch.Job} {p:Ch.Plant} (hh:cH w hb rb (.slice la ln lc) last a1 m1 c1 a2 m2 c2 gv l js p)
  (hwf:p.WF) (hj:Hid (∀ j∈js,∃ s∈l,s.ticket=j.ticket)) (h0:Hid (∀ s∈l,s.ticket≠0)) (hpl:Hid (∀ s∈l,Ch.placeFault s.home (ln:Int)=0)) (l1:1≤ln) (l4:ln≤4) (hlc:ln≤lc) (hlm:lc≤maxLen) (hm1:m1≤100) (hm2:m2≤100)
  (jt li ba:Int) (jf is dd:Bool) (hba:Hid (p.bay=ba)) (hli:Hid (p.lift=li)) (hdd:Hid (p.door=dd)) (HFJ:Hid (qB (Ch.firstJob ⟨last,l,js⟩ ba)=(jt,jf,is))) (hl:li=0) (c:Int) (HC:Hid (p.slots ⟨(ln:Int),1,0⟩=c)) (hgo:Hid (c=0∨∃ xt xi x1 x2 x3 u1 u2 u3,(⟨last,l,js⟩:Ch.Book).of c=some ⟨xt,⟨xi,⟨x1,x2,x3⟩⟩,⟨u1,u2,u3⟩⟩∧Ch.blocks ⟨last,l,js⟩ p ⟨xt,⟨xi,⟨x1,x2,x3⟩⟩,⟨u1,u2,u3⟩⟩ ⟨jt,jf⟩=true)) (hi:is=true) (hjf:jf=true) (hno:Hid (¬ (p.bay=((⟨last,l,js⟩:Ch.Book).stay jt).car.id∨p.has ((⟨last,l,js⟩:Ch.Book).stay jt).car.id=false))) (hB:¬ ba=0∨dd=true):
  Calls Tryz.prog 68 #[.pointer (some ⟨hb,0,none⟩)] w (rF w (Ch.turnOf ⟨last,l,js⟩ (ln:Int) p).1 (Ch.turnOf ⟨last,l,js⟩ (ln:Int) p).2):=by
 subst hl;subst hi;subst hjf;have b1:=hh.st.bound;have b2:=hh.jb.bound;have HH:=aA hh;have hlt0:=dA hh.cells.1;unfold maxLen at hlm;have e0':=hh.cells.1;have e1':=hh.cells.2.1
 have L1:(1:Int)≤(ln:Int):=by omega
 have L4:(ln:Int)≤4:=by omega
 clear hh;go_enter Tryz.func68,Tryz.ntmps68
 go_upto_region 2 with fail
 generalize hW:World.alloc _ _=w0;have hx0:Ext w w0:=xQ hW;have r0:w0.cell? ⟨w.heap.size,0,none⟩=some (vi 0):=cQ hW;have r1:w0.cell? ⟨w.heap.size,1,none⟩=some (.slice none 0 0):=cQ hW;have r2:w0.cell? ⟨w.heap.size,2,none⟩=some (.slice none 0 0):=cQ hW
 have fz:∀ i,w0.frozen? ⟨w.heap.size,i,none⟩=false:=by intro i;rw [←hW];simp [go_sem]
 have FZ:=aA fz;have k0:=eA hx0 e0';have k1:=eA hx0 e1';have HX0:=aA hx0;clear hW hx0 fz e0' e1' hlt0
 go_upto_region 3 with (go_at_call 124;(with_reducible refine (lD _ _).mono ?_);rintro e w1 ⟨rfl,o1,n1,rfl⟩)
 generalize hW:World.alloc _ _=w1;generalize hA:w0.heap.size+_=SP;have hx1:Ext w0 w1:=xQ hW;have s0:w1.cell? ⟨SP,0,none⟩=some (vi (ln:Int)):=cR hW hA;have s1:w1.cell? ⟨SP,1,none⟩=some (vi 1):=cR hW hA;have s2:w1.cell? ⟨SP,2,none⟩=some (vi 0):=cR hW hA;have HX1:=aA (HX0.out.trans hx1);have m0:=eA hx1 k0;have m1':=eA hx1 k1;have v0:=eA hx1 r0;have v1:=eA hx1 r1;have v2:=eA hx1 r2
 have fz1:∀ i,w1.frozen? ⟨w.heap.size,i,none⟩=false:=fun i=>kA hx1 (dA r0) (FZ.out i)
 have FZ1:=aA fz1;clear hW hA hx1 k0 k1 r0 r1 r2 FZ fz1 HX0
 go_upto_region 4 with (go_at_call 125;(with_reducible refine (mC jt true true (HH.out.ext (HX1.out.trans eX)) hj h0 ba hba HFJ).mono ?_);rintro e w1 ⟨rfl,o1,n1,rfl⟩)
 generalize hW:World.alloc _ _=w2;generalize hA:w1.heap.size+_=JB;have hx2:Ext w1 w2:=xQ hW;have j0:w2.cell? ⟨JB,0,none⟩=some (vi jt):=cR hW hA;have j1:w2.cell? ⟨JB,1,none⟩=some (.bool true):=cR hW hA;have HX2:=aA (HX1.out.trans hx2);have t0:=eA hx2 s0;have t1:=eA hx2 s1;have t2:=eA hx2 s2;have q0:=eA hx2 v0;have q1:=eA hx2 v1;have q2:=eA hx2 v2
 have fz2:∀ i,w2.frozen? ⟨w.heap.size,i,none⟩=false:=fun i=>kA hx2 (dA v0) (FZ1.out i)
 have FZ2:=aA fz2;have H2:=aA (HH.out.ext HX2.out);have g1:=H2.out.cells.2.1;have g2:=H2.out.cells.2.2.1;have g3:=H2.out.cells.2.2.2.1;have g4:=H2.out.cells.2.2.2.2.1;have pd:=H2.out.pl.cells.2.2.2.1;have pl:=H2.out.pl.cells.2.2.2.2.2.1;have pb:=H2.out.pl.cells.2.2.2.2.2.2.1;rw [hdd.out] at pd;rw [hli.out] at pl;rw [hba.out] at pb;have z1:=dA q0;have z2:=dA t0;have z3:=dA j0;have z4:=dA g1;have z5:=dA pl;have hRw:w.heap.size≤w.heap.size:=Nat.le_refl _;clear hW hA hx2 m0 m1' v0 v1 v2 s0 s1 s2 FZ1 fz2 HX1 HH;have HJX:Hid (∃ s∈l,s.ticket=jt):=vF hj HFJ.out rfl
 have HJ1:Hid (jt≠0):=by unfold Hid;obtain ⟨s,hs,e⟩:=HJX.out;rw [←e];exact h0.out s hs
 go_upto_region 17 with fail
 have hxs:Ext w2 w2:=Ext.refl _;replace q0:=eA hxs q0;replace q1:=eA hxs q1;replace q2:=eA hxs q2;replace t0:=eA hxs t0;replace t1:=eA hxs t1;replace t2:=eA hxs t2;replace j0:=eA hxs j0;replace j1:=eA hxs j1;replace g1:=eA hxs g1;replace pd:=eA hxs pd;replace pl:=eA hxs pl;replace pb:=eA hxs pb;replace g2:=eA hxs g2;replace g3:=eA hxs g3;replace g4:=eA hxs g4
 have FQ:Hid (∀ i,w2.frozen? ⟨w.heap.size,i,none⟩=false):=fun i=>kA hxs z1 (FZ2.out i)
 have HXB:=aA (HX2.out.trans hxs);have HB:=aA (H2.out.ext hxs);clear hxs z1 z2 z3 z4 z5 FZ2 HX2 H2;have z1:=dA q0;have z2:=dA t0;have z3:=dA j0;have z4:=dA g1;have z5:=dA pl
 go_upto_if 112 with (go_at_call 74;(with_reducible refine (jC (HB.out.pl.ext eX) hwf _ _ _ c HC).mono ?_);rintro e w1 ⟨rfl,o1,n1,rfl⟩)
 generalize hWq:World.plus _ _ _=wq;have hxq:Ext w2 wq:=xQ hWq;clear hWq;replace q0:=eA hxq q0;replace q1:=eA hxq q1;replace q2:=eA hxq q2;replace t0:=eA hxq t0;replace t1:=eA hxq t1;replace t2:=eA hxq t2;replace j0:=eA hxq j0;replace j1:=eA hxq j1;replace g1:=eA hxq g1;replace pd:=eA hxq pd;replace pl:=eA hxq pl;replace pb:=eA hxq pb;replace g2:=eA hxq g2;replace g3:=eA hxq g3;replace g4:=eA hxq g4
 replace FQ:Hid (∀ i,wq.frozen? ⟨w.heap.size,i,none⟩=false):=fun i=>kA hxq z1 (FQ.out i)
 replace HXB:=aA (HXB.out.trans hxq);replace HB:=aA (HB.out.ext hxq);clear hxq z1 z2 z3 z4 z5;have z1:=dA q0;have z2:=dA t0;have z3:=dA j0;have z4:=dA g1;have z5:=dA pl
 go_cut [] (fun wx=>Ext wq wx)
 case first=>
  rcases hgo.out with hc0|⟨xt,xi,x1,x2,x3,u1,u2,u3,ho,hbv⟩
  ·subst hc0
   go_wp2_with fail;go_meet;exact Ext.refl _
  ·have HO:=aA ho
   have HBV:=aA hbv;clear ho hbv
   by_cases hc:c=0
   ·subst hc
    go_wp2_with fail;go_meet;exact Ext.refl _
   ·go_upto_region 18 with fail
    go_region_held3 (fun w'=>w'.cell? ⟨hb,2,none⟩=some (vi last)∧w'.cell? ⟨hb,3,none⟩=some (.slice a1 m1 c1)∧w'.cell? ⟨hb,4,none⟩=some (.slice a2 m2 c2)∧w'.cell? ⟨SP,0,none⟩=some (vi (ln:Int))∧w'.cell? ⟨SP,1,none⟩=some (vi 1)∧w'.cell? ⟨SP,2,none⟩=some (vi 0)) (first|((try dsimp only);(repeat' apply And.intro) <;> exact xC (w:=wq))) (first|(go_at_call 74;(with_reducible refine (jC (HB.out.pl.ext eX) hwf _ _ _ c HC).mono ?_);rintro e w1 ⟨rfl,o1,n1,rfl⟩)|(go_at_call 100;(with_reducible refine (bD xt xi x1 x2 x3 u1 u2 u3 _ _ _ _ _ _ _ _ l js _ (Sl.below HB.out.st (Ext.below eX)) h0 HO).mono ?_);rintro e w1 ⟨rfl,o1,n1,rfl⟩))
    ·generalize hW:World.alloc _ _=w5
     generalize hA:wq.heap.size+_=A5;have hx5:Ext wq w5:=xQ hW;have xx0:w5.cell? ⟨A5,0,none⟩=some (vi xt):=cR hW hA;have xx1:w5.cell? ⟨A5,1,none⟩=some (vi xi):=cR hW hA;have xx2:w5.cell? ⟨A5,2,none⟩=some (vi x1):=cR hW hA;have xx3:w5.cell? ⟨A5,3,none⟩=some (vi x2):=cR hW hA;have xx4:w5.cell? ⟨A5,4,none⟩=some (vi x3):=cR hW hA;have xx5:w5.cell? ⟨A5,5,none⟩=some (vi u1):=cR hW hA;have xx6:w5.cell? ⟨A5,6,none⟩=some (vi u2):=cR hW hA;have xx7:w5.cell? ⟨A5,7,none⟩=some (vi u3):=cR hW hA;clear hW hA;have y0:=eA hx5 j0;have y1:=eA hx5 j1;have yl:=dA y0;have xl:=dA xx0;go_wp2_with (go_at_call 128;(with_reducible refine (iC true xt xi x1 x2 x3 u1 u2 u3 jt true (HB.out.ext (hx5.trans eX)) hwf HJX HJ1 HBV).mono ?_);rintro e w1 ⟨rfl,o1,n1,rfl⟩);go_meet;exact hx5.trans eX
    ·generalize hW:World.setCell _ _ _=w5
     obtain ⟨xx0,xx1,xx2,xx3,xx4,xx5,xx6,xx7,hx5⟩:=cG (w:=wq) hW eX (by first|exact Nat.le_refl _|(simp;done)|(simp;omega)) (by rw [bB _ _ _ _ (by simp)];exact sA _ _ _ (by first|rfl|simp)) rfl;clear hW;have y0:=eA hx5 j0;have y1:=eA hx5 j1;have yl:=dA y0;have xl:=dA xx0;go_wp2_with (go_at_call 128;(with_reducible refine (iC true xt xi x1 x2 x3 u1 u2 u3 jt true (HB.out.ext (hx5.trans eX)) hwf HJX HJ1 HBV).mono ?_);rintro e w1 ⟨rfl,o1,n1,rfl⟩);go_meet;exact hx5.trans eX
    ·generalize hW:World.setCell _ _ _=w5
     obtain ⟨xx0,xx1,xx2,xx3,xx4,xx5,xx6,xx7,hx5⟩:=cG (w:=wq) hW eX (by first|exact Nat.le_refl _|(simp;done)|(simp;omega)) (by rw [bB _ _ _ _ (by simp)];exact sA _ _ _ (by first|rfl|simp)) rfl;clear hW;have y0:=eA hx5 j0;have y1:=eA hx5 j1;have yl:=dA y0;have xl:=dA xx0;go_wp2_with (go_at_call 128;(with_reducible refine (iC true xt xi x1 x2 x3 u1 u2 u3 jt true (HB.out.ext (hx5.trans eX)) hwf HJX HJ1 HBV).mono ?_);rintro e w1 ⟨rfl,o1,n1,rfl⟩);go_meet;exact hx5.trans eX
 case rest=>
  replace q0:=eA hcut q0;replace q1:=eA hcut q1;replace q2:=eA hcut q2;replace t0:=eA hcut t0;replace t1:=eA hcut t1;replace t2:=eA hcut t2;replace j0:=eA hcut j0;replace j1:=eA hcut j1;replace g1:=eA hcut g1;replace pd:=eA hcut pd;replace pl:=eA hcut pl;replace pb:=eA hcut pb;replace g2:=eA hcut g2;replace g3:=eA hcut g3;replace g4:=eA hcut g4
  replace FQ:Hid (∀ i,wc.frozen? ⟨w.heap.size,i,none⟩=false):=fun i=>kA hcut z1 (FQ.out i)
  replace HXB:=aA (HXB.out.trans hcut);replace HB:=aA (HB.out.ext hcut);clear hcut z1 z2 z3 z4 z5;have z1:=dA q0;have z2:=dA t0;have z3:=dA j0;have z4:=dA g1;have z5:=dA pl
  obtain ⟨⟨xt,⟨xi,⟨x1,x2,x3⟩⟩,⟨u1,u2,u3⟩⟩,HST⟩:∃ x,Hid ((⟨last,l,js⟩:Ch.Book).stay jt=x):=⟨_,rfl⟩
  obtain ⟨hv,HHV⟩:∃ x,Hid (p.has xi=x):=⟨_,rfl⟩
  obtain ⟨sv,HSV⟩:∃ x,Hid (p.slots ⟨u1,u2,u3⟩=x):=⟨_,rfl⟩
  have HT:Hid (Ch.turnOf ⟨last,l,js⟩ (ln:Int) p=Ch.jobOf ⟨last,l,js⟩ p ⟨jt,true⟩):=rturn_job hli.out hba.out HC.out HFJ.out hgo.out
  go_upto_region 28 with fail
  go_cut [16,17] (fun s16 s17 wx=>∃ A5:Nat,s16 = .pointer (some ⟨A5,0,none⟩)∧s17 = .bool true∧Ext wc wx  ∧ wx.cell? ⟨A5,0,none⟩=some (vi xt)∧wx.cell? ⟨A5,1,none⟩=some (vi xi)∧wx.cell? ⟨A5,2,none⟩=some (vi x1)∧wx.cell? ⟨A5,3,none⟩=some (vi x2)∧wx.cell? ⟨A5,4,none⟩=some (vi x3)∧wx.cell? ⟨A5,5,none⟩=some (vi u1)∧wx.cell? ⟨A5,6,none⟩=some (vi u2)∧wx.cell? ⟨A5,7,none⟩=some (vi u3))
  case first=>
   go_region_held3 (fun w'=>w'.cell? ⟨hb,2,none⟩=some (vi last)∧w'.cell? ⟨hb,3,none⟩=some (.slice a1 m1 c1)∧w'.cell? ⟨hb,4,none⟩=some (.slice a2 m2 c2)∧w'.cell? ⟨JB,0,none⟩=some (vi jt)) (first|((try dsimp only);(repeat' apply And.intro) <;> exact xC (w:=wc))) (first|(go_at_call 100;(with_reducible refine (gI xt xi x1 x2 x3 u1 u2 u3 _ _ _ _ _ _ _ _ l js _ (Sl.below HB.out.st (Ext.below eX)) HJ1 HJX HST).mono ?_);rintro e w1 ⟨rfl,o1,n1,rfl⟩))
   ·generalize hW:World.alloc _ _=w5
    generalize hA:wc.heap.size+_=A5;have hx5:Ext wc w5:=xQ hW;have xx0:w5.cell? ⟨A5,0,none⟩=some (vi xt):=cR hW hA;have xx1:w5.cell? ⟨A5,1,none⟩=some (vi xi):=cR hW hA;have xx2:w5.cell? ⟨A5,2,none⟩=some (vi x1):=cR hW hA;have xx3:w5.cell? ⟨A5,3,none⟩=some (vi x2):=cR hW hA;have xx4:w5.cell? ⟨A5,4,none⟩=some (vi x3):=cR hW hA;have xx5:w5.cell? ⟨A5,5,none⟩=some (vi u1):=cR hW hA;have xx6:w5.cell? ⟨A5,6,none⟩=some (vi u2):=cR hW hA;have xx7:w5.cell? ⟨A5,7,none⟩=some (vi u3):=cR hW hA;clear hW hA;go_wp2_with fail;go_meet;exact ⟨A5,rfl,rfl,hx5,xx0,xx1,xx2,xx3,xx4,xx5,xx6,xx7⟩
   ·generalize hW:World.setCell _ _ _=w5
    obtain ⟨xx0,xx1,xx2,xx3,xx4,xx5,xx6,xx7,hx5⟩:=cG (w:=wc) hW eX (by first|exact Nat.le_refl _|(simp;done)|(simp;omega)) (by rw [bB _ _ _ _ (by simp)];exact sA _ _ _ (by first|rfl|simp)) rfl;clear hW;go_wp2_with fail;go_meet;exact ⟨_,rfl,rfl,hx5,xx0,xx1,xx2,xx3,xx4,xx5,xx6,xx7⟩
  case rest=>
   obtain ⟨A5,rfl,rfl,hx5,c0',c1',c2',c3',c4',c5',c6',c7'⟩:=hcut;replace q0:=eA hx5 q0;replace q1:=eA hx5 q1;replace q2:=eA hx5 q2;replace t0:=eA hx5 t0;replace t1:=eA hx5 t1;replace t2:=eA hx5 t2;replace j0:=eA hx5 j0;replace j1:=eA hx5 j1;replace g1:=eA hx5 g1;replace pd:=eA hx5 pd;replace pl:=eA hx5 pl;replace pb:=eA hx5 pb;replace g2:=eA hx5 g2;replace g3:=eA hx5 g3;replace g4:=eA hx5 g4
   replace FQ:Hid (∀ i,wc.frozen? ⟨w.heap.size,i,none⟩=false):=fun i=>kA hx5 z1 (FQ.out i)
   replace HXB:=aA (HXB.out.trans hx5);replace HB:=aA (HB.out.ext hx5);clear hx5 z1 z2 z3 z4 z5;have z1:=dA q0;have z2:=dA t0;have z3:=dA j0;have z4:=dA g1;have z5:=dA pl;have z6:=dA c0'
   go_upto_region 31 with (go_at_call 111;(with_reducible refine (rhas_at hv (HB.out.pl.ext eX) hwf _ HHV).mono ?_);rintro e w1 ⟨rfl,o1,n1,rfl⟩)
   generalize hWq:World.plus _ _ _=we;have hxq:Ext wc we:=xQ hWq;clear hWq;replace c0':=eA hxq c0';replace c1':=eA hxq c1';replace c2':=eA hxq c2';replace c3':=eA hxq c3';replace c4':=eA hxq c4';replace c5':=eA hxq c5';replace c6':=eA hxq c6';replace c7':=eA hxq c7';replace q0:=eA hxq q0;replace q1:=eA hxq q1;replace q2:=eA hxq q2;replace t0:=eA hxq t0;replace t1:=eA hxq t1;replace t2:=eA hxq t2;replace j0:=eA hxq j0;replace j1:=eA hxq j1;replace g1:=eA hxq g1;replace pd:=eA hxq pd;replace pl:=eA hxq pl;replace pb:=eA hxq pb;replace g2:=eA hxq g2;replace g3:=eA hxq g3;replace g4:=eA hxq g4
   replace FQ:Hid (∀ i,we.frozen? ⟨w.heap.size,i,none⟩=false):=fun i=>kA hxq z1 (FQ.out i)
   replace HXB:=aA (HXB.out.trans hxq);replace HB:=aA (HB.out.ext hxq);clear hxq z1 z2 z3 z4 z5;have z1:=dA q0;have z2:=dA t0;have z3:=dA j0;have z4:=dA g1;have z5:=dA pl;have z6:=dA c0';have ho:=hno.out;rw [HST.out] at ho;dsimp only at ho;rw [hba.out,HHV.out] at ho
   have h1:¬ ba=xi:=fun e=>ho (Or.inl e)
   have hv1:hv=true:=by
    cases hv
    ·exact absurd (Or.inr rfl) ho
    ·rfl
   clear ho;subst hv1
   have HN1:Hid (¬ p.bay=xi):=by unfold Hid;rw [hba.out];exact h1
   by_cases h2:ba=0
   rotate_left
   ·have HN2:Hid (¬ p.bay=0):=by unfold Hid;rw [hba.out];exact h2
    go_upto_region 42 with fail
    cases dd
    ·go_upto_region 44 with fail
     repeat (first|(go_big_may;(go_at_call 129;(with_reducible refine (rWelcome_any _).mono ?_);rintro e wv ⟨v1,rfl,hown,hxv⟩;have hxz:Ext we wv:=Ext.trans eX hxv;have fq0:=kA hxz (dA q0) (FQ.out 0);have fq1:=kA hxz (dA q0) (FQ.out 1);have fq2:=kA hxz (dA q0) (FQ.out 2);have pq0:=eA hxz q0;have pq1:=eA hxz q1;have pq2:=eA hxz q2))|go_values|go_skip|go_guarded|go_step|go_upon|simp only [])
     have HE:Ch.turnOf ⟨last,l,js⟩ (ln:Int) p=(Ch.welcome,none):=by rw [HT.out,rf2 HST.out HN1.out HHV.out HN2.out hdd.out];rfl
     obtain ⟨o0,o1,o2,ox⟩:=lC (w:=w) (x:=vi 0) (y:=.slice none 0 0) (z:=.slice none 0 0) (HXB.out.trans hxz) (Nat.le_refl _) pq0 pq1 pq2;refine bodyPost_ret (v:=.tuple #[v1,.agg #[vi 0,.slice none 0 0,.slice none 0 0],.bool false]) (by simp [results,Tryz.results68,go_sem,o0,o1,o2]) rfl ?_;rw [HE];exact ⟨v1,_,_,rfl,rA (jB hown (by have:=dA q0;first|omega|(simp;omega))) (by have:=HXB.out.below.size;first|omega|(simp;omega)),pB _ _,ox⟩
    ·have fq0:=FQ.out 0
     have fq1:=FQ.out 1;have fq2:=FQ.out 2
     go_upto_region 43 with fail
     repeat (first|(go_big_may;fail)|go_values|go_skip|go_guarded|go_step|go_upon|simp only [])
     have HE:Ch.turnOf ⟨last,l,js⟩ (ln:Int) p=([],none):=by rw [HT.out,rf2 HST.out HN1.out HHV.out HN2.out hdd.out];rfl
     obtain ⟨o0,o1,o2,ox⟩:=lC (w:=w) (x:=vi 0) (y:=.slice none 0 0) (z:=.slice none 0 0) HXB.out (Nat.le_refl _) q0 q1 q2;refine bodyPost_ret (v:=.tuple #[.slice none 0 0,.agg #[vi 0,.slice none 0 0,.slice none 0 0],.bool false]) (by simp [results,Tryz.results68,go_sem,o0,o1,o2]) rfl ?_;rw [HE];exact ⟨_,_,_,rfl,bC _ _ _ _,pB _ _,ox⟩
   have HB0:Hid (p.bay=0):=by unfold Hid;rw [hba.out];exact h2
   subst h2;cases dd
   rotate_left
   ·have fq0:=FQ.out 0
    have fq1:=FQ.out 1;have fq2:=FQ.out 2
    go_upto_region 46 with fail
    repeat (first|(go_big_may;fail)|go_values|go_skip|go_guarded|go_step|go_upon|simp only [])
    obtain ⟨o0,o1,o2,ox⟩:=lC (w:=w) (a:=we) (x:=vi 0) (y:=.slice none 0 0) (z:=.slice none 0 0) HXB.out (Nat.le_refl _) q0 q1 q2
    have hsz:(((we.setCell ⟨w.heap.size,0,none⟩ (vi 0)).setCell ⟨w.heap.size,1,none⟩ (.slice none 0 0)).setCell ⟨w.heap.size,2,none⟩ (.slice none 0 0)).heap.size=we.heap.size:=by simp
    have hsw:=HXB.out.below.size
    generalize hW3:World.setCell _ _ _=W3 at o0 o1 o2 ox hsz ⊢
    generalize hWq:World.alloc _ _=wa;have hx3:Ext W3 wa:=xQ hWq;have r0:=eA hx3 o0;have r1:=eA hx3 o1;have r2:=eA hx3 o2
    have hown:wa.ownsRow w.heap.size 135 2 (.slice (some ⟨we.heap.size,0,none⟩) 1 1) ([⟨5,0⟩]:List Ch.Goal).length (([⟨5,0⟩]:List Ch.Goal).flatMap eB):=by
     rw [←hWq];exact owns_newA 135 2 1 #[vi 5,vi 0] rfl (by unfold maxLen;omega) hsz.symm (by omega)
    have HE:Ch.turnOf ⟨last,l,js⟩ (ln:Int) p=([⟨5,0⟩],none):=by rw [HT.out,rf3 HST.out HN1.out HHV.out HB0.out hdd.out]
    refine bodyPost_ret (v:=.tuple #[.slice (some ⟨we.heap.size,0,none⟩) 1 1,.agg #[vi 0,.slice none 0 0,.slice none 0 0],.bool false]) (by simp [results,Tryz.results68,go_sem,r0,r1,r2]) rfl ?_;rw [HE];exact ⟨_,_,_,rfl,hown,pB _ _,ox.trans hx3⟩
   rcases hB with h|h
   ·exact absurd rfl h
   ·cases h
