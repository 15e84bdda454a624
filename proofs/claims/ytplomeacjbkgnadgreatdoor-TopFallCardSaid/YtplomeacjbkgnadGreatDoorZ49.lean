import Derived.Test.YtplomeacjbkgnadGreatDoorZ48
set_option linter.all false
set_option maxRecDepth 100000
set_option maxHeartbeats 16000000
namespace Go.Proofs.YtplomeacjbkgnadGreatDoor
open Go.RowKit
theorem settleN_sizes:∀ (n i:Nat) (h:Ch.House),(Ch.Live.settleN n i h).sizes=h.sizes
 | 0,_,_=>rfl
 | n+1,i,h=>by
  unfold Ch.Live.settleN
  split
  ·rfl
  ·rw [settleN_sizes,tick_sizes];rfl
theorem ended_now {w0:World} {N:Nat→Prop} {pb mb db lb hb:Nat} {h:Ch.House} {k:Nat} {w:World} {la:Option Addr} {ln lc:Nat} (s:St w0 N pb mb db lb hb h k w) (he:Ch.Live.House.Ended h) (hl:Sl w0 3 sizeCells h.sizes la ln lc):
  Calls Tryz.prog 11 #[.slice la ln lc,.pointer (some ⟨pb,0,none⟩),.pointer (some ⟨hb,0,none⟩)] w fun e w'=>e = .returned (.bool true)∧Ext w w':=by
 have hlen:=hl.len;have lbd:=hl.bound;have hwf:=s.wf
 obtain ⟨last,bs,js,HBK⟩:∃ (a:Int) (b:List Ch.Stay) (c:List Ch.Job),Hid (h.b=⟨a,b,c⟩):=⟨_,_,_,rfl⟩
 have hjs:js=[]:=by have:=he.jobs;rw [HBK.out] at this;exact this
 subst hjs
 have HHM:Hid (∀ x∈bs,h.p.slots x.home=x.car.id):=fun x hx=>he.home x (by rw [HBK.out];exact hx)
 have HCN:Hid (h.p.cars.length=bs.length):=by have:=he.count;rw [HBK.out] at this;exact this
 obtain ⟨zp,za,zb,zc,HSN⟩:∃ (a:Int) (b c d:Bool),Hid (senseA h.p = .agg #[vi 0,vi 0,.bool true,vi a,vi 0,vi 0,.bool b,.bool c,.bool d]):=⟨h.p.people,h.p.full h.p.ext,h.p.full (h.p.ext - 1),h.p.full (h.p.ext+1),by
  unfold Hid senseA
  rw [he.height,he.ext,he.door,he.lift,he.bay]⟩
 have HSP:Hid (h.p.slots ⟨(ln:Int),1,0⟩=0):=by
  have:=he.spare;rw [show Ch.spare h.n=⟨(ln:Int),1,0⟩ by show (⟨((h.sizes.length:Nat):Int),1,0⟩:Ch.Place)=_;rw [hlen]] at this;exact this
 have hhu:=he.hurt
 have HHU:Hid (∀ w',Ext w w'→Calls Tryz.prog 16 #[.pointer (some ⟨pb,0,none⟩)] w' fun r w''=>r = .returned (.bool false)∧Ext w' w''):=fun w' x'=>by
  have:=hurt_any (s.plantAt.ext x');rw [hhu] at this;exact this
 have HS:=Lib.hid s;clear s he hhu hl;go_enter Tryz.func11,Tryz.ntmps11
 go_upto_region 2 with (go_at_call 12;refine (st_book (HS.out.ext (by simp (maxDischargeDepth:=60)))).mono ?_;rw [HBK.out];rintro r w3 ⟨y1,d1,y2,d2,rfl,t1,t2,hx3,nw1,-⟩;dsimp only at t1 t2 ⊢;have V1:Hid (∀ g o,y1=some ⟨g,o,none⟩→w.heap.size≤g):=fun g o e=>Nat.le_trans (Ext.below (by simp (maxDischargeDepth:=60)):Below w.heap.size w _).size (nw1 g o e);have HX3:Hid (Ext w w3):=Ext.trans (by simp (maxDischargeDepth:=60)) hx3;have T1:=Lib.hid t1;have T2:=Lib.hid t2;clear t1 t2 hx3 nw1)
 generalize hW:World.alloc _ _=w4;generalize hB:w3.heap.size=B
 have hx34:Ext w3 w4:=by rw [←hW];exact (by simp (maxDischargeDepth:=60))
 have b0:w4.cell? ⟨B,0,none⟩=some (vi last):=by rw [←hW,←hB];simp [go_sem]
 have b1:w4.cell? ⟨B,1,none⟩=some (.slice y1 bs.length d1):=by rw [←hW,←hB];simp [go_sem]
 have b2:w4.cell? ⟨B,2,none⟩=some (.slice y2 0 d2):=by rw [←hW,←hB];simp [go_sem]
 have U1:=Lib.hid (Sl.below T1.out hx34.below);have U2:=Lib.hid (Sl.below T2.out hx34.below);have ub1:=U1.out.bound;have ub2:=U2.out.bound;have HX4:=Lib.hid (HX3.out.trans hx34);have hBl:=cell_lt b0
 have hBge:w.heap.size≤B:=by rw [←hB];exact HX3.out.below.size
 clear hW hB hx34 T1 T2 HX3
 go_upto_region 3 with (go_at_call 15;(with_reducible refine (sense_val _ ((HS.out.ext HX4.out).plantAt.ext (by simp (maxDischargeDepth:=60))) hwf HSN).mono ?_);rintro e w1 ⟨rfl,o1,n1,rfl⟩)
 generalize hW:World.alloc _ _=w5;generalize hX:w4.heap.size+_=X
 have hx5:Ext w4 w5:=by rw [←hW];exact (by simp (maxDischargeDepth:=60))
 have s0:w5.cell? ⟨X,0,none⟩=some (vi 0):=by rw [←hW,←hX];simp [go_sem]
 have s1:w5.cell? ⟨X,1,none⟩=some (vi 0):=by rw [←hW,←hX];simp [go_sem]
 have s2:w5.cell? ⟨X,2,none⟩=some (.bool true):=by rw [←hW,←hX];simp [go_sem]
 have s3:w5.cell? ⟨X,3,none⟩=some (vi zp):=by rw [←hW,←hX];simp [go_sem]
 have s4:w5.cell? ⟨X,4,none⟩=some (vi 0):=by rw [←hW,←hX];simp [go_sem]
 have s5:w5.cell? ⟨X,5,none⟩=some (vi 0):=by rw [←hW,←hX];simp [go_sem]
 have s6:w5.cell? ⟨X,6,none⟩=some (.bool za):=by rw [←hW,←hX];simp [go_sem]
 have s7:w5.cell? ⟨X,7,none⟩=some (.bool zb):=by rw [←hW,←hX];simp [go_sem]
 have s8:w5.cell? ⟨X,8,none⟩=some (.bool zc):=by rw [←hW,←hX];simp [go_sem]
 replace b0:=xcell hx5 b0;replace b1:=xcell hx5 b1;replace b2:=xcell hx5 b2;have HX5:=Lib.hid (HX4.out.trans hx5);have V1:=Lib.hid (Sl.below U1.out hx5.below);have sl:=cell_lt s0;have bl:=cell_lt b0;clear hW hX hx5 U1 U2 HX4 hBl hBge
 go_upto_region 6 with (first
  | (go_at_call 16;(with_reducible refine (HHU.out _ (HX5.out.trans (by simp (maxDischargeDepth:=60)))).mono ?_);rintro e w1 ⟨rfl,o1,n1,rfl⟩)
  | (go_at_call 34;(with_reducible refine (spare_fT _ _).mono ?_);rintro e w1 ⟨rfl,o1,n1,rfl⟩)
  | (go_at_call 17;(with_reducible refine (at_val ((HS.out.ext HX5.out).plantAt.ext (by simp (maxDischargeDepth:=60))) _ _ _ 0 HSP).mono ?_);rintro e w1 ⟨rfl,o1,n1,rfl⟩))
 go_loopw [9] (fun s9 wl=>∃ m:Nat,m≤bs.length∧s9 = .int .i64 (m:Int)∧Ext w5 wl) (fun s9 _=>bs.length - (intOf s9).toNat)
 case atStart=>exact ⟨0,Nat.zero_le _,rfl,(by simp (maxDischargeDepth:=60))⟩
 case round=>
  obtain ⟨m,hm,rfl,o,no,rfl⟩:=hrel
  by_cases hml:m<bs.length
  ·obtain ⟨bb,q,s,rfl,hs',ds⟩:=V1.out.get hml
   have hmem:=HHM.out s (List.mem_of_getElem? hs');obtain ⟨st,⟨sid,⟨sl1,sl2,sl3⟩⟩,⟨sp1,sp2,sp3⟩⟩:=s;have ds:=at8 ds;dsimp only at hmem ds;have hq2:=cell_lt ds.1;have e1:=ds.2.1;have e5:=ds.2.2.2.2.2.1;have e6:=ds.2.2.2.2.2.2.1;have e7:=ds.2.2.2.2.2.2.2
   have hm0:(0:Int)≤(m:Int):=by omega
   have hm1:(m:Int)<(bs.length:Int):=by omega
   have hm2:(m:Int)≤(d1:Int):=by omega
   have HSV:=Lib.hid hmem;clear hs' hmem ds
   go_upto_region 8 with fail
   (refine wp_region_ext (by kernel_rfl) (by kernel_rfl) ?_;(repeat (first|go_big_quiet_step ((intro _;go_at_call 17;exact ext_callG (at_val ((HS.out.ext HX5.out).plantAt.ext (by simp (maxDischargeDepth:=60))) _ _ _ sid HSV) (by rintro w' ⟨o',n',rfl⟩;exact ⟨_,n',by first|(simp only [plus_plus];rfl)|(simp only [plus_plus,Array.append_assoc];rfl)|rfl⟩)))|quiet_step ((intro _;go_at_call 17;exact ext_callG (at_val ((HS.out.ext HX5.out).plantAt.ext (by simp (maxDischargeDepth:=60))) _ _ _ sid HSV) (by rintro w' ⟨o',n',rfl⟩;exact ⟨_,n',by first|(simp only [plus_plus];rfl)|(simp only [plus_plus,Array.append_assoc];rfl)|rfl⟩)))));refine wpQuiet_nil ?_;intro _ hw';obtain ⟨oq,nq,hw''⟩:=hw';subst hw'')
   go_wp2;go_roundw
   case rel=>exact ⟨m+1,by omega,by go_num,(by simp (maxDischargeDepth:=60))⟩
   case measure=>simp [intOf];omega
  ·have hmn:¬ (m:Int)<(bs.length:Int):=by omega
   generalize hW:World.plus w5 o no=w6
   have hx6:Ext w5 w6:=by rw [←hW];exact (by simp (maxDischargeDepth:=60))
   replace b1:=xcell hx6 b1;have bl6:=cell_lt b1;have HS6:=Lib.hid (HS.out.ext (HX5.out.trans hx6));have HX6:=Lib.hid (HX5.out.trans hx6);clear hW hx6 s0 s1 s2 s3 s4 s5 s6 s7 s8 b0 b2 sl bl hm hml
   go_upto_region 10 with fail
   go_region_held3 (fun w'=>w'.cell? ⟨B,1,none⟩=some (.slice y1 bs.length d1)) (first|((try dsimp only);(repeat' apply And.intro) <;> (refine xcell (w:=w6) ?_ (by assumption);simp (maxDischargeDepth:=60);done))) (first|(go_at_call 35;refine (cars_any (HS6.out.plantAt.ext (by simp (maxDischargeDepth:=60))) hwf).mono ?_;rintro r w8 ⟨v,rfl,hown,⟨o8,n8,rfl⟩⟩;obtain ⟨a',c',rfl,-⟩:=Sl.of_owns (c:=1) (enc:=intCells) hown (by decide) (fun _=>rfl);clear hown;rw [HCN.out]))
   all_goals
    go_wp2;go_ret;exact ⟨rfl,HX6.out.trans (by simp (maxDischargeDepth:=60))⟩
end Go.Proofs.YtplomeacjbkgnadGreatDoor
