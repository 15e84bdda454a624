import Derived.Test.YtplomeacjbkgnabGreatDoorZ11
set_option linter.all false
set_option maxRecDepth 100000
set_option maxHeartbeats 16000000
namespace Go.Proofs.YtplomeacjbkgnabGreatDoor
open Go.RowKit Tryz Ch
def rD (ticket car:Int) (s:sA):Bool:=s.ticket==ticket || (ticket==0&&s.car.id==car)
def stayV (o:Option sA):Value:=.tuple #[stayA (o.getD ⟨0,⟨0,⟨0,0,0⟩⟩,⟨0,0,0⟩⟩),.bool o.isSome]
theorem rext_setCells {w a:World} {R:Nat} (hR:w.heap.size<=R):∀ (vs:List Value) (o:Nat) (a:World),Ext w a->Ext w (a.setCells R o vs)
 | [],_,_,h=>h
 | v :: r,o,a,h=>by
  rw [World.setCells];exact rext_setCells (a:=a) hR r (o+1) _ (Ext.setCell h hR v)
theorem rput8 {w a:World} {R:Nat} {x0 x1 x2 x3 x4 x5 x6 x7:Value} (hx:Ext w a) (hR:w.heap.size<=R) (hc:∀ j,j<8->(a.cell? ⟨R,j,none⟩).isSome=true):
  let W:=(((((((a.setCell ⟨R,0,none⟩ x0).setCell ⟨R,1,none⟩ x1).setCell ⟨R,2,none⟩ x2).setCell ⟨R,3,none⟩ x3).setCell ⟨R,4,none⟩ x4).setCell ⟨R,5,none⟩ x5).setCell ⟨R,6,none⟩ x6).setCell ⟨R,7,none⟩ x7
  W.cell? ⟨R,0,none⟩=some x0/\W.cell? ⟨R,1,none⟩=some x1/\W.cell? ⟨R,2,none⟩=some x2/\W.cell? ⟨R,3,none⟩=some x3/\W.cell? ⟨R,4,none⟩=some x4/\W.cell? ⟨R,5,none⟩=some x5/\W.cell? ⟨R,6,none⟩=some x6/\W.cell? ⟨R,7,none⟩=some x7/\Ext w W:=by
 intro W;have e:W=a.setCells R 0 [x0,x1,x2,x3,x4,x5,x6,x7]:=rfl;have h:=World.cell?_setCells_in R [x0,x1,x2,x3,x4,x5,x6,x7] 0 a (by intro j hj;simpa using hc j (by simpa using hj));rw [e];refine ⟨?_,?_,?_,?_,?_,?_,?_,?_,rext_setCells (a:=a) hR _ _ _ hx⟩
 ·simpa using h 0 sp
 ·simpa using h 1 sp
 ·simpa using h 2 sp
 ·simpa using h 3 sp
 ·simpa using h 4 sp
 ·simpa using h 5 sp
 ·simpa using h 6 sp
 ·simpa using h 7 sp
theorem find_next {α:Type} {P:α->Bool} {l:List α} {k:Nat} {x:α} (hx:l[k]? = some x):(l.drop k).find? P=if P x then some x else (l.drop (k+1)).find? P:=by
 have hk:k<l.length:=by
  rcases Nat.lt_or_ge k l.length with h1|h1
  ·exact h1
  ·rw [List.getElem?_eq_none h1] at hx;cases hx
 rw [List.drop_eq_getElem_cons hk,List.find?_cons];rw [List.getElem?_eq_getElem hk] at hx;cases hx
 cases P l[k] <;> rfl
theorem bO (last ticket car:Int) (a1:Option Addr) (m1 c1:Nat) (a2:Option Addr) (m2 c2:Nat) (l:List sA) (w:World) (h:Sl w 8 iA l a1 m1 c1):
  Calls prog 100 #[lC last a1 m1 c1 a2 m2 c2,vi ticket,vi car] w fun e w'=>e = .returned (stayV (l.find? (rD ticket car)))/\Ext w w':=by
 have b1:=h.bound;have HF:=aA h;have E1:=aA h.len;clear h;go_enter func100,ntmps100
 go_upto_region 1 with fail
 generalize hW:World.alloc _ _=w0;have k0:cI w0 w.heap.size 0 last:=cQ hW;have k1:cV w0 w.heap.size 1 (.slice a1 m1 c1):=cQ hW;have k2:cV w0 w.heap.size 2 (.slice a2 m2 c2):=cQ hW
 have r0:∀ j,j<8->w0.cell? ⟨w.heap.size+1,j,none⟩=some (vi 0):=by
  intro j hj
  have:j=0\/j=1\/j=2\/j=3\/j=4\/j=5\/j=6\/j=7:=om
  rcases this with rfl|rfl|rfl|rfl|rfl|rfl|rfl|rfl <;> (rw [<-hW];simp [go_sem])
 have fz:∀ i,w0.frozen? ⟨w.heap.size+1,i,none⟩=false:=by intro i;rw [<-hW];simp [go_sem]
 have hx:Ext w w0:=xQ hW;have HX:=aA hx;have HS:=aA (Sl.below HF.out hx.below);have z1:=cA k0;have z2:=cA (r0 0 dc);have R0:=aA r0;have FZ:=aA fz;clear hW hx HF r0 fz;go_wp2
 go_loopw [8] (fun i wr=>∃ k:Nat,k<=m1/\i = .int .i64 k/\Hid (l.find? (rD ticket car)=(l.drop k).find? (rD ticket car))/\Ext w0 wr) (fun i _=>m1 - (intOf i).toNat)
 case atStart=>exact ⟨0,om,rfl,by simp [Hid],eX⟩
 case round=>
  obtain ⟨k,hk,rfl,HT,o,m,rfl⟩:=hrel
  by_cases hlt:k<m1
  ·obtain ⟨b,q,s,rfl,hs,ds⟩:=HS.out.get hlt
   have HN:=aA (find_next (P:=rD ticket car) hs);obtain ⟨t,⟨ci,⟨cx,cy,cz⟩⟩,⟨h0,h1,h2⟩⟩:=s;have ds:=at8 ds;dsimp only at ds;have hq:=cA ds.1
   have hkj:(k:Int)<(m1:Int):=om
   have f0:=FZ.out 0;have f1:=FZ.out 1;have f2:=FZ.out 2;have f3:=FZ.out 3;have f4:=FZ.out 4;have f5:=FZ.out 5;have f6:=FZ.out 6;have f7:=FZ.out 7;have r0:=R0.out 0 dc;have r1:=R0.out 1 dc;have r2:=R0.out 2 dc;have r3:=R0.out 3 dc;have r4:=R0.out 4 dc;have r5:=R0.out 5 dc;have r6:=R0.out 6 dc;have r7:=R0.out 7 dc;clear hs
   cases e1:(t==ticket)
   ·cases e2:(ticket==0)
    ·have HR:Hid (rD ticket car ⟨t,⟨ci,⟨cx,cy,cz⟩⟩,⟨h0,h1,h2⟩⟩=false):=by unfold Hid rD;dsimp only;rw [e1,e2];rfl
     go_wp2;go_roundw
     case rel=>first|exact ⟨k+1,om,by go_num,by unfold Hid;rw [HT.out,HN.out,HR.out];rfl,eX⟩|(repeat apply Exists.intro;refine ⟨?_,rfl⟩;exact ⟨k+1,om,by go_num,by unfold Hid;rw [HT.out,HN.out,HR.out];rfl,eX⟩)
     case measure=>simp [intOf];omega
    ·obtain rfl:ticket=0:=by simpa using e2
     have hz:((0:Int)==0)=true:=rfl;clear e2
     cases e3:(ci==car)
     ·have HR:Hid (rD 0 car ⟨t,⟨ci,⟨cx,cy,cz⟩⟩,⟨h0,h1,h2⟩⟩=false):=by unfold Hid rD;dsimp only;rw [e1,e3];rfl
      go_wp2;go_roundw
      case rel=>first|exact ⟨k+1,om,by go_num,by unfold Hid;rw [HT.out,HN.out,HR.out];rfl,eX⟩|(repeat apply Exists.intro;refine ⟨?_,rfl⟩;exact ⟨k+1,om,by go_num,by unfold Hid;rw [HT.out,HN.out,HR.out];rfl,eX⟩)
      case measure=>simp [intOf];omega
     ·have HR:Hid (rD 0 car ⟨t,⟨ci,⟨cx,cy,cz⟩⟩,⟨h0,h1,h2⟩⟩=true):=by unfold Hid rD;dsimp only;rw [e1,e3];rfl
      obtain rfl:ci=car:=by simpa using e3
      clear e3
      go_upto_region 6 with fail
      generalize hW:World.alloc _ _=wq;generalize hD:w0.heap.size+o.size=D;have hxq:Ext w0 wq:=xQ hW;have d0:cI wq D 0 t:=cR hW hD;have d1:cI wq D 1 ci:=cR hW hD;have d2:cI wq D 2 cx:=cR hW hD;have d3:cI wq D 3 cy:=cR hW hD;have d4:cI wq D 4 cz:=cR hW hD;have d5:cI wq D 5 h0:=cR hW hD;have d6:cI wq D 6 h1:=cR hW hD;have d7:cI wq D 7 h2:=cR hW hD;have g0:=eA hxq r0;have g1:=eA hxq r1;have g2:=eA hxq r2;have g3:=eA hxq r3;have g4:=eA hxq r4;have g5:=eA hxq r5;have g6:=eA hxq r6;have g7:=eA hxq r7;have y0:=kA hxq z2 f0;have y1:=kA hxq z2 f1;have y2:=kA hxq z2 f2;have y3:=kA hxq z2 f3;have y4:=kA hxq z2 f4;have y5:=kA hxq z2 f5;have y6:=kA hxq z2 f6;have y7:=kA hxq z2 f7
      have hRc:∀ j,j<8->(wq.cell? ⟨w.heap.size+1,j,none⟩).isSome=true:=fun j hj=>by rw [eA hxq (R0.out j hj)];rfl
      have HQ:=aA hRc;have HXQ:=aA (HX.out.trans hxq);clear hW hD hxq hRc k0 k1 k2 r0 r1 r2 r3 r4 r5 r6 r7 f0 f1 f2 f3 f4 f5 f6 f7 ds hq z1 z2;go_wp2;obtain ⟨p0,p1,p2,p3,p4,p5,p6,p7,px⟩:=rput8 (w:=w) (a:=wq) (R:=w.heap.size+1) (x0:=vi t) (x1:=vi ci) (x2:=vi cx) (x3:=vi cy) (x4:=vi cz) (x5:=vi h0) (x6:=vi h1) (x7:=vi h2) HXQ.out om HQ.out;exact bodyPost_ret (v:=.tuple #[.agg #[vi t,vi ci,vi cx,vi cy,vi cz,vi h0,vi h1,vi h2],.bool true]) (by simp [results,results100,go_sem,p0,p1,p2,p3,p4,p5,p6,p7]) rfl ⟨by rw [HT.out,HN.out,HR.out];rfl,px⟩
   ·have HR:Hid (rD ticket car ⟨t,⟨ci,⟨cx,cy,cz⟩⟩,⟨h0,h1,h2⟩⟩=true):=by unfold Hid rD;dsimp only;rw [e1];rfl
    obtain rfl:t=ticket:=by simpa using e1
    clear e1
    go_upto_region 6 with fail
    generalize hW:World.alloc _ _=wq;generalize hD:w0.heap.size+o.size=D;have hxq:Ext w0 wq:=xQ hW;have d0:cI wq D 0 t:=cR hW hD;have d1:cI wq D 1 ci:=cR hW hD;have d2:cI wq D 2 cx:=cR hW hD;have d3:cI wq D 3 cy:=cR hW hD;have d4:cI wq D 4 cz:=cR hW hD;have d5:cI wq D 5 h0:=cR hW hD;have d6:cI wq D 6 h1:=cR hW hD;have d7:cI wq D 7 h2:=cR hW hD;have g0:=eA hxq r0;have g1:=eA hxq r1;have g2:=eA hxq r2;have g3:=eA hxq r3;have g4:=eA hxq r4;have g5:=eA hxq r5;have g6:=eA hxq r6;have g7:=eA hxq r7;have y0:=kA hxq z2 f0;have y1:=kA hxq z2 f1;have y2:=kA hxq z2 f2;have y3:=kA hxq z2 f3;have y4:=kA hxq z2 f4;have y5:=kA hxq z2 f5;have y6:=kA hxq z2 f6;have y7:=kA hxq z2 f7
    have hRc:∀ j,j<8->(wq.cell? ⟨w.heap.size+1,j,none⟩).isSome=true:=fun j hj=>by rw [eA hxq (R0.out j hj)];rfl
    have HQ:=aA hRc;have HXQ:=aA (HX.out.trans hxq);clear hW hD hxq hRc k0 k1 k2 r0 r1 r2 r3 r4 r5 r6 r7 f0 f1 f2 f3 f4 f5 f6 f7 ds hq z1 z2;go_wp2;obtain ⟨p0,p1,p2,p3,p4,p5,p6,p7,px⟩:=rput8 (w:=w) (a:=wq) (R:=w.heap.size+1) (x0:=vi t) (x1:=vi ci) (x2:=vi cx) (x3:=vi cy) (x4:=vi cz) (x5:=vi h0) (x6:=vi h1) (x7:=vi h2) HXQ.out om HQ.out;exact bodyPost_ret (v:=.tuple #[.agg #[vi t,vi ci,vi cx,vi cy,vi cz,vi h0,vi h1,vi h2],.bool true]) (by simp [results,results100,go_sem,p0,p1,p2,p3,p4,p5,p6,p7]) rfl ⟨by rw [HT.out,HN.out,HR.out];rfl,px⟩
  ·have hkm:k=m1:=om
   subst hkm;have f0:=FZ.out 0;have f1:=FZ.out 1;have f2:=FZ.out 2;have f3:=FZ.out 3;have f4:=FZ.out 4;have f5:=FZ.out 5;have f6:=FZ.out 6;have f7:=FZ.out 7;have r0:=R0.out 0 dc;have r1:=R0.out 1 dc;have r2:=R0.out 2 dc;have r3:=R0.out 3 dc;have r4:=R0.out 4 dc;have r5:=R0.out 5 dc;have r6:=R0.out 6 dc;have r7:=R0.out 7 dc;go_wp2;obtain ⟨p0,p1,p2,p3,p4,p5,p6,p7,px⟩:=rput8 (w:=w) (a:=w0.plus o m) (R:=w.heap.size+1) (x0:=vi 0) (x1:=vi 0) (x2:=vi 0) (x3:=vi 0) (x4:=vi 0) (x5:=vi 0) (x6:=vi 0) (x7:=vi 0) (HX.out.trans eX) om (fun j hj=>by rw [eA (w:=w0) eX (R0.out j hj)];rfl);exact bodyPost_ret (v:=.tuple #[.agg #[vi 0,vi 0,vi 0,vi 0,vi 0,vi 0,vi 0,vi 0],.bool false]) (by simp [results,results100,go_sem,p0,p1,p2,p3,p4,p5,p6,p7]) rfl ⟨by rw [HT.out,List.drop_of_length_le (by have:=E1.out;omega)];rfl,px⟩
abbrev rCells (p:dA):Array Value:=#[vi p.levels,vi p.height,vi p.ext,.bool p.door,vi p.people,vi p.lift,vi p.bay,
 vi (p.slots ⟨0,0,0⟩),vi (p.slots ⟨0,0,1⟩),vi (p.slots ⟨0,1,0⟩),vi (p.slots ⟨0,1,1⟩),
 vi (p.slots ⟨1,0,0⟩),vi (p.slots ⟨1,0,1⟩),vi (p.slots ⟨1,1,0⟩),vi (p.slots ⟨1,1,1⟩),
 vi (p.slots ⟨2,0,0⟩),vi (p.slots ⟨2,0,1⟩),vi (p.slots ⟨2,1,0⟩),vi (p.slots ⟨2,1,1⟩),
 vi (p.slots ⟨3,0,0⟩),vi (p.slots ⟨3,0,1⟩),vi (p.slots ⟨3,1,0⟩),vi (p.slots ⟨3,1,1⟩),
 vi (p.slots ⟨4,0,0⟩),vi (p.slots ⟨4,0,1⟩),vi (p.slots ⟨4,1,0⟩),vi (p.slots ⟨4,1,1⟩),
 vi p.stall,.bool p.hurt]
structure bB (w:World) (rb:Nat) (p:dA):Prop where
 blk:w.heap[rb]? = some (.cells (rCells p) 117 (0,0))
theorem bB.lt {w:World} {rb:Nat} {p:dA} (h:bB w rb p):rb<w.heap.size:=by
 by_cases hb:rb<w.heap.size
 ·exact hb
 ·have:=h.blk
  rw [Array.getElem?_eq_none (Nat.le_of_not_lt hb)] at this;cases this
theorem bB.same {w w':World} {rb:Nat} {p:dA} (h:bB w rb p) (h1:w'.heap[rb]? = w.heap[rb]?):bB w' rb p:=⟨h1.trans h.blk⟩
theorem bB.ext {w w':World} {rb:Nat} {p:dA} (h:bB w rb p) (e:Ext w w'):bB w' rb p:=by
 obtain ⟨o,n,rfl⟩:=e;exact h.same (dB w o n rb h.lt)
theorem bB.kept {S:Nat->Prop} {w w':World} {rb:Nat} {p:dA} (h:bB w rb p) (k:fA S w w') (hn:¬ S rb):bB w' rb p:=h.same (k.block rb h.lt hn)
theorem bB.cells {w:World} {rb:Nat} {p:dA} (h:bB w rb p):
  w.cell? ⟨rb,0,none⟩=some (vi p.levels)/\w.cell? ⟨rb,1,none⟩=some (vi p.height)/\w.cell? ⟨rb,2,none⟩=some (vi p.ext)/\w.cell? ⟨rb,3,none⟩=some (.bool p.door) /\
  w.cell? ⟨rb,4,none⟩=some (vi p.people)/\w.cell? ⟨rb,5,none⟩=some (vi p.lift)/\w.cell? ⟨rb,6,none⟩=some (vi p.bay) /\
  w.cell? ⟨rb,27,none⟩=some (vi p.stall)/\w.cell? ⟨rb,28,none⟩=some (.bool p.hurt):=
 ⟨tA h.blk rfl,tA h.blk rfl,tA h.blk rfl,tA h.blk rfl,tA h.blk rfl,tA h.blk rfl,tA h.blk rfl,tA h.blk rfl,tA h.blk rfl⟩
def slotOff (a b c:Int):Nat:=7+a.toNat * 4+b.toNat * 2+c.toNat
theorem slot_cell (p:dA) {a b c:Int} (a0:0<=a) (a1:a<=4) (b0:0<=b) (b1:b<=1) (c0:0<=c) (c1:c<=1):(rCells p)[slotOff a b c]? = some (vi (p.slots ⟨a,b,c⟩)):=by
 have ha:a=0\/a=1\/a=2\/a=3\/a=4:=om
 have hb:b=0\/b=1:=om
 have hc:c=0\/c=1:=om
 rcases ha with rfl|rfl|rfl|rfl|rfl <;> rcases hb with rfl|rfl <;> rcases hc with rfl|rfl <;> rfl
theorem bB.slot {w:World} {rb:Nat} {p:dA} (h:bB w rb p) {a b c:Int} (a0:0<=a) (a1:a<=4) (b0:0<=b) (b1:b<=1) (c0:0<=c) (c1:c<=1):
  w.cell? ⟨rb,slotOff a b c,none⟩=some (vi (p.slots ⟨a,b,c⟩)):=tA h.blk (slot_cell p a0 a1 b0 b1 c0 c1)
theorem slotNat (w:World) {rb:Nat} {p:dA} (h:bB w rb p) {a b c:Nat} (ha:a<=4) (hb:b<=1) (hc:c<=1):w.cell? ⟨rb,7+a * 4+b * 2+c,none⟩=some (vi (p.slots ⟨(a:Int),(b:Int),(c:Int)⟩)):=by
 have:=h.slot (a:=(a:Int)) (b:=(b:Int)) (c:=(c:Int)) om om om om om om
 simpa [slotOff] using this
theorem wK (rb:Nat) (h e:Int) (w:World) (hc:w.cell? ⟨rb,1,none⟩=some (vi h)) (h0:0<=h) (h1:h<=12) (e0:-3<=e) (e1:e<=3) (hx:bG h e=none):
  Calls prog 110 #[.pointer (some ⟨rb,0,none⟩),vi e] w fun r w'=>r = .returned (.tuple #[.agg #[vi 0,vi 0,vi 0],.bool false])/\Ext w w':=by
 have hb:=cA hc;have HX:=placeAt_none hx;clear hx;go_enter func110,ntmps110;go_wp2
 all_goals
  first
  | (exfalso;go_light;(try simp only [beq_iff_eq] at *);omega)
  | exact bodyPost_ret (v:=.tuple #[.agg #[vi 0,vi 0,vi 0],.bool false]) (by simp [results,results110,go_sem]) rfl ⟨rfl,eX⟩
theorem xH (rb:Nat) (h e:Int) (a b c:Int) (w:World) (hc:w.cell? ⟨rb,1,none⟩=some (vi h)) (h0:0<=h) (h1:h<=12) (e0:-3<=e) (e1:e<=3) (hx:bG h e=some ⟨a,b,c⟩):
    Calls prog 110 #[.pointer (some ⟨rb,0,none⟩),vi e] w fun r w'=>r = .returned (.tuple #[.agg #[vi a,vi b,vi c],.bool true])/\Ext w w':=by
  have hb:=cA hc;have HX:=placeAt_some hx;simp only [pB.mk.injEq] at HX
  have he:e=-2\/e=-1\/e=1\/e=2:=om
  clear hx
  rcases he with rfl|rfl|rfl|rfl
  all_goals
    have HX:=aA HX
    obtain ⟨k1,k2⟩:h % 3=0/\¬ h=0:=⟨HX.out.1,HX.out.2.1⟩
    go_enter func110,ntmps110;go_wp2
    all_goals
      have HX:=HX.out
      first
      | (exfalso;go_light;(try simp only [beq_iff_eq] at *);omega)
      | (obtain ⟨_,_,_,_,_,⟨hl,rfl,rfl,rfl⟩|⟨hl,rfl,rfl,rfl⟩⟩:=HX
         · first
           | (exfalso;go_light;omega)
           | exact bodyPost_ret (by first|(simp [results,results110,go_sem];done)|(simp [results,results110,go_sem];rfl)) rfl ⟨rfl,eX⟩
         · first
           | (exfalso;go_light;omega)
           | exact bodyPost_ret (by first|(simp [results,results110,go_sem];done)|(simp [results,results110,go_sem];rfl)) rfl ⟨rfl,eX⟩)
theorem rat_in {rb:Nat} {p:dA} {w:World} (h:bB w rb p) (a b c:Nat) (a1:1<=a) (a4:a<=4) (hb:b<=1) (hc:c<=1):
  Calls prog 74 #[.pointer (some ⟨rb,0,none⟩),.agg #[vi (a:Int),vi (b:Int),vi (c:Int)]] w fun r w'=>r = .returned (vi (p.slots ⟨(a:Int),(b:Int),(c:Int)⟩))/\Ext w w':=by
 have hs:=slotNat w h a4 hb hc;have hlt:=h.lt;have hf:Hid (uA ⟨(a:Int),(b:Int),(c:Int)⟩ 4=0):=uC.2 ⟨by dsimp only;omega,by dsimp only;omega,by dsimp only;omega,by dsimp only;omega,by dsimp only;omega,by dsimp only;omega⟩
 have j0:(0:Int)<=(a:Int):=om
 have j1:(a:Int)<5:=om
 have j2:(0:Int)<=(b:Int):=om
 have j3:(b:Int)<2:=om
 have j4:(0:Int)<=(c:Int):=om
 have j5:(c:Int)<2:=om
 clear h;go_enter func74,ntmps74
 go_upto_region 3 with (go_at_call 134;refine (rplaceFault_f _ _ _ _ _).mono ?_;rintro e w1 ⟨he,o1,n1,rfl⟩;rw [hf.out] at he;subst he)
 (refine qF ?_;rintro _ ⟨oq,nq,rfl⟩)
 go_wp2;go_ret;exact ⟨rfl,eX⟩
theorem rat_out {rb:Nat} {p:dA} {w:World} (a b c:Int) (hx:¬ uA ⟨a,b,c⟩ 4=0):
  Calls prog 74 #[.pointer (some ⟨rb,0,none⟩),.agg #[vi a,vi b,vi c]] w fun r w'=>r = .returned (vi 0)/\Ext w w':=by
 have hf:Hid (uA ⟨a,b,c⟩ 4=1):=by
  unfold Hid
  unfold uA at hx ⊢
  split <;> simp_all
 clear hx;go_enter func74,ntmps74;go_wp2_with (go_at_call 134;refine (rplaceFault_f _ _ _ _ _).mono ?_;rintro e w1 ⟨he,o1,n1,rfl⟩;rw [hf.out] at he;subst he);go_ret;exact ⟨rfl,eX⟩
theorem slot_out {p:dA} (hp:p.WF) {x:pB} (hx:¬ uA x 4=0):p.slots x=0:=by
 by_cases hz:p.slots x=0
 ·exact hz
 ·have h:=uC.1 (hp.sl x hz)
  have h2:=hp.lv2;exact absurd (uC.2 ⟨h.1,om,h.2.2.1,h.2.2.2.1,h.2.2.2.2.1,h.2.2.2.2.2⟩) hx
theorem rat_any {rb:Nat} {p:dA} {w:World} (h:bB w rb p) (hp:p.WF) (a b c:Int):
  Calls prog 74 #[.pointer (some ⟨rb,0,none⟩),.agg #[vi a,vi b,vi c]] w fun r w'=>r = .returned (vi (p.slots ⟨a,b,c⟩))/\Ext w w':=by
 by_cases hf:uA ⟨a,b,c⟩ 4=0
 ·have h6:=uC.1 hf
  dsimp only at h6
  obtain ⟨a',rfl⟩:∃ n:Nat,a=n:=⟨a.toNat,om⟩
  obtain ⟨b',rfl⟩:∃ n:Nat,b=n:=⟨b.toNat,om⟩
  obtain ⟨c',rfl⟩:∃ n:Nat,c=n:=⟨c.toNat,om⟩
  exact rat_in h a' b' c' om om om om
 ·rw [slot_out hp hf]
  exact rat_out (p:=p) a b c hf
theorem iK {rb:Nat} {p:dA} {w:World} (h:bB w rb p) (hp:p.WF) (e:Int) (e0:-3<=e) (e1:e<=3):
  Calls prog 72 #[.pointer (some ⟨rb,0,none⟩),vi e] w fun r w'=>r = .returned (.bool (p.full e))/\Ext w w':=by
 obtain ⟨c0,c1,c2,c3,c4,c5,c6,c7,c8⟩:=h.cells;have hb:=cA c1;have h0:=hp.ht1
 have h1:p.height<=12:=by have:=hp.ht2;have:=hp.lv2;omega
 cases hx:bG p.height e with
 | none=>
  have HF:Hid (p.full e=false):=by unfold Hid dA.full;rw [uI,hx]
  have HX:=aA hx;clear hx h;go_enter func72,ntmps72;go_wp2_with (first|(go_at_call 110;with_reducible refine mo (wK _ _ _ _ (by assumption) om om om om HX.out) fun o1 n1=>?_)|(go_at_call 74;with_reducible refine mo (rat_out (p:=p) 0 0 0 dc) fun o1 n1=>?_));exact bodyPost_ret (v:=.bool false) (by simp [results,results72,go_sem]) rfl ⟨by rw [HF.out],eX⟩
 | some x=>
  obtain ⟨a,b,c⟩:=x
  have HF:Hid (p.full e=(p.slots ⟨a,b,c⟩ != 0)):=by unfold Hid dA.full;rw [uI,hx]
  have HX:=aA hx;have HP:=aA h;clear hx h;go_enter func72,ntmps72;go_wp2_with (first|(go_at_call 110;with_reducible refine mo (xH _ _ _ a b c _ (by assumption) om om om om HX.out) fun o1 n1=>?_)|(go_at_call 74;with_reducible refine mo (rat_any (HP.out.ext eX) hp a b c) fun o1 n1=>?_))
  all_goals
   exact bodyPost_ret (v:=.bool (p.slots ⟨a,b,c⟩ != 0)) (by simp [results,results72,go_sem]) rfl ⟨by rw [HF.out],eX⟩
theorem ext_setCellsR {w a:World} {R:Nat} (hR:w.heap.size<=R):∀ (vs:List Value) (o:Nat) (a:World),Ext w a->Ext w (a.setCells R o vs)
 | [],_,_,h=>h
 | v :: r,o,a,h=>by
  rw [World.setCells];exact ext_setCellsR (a:=a) hR r (o+1) _ (Ext.setCell h hR v)
theorem put9 {w a:World} {R:Nat} {x0 x1 x2 x3 x4 x5 x6 x7 x8:Value} (hx:Ext w a) (hR:w.heap.size<=R) (hc:∀ j,j<9->(a.cell? ⟨R,j,none⟩).isSome=true):
  let W:=(((((((((a.setCell ⟨R,0,none⟩ x0).setCell ⟨R,1,none⟩ x1).setCell ⟨R,2,none⟩ x2).setCell ⟨R,3,none⟩ x3).setCell ⟨R,4,none⟩ x4).setCell ⟨R,5,none⟩ x5).setCell ⟨R,6,none⟩ x6).setCell ⟨R,7,none⟩ x7).setCell ⟨R,8,none⟩ x8)
  W.cell? ⟨R,0,none⟩=some x0/\W.cell? ⟨R,1,none⟩=some x1/\W.cell? ⟨R,2,none⟩=some x2/\W.cell? ⟨R,3,none⟩=some x3/\W.cell? ⟨R,4,none⟩=some x4/\W.cell? ⟨R,5,none⟩=some x5/\W.cell? ⟨R,6,none⟩=some x6/\W.cell? ⟨R,7,none⟩=some x7/\W.cell? ⟨R,8,none⟩=some x8/\Ext w W:=by
 intro W;have e:W=a.setCells R 0 [x0,x1,x2,x3,x4,x5,x6,x7,x8]:=rfl;have h:=World.cell?_setCells_in R [x0,x1,x2,x3,x4,x5,x6,x7,x8] 0 a (by intro j hj;simpa using hc j (by simpa using hj));rw [e];refine ⟨?_,?_,?_,?_,?_,?_,?_,?_,?_,ext_setCellsR (a:=a) hR _ _ _ hx⟩
 ·simpa using h 0 sp
 ·simpa using h 1 sp
 ·simpa using h 2 sp
 ·simpa using h 3 sp
 ·simpa using h 4 sp
 ·simpa using h 5 sp
 ·simpa using h 6 sp
 ·simpa using h 7 sp
 ·simpa using h 8 sp
theorem wN {w w':World} {b:Nat} {o:Obj} (h:w.heap[b]? = some o) (x:Ext w w'):w'.heap[b]? = some o:=by
 have hb:b<w.heap.size:=by
  by_cases hb:b<w.heap.size
  ·exact hb
  ·rw [Array.getElem?_eq_none (Nat.le_of_not_lt hb)] at h;cases h
 obtain ⟨o',n,rfl⟩:=x;rw [dB w o' n b hb];exact h
theorem rsense_any {rb:Nat} {p:dA} {w:World} (h:bB w rb p) (hp:p.WF):
  Calls prog 23 #[.pointer (some ⟨rb,0,none⟩)] w fun r w'=>r = .returned (senseA p)/\Ext w w':=by
 obtain ⟨c0,c1,c2,c3,c4,c5,c6,c7,c8⟩:=h.cells;have hb:=cA c1;have HP:=aA h;have h3:=hp.ex1;have h4:=hp.ex2;have i1:IntKind.i64.wrap (p.ext - 1)=p.ext - 1:=IntWalk.i64_in _ om;have i2:IntKind.i64.wrap (p.ext+1)=p.ext+1:=IntWalk.i64_in _ om;clear h;go_enter func23,ntmps23
 go_upto_region 1 with fail
 go_region_held3 (fun w'=>w'.cell? ⟨rb,1,none⟩=some (vi p.height)/\w'.cell? ⟨rb,2,none⟩=some (vi p.ext)/\w'.cell? ⟨rb,3,none⟩=some (.bool p.door)/\w'.cell? ⟨rb,4,none⟩=some (vi p.people)/\w'.cell? ⟨rb,5,none⟩=some (vi p.lift)/\w'.cell? ⟨rb,6,none⟩=some (vi p.bay)) (first|go_keep|((try dsimp only);(repeat' apply And.intro) <;> (simp (disch:=(first|assumption|(simp;done)|(simp;omega))) [cB,go_sem];done))) (first|fail)
 go_upto_region 2 with fail
 generalize hW:World.drew _=w1;have hx:Ext w w1:=xQ hW
 have hblk:w1.heap[w.heap.size+1]? = some (.cells #[vi p.height,vi p.ext,.bool p.door,vi p.people,vi p.lift,vi p.bay,.bool false,.bool false,.bool false] 69 (0,0)):=by rw [<-hW];exact pA _ _ _ sp
 have q0:∀ j,j<9->(w1.cell? ⟨w.heap.size,j,none⟩).isSome=true:=by
  intro j hj
  have:j=0\/j=1\/j=2\/j=3\/j=4\/j=5\/j=6\/j=7\/j=8:=om
  rcases this with rfl|rfl|rfl|rfl|rfl|rfl|rfl|rfl|rfl <;> (rw [<-hW];simp [go_sem])
 have qf:∀ j,w1.frozen? ⟨w.heap.size,j,none⟩=false:=by intro j;rw [<-hW];simp [go_sem]
 generalize hD:w.heap.size+1=D at *
 have hDw:w.heap.size<D:=om
 have HX1:=aA hx;have HK1:Hid (fA (Is D) w1 w1):=fA.refl _ _;have HQ1:=aA q0;have HF1:=aA qf;clear hW hD c0 c1 c3 c4 c5 c6 c7 c8 q0 qf hx;have cD1:=tA hblk (i:=6) rfl;have fD1:=vA hblk;have hr1:=HP.out.ext (HK1.out.widen HX1.out om);have ce1:=hr1.cells.2.2.1;have ze1:=cA ce1;have zD1:=cA cD1;have HR1:=aA hr1;clear hr1
 go_upto_region 3 with (go_at_call 72;with_reducible refine mo (iK HR1.out hp _ om om) fun o1 n1=>?_)
 generalize hW:World.setCell _ _ _=w2
 have hblk2:w2.heap[D]? = some (.cells #[vi p.height,vi p.ext,.bool p.door,vi p.people,vi p.lift,vi p.bay,.bool (p.full p.ext),.bool false,.bool false] 69 (0,0)):=by
  rw [<-hW,tB (wN hblk (x:=(by exact eX)))];rfl
 have HK2:Hid (fA (Is D) w1 w2):=by
  rw [<-hW];exact fA.put (HK1.out.trans (fA.of_ext eX)) _ _
 clear hW cD1 fD1 ce1 ze1 zD1 hblk;have hblk:=hblk2;clear hblk2;have cD2:=tA hblk (i:=7) rfl;have fD2:=vA hblk;have hr2:=HP.out.ext (HK2.out.widen HX1.out om);have ce2:=hr2.cells.2.2.1;have ze2:=cA ce2;have zD2:=cA cD2;have HR2:=aA hr2;clear hr2
 go_upto_region 4 with (go_at_call 72;with_reducible refine mo (iK HR2.out hp _ om om) fun o1 n1=>?_)
 generalize hW:World.setCell _ _ _=w3
 have hblk3:w3.heap[D]? = some (.cells #[vi p.height,vi p.ext,.bool p.door,vi p.people,vi p.lift,vi p.bay,.bool (p.full p.ext),.bool (p.full (p.ext - 1)),.bool false] 69 (0,0)):=by
  rw [<-hW,tB (wN hblk (x:=(by exact eX)))];rfl
 have HK3:Hid (fA (Is D) w1 w3):=by
  rw [<-hW];exact fA.put (HK2.out.trans (fA.of_ext eX)) _ _
 clear hW cD2 fD2 ce2 ze2 zD2 hblk;have hblk:=hblk3;clear hblk3;have cD3:=tA hblk (i:=8) rfl;have fD3:=vA hblk;have hr3:=HP.out.ext (HK3.out.widen HX1.out om);have ce3:=hr3.cells.2.2.1;have ze3:=cA ce3;have zD3:=cA cD3;have HR3:=aA hr3;clear hr3
 go_upto_region 5 with (go_at_call 72;with_reducible refine mo (iK HR3.out hp _ om om) fun o1 n1=>?_)
 generalize hW:World.setCell _ _ _=w4
 have hblk4:w4.heap[D]? = some (.cells #[vi p.height,vi p.ext,.bool p.door,vi p.people,vi p.lift,vi p.bay,.bool (p.full p.ext),.bool (p.full (p.ext - 1)),.bool (p.full (p.ext+1))] 69 (0,0)):=by
  rw [<-hW,tB (wN hblk (x:=(by exact eX)))];rfl
 have HK4:Hid (fA (Is D) w1 w4):=by
  rw [<-hW];exact fA.put (HK3.out.trans (fA.of_ext eX)) _ _
 clear hW cD3 fD3 ce3 ze3 zD3 hblk;have hblk:=hblk4;clear hblk4;have e0:=tA hblk (i:=0) rfl;have e1:=tA hblk (i:=1) rfl;have e2:=tA hblk (i:=2) rfl;have e3:=tA hblk (i:=3) rfl;have e4:=tA hblk (i:=4) rfl;have e5:=tA hblk (i:=5) rfl;have e6:=tA hblk (i:=6) rfl;have e7:=tA hblk (i:=7) rfl;have e8:=tA hblk (i:=8) rfl;have zD:=cA e0;have zk:=HK4.out.size
 have q0:∀ j,j<9->(w4.cell? ⟨w.heap.size,j,none⟩).isSome=true:=by
  intro j hj;obtain ⟨v,hv⟩:=Option.isSome_iff_exists.1 (HQ1.out j hj);rw [HK4.out.cell hv om];rfl
 have hR1:w.heap.size<w1.heap.size:=by
  obtain ⟨v,hv⟩:=Option.isSome_iff_exists.1 (HQ1.out 0 dc);exact cA hv
 have qf:∀ j,w4.frozen? ⟨w.heap.size,j,none⟩=false:=fun j=>(World.frozen?_of_block (HK4.out.other (k:=w.heap.size) hR1 om)).trans (HF1.out j)
 have y0:=qf 0;obtain ⟨u0,t0⟩:=Option.isSome_iff_exists.1 (q0 0 dc);have y1:=qf 1;obtain ⟨u1,t1⟩:=Option.isSome_iff_exists.1 (q0 1 dc);have y2:=qf 2;obtain ⟨u2,t2⟩:=Option.isSome_iff_exists.1 (q0 2 dc);have y3:=qf 3;obtain ⟨u3,t3⟩:=Option.isSome_iff_exists.1 (q0 3 dc);have y4:=qf 4;obtain ⟨u4,t4⟩:=Option.isSome_iff_exists.1 (q0 4 dc);have y5:=qf 5;obtain ⟨u5,t5⟩:=Option.isSome_iff_exists.1 (q0 5 dc);have y6:=qf 6;obtain ⟨u6,t6⟩:=Option.isSome_iff_exists.1 (q0 6 dc);have y7:=qf 7;obtain ⟨u7,t7⟩:=Option.isSome_iff_exists.1 (q0 7 dc);have y8:=qf 8;obtain ⟨u8,t8⟩:=Option.isSome_iff_exists.1 (q0 8 dc);have HQ4:=aA q0;have HX4:=aA (HK4.out.widen HX1.out om);clear q0 qf hblk;go_wp2;obtain ⟨p0,p1,p2,p3,p4,p5,p6,p7,p8,px⟩:=put9 (w:=w) (a:=w4) (R:=w.heap.size) (x0:=vi p.height) (x1:=vi p.ext) (x2:=.bool p.door) (x3:=vi p.people) (x4:=vi p.lift) (x5:=vi p.bay) (x6:=.bool (p.full p.ext)) (x7:=.bool (p.full (p.ext - 1))) (x8:=.bool (p.full (p.ext+1))) HX4.out (Nat.le_refl _) HQ4.out;exact bodyPost_ret (v:=senseA p) (by simp [results,results23,go_sem,p0,p1,p2,p3,p4,p5,p6,p7,p8]) rfl ⟨rfl,px⟩
