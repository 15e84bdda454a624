import Derived.Test.YtplomeacjbkgnabGreatDoorZ33
import Derived.Test.YtplomeacjbkgnabGreatDoorZ23
set_option linter.all false
set_option maxRecDepth 100000
set_option maxHeartbeats 16000000
namespace Go.Proofs.YtplomeacjbkgnabGreatDoor
open Go.RowKit
abbrev ractA (x:RAct):Value:=.agg #[.string x.kind,vi x.a,vi x.b,vi x.car.id,vi x.car.size.long,vi x.car.size.high,vi x.car.size.heavy,.string x.s,.int .u64 x.k,vi x.last,.slice x.a1 x.n1 x.c1,.slice x.a2 x.n2 x.c2]
structure pJ (w:World) (pb mb rb:Nat) (p:Ch.Plant):Prop where
 a:tA w pb mb p
 b:vA w rb p
 n1:rb≠pb
 n2:rb≠mb
abbrev Own3 (pb mb rb:Nat):Nat→Prop:=fun k=>Own pb mb k∨k=rb
theorem pJ.ext {w w':World} {pb mb rb:Nat} {p:Ch.Plant} (h:pJ w pb mb rb p) (x:Ext w w'):pJ w' pb mb rb p:=⟨h.a.ext x,h.b.ext x,h.n1,h.n2⟩
theorem pJ.left {w w':World} {pb mb rb:Nat} {p:Ch.Plant} (h:pJ w pb mb rb p) (k:mA (Own pb mb) w w'):vA w' rb p:=
 h.b.kept k (fun e=>by rcases e with e|e;exact h.n1 e;exact h.n2 e)
theorem tA.kept {S:Nat→Prop} {w w':World} {pb mb:Nat} {p:Ch.Plant} (h:tA w pb mb p) (k:mA S w w') (n1:¬ S pb) (n2:¬ S mb):tA w' pb mb p:=
 h.same (k.block pb h.lt.1 n1) (k.block mb h.lt.2 n2)
def pI (pb mb rb:Nat) (w:World) (p':Ch.Plant) (r:Value) (e:Ending) (w':World):Prop:=e = .returned r∧pJ w' pb mb rb p'∧mA (Own3 pb mb rb) w w'
theorem mA.widen' {S T:Nat→Prop} {w w':World} (h:mA S w w') (hs:∀ i,S i→T i):mA T w w':=⟨h.os,h.tape,h.output,h.size,fun k hk hn=>h.block k hk (fun e=>hn (hs k e))⟩
theorem rH {w w1 w2:World} {pb mb rb:Nat} {p q:Ch.Plant} (h:pJ w pb mb rb p) (ha:tA w1 pb mb q) (k1:mA (Own pb mb) w w1) (hb:vA w2 rb q) (k2:mA (Is rb) w1 w2):pJ w2 pb mb rb q∧mA (Own3 pb mb rb) w w2:=
 ⟨⟨ha.kept k2 (fun e=>h.n1 e.symm) (fun e=>h.n2 e.symm),hb,h.n1,h.n2⟩,(k1.widen' (fun _ e=>Or.inl e)).trans (k2.widen' (fun _ e=>Or.inr e))⟩
theorem walk_nn (p:Ch.Plant) (n:Int):0≤(p.walk n).2:=by unfold Ch.Plant.walk;split <;> (try split) <;> simp
theorem arrive_nn (p:Ch.Plant) (n:Int):0≤(p.arrive n).2:=by unfold Ch.Plant.arrive;split <;> (try split) <;> (try split) <;> simp
theorem leave_nn (p:Ch.Plant):0≤p.leave.2.2:=by unfold Ch.Plant.leave;split <;> simp
theorem stall_nn (p:Ch.Plant) (n:Int):0≤(p.setStall n).2:=by unfold Ch.Plant.setStall;split <;> simp
theorem loutside_nostep {pb mb rb:Nat} {p:Ch.Plant} {w:World} (h:pJ w pb mb rb p) (hp:p.WF) (a b i l g e k t:Int) (s:ByteArray) (a1 a2:Option Addr) (n1 c1 n2 c2:Nat) (hs:s.size≤maxLen) (hn:decide (0<s.size)=false):
  Calls Tryz.prog 19 #[.pointer (some ⟨pb,0,none⟩),.pointer (some ⟨rb,0,none⟩),.agg #[.string Ch.kStep,vi a,vi b,vi i,vi l,vi g,vi e,.string s,.int .u64 k,vi t,.slice a1 n1 c1,.slice a2 n2 c2]] w (pI pb mb rb w p (.bool true)):=by
 have HB:=aA h
 have H45:Hid (p.step 45=p):=by unfold Hid Ch.Plant.step;rw [if_neg (by simp)];rfl
 unfold maxLen at hs;unfold Ch.kStep;clear h;go_enter Tryz.func19,Tryz.ntmps19
 go_wp2_with (first
  | (go_at_call 56;(with_reducible refine (step_any (HB.out.a.ext eX) hp 45).mono ?_);rintro e wa ⟨rfl,hqa,hka⟩;have HQA:=aA hqa;have HKA:=aA ((mA.of_ext (S:=Own pb mb) (w:=w) eX).trans hka);clear hqa hka)
  | (go_at_call 57;(with_reducible refine (rstep_any ((HB.out.left HKA.out).ext eX) hp 45).mono ?_);rintro e wb ⟨rfl,hqb,hkb⟩;have HQB:=aA hqb;have HKB:=aA ((mA.of_ext (S:=Is rb) (w:=wa) eX).trans hkb);clear hqb hkb))
 go_ret;rw [H45.out] at HQA HQB;obtain ⟨hx,hy⟩:=rH HB.out HQA.out HKA.out HQB.out HKB.out;exact ⟨rfl,hx.ext eX,hy.ext eX⟩
theorem loutside_step {pb mb rb:Nat} {p:Ch.Plant} {w:World} (h:pJ w pb mb rb p) (hp:p.WF) (a b i l g e k t:Int) (s:ByteArray) (a1 a2:Option Addr) (n1 c1 n2 c2:Nat) (hs:s.size≤maxLen) (hn:0<s.size):
  Calls Tryz.prog 19 #[.pointer (some ⟨pb,0,none⟩),.pointer (some ⟨rb,0,none⟩),.agg #[.string Ch.kStep,vi a,vi b,vi i,vi l,vi g,vi e,.string s,.int .u64 k,vi t,.slice a1 n1 c1,.slice a2 n2 c2]] w (pI pb mb rb w (p.step (s[0].toNat:Int)) (.bool true)):=by
 have HB:=aA h;unfold maxLen at hs;unfold Ch.kStep;clear h;go_enter Tryz.func19,Tryz.ntmps19
 go_wp2_with (first
  | (go_at_call 56;(with_reducible refine (step_any (HB.out.a.ext eX) hp _).mono ?_);rintro e wa ⟨rfl,hqa,hka⟩;have HQA:=aA hqa;have HKA:=aA ((mA.of_ext (S:=Own pb mb) (w:=w) eX).trans hka);clear hqa hka)
  | (go_at_call 57;(with_reducible refine (rstep_any ((HB.out.left HKA.out).ext eX) hp _).mono ?_);rintro e wb ⟨rfl,hqb,hkb⟩;have HQB:=aA hqb;have HKB:=aA ((mA.of_ext (S:=Is rb) (w:=wa) eX).trans hkb);clear hqb hkb))
 go_ret;obtain ⟨hx,hy⟩:=rH HB.out HQA.out HKA.out HQB.out HKB.out;exact ⟨rfl,hx.ext eX,hy.ext eX⟩
theorem loutside_walk {pb mb rb:Nat} {p:Ch.Plant} {w:World} (h:pJ w pb mb rb p) (hp:p.WF) (a b i l g e k t:Int) (s:ByteArray) (a1 a2:Option Addr) (n1 c1 n2 c2:Nat):
  Calls Tryz.prog 19 #[.pointer (some ⟨pb,0,none⟩),.pointer (some ⟨rb,0,none⟩),.agg #[.string Ch.kWalk,vi a,vi b,vi i,vi l,vi g,vi e,.string s,.int .u64 k,vi t,.slice a1 n1 c1,.slice a2 n2 c2]] w (pI pb mb rb w ((p.walk a).1) (.bool true)):=by
 have HB:=aA h;unfold Ch.kWalk;clear h;go_enter Tryz.func19,Tryz.ntmps19
 go_upto_region 10 with fail
 generalize hW:World.alloc _ _=w0;have a1c:w0.cell? ⟨w.heap.size,1,none⟩=some (vi a):=cQ hW;have hx0:Ext w w0:=xQ hW;have hlt1:=HB.out.a.lt;have hlt2:=HB.out.b.lt;have HB0:=aA (HB.out.ext hx0);have HX0:=aA hx0
 have NA:Hid (¬ Own pb mb w.heap.size):=by rintro (e|e) <;> omega
 have NB:Hid (¬ Is rb w.heap.size):=by intro e;have:w.heap.size=rb:=e;omega
 have zA:=dA a1c;generalize w.heap.size=AA at *;clear hW hx0
 go_region_held3 (fun w'=>w'.cell? ⟨AA,1,none⟩=some (vi a))
  (first|((try dsimp only);first|assumption|exact xC (w:=w0)|exact xC (w:=wb)))
  (first
  | (go_at_call 58;refine (walk_any (HB0.out.a.ext eX) hp _).mono ?_;rintro e wa ⟨rfl,hqa,hka⟩;have HQA:=aA hqa;have HKA:=aA ((mA.of_ext (S:=Own pb mb) (w:=w0) eX).trans hka);have ra:=gB hka (eA (w:=w0) eX a1c) NA.out;clear hqa hka)
  | (go_at_call 59;refine (rwalk_any ((HB0.out.left HKA.out).ext eX) hp _).mono ?_;rintro e wb ⟨rfl,hqb,hkb⟩;have HQB:=aA hqb;have HKB:=aA ((mA.of_ext (S:=Is rb) (w:=wa) eX).trans hkb);have rbc:=gB hkb ra NB.out;clear hqb hkb)
  | (go_at_call 12;refine (same_yes _ _ (walk_nn _ _)).mono ?_;rintro e w7 ⟨rfl,o7,n7,rfl⟩))
 all_goals
  go_wp2;go_ret;obtain ⟨hx,hy⟩:=rH HB0.out HQA.out HKA.out HQB.out HKB.out;exact ⟨rfl,hx.ext eX,((mA.of_ext HX0.out).trans hy).ext eX⟩
theorem loutside_arrive {pb mb rb:Nat} {p:Ch.Plant} {w:World} (h:pJ w pb mb rb p) (hp:p.WF) (a b i l g e k t:Int) (s:ByteArray) (a1 a2:Option Addr) (n1 c1 n2 c2:Nat):
  Calls Tryz.prog 19 #[.pointer (some ⟨pb,0,none⟩),.pointer (some ⟨rb,0,none⟩),.agg #[.string Ch.kArrive,vi a,vi b,vi i,vi l,vi g,vi e,.string s,.int .u64 k,vi t,.slice a1 n1 c1,.slice a2 n2 c2]] w (pI pb mb rb w ((p.arrive a).1) (.bool true)):=by
 have HB:=aA h;unfold Ch.kArrive;clear h;go_enter Tryz.func19,Tryz.ntmps19
 go_upto_region 12 with fail
 generalize hW:World.alloc _ _=w0;have a1c:w0.cell? ⟨w.heap.size,1,none⟩=some (vi a):=cQ hW;have hx0:Ext w w0:=xQ hW;have hlt1:=HB.out.a.lt;have hlt2:=HB.out.b.lt;have HB0:=aA (HB.out.ext hx0);have HX0:=aA hx0
 have NA:Hid (¬ Own pb mb w.heap.size):=by rintro (e|e) <;> omega
 have NB:Hid (¬ Is rb w.heap.size):=by intro e;have:w.heap.size=rb:=e;omega
 have zA:=dA a1c;generalize w.heap.size=AA at *;clear hW hx0
 go_region_held3 (fun w'=>w'.cell? ⟨AA,1,none⟩=some (vi a))
  (first|((try dsimp only);first|assumption|exact xC (w:=w0)|exact xC (w:=wb)))
  (first
  | (go_at_call 34;refine (arrive_any (HB0.out.a.ext eX) hp _).mono ?_;rintro e wa ⟨rfl,hqa,hka⟩;have HQA:=aA hqa;have HKA:=aA ((mA.of_ext (S:=Own pb mb) (w:=w0) eX).trans hka);have ra:=gB hka (eA (w:=w0) eX a1c) NA.out;clear hqa hka)
  | (go_at_call 60;refine (rarrive_any ((HB0.out.left HKA.out).ext eX) hp _).mono ?_;rintro e wb ⟨rfl,hqb,hkb⟩;have HQB:=aA hqb;have HKB:=aA ((mA.of_ext (S:=Is rb) (w:=wa) eX).trans hkb);have rbc:=gB hkb ra NB.out;clear hqb hkb)
  | (go_at_call 12;refine (same_yes _ _ (arrive_nn _ _)).mono ?_;rintro e w7 ⟨rfl,o7,n7,rfl⟩))
 all_goals
  go_wp2;go_ret;obtain ⟨hx,hy⟩:=rH HB0.out HQA.out HKA.out HQB.out HKB.out;exact ⟨rfl,hx.ext eX,((mA.of_ext HX0.out).trans hy).ext eX⟩
theorem loutside_leave {pb mb rb:Nat} {p:Ch.Plant} {w:World} (h:pJ w pb mb rb p) (hp:p.WF) (a b i l g e k t:Int) (s:ByteArray) (a1 a2:Option Addr) (n1 c1 n2 c2:Nat):
  Calls Tryz.prog 19 #[.pointer (some ⟨pb,0,none⟩),.pointer (some ⟨rb,0,none⟩),.agg #[.string Ch.kLeave,vi a,vi b,vi i,vi l,vi g,vi e,.string s,.int .u64 k,vi t,.slice a1 n1 c1,.slice a2 n2 c2]] w (pI pb mb rb w (p.leave.1) (.bool true)):=by
 have HB:=aA h;unfold Ch.kLeave;clear h;go_enter Tryz.func19,Tryz.ntmps19
 go_wp2_with (first
  | (go_at_call 61;(with_reducible refine (leave_any (HB.out.a.ext eX)).mono ?_);rintro e wa ⟨rfl,hqa,hka⟩;have HQA:=aA hqa;have HKA:=aA ((mA.of_ext (S:=Own pb mb) (w:=w) eX).trans hka);clear hqa hka)
  | (go_at_call 62;(with_reducible refine (rleave_any ((HB.out.left HKA.out).ext eX)).mono ?_);rintro e wb ⟨rfl,hqb,hkb⟩;have HQB:=aA hqb;have HKB:=aA ((mA.of_ext (S:=Is rb) (w:=wa) eX).trans hkb);clear hqb hkb)
  | (go_at_call 12;(with_reducible refine (same_yes _ _ (leave_nn _)).mono ?_);rintro e w1 ⟨rfl,o1,n1,rfl⟩))
 go_ret;obtain ⟨hx,hy⟩:=rH HB.out HQA.out HKA.out HQB.out HKB.out;exact ⟨rfl,hx.ext eX,hy.ext eX⟩
theorem loutside_stall {pb mb rb:Nat} {p:Ch.Plant} {w:World} (h:pJ w pb mb rb p) (hp:p.WF) (a b i l g e k t:Int) (s:ByteArray) (a1 a2:Option Addr) (n1 c1 n2 c2:Nat):
  Calls Tryz.prog 19 #[.pointer (some ⟨pb,0,none⟩),.pointer (some ⟨rb,0,none⟩),.agg #[.string Ch.kStall,vi a,vi b,vi i,vi l,vi g,vi e,.string s,.int .u64 k,vi t,.slice a1 n1 c1,.slice a2 n2 c2]] w (pI pb mb rb w ((p.setStall a).1) (.bool true)):=by
 have HB:=aA h;unfold Ch.kStall;clear h;go_enter Tryz.func19,Tryz.ntmps19
 go_upto_region 18 with fail
 generalize hW:World.alloc _ _=w0;have a1c:w0.cell? ⟨w.heap.size,1,none⟩=some (vi a):=cQ hW;have hx0:Ext w w0:=xQ hW;have hlt1:=HB.out.a.lt;have hlt2:=HB.out.b.lt;have HB0:=aA (HB.out.ext hx0);have HX0:=aA hx0
 have NA:Hid (¬ Own pb mb w.heap.size):=by rintro (e|e) <;> omega
 have NB:Hid (¬ Is rb w.heap.size):=by intro e;have:w.heap.size=rb:=e;omega
 have zA:=dA a1c;generalize w.heap.size=AA at *;clear hW hx0
 go_region_held3 (fun w'=>w'.cell? ⟨AA,1,none⟩=some (vi a))
  (first|((try dsimp only);first|assumption|exact xC (w:=w0)|exact xC (w:=wb)))
  (first
  | (go_at_call 63;refine (stall_any (HB0.out.a.ext eX) _).mono ?_;rintro e wa ⟨rfl,hqa,hka⟩;have HQA:=aA hqa;have HKA:=aA ((mA.of_ext (S:=Own pb mb) (w:=w0) eX).trans hka);have ra:=gB hka (eA (w:=w0) eX a1c) NA.out;clear hqa hka)
  | (go_at_call 64;refine (rstall_any ((HB0.out.left HKA.out).ext eX) _).mono ?_;rintro e wb ⟨rfl,hqb,hkb⟩;have HQB:=aA hqb;have HKB:=aA ((mA.of_ext (S:=Is rb) (w:=wa) eX).trans hkb);have rbc:=gB hkb ra NB.out;clear hqb hkb)
  | (go_at_call 12;refine (same_yes _ _ (stall_nn _ _)).mono ?_;rintro e w7 ⟨rfl,o7,n7,rfl⟩))
 all_goals
  go_wp2;go_ret;obtain ⟨hx,hy⟩:=rH HB0.out HQA.out HKA.out HQB.out HKB.out;exact ⟨rfl,hx.ext eX,((mA.of_ext HX0.out).trans hy).ext eX⟩
theorem loutside_other {pb mb rb:Nat} {p:Ch.Plant} {w:World} (h:pJ w pb mb rb p) (hp:p.WF) (a b i l g e k t:Int) (s:ByteArray) (a1 a2:Option Addr) (n1 c1 n2 c2:Nat) (kd:ByteArray) (k1:kd≠Ch.kStep) (k2:kd≠Ch.kWalk) (k3:kd≠Ch.kArrive) (k4:kd≠Ch.kLeave) (k5:kd≠Ch.kStall):
  Calls Tryz.prog 19 #[.pointer (some ⟨pb,0,none⟩),.pointer (some ⟨rb,0,none⟩),.agg #[.string kd,vi a,vi b,vi i,vi l,vi g,vi e,.string s,.int .u64 k,vi t,.slice a1 n1 c1,.slice a2 n2 c2]] w (pI pb mb rb w p (.bool true)):=by
 have HB:=aA h;have q1:(kd.toList==[115,116,101,112])=false:=str_ne k1;have q2:(kd.toList==[119,97,108,107])=false:=str_ne k2;have q3:(kd.toList==[97,114,114,105,118,101])=false:=str_ne k3;have q4:(kd.toList==[108,101,97,118,101])=false:=str_ne k4;have q5:(kd.toList==[115,116,97,108,108])=false:=str_ne k5;clear k1 k2 k3 k4 k5;clear h;go_enter Tryz.func19,Tryz.ntmps19;go_wp2_with fail;go_ret;exact ⟨rfl,HB.out.ext eX,mA.of_ext eX⟩
theorem byte0 {s:ByteArray} {c:Int} (h:s.data.toList.head?.map (fun c:UInt8=>(c.toNat:Int))=some c):0<s.size∧∃ h0:0<s.size,(s[0].toNat:Int)=c:=by
 have hz:0<s.size:=by
  by_cases hz:0<s.size
  ·exact hz
  ·have:s.data.toList=[]:=List.eq_nil_of_length_eq_zero (by simpa using hz)
   rw [this] at h;cases h
 refine ⟨hz,hz,?_⟩
 have:s.data.toList.head? = some s[0]:=by
  rw [List.head?_eq_getElem?,List.getElem?_eq_getElem (by simpa using hz)];rfl
 rw [this] at h
 simpa using h
theorem first_some (x:RAct) {c:Int} (h:x.act.first=some c):∃ hn:0<x.s.size,(x.s[0].toNat:Int)=c:=(byte0 h).2
theorem first_none (x:RAct) (h:x.act.first=none):decide (0<x.s.size)=false:=by
 simp only [Ch.Act.first,Option.map_eq_none_iff,List.head?_eq_none_iff] at h;have:x.act.s=x.s:=rfl;rw [this] at h
 have hz:x.s.size=0:=by
  have:x.s.data.toList.length=0:=by rw [h];rfl
  simpa using this
 simp [hz]
theorem loutside_any {pb mb rb:Nat} {p:Ch.Plant} {w:World} (h:pJ w pb mb rb p) (hp:p.WF) (x:RAct) (hg:x.Good):
  Calls Tryz.prog 19 #[.pointer (some ⟨pb,0,none⟩),.pointer (some ⟨rb,0,none⟩),ractA x] w (pI pb mb rb w (p.outside x.act) (.bool true)):=by
 unfold Ch.Plant.outside
 by_cases k1:x.kind=Ch.kStep
 ·rw [if_pos (show x.act.kind=Ch.kStep from k1)]
  cases hf:x.act.first with
  | none=>
   unfold ractA;rw [k1];exact loutside_nostep h hp _ _ _ _ _ _ _ _ _ _ _ _ _ _ _ hg.s (first_none x hf)
  | some c=>
   obtain ⟨hn,hc⟩:=first_some x hf;unfold ractA;rw [k1,←hc];exact loutside_step h hp _ _ _ _ _ _ _ _ _ _ _ _ _ _ _ hg.s hn
 rw [if_neg (show ¬ x.act.kind=Ch.kStep from k1)]
 by_cases k2:x.kind=Ch.kWalk
 ·rw [if_pos (show x.act.kind=Ch.kWalk from k2)]
  unfold ractA;rw [k2];exact loutside_walk h hp _ _ _ _ _ _ _ _ _ _ _ _ _ _ _
 rw [if_neg (show ¬ x.act.kind=Ch.kWalk from k2)]
 by_cases k3:x.kind=Ch.kArrive
 ·rw [if_pos (show x.act.kind=Ch.kArrive from k3)]
  unfold ractA;rw [k3];exact loutside_arrive h hp _ _ _ _ _ _ _ _ _ _ _ _ _ _ _
 rw [if_neg (show ¬ x.act.kind=Ch.kArrive from k3)]
 by_cases k4:x.kind=Ch.kLeave
 ·rw [if_pos (show x.act.kind=Ch.kLeave from k4)]
  unfold ractA;rw [k4];exact loutside_leave h hp _ _ _ _ _ _ _ _ _ _ _ _ _ _ _
 rw [if_neg (show ¬ x.act.kind=Ch.kLeave from k4)]
 by_cases k5:x.kind=Ch.kStall
 ·rw [if_pos (show x.act.kind=Ch.kStall from k5)]
  unfold ractA;rw [k5];exact loutside_stall h hp _ _ _ _ _ _ _ _ _ _ _ _ _ _ _
 rw [if_neg (show ¬ x.act.kind=Ch.kStall from k5)];exact loutside_other h hp _ _ _ _ _ _ _ _ _ _ _ _ _ _ _ _ k1 k2 k3 k4 k5
theorem neqSensed (w:World) (p:Ch.Plant):(Go.binOp .neq 69 (qI p) (qI p)).run Tryz.prog w = .ok (.bool false) w:=by
 refine gF w (r:=true) ?_
 have h:=cI (P:=Tryz.prog) (r:=p.height==p.height&&(p.ext==p.ext&&(p.door==p.door&&(p.people==p.people&&(p.lift==p.lift&&(p.bay==p.bay&&(p.full p.ext==p.full p.ext&&(p.full (p.ext - 1)==p.full (p.ext - 1)&&(p.full (p.ext+1)==p.full (p.ext+1)&&true)))))))))
  (xs:=#[vi p.height,vi p.ext,.bool p.door,vi p.people,vi p.lift,vi p.bay,.bool (p.full p.ext),.bool (p.full (p.ext - 1)),.bool (p.full (p.ext+1))]) (ys:=#[vi p.height,vi p.ext,.bool p.door,vi p.people,vi p.lift,vi p.bay,.bool (p.full p.ext),.bool (p.full (p.ext - 1)),.bool (p.full (p.ext+1))]) w (d:=9999) (t:=69)
  [(true,3,0),(true,3,1),(true,4,2),(true,3,3),(true,3,4),(true,3,5),(true,4,6),(true,4,7),(true,4,8)] kR kR kR
  (fD Tryz.underlying3 kR kR (fD Tryz.underlying3 kR kR (eqShapeB Tryz.underlying4 kR kR (fD Tryz.underlying3 kR kR (fD Tryz.underlying3 kR kR (fD Tryz.underlying3 kR kR (eqShapeB Tryz.underlying4 kR kR (eqShapeB Tryz.underlying4 kR kR (eqShapeB Tryz.underlying4 kR kR (cF w))))))))))
 simpa using h
theorem asPlant_any {pb mb rb:Nat} {p:Ch.Plant} {w:World} (h:pJ w pb mb rb p) (hp:p.WF):
  Calls Tryz.prog 26 #[.pointer (some ⟨pb,0,none⟩),.pointer (some ⟨rb,0,none⟩)] w fun e w'=>e = .returned (.bool true)∧Ext w w':=by
 have HB:=aA h
 have hqs:=fun w=>neqSensed w p
 obtain ⟨c0,c1,c2,c3,c4,c5,c6,c7,c8⟩:=h.b.cells;have hlt:=h.b.lt;clear c0 c1 c2 c3 c4 c5 c6 c7 h;go_enter Tryz.func26,Tryz.ntmps26;go_wp2
 (refine fA kR kR ?_;(repeat (first|go_big_quiet_step ((first|(intro _;go_at_call 22;exact qC (sense_any (HB.out.a.ext eX) hp))|(intro _;go_at_call 23;exact qC (rsense_any (HB.out.b.ext eX) hp))|(intro _;go_at_call 36;exact qC (hurt_any (HB.out.a.ext eX)))))|quiet_step (fail)));refine wpQuiet_nil ?_;rintro _ ⟨oq,nq,rfl⟩)
 go_wp2
 go_loopw [5] (fun i wr=>∃ n:Int,0≤n∧n≤6∧i = .int .i64 n∧Ext w wr) (fun i _=>(6 - intOf i).toNat)
 case atStart=>exact ⟨0,by omega,by omega,rfl,eX⟩
 case round=>
  obtain ⟨n,n0,n6,rfl,hxr⟩:=hrel;have HXR:=aA hxr;clear hxr
  by_cases hn:n≤5
  ·go_wp2
   go_loopw [6] (fun i wr=>∃ s:Int,-1≤s∧s≤3∧i = .int .i64 s∧Ext w wr) (fun i _=>(3 - intOf i).toNat)
   case atStart=>exact ⟨-1,by omega,by omega,rfl,HXR.out.trans eX⟩
   case round=>
    obtain ⟨s,s0,s3,rfl,hxr⟩:=hrel;have HXR:=aA hxr;clear hxr
    by_cases hs:s<3
    ·go_wp2
     go_loopw [7] (fun i wr=>∃ d:Int,-1≤d∧d≤3∧i = .int .i64 d∧Ext w wr) (fun i _=>(3 - intOf i).toNat)
     case atStart=>exact ⟨-1,by omega,by omega,rfl,HXR.out.trans eX⟩
     case round=>
      obtain ⟨d,d0,d3,rfl,hxr⟩:=hrel;have HXR:=aA hxr;have HBR:=aA (HB.out.ext hxr);clear hxr
      by_cases hd:d<3
      ·go_upto_region 13 with fail
       (refine fA kR kR ?_;(repeat (first|go_big_quiet_step ((first|(intro _;go_at_call 35;exact qC (at_any (HBR.out.a.ext eX) n s d))|(intro _;go_at_call 74;exact qC (rat_any (HBR.out.b.ext eX) hp n s d))))|quiet_step (fail)));refine wpQuiet_nil ?_;rintro _ ⟨oq,nq,rfl⟩)
       go_wp2;go_roundw
       case rel=>first|exact ⟨d+1,by omega,by omega,by go_num,HXR.out.trans eX⟩|(repeat apply Exists.intro;refine ⟨?_,rfl⟩;exact ⟨d+1,by omega,by omega,by go_num,HXR.out.trans eX⟩)
       case measure=>simp [intOf];omega
      ·go_wp2
       go_roundw
       case rel=>first|exact ⟨s+1,by omega,by omega,by go_num,HXR.out.trans eX⟩|(repeat apply Exists.intro;refine ⟨?_,rfl⟩;exact ⟨s+1,by omega,by omega,by go_num,HXR.out.trans eX⟩)
       case measure=>simp [intOf];omega
    ·go_wp2
     go_roundw
     case rel=>first|exact ⟨n+1,by omega,by omega,by go_num,HXR.out.trans eX⟩|(repeat apply Exists.intro;refine ⟨?_,rfl⟩;exact ⟨n+1,by omega,by omega,by go_num,HXR.out.trans eX⟩)
     case measure=>simp [intOf];omega
  ·go_wp2
   go_ret;exact ⟨rfl,HXR.out.trans eX⟩
