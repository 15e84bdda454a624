import Derived.Test.YtplomeacjbkgnaaZ26
import Derived.Test.YtplomeacjbkgnaaZ25
import Derived.Test.YtplomeacjbkgnaaZ32
set_option linter.all false
set_option maxRecDepth 100000
set_option maxHeartbeats 16000000
namespace Go.Proofs.Ytplomeacjbkgnaa
open Go.RowKit
abbrev ractA (x:RAct):Value:=.agg #[.string x.kind,vi x.a,vi x.b,vi x.car.id,vi x.car.size.long,vi x.car.size.high,vi x.car.size.heavy,.string x.s,.int .u64 x.k,vi x.last,.slice x.a1 x.n1 x.c1,.slice x.a2 x.n2 x.c2]
structure Both (w:World) (pb mb rb:Nat) (p:Ch.Plant):Prop where
 a:PlantAt w pb mb p
 b:RPlantAt w rb p
 n1:rb≠pb
 n2:rb≠mb
abbrev Own3 (pb mb rb:Nat):Nat→Prop:=fun k=>Own pb mb k∨k=rb
theorem Both.ext {w w':World} {pb mb rb:Nat} {p:Ch.Plant} (h:Both w pb mb rb p) (x:Ext w w'):Both w' pb mb rb p:=⟨h.a.ext x,h.b.ext x,h.n1,h.n2⟩
theorem Both.left {w w':World} {pb mb rb:Nat} {p:Ch.Plant} (h:Both w pb mb rb p) (k:Kept (Own pb mb) w w'):RPlantAt w' rb p:=
 h.b.kept k (fun e=>by rcases e with e|e;exact h.n1 e;exact h.n2 e)
theorem PlantAt.kept {S:Nat→Prop} {w w':World} {pb mb:Nat} {p:Ch.Plant} (h:PlantAt w pb mb p) (k:Kept S w w') (n1:¬ S pb) (n2:¬ S mb):PlantAt w' pb mb p:=
 h.same (k.block pb h.lt.1 n1) (k.block mb h.lt.2 n2)
def BothDid (pb mb rb:Nat) (w:World) (p':Ch.Plant) (r:Value) (e:Ending) (w':World):Prop:=e = .returned r∧Both w' pb mb rb p'∧Kept (Own3 pb mb rb) w w'
theorem Kept.widen' {S T:Nat→Prop} {w w':World} (h:Kept S w w') (hs:∀ i,S i→T i):Kept T w w':=⟨h.os,h.tape,h.output,h.size,fun k hk hn=>h.block k hk (fun e=>hn (hs k e))⟩
theorem both_done {w w1 w2:World} {pb mb rb:Nat} {p q:Ch.Plant} (h:Both w pb mb rb p) (ha:PlantAt w1 pb mb q) (k1:Kept (Own pb mb) w w1) (hb:RPlantAt w2 rb q) (k2:Kept (Is rb) w1 w2):Both w2 pb mb rb q∧Kept (Own3 pb mb rb) w w2:=
 ⟨⟨ha.kept k2 (fun e=>h.n1 e.symm) (fun e=>h.n2 e.symm),hb,h.n1,h.n2⟩,(k1.widen' (fun _ e=>Or.inl e)).trans (k2.widen' (fun _ e=>Or.inr e))⟩
theorem walk_nn (p:Ch.Plant) (n:Int):0≤(p.walk n).2:=by unfold Ch.Plant.walk;split <;> (try split) <;> simp
theorem arrive_nn (p:Ch.Plant) (n:Int):0≤(p.arrive n).2:=by unfold Ch.Plant.arrive;split <;> (try split) <;> (try split) <;> simp
theorem leave_nn (p:Ch.Plant):0≤p.leave.2.2:=by unfold Ch.Plant.leave;split <;> simp
theorem stall_nn (p:Ch.Plant) (n:Int):0≤(p.setStall n).2:=by unfold Ch.Plant.setStall;split <;> simp
theorem loutside_nostep {pb mb rb:Nat} {p:Ch.Plant} {w:World} (h:Both w pb mb rb p) (hp:p.WF) (a b i l g e k t:Int) (s:ByteArray) (a1 a2:Option Addr) (n1 c1 n2 c2:Nat) (hs:s.size≤maxLen) (hn:decide (0<s.size)=false):
  Calls Try.prog 78 #[.pointer (some ⟨pb,0,none⟩),.pointer (some ⟨rb,0,none⟩),.agg #[.string Ch.kStep,vi a,vi b,vi i,vi l,vi g,vi e,.string s,.int .u64 k,vi t,.slice a1 n1 c1,.slice a2 n2 c2]] w (BothDid pb mb rb w p (.bool true)):=by
 have HB:=Lib.hid h
 have H45:Hid (p.step 45=p):=by unfold Hid Ch.Plant.step;rw [if_neg (by simp)];rfl
 unfold maxLen at hs;unfold Ch.kStep;clear h;go_enter Try.func78,Try.ntmps78
 go_wp2_with (first
  | (go_at_call 115;(with_reducible refine (step_any (HB.out.a.ext (by simp (maxDischargeDepth:=60))) hp 45).mono ?_);rintro e wa ⟨rfl,hqa,hka⟩;have HQA:=Lib.hid hqa;have HKA:=Lib.hid ((Kept.of_ext (S:=Own pb mb) (w:=w) (by simp (maxDischargeDepth:=60))).trans hka);clear hqa hka)
  | (go_at_call 118;(with_reducible refine (rstep_any ((HB.out.left HKA.out).ext (by simp (maxDischargeDepth:=60))) hp 45).mono ?_);rintro e wb ⟨rfl,hqb,hkb⟩;have HQB:=Lib.hid hqb;have HKB:=Lib.hid ((Kept.of_ext (S:=Is rb) (w:=wa) (by simp (maxDischargeDepth:=60))).trans hkb);clear hqb hkb))
 go_ret;rw [H45.out] at HQA HQB;obtain ⟨hx,hy⟩:=both_done HB.out HQA.out HKA.out HQB.out HKB.out;exact ⟨rfl,hx.ext (by simp (maxDischargeDepth:=60)),hy.ext (by simp (maxDischargeDepth:=60))⟩
theorem loutside_step {pb mb rb:Nat} {p:Ch.Plant} {w:World} (h:Both w pb mb rb p) (hp:p.WF) (a b i l g e k t:Int) (s:ByteArray) (a1 a2:Option Addr) (n1 c1 n2 c2:Nat) (hs:s.size≤maxLen) (hn:0<s.size):
  Calls Try.prog 78 #[.pointer (some ⟨pb,0,none⟩),.pointer (some ⟨rb,0,none⟩),.agg #[.string Ch.kStep,vi a,vi b,vi i,vi l,vi g,vi e,.string s,.int .u64 k,vi t,.slice a1 n1 c1,.slice a2 n2 c2]] w (BothDid pb mb rb w (p.step (s[0].toNat:Int)) (.bool true)):=by
 have HB:=Lib.hid h;unfold maxLen at hs;unfold Ch.kStep;clear h;go_enter Try.func78,Try.ntmps78
 go_wp2_with (first
  | (go_at_call 115;(with_reducible refine (step_any (HB.out.a.ext (by simp (maxDischargeDepth:=60))) hp _).mono ?_);rintro e wa ⟨rfl,hqa,hka⟩;have HQA:=Lib.hid hqa;have HKA:=Lib.hid ((Kept.of_ext (S:=Own pb mb) (w:=w) (by simp (maxDischargeDepth:=60))).trans hka);clear hqa hka)
  | (go_at_call 118;(with_reducible refine (rstep_any ((HB.out.left HKA.out).ext (by simp (maxDischargeDepth:=60))) hp _).mono ?_);rintro e wb ⟨rfl,hqb,hkb⟩;have HQB:=Lib.hid hqb;have HKB:=Lib.hid ((Kept.of_ext (S:=Is rb) (w:=wa) (by simp (maxDischargeDepth:=60))).trans hkb);clear hqb hkb))
 go_ret;obtain ⟨hx,hy⟩:=both_done HB.out HQA.out HKA.out HQB.out HKB.out;exact ⟨rfl,hx.ext (by simp (maxDischargeDepth:=60)),hy.ext (by simp (maxDischargeDepth:=60))⟩
theorem loutside_walk {pb mb rb:Nat} {p:Ch.Plant} {w:World} (h:Both w pb mb rb p) (hp:p.WF) (a b i l g e k t:Int) (s:ByteArray) (a1 a2:Option Addr) (n1 c1 n2 c2:Nat):
  Calls Try.prog 78 #[.pointer (some ⟨pb,0,none⟩),.pointer (some ⟨rb,0,none⟩),.agg #[.string Ch.kWalk,vi a,vi b,vi i,vi l,vi g,vi e,.string s,.int .u64 k,vi t,.slice a1 n1 c1,.slice a2 n2 c2]] w (BothDid pb mb rb w ((p.walk a).1) (.bool true)):=by
 have HB:=Lib.hid h;unfold Ch.kWalk;clear h;go_enter Try.func78,Try.ntmps78
 go_upto_region 10 with fail
 generalize hW:World.alloc _ _=w0
 have a1c:w0.cell? ⟨w.heap.size,1,none⟩=some (vi a):=by rw [←hW];simp [go_sem]
 have hx0:Ext w w0:=by rw [←hW];exact (by simp (maxDischargeDepth:=60))
 have hlt1:=HB.out.a.lt;have hlt2:=HB.out.b.lt;have HB0:=Lib.hid (HB.out.ext hx0);have HX0:=Lib.hid hx0
 have NA:Hid (¬ Own pb mb w.heap.size):=by rintro (e|e) <;> omega
 have NB:Hid (¬ Is rb w.heap.size):=by intro e;have:w.heap.size=rb:=e;omega
 have zA:=cell_lt a1c;generalize w.heap.size=AA at *;clear hW hx0
 go_region_held3 (fun w'=>w'.cell? ⟨AA,1,none⟩=some (vi a))
  (first|((try dsimp only);first|assumption|(refine xcell (w:=w0) ?_ (by assumption);simp (maxDischargeDepth:=60);done)|(refine xcell (w:=wb) ?_ (by assumption);simp (maxDischargeDepth:=60);done)))
  (first
  | (go_at_call 119;refine (walk_any (HB0.out.a.ext (by simp (maxDischargeDepth:=60))) hp _).mono ?_;rintro e wa ⟨rfl,hqa,hka⟩;have HQA:=Lib.hid hqa;have HKA:=Lib.hid ((Kept.of_ext (S:=Own pb mb) (w:=w0) (by simp (maxDischargeDepth:=60))).trans hka);have ra:=cell_kept hka (xcell (w:=w0) (by simp (maxDischargeDepth:=60)) a1c) NA.out;clear hqa hka)
  | (go_at_call 120;refine (rwalk_any ((HB0.out.left HKA.out).ext (by simp (maxDischargeDepth:=60))) hp _).mono ?_;rintro e wb ⟨rfl,hqb,hkb⟩;have HQB:=Lib.hid hqb;have HKB:=Lib.hid ((Kept.of_ext (S:=Is rb) (w:=wa) (by simp (maxDischargeDepth:=60))).trans hkb);have rbc:=cell_kept hkb ra NB.out;clear hqb hkb)
  | (go_at_call 30;refine (same_yes _ _ (walk_nn _ _)).mono ?_;rintro e w7 ⟨rfl,o7,n7,rfl⟩))
 all_goals
  go_wp2;go_ret;obtain ⟨hx,hy⟩:=both_done HB0.out HQA.out HKA.out HQB.out HKB.out;exact ⟨rfl,hx.ext (by simp (maxDischargeDepth:=60)),((Kept.of_ext HX0.out).trans hy).ext (by simp (maxDischargeDepth:=60))⟩
theorem loutside_arrive {pb mb rb:Nat} {p:Ch.Plant} {w:World} (h:Both w pb mb rb p) (hp:p.WF) (a b i l g e k t:Int) (s:ByteArray) (a1 a2:Option Addr) (n1 c1 n2 c2:Nat):
  Calls Try.prog 78 #[.pointer (some ⟨pb,0,none⟩),.pointer (some ⟨rb,0,none⟩),.agg #[.string Ch.kArrive,vi a,vi b,vi i,vi l,vi g,vi e,.string s,.int .u64 k,vi t,.slice a1 n1 c1,.slice a2 n2 c2]] w (BothDid pb mb rb w ((p.arrive a).1) (.bool true)):=by
 have HB:=Lib.hid h;unfold Ch.kArrive;clear h;go_enter Try.func78,Try.ntmps78
 go_upto_region 12 with fail
 generalize hW:World.alloc _ _=w0
 have a1c:w0.cell? ⟨w.heap.size,1,none⟩=some (vi a):=by rw [←hW];simp [go_sem]
 have hx0:Ext w w0:=by rw [←hW];exact (by simp (maxDischargeDepth:=60))
 have hlt1:=HB.out.a.lt;have hlt2:=HB.out.b.lt;have HB0:=Lib.hid (HB.out.ext hx0);have HX0:=Lib.hid hx0
 have NA:Hid (¬ Own pb mb w.heap.size):=by rintro (e|e) <;> omega
 have NB:Hid (¬ Is rb w.heap.size):=by intro e;have:w.heap.size=rb:=e;omega
 have zA:=cell_lt a1c;generalize w.heap.size=AA at *;clear hW hx0
 go_region_held3 (fun w'=>w'.cell? ⟨AA,1,none⟩=some (vi a))
  (first|((try dsimp only);first|assumption|(refine xcell (w:=w0) ?_ (by assumption);simp (maxDischargeDepth:=60);done)|(refine xcell (w:=wb) ?_ (by assumption);simp (maxDischargeDepth:=60);done)))
  (first
  | (go_at_call 114;refine (arrive_any (HB0.out.a.ext (by simp (maxDischargeDepth:=60))) hp _).mono ?_;rintro e wa ⟨rfl,hqa,hka⟩;have HQA:=Lib.hid hqa;have HKA:=Lib.hid ((Kept.of_ext (S:=Own pb mb) (w:=w0) (by simp (maxDischargeDepth:=60))).trans hka);have ra:=cell_kept hka (xcell (w:=w0) (by simp (maxDischargeDepth:=60)) a1c) NA.out;clear hqa hka)
  | (go_at_call 121;refine (rarrive_any ((HB0.out.left HKA.out).ext (by simp (maxDischargeDepth:=60))) hp _).mono ?_;rintro e wb ⟨rfl,hqb,hkb⟩;have HQB:=Lib.hid hqb;have HKB:=Lib.hid ((Kept.of_ext (S:=Is rb) (w:=wa) (by simp (maxDischargeDepth:=60))).trans hkb);have rbc:=cell_kept hkb ra NB.out;clear hqb hkb)
  | (go_at_call 30;refine (same_yes _ _ (arrive_nn _ _)).mono ?_;rintro e w7 ⟨rfl,o7,n7,rfl⟩))
 all_goals
  go_wp2;go_ret;obtain ⟨hx,hy⟩:=both_done HB0.out HQA.out HKA.out HQB.out HKB.out;exact ⟨rfl,hx.ext (by simp (maxDischargeDepth:=60)),((Kept.of_ext HX0.out).trans hy).ext (by simp (maxDischargeDepth:=60))⟩
theorem loutside_leave {pb mb rb:Nat} {p:Ch.Plant} {w:World} (h:Both w pb mb rb p) (hp:p.WF) (a b i l g e k t:Int) (s:ByteArray) (a1 a2:Option Addr) (n1 c1 n2 c2:Nat):
  Calls Try.prog 78 #[.pointer (some ⟨pb,0,none⟩),.pointer (some ⟨rb,0,none⟩),.agg #[.string Ch.kLeave,vi a,vi b,vi i,vi l,vi g,vi e,.string s,.int .u64 k,vi t,.slice a1 n1 c1,.slice a2 n2 c2]] w (BothDid pb mb rb w (p.leave.1) (.bool true)):=by
 have HB:=Lib.hid h;unfold Ch.kLeave;clear h;go_enter Try.func78,Try.ntmps78
 go_wp2_with (first
  | (go_at_call 122;(with_reducible refine (leave_any (HB.out.a.ext (by simp (maxDischargeDepth:=60)))).mono ?_);rintro e wa ⟨rfl,hqa,hka⟩;have HQA:=Lib.hid hqa;have HKA:=Lib.hid ((Kept.of_ext (S:=Own pb mb) (w:=w) (by simp (maxDischargeDepth:=60))).trans hka);clear hqa hka)
  | (go_at_call 123;(with_reducible refine (rleave_any ((HB.out.left HKA.out).ext (by simp (maxDischargeDepth:=60)))).mono ?_);rintro e wb ⟨rfl,hqb,hkb⟩;have HQB:=Lib.hid hqb;have HKB:=Lib.hid ((Kept.of_ext (S:=Is rb) (w:=wa) (by simp (maxDischargeDepth:=60))).trans hkb);clear hqb hkb)
  | (go_at_call 30;(with_reducible refine (same_yes _ _ (leave_nn _)).mono ?_);rintro e w1 ⟨rfl,o1,n1,rfl⟩))
 go_ret;obtain ⟨hx,hy⟩:=both_done HB.out HQA.out HKA.out HQB.out HKB.out;exact ⟨rfl,hx.ext (by simp (maxDischargeDepth:=60)),hy.ext (by simp (maxDischargeDepth:=60))⟩
theorem loutside_stall {pb mb rb:Nat} {p:Ch.Plant} {w:World} (h:Both w pb mb rb p) (hp:p.WF) (a b i l g e k t:Int) (s:ByteArray) (a1 a2:Option Addr) (n1 c1 n2 c2:Nat):
  Calls Try.prog 78 #[.pointer (some ⟨pb,0,none⟩),.pointer (some ⟨rb,0,none⟩),.agg #[.string Ch.kStall,vi a,vi b,vi i,vi l,vi g,vi e,.string s,.int .u64 k,vi t,.slice a1 n1 c1,.slice a2 n2 c2]] w (BothDid pb mb rb w ((p.setStall a).1) (.bool true)):=by
 have HB:=Lib.hid h;unfold Ch.kStall;clear h;go_enter Try.func78,Try.ntmps78
 go_upto_region 18 with fail
 generalize hW:World.alloc _ _=w0
 have a1c:w0.cell? ⟨w.heap.size,1,none⟩=some (vi a):=by rw [←hW];simp [go_sem]
 have hx0:Ext w w0:=by rw [←hW];exact (by simp (maxDischargeDepth:=60))
 have hlt1:=HB.out.a.lt;have hlt2:=HB.out.b.lt;have HB0:=Lib.hid (HB.out.ext hx0);have HX0:=Lib.hid hx0
 have NA:Hid (¬ Own pb mb w.heap.size):=by rintro (e|e) <;> omega
 have NB:Hid (¬ Is rb w.heap.size):=by intro e;have:w.heap.size=rb:=e;omega
 have zA:=cell_lt a1c;generalize w.heap.size=AA at *;clear hW hx0
 go_region_held3 (fun w'=>w'.cell? ⟨AA,1,none⟩=some (vi a))
  (first|((try dsimp only);first|assumption|(refine xcell (w:=w0) ?_ (by assumption);simp (maxDischargeDepth:=60);done)|(refine xcell (w:=wb) ?_ (by assumption);simp (maxDischargeDepth:=60);done)))
  (first
  | (go_at_call 124;refine (stall_any (HB0.out.a.ext (by simp (maxDischargeDepth:=60))) _).mono ?_;rintro e wa ⟨rfl,hqa,hka⟩;have HQA:=Lib.hid hqa;have HKA:=Lib.hid ((Kept.of_ext (S:=Own pb mb) (w:=w0) (by simp (maxDischargeDepth:=60))).trans hka);have ra:=cell_kept hka (xcell (w:=w0) (by simp (maxDischargeDepth:=60)) a1c) NA.out;clear hqa hka)
  | (go_at_call 125;refine (rstall_any ((HB0.out.left HKA.out).ext (by simp (maxDischargeDepth:=60))) _).mono ?_;rintro e wb ⟨rfl,hqb,hkb⟩;have HQB:=Lib.hid hqb;have HKB:=Lib.hid ((Kept.of_ext (S:=Is rb) (w:=wa) (by simp (maxDischargeDepth:=60))).trans hkb);have rbc:=cell_kept hkb ra NB.out;clear hqb hkb)
  | (go_at_call 30;refine (same_yes _ _ (stall_nn _ _)).mono ?_;rintro e w7 ⟨rfl,o7,n7,rfl⟩))
 all_goals
  go_wp2;go_ret;obtain ⟨hx,hy⟩:=both_done HB0.out HQA.out HKA.out HQB.out HKB.out;exact ⟨rfl,hx.ext (by simp (maxDischargeDepth:=60)),((Kept.of_ext HX0.out).trans hy).ext (by simp (maxDischargeDepth:=60))⟩
theorem loutside_other {pb mb rb:Nat} {p:Ch.Plant} {w:World} (h:Both w pb mb rb p) (hp:p.WF) (a b i l g e k t:Int) (s:ByteArray) (a1 a2:Option Addr) (n1 c1 n2 c2:Nat) (kd:ByteArray) (k1:kd≠Ch.kStep) (k2:kd≠Ch.kWalk) (k3:kd≠Ch.kArrive) (k4:kd≠Ch.kLeave) (k5:kd≠Ch.kStall):
  Calls Try.prog 78 #[.pointer (some ⟨pb,0,none⟩),.pointer (some ⟨rb,0,none⟩),.agg #[.string kd,vi a,vi b,vi i,vi l,vi g,vi e,.string s,.int .u64 k,vi t,.slice a1 n1 c1,.slice a2 n2 c2]] w (BothDid pb mb rb w p (.bool true)):=by
 have HB:=Lib.hid h;have q1:(kd.toList==[115,116,101,112])=false:=str_ne k1;have q2:(kd.toList==[119,97,108,107])=false:=str_ne k2;have q3:(kd.toList==[97,114,114,105,118,101])=false:=str_ne k3;have q4:(kd.toList==[108,101,97,118,101])=false:=str_ne k4;have q5:(kd.toList==[115,116,97,108,108])=false:=str_ne k5;clear k1 k2 k3 k4 k5;clear h;go_enter Try.func78,Try.ntmps78;go_wp2_with fail;go_ret;exact ⟨rfl,HB.out.ext (by simp (maxDischargeDepth:=60)),Kept.of_ext (by simp (maxDischargeDepth:=60))⟩
theorem byte0 {s:ByteArray} {c:Int} (h:s.data.toList.head?.map (fun c:UInt8=>(c.toNat:Int))=some c):0<s.size∧∃ h0:0<s.size,(s[0].toNat:Int)=c:=by
 have hz:0<s.size:=by
  by_cases hz:0<s.size
  ·exact hz
  ·have:s.data.toList=[]:=List.eq_nil_of_length_eq_zero (by simpa using hz)
   rw [this] at h;cases h
 refine ⟨hz,hz,?_⟩
 have:s.data.toList.head? = some s[0]:=by
  rw [List.head?_eq_getElem?,List.getElem?_eq_getElem (by simpa using hz)];rfl
 rw [this] at h
 simpa using h
theorem first_some (x:RAct) {c:Int} (h:x.act.first=some c):∃ hn:0<x.s.size,(x.s[0].toNat:Int)=c:=(byte0 h).2
theorem first_none (x:RAct) (h:x.act.first=none):decide (0<x.s.size)=false:=by
 simp only [Ch.Act.first,Option.map_eq_none_iff,List.head?_eq_none_iff] at h;have:x.act.s=x.s:=rfl;rw [this] at h
 have hz:x.s.size=0:=by
  have:x.s.data.toList.length=0:=by rw [h];rfl
  simpa using this
 simp [hz]
theorem loutside_any {pb mb rb:Nat} {p:Ch.Plant} {w:World} (h:Both w pb mb rb p) (hp:p.WF) (x:RAct) (hg:x.Good):
  Calls Try.prog 78 #[.pointer (some ⟨pb,0,none⟩),.pointer (some ⟨rb,0,none⟩),ractA x] w (BothDid pb mb rb w (p.outside x.act) (.bool true)):=by
 unfold Ch.Plant.outside
 by_cases k1:x.kind=Ch.kStep
 ·rw [if_pos (show x.act.kind=Ch.kStep from k1)]
  cases hf:x.act.first with
  | none=>
   unfold ractA;rw [k1];exact loutside_nostep h hp _ _ _ _ _ _ _ _ _ _ _ _ _ _ _ hg.s (first_none x hf)
  | some c=>
   obtain ⟨hn,hc⟩:=first_some x hf;unfold ractA;rw [k1,←hc];exact loutside_step h hp _ _ _ _ _ _ _ _ _ _ _ _ _ _ _ hg.s hn
 rw [if_neg (show ¬ x.act.kind=Ch.kStep from k1)]
 by_cases k2:x.kind=Ch.kWalk
 ·rw [if_pos (show x.act.kind=Ch.kWalk from k2)]
  unfold ractA;rw [k2];exact loutside_walk h hp _ _ _ _ _ _ _ _ _ _ _ _ _ _ _
 rw [if_neg (show ¬ x.act.kind=Ch.kWalk from k2)]
 by_cases k3:x.kind=Ch.kArrive
 ·rw [if_pos (show x.act.kind=Ch.kArrive from k3)]
  unfold ractA;rw [k3];exact loutside_arrive h hp _ _ _ _ _ _ _ _ _ _ _ _ _ _ _
 rw [if_neg (show ¬ x.act.kind=Ch.kArrive from k3)]
 by_cases k4:x.kind=Ch.kLeave
 ·rw [if_pos (show x.act.kind=Ch.kLeave from k4)]
  unfold ractA;rw [k4];exact loutside_leave h hp _ _ _ _ _ _ _ _ _ _ _ _ _ _ _
 rw [if_neg (show ¬ x.act.kind=Ch.kLeave from k4)]
 by_cases k5:x.kind=Ch.kStall
 ·rw [if_pos (show x.act.kind=Ch.kStall from k5)]
  unfold ractA;rw [k5];exact loutside_stall h hp _ _ _ _ _ _ _ _ _ _ _ _ _ _ _
 rw [if_neg (show ¬ x.act.kind=Ch.kStall from k5)];exact loutside_other h hp _ _ _ _ _ _ _ _ _ _ _ _ _ _ _ _ k1 k2 k3 k4 k5
/-! ### a closed fact: a machine that moves -/
/-! ### where a car is, in both -/
structure TwinAt (w wr:World) (pb mb rb:Nat) (p:Ch.Plant):Prop where
 at_:Both wr pb mb rb p
 wf:p.WF
 below:Below w.heap.size w wr
theorem TwinAt.next {w wr w':World} {pb mb rb:Nat} {p q:Ch.Plant} (h:TwinAt w wr pb mb rb p) (h1:Both w' pb mb rb q) (h2:q.WF) (k:Kept (Own3 pb mb rb) wr w') (hb1:w.heap.size≤pb) (hb2:w.heap.size≤mb) (hb3:w.heap.size≤rb):TwinAt w w' pb mb rb q:=
 ⟨h1,h2,below_kept h.below (Nat.le_refl _) k (fun i hi=>by rcases hi with (rfl|rfl)|rfl <;> omega)⟩
theorem TwinAt.ext {w wr w':World} {pb mb rb:Nat} {p:Ch.Plant} (h:TwinAt w wr pb mb rb p) (x:Ext wr w') (hb1:w.heap.size≤pb) (hb2:w.heap.size≤mb) (hb3:w.heap.size≤rb):TwinAt w w' pb mb rb p:=
 h.next (h.at_.ext x) h.wf (Kept.of_ext x) hb1 hb2 hb3
theorem sameGoals_any (a1 a2:Option Addr) (n1 c1 n2 c2:Nat) (l1 l2:List Ch.Goal) (w:World) (h1:Sl w 2 goalCells l1 a1 n1 c1) (h2:Sl w 2 goalCells l2 a2 n2 c2):
  Calls Try.prog 13 #[.slice a1 n1 c1,.slice a2 n2 c2] w fun e w'=>e = .returned (.bool (decide (l1=l2)))∧Ext w w':=by
 have e1:=h1.len;have e2:=h2.len;have b1:=h1.bound;have b2:=h2.bound
 by_cases hn:n1=n2
 ·subst hn
  have E1:=Lib.hid e1;have E2:=Lib.hid e2;have F1:=Lib.hid h1;have F2:=Lib.hid h2;clear e1 e2 h1 h2;go_enter Try.func13,Try.ntmps13;go_wp2
  go_loopw [5] (fun i wr=>∃ k:Nat,k≤n1∧i = .int .i64 k∧Hid (l1.take k=l2.take k)∧Ext w wr) (fun i _=>n1 - (intOf i).toNat)
  case atStart=>exact ⟨0,by omega,rfl,by simp [Hid],by simp⟩
  case round=>
   obtain ⟨k,hk,rfl,HT,o,m,rfl⟩:=hrel
   by_cases hlt:k<n1
   ·obtain ⟨p1,o1,u1,rfl,x1,g1⟩:=F1.out.get hlt
    obtain ⟨p2,o2,u2,rfl,x2,g2⟩:=F2.out.get hlt;have X1:=Lib.hid x1;have X2:=Lib.hid x2;have d1:=at2 g1;have d2:=at2 g2;have q1:=cell_lt d1.1;have q2:=cell_lt d2.1;clear g1 g2 x1 x2
    by_cases hu:u1=u2
    ·have HU:=Lib.hid hu
     have hq:∀ w,(Go.binOp .neq 36 (goalA u1) (goalA u2)).run Try.prog w = .ok (.bool false) w:=fun w=>by rw [neqStruct w (eqGoal w 9998 u1 u2)];simp [hu]
     clear hu;go_wp2
     (refine wp_region_ext (by kernel_rfl) (by kernel_rfl) ?_;(repeat (first|go_big_quiet_step (fail)|quiet_step (fail)));refine wpQuiet_nil ?_;intro _ hw';obtain ⟨oq,nq,hw''⟩:=hw';subst hw'')
     go_wp2;go_roundw
     case rel=>exact ⟨k+1,by omega,by go_num,by show List.take _ _=List.take _ _;rw [List.take_add_one,List.take_add_one,X1.out,X2.out,HT.out,HU.out],by simp⟩
     case measure=>simp [intOf];omega
    ·have HU:=Lib.hid hu
     have hq:∀ w,(Go.binOp .neq 36 (goalA u1) (goalA u2)).run Try.prog w = .ok (.bool true) w:=fun w=>by rw [neqStruct w (eqGoal w 9998 u1 u2)];simp [hu]
     clear hu;go_wp2
     (refine wp_region_ext (by kernel_rfl) (by kernel_rfl) ?_;(repeat (first|go_big_quiet_step (fail)|quiet_step (fail)));refine wpQuiet_nil ?_;intro _ hw';obtain ⟨oq,nq,hw''⟩:=hw';subst hw'')
     go_wp2;go_ret;refine ⟨?_,by simp⟩
     have:l1≠l2:=fun h=>HU.out (by have a:=X1.out;have b:=X2.out;rw [h] at a;exact Option.some.inj (a.symm.trans b))
     simp [this]
   ·go_wp2
    go_ret
    have:l1=l2:=by (have h:=HT.out;rw [List.take_of_length_le (by have:=E1.out;omega),List.take_of_length_le (by have:=E2.out;omega)] at h;exact h)
    exact ⟨by simp [this],by simp⟩
 ·have hne:l1≠l2:=fun h=>hn (by rw [←e1,←e2,h])
  clear h1 h2 e1 e2;go_enter Try.func13,Try.ntmps13;go_wp2;go_ret;exact ⟨by simp [hne],by simp⟩
theorem sameGoals_yes (a1 a2:Option Addr) (n1 c1 n2 c2:Nat) (l1 l2:List Ch.Goal) (w:World) (h1:Sl w 2 goalCells l1 a1 n1 c1) (h2:Sl w 2 goalCells l2 a2 n2 c2) (e:l1=l2):
  Calls Try.prog 13 #[.slice a1 n1 c1,.slice a2 n2 c2] w fun e w'=>e = .returned (.bool true)∧Ext w w':=by
 have:=sameGoals_any a1 a2 n1 c1 n2 c2 l1 l2 w h1 h2
 simpa [e] using this
end Go.Proofs.Ytplomeacjbkgnaa
