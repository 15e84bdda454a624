import Derived.Test.YtplomeacjbkgnabGreatDoorZ12
import Derived.Test.YtplomeacjbkgnabGreatDoorZ20
set_option linter.all false
set_option maxRecDepth 100000
set_option maxHeartbeats 16000000
namespace Go.Proofs.YtplomeacjbkgnabGreatDoor
open Go.RowKit Go.MapKept Tryz Ch
abbrev vb (n:Int):Value:=.int .u8 n
theorem byteMapType:prog.underlying 179=some (.map 5 3):=by kernel_rfl
theorem byte_set (w:World) (o o':Obj):({ w.alloc o with heap:=(w.alloc o).heap.setIfInBounds w.heap.size o' }:World)=w.alloc o':=by
 show ({ w with heap:=(w.heap.push o).setIfInBounds w.heap.size o' }:World)={ w with heap:=w.heap.push o' }
 congr 1
 apply Array.ext_getElem?;intro i
 by_cases h:i=w.heap.size
 ·subst h;simp
 ·rw [Array.getElem?_setIfInBounds_ne (fun e=>h e.symm)]
  simp [Array.getElem?_push,h]
theorem byte_key (e:Bool) (k:Int) (w:World):(Instr.checkKey e 10000 5 (vb k)).run prog w = .ok () w:=by kernel_rfl
theorem byte_insert (w:World) (es:Array MapEntry) (clock:Nat) (k v:Int) (h:Instr.findNow (.int .u8) (vb k) es.toList 0=some none):
  (Instr.mapUpdate 179 (.map (some w.heap.size)) (vb k) (vi v)).run prog (w.alloc (.map es clock)) = .ok () (w.alloc (.map (es.push { key:=vb k,val:=vi v,born:=clock }) (clock+1))):=by
 have hb:(w.alloc (.map es clock)).heap[w.heap.size]? = some (.map es clock):=heap_alloc_new w _
 have hk:prog.underlying 5=some (.int .u8):=by kernel_rfl
 have hc:(Instr.checkKey false 10000 5 (vb k)).run prog (w.alloc (.map es clock)) = .ok () (w.alloc (.map es clock)):=byte_key _ _ _;have hf:(Instr.findKey 5 (vb k) es.toList).run prog (w.alloc (.map es clock)) = .ok none (w.alloc (.map es clock)):=run_findKey hk h;simp [Instr.mapUpdate,run_underlying byteMapType,MapKept.run_getObj_map hb,hc,hf,run_setObj_map _ hb,Result.andThen];exact byte_set w _ _
theorem byte_look (w:World) (es:Array MapEntry) (clock:Nat) (k v:Int) (i:Nat) (h:Instr.findNow (.int .u8) (vb k) es.toList 0=some (some (i,vi v))):
  (Instr.lookup 179 (.map (some w.heap.size)) (vb k) false).run prog (w.alloc (.map es clock)) = .ok (vi v) (w.alloc (.map es clock)):=by
 have hb:(w.alloc (.map es clock)).heap[w.heap.size]? = some (.map es clock):=heap_alloc_new w _
 have hk:prog.underlying 5=some (.int .u8):=by kernel_rfl
 have hc:∀ b,(Instr.checkKey b 10000 5 (vb k)).run prog (w.alloc (.map es clock)) = .ok () (w.alloc (.map es clock)):=fun b=>byte_key _ _ _
 have hf:(Instr.findKey 5 (vb k) es.toList).run prog (w.alloc (.map es clock)) = .ok (some (i,vi v)) (w.alloc (.map es clock)):=run_findKey hk h;simp [Instr.lookup,run_underlying byteMapType,MapKept.run_getObj_map hb,hc,hf,Result.andThen]
abbrev twoMap (k1 v1 k2 v2:Int):Obj:=.map #[{ key:=vb k1,val:=vi v1,born:=0 },{ key:=vb k2,val:=vi v2,born:=1 }] 2
theorem byte_one (w:World) (k1 v1:Int):(Instr.mapUpdate 179 (.map (some w.heap.size)) (vb k1) (vi v1)).run prog (w.alloc (.map #[] 0)) = .ok () (w.alloc (.map #[{ key:=vb k1,val:=vi v1,born:=0 }] 1)):=
 byte_insert w #[] 0 k1 v1 rfl
theorem byte_two (w:World) (k1 v1 k2 v2:Int) (h:(k2==k1)=false):(Instr.mapUpdate 179 (.map (some w.heap.size)) (vb k2) (vi v2)).run prog (w.alloc (.map #[{ key:=vb k1,val:=vi v1,born:=0 }] 1)) = .ok () (w.alloc (twoMap k1 v1 k2 v2)):=
 byte_insert w #[{ key:=vb k1,val:=vi v1,born:=0 }] 1 k2 v2 (by simp [Instr.findNow,Instr.sameNow,h])
theorem byte_get1 (w:World) (k1 v1 k2 v2:Int):(Instr.lookup 179 (.map (some w.heap.size)) (vb k1) false).run prog (w.alloc (twoMap k1 v1 k2 v2)) = .ok (vi v1) (w.alloc (twoMap k1 v1 k2 v2)):=
 byte_look w _ 2 k1 v1 0 (by simp [Instr.findNow,Instr.sameNow])
theorem byte_get2 (w:World) (k1 v1 k2 v2:Int) (h:(k2==k1)=false):(Instr.lookup 179 (.map (some w.heap.size)) (vb k2) false).run prog (w.alloc (twoMap k1 v1 k2 v2)) = .ok (vi v2) (w.alloc (twoMap k1 v1 k2 v2)):=
 byte_look w _ 2 k2 v2 1 (by simp [Instr.findNow,Instr.sameNow,h])
theorem step_117 {pb mb:Nat} {p:dA} {w:World} (h:yA w pb mb p) (hp:p.WF) (hs:decide (0<p.stall)=false):
  Calls prog 56 #[.pointer (some ⟨pb,0,none⟩),vb 117] w (Did pb mb w (p.rise 1) (.tuple #[])):=by
 obtain ⟨c0,c1,c2,c3,c4,c5,c6,c7,c8,c9⟩:=h.cells;have hb:=cA c1;have HP:=aA h;have fz:=vA h.blk;clear h;have m0:=@run_makeMap prog
 have m1:=fun w=>byte_one w 117 1
 have m2:=fun w=>byte_two w 117 1 100 (-1) rfl
 have m3:=fun w=>byte_get1 w 117 1 100 (-1)
 have m4:=fun w=>byte_get2 w 117 1 100 (-1) rfl
 go_enter func56,ntmps56;go_wp2_with (go_at_call 104;(with_reducible refine (rise_any (HP.out.ext eX) hp 1 (Or.inl rfl)).mono ?_);rintro e w1 ⟨rfl,hq,hk⟩)
 go_end0
 exact ⟨rfl,hq,(fA.of_ext eX).trans hk⟩
theorem step_100 {pb mb:Nat} {p:dA} {w:World} (h:yA w pb mb p) (hp:p.WF) (hs:decide (0<p.stall)=false):
  Calls prog 56 #[.pointer (some ⟨pb,0,none⟩),vb 100] w (Did pb mb w (p.rise (-1)) (.tuple #[])):=by
 obtain ⟨c0,c1,c2,c3,c4,c5,c6,c7,c8,c9⟩:=h.cells;have hb:=cA c1;have HP:=aA h;have fz:=vA h.blk;clear h;have m0:=@run_makeMap prog
 have m1:=fun w=>byte_one w 117 1
 have m2:=fun w=>byte_two w 117 1 100 (-1) rfl
 have m3:=fun w=>byte_get1 w 117 1 100 (-1)
 have m4:=fun w=>byte_get2 w 117 1 100 (-1) rfl
 go_enter func56,ntmps56;go_wp2_with (go_at_call 104;(with_reducible refine (rise_any (HP.out.ext eX) hp (-1) (Or.inr rfl)).mono ?_);rintro e w1 ⟨rfl,hq,hk⟩)
 go_end0
 exact ⟨rfl,hq,(fA.of_ext eX).trans hk⟩
theorem step_108 {pb mb:Nat} {p:dA} {w:World} (h:yA w pb mb p) (hp:p.WF) (hs:decide (0<p.stall)=false):
  Calls prog 56 #[.pointer (some ⟨pb,0,none⟩),vb 108] w (Did pb mb w (p.stretch (-1)) (.tuple #[])):=by
 obtain ⟨c0,c1,c2,c3,c4,c5,c6,c7,c8,c9⟩:=h.cells;have hb:=cA c1;have HP:=aA h;have fz:=vA h.blk;clear h;have m0:=@run_makeMap prog
 have m1:=fun w=>byte_one w 108 (-1)
 have m2:=fun w=>byte_two w 108 (-1) 114 1 rfl
 have m3:=fun w=>byte_get1 w 108 (-1) 114 1
 have m4:=fun w=>byte_get2 w 108 (-1) 114 1 rfl
 go_enter func56,ntmps56;go_wp2_with (go_at_call 105;(with_reducible refine (stretch_any (HP.out.ext eX) hp (-1) (Or.inr rfl)).mono ?_);rintro e w1 ⟨rfl,hq,hk⟩)
 go_end0
 exact ⟨rfl,hq,(fA.of_ext eX).trans hk⟩
theorem step_114 {pb mb:Nat} {p:dA} {w:World} (h:yA w pb mb p) (hp:p.WF) (hs:decide (0<p.stall)=false):
  Calls prog 56 #[.pointer (some ⟨pb,0,none⟩),vb 114] w (Did pb mb w (p.stretch 1) (.tuple #[])):=by
 obtain ⟨c0,c1,c2,c3,c4,c5,c6,c7,c8,c9⟩:=h.cells;have hb:=cA c1;have HP:=aA h;have fz:=vA h.blk;clear h;have m0:=@run_makeMap prog
 have m1:=fun w=>byte_one w 108 (-1)
 have m2:=fun w=>byte_two w 108 (-1) 114 1 rfl
 have m3:=fun w=>byte_get1 w 108 (-1) 114 1
 have m4:=fun w=>byte_get2 w 108 (-1) 114 1 rfl
 go_enter func56,ntmps56;go_wp2_with (go_at_call 105;(with_reducible refine (stretch_any (HP.out.ext eX) hp 1 (Or.inl rfl)).mono ?_);rintro e w1 ⟨rfl,hq,hk⟩)
 go_end0
 exact ⟨rfl,hq,(fA.of_ext eX).trans hk⟩
theorem step_103 {pb mb:Nat} {p:dA} {w:World} (h:yA w pb mb p) (hp:p.WF) (hs:decide (0<p.stall)=false):
  Calls prog 56 #[.pointer (some ⟨pb,0,none⟩),vb 103] w (Did pb mb w (p.grab) (.tuple #[])):=by
 obtain ⟨c0,c1,c2,c3,c4,c5,c6,c7,c8,c9⟩:=h.cells;have hb:=cA c1;have HP:=aA h;have fz:=vA h.blk;clear h;go_enter func56,ntmps56;go_wp2_with (go_at_call 106;(with_reducible refine (grab_any (HP.out.ext eX) hp).mono ?_);rintro e w1 ⟨rfl,hq,hk⟩)
 go_end0
 exact ⟨rfl,hq,(fA.of_ext eX).trans hk⟩
theorem step_112 {pb mb:Nat} {p:dA} {w:World} (h:yA w pb mb p) (hp:p.WF) (hs:decide (0<p.stall)=false):
  Calls prog 56 #[.pointer (some ⟨pb,0,none⟩),vb 112] w (Did pb mb w (p.put) (.tuple #[])):=by
 obtain ⟨c0,c1,c2,c3,c4,c5,c6,c7,c8,c9⟩:=h.cells;have hb:=cA c1;have HP:=aA h;have fz:=vA h.blk;clear h;go_enter func56,ntmps56;go_wp2_with (go_at_call 107;(with_reducible refine (put_any (HP.out.ext eX) hp).mono ?_);rintro e w1 ⟨rfl,hq,hk⟩)
 go_end0
 exact ⟨rfl,hq,(fA.of_ext eX).trans hk⟩
theorem step_111 {pb mb:Nat} {p:dA} {w:World} (h:yA w pb mb p) (hp:p.WF) (hs:decide (0<p.stall)=false):
  Calls prog 56 #[.pointer (some ⟨pb,0,none⟩),vb 111] w (Did pb mb w (p.swing true) (.tuple #[])):=by
 obtain ⟨c0,c1,c2,c3,c4,c5,c6,c7,c8,c9⟩:=h.cells;have hb:=cA c1;have HP:=aA h;have fz:=vA h.blk;clear h;go_enter func56,ntmps56;go_wp2_with (go_at_call 108;(with_reducible refine (swing_any (HP.out.ext eX) true).mono ?_);rintro e w1 ⟨rfl,hq,hk⟩)
 go_end0
 exact ⟨rfl,hq,(fA.of_ext eX).trans hk⟩
theorem step_99 {pb mb:Nat} {p:dA} {w:World} (h:yA w pb mb p) (hp:p.WF) (hs:decide (0<p.stall)=false):
  Calls prog 56 #[.pointer (some ⟨pb,0,none⟩),vb 99] w (Did pb mb w (p.swing false) (.tuple #[])):=by
 obtain ⟨c0,c1,c2,c3,c4,c5,c6,c7,c8,c9⟩:=h.cells;have hb:=cA c1;have HP:=aA h;have fz:=vA h.blk;clear h;go_enter func56,ntmps56;go_wp2_with (go_at_call 108;(with_reducible refine (swing_any (HP.out.ext eX) false).mono ?_);rintro e w1 ⟨rfl,hq,hk⟩)
 go_end0
 exact ⟨rfl,hq,(fA.of_ext eX).trans hk⟩
theorem step_110 {pb mb:Nat} {p:dA} {w:World} (h:yA w pb mb p) (hp:p.WF) (hs:decide (0<p.stall)=false):
  Calls prog 56 #[.pointer (some ⟨pb,0,none⟩),vb 110] w (Did pb mb w (p.pass true) (.tuple #[])):=by
 obtain ⟨c0,c1,c2,c3,c4,c5,c6,c7,c8,c9⟩:=h.cells;have hb:=cA c1;have HP:=aA h;have fz:=vA h.blk;clear h;go_enter func56,ntmps56;go_wp2_with (go_at_call 109;(with_reducible refine (pass_any (HP.out.ext eX) true).mono ?_);rintro e w1 ⟨rfl,hq,hk⟩)
 go_end0
 exact ⟨rfl,hq,(fA.of_ext eX).trans hk⟩
theorem step_120 {pb mb:Nat} {p:dA} {w:World} (h:yA w pb mb p) (hp:p.WF) (hs:decide (0<p.stall)=false):
  Calls prog 56 #[.pointer (some ⟨pb,0,none⟩),vb 120] w (Did pb mb w (p.pass false) (.tuple #[])):=by
 obtain ⟨c0,c1,c2,c3,c4,c5,c6,c7,c8,c9⟩:=h.cells;have hb:=cA c1;have HP:=aA h;have fz:=vA h.blk;clear h;go_enter func56,ntmps56;go_wp2_with (go_at_call 109;(with_reducible refine (pass_any (HP.out.ext eX) false).mono ?_);rintro e w1 ⟨rfl,hq,hk⟩)
 go_end0
 exact ⟨rfl,hq,(fA.of_ext eX).trans hk⟩
theorem step_none {pb mb:Nat} {p:dA} {w:World} (h:yA w pb mb p) (hs:decide (0<p.stall)=false) (c:Int) (h117:(c==117)=false) (h100:(c==100)=false) (h108:(c==108)=false) (h114:(c==114)=false) (h103:(c==103)=false) (h112:(c==112)=false) (h111:(c==111)=false) (h99:(c==99)=false) (h110:(c==110)=false) (h120:(c==120)=false):
  Calls prog 56 #[.pointer (some ⟨pb,0,none⟩),vb c] w (Did pb mb w p (.tuple #[])):=by
 obtain ⟨c0,c1,c2,c3,c4,c5,c6,c7,c8,c9⟩:=h.cells;have hb:=cA c1;have HP:=aA h;have fz:=vA h.blk;clear h;go_enter func56,ntmps56;go_wp2
 all_goals
  go_end0
  exact ⟨rfl,HP.out,fA.refl _ _⟩
theorem step_rest {pb mb:Nat} {p:dA} {w:World} (h:yA w pb mb p):
  Calls prog 56 #[.pointer (some ⟨pb,0,none⟩),vb 45] w (Did pb mb w p (.tuple #[])):=by
 obtain ⟨c0,c1,c2,c3,c4,c5,c6,c7,c8,c9⟩:=h.cells;have hb:=cA c1;have HP:=aA h;have fz:=vA h.blk;clear h;go_enter func56,ntmps56;go_wp2
 all_goals
  go_end0
  exact ⟨rfl,HP.out,fA.refl _ _⟩
theorem step_stalled {pb mb:Nat} {p:dA} {w:World} (h:yA w pb mb p) (hp:p.WF) (c:Int) (hs:0<p.stall) (hc:(c==45)=false):
  Calls prog 56 #[.pointer (some ⟨pb,0,none⟩),vb c] w (Did pb mb w { p with stall:=p.stall - 1 } (.tuple #[])):=by
 have hc':(c != 45)=true:=by simpa using hc
 have h2:=hp.st2;have i1:IntKind.i64.wrap (p.stall - 1)=p.stall - 1:=IntWalk.i64_in _ om;obtain ⟨c0,c1,c2,c3,c4,c5,c6,c7,c8,c9⟩:=h.cells;have hb:=cA c1;have HP:=aA h;have fz:=vA h.blk;clear h;go_enter func56,ntmps56;go_wp2;refine bodyPost_ret (results_none rfl _ _ _) rfl ?_;exact ⟨rfl,HP.out.set 8 _ sp rfl,(fA.refl _ _).setCell (Or.inl (Or.inl rfl)) _⟩
theorem step_any {pb mb:Nat} {p:dA} {w:World} (h:yA w pb mb p) (hp:p.WF) (c:Int):
  Calls prog 56 #[.pointer (some ⟨pb,0,none⟩),vb c] w (Did pb mb w (p.step c) (.tuple #[])):=by
 by_cases h45:c=45
 ·subst h45
  have:p.step 45=p:=by unfold dA.step;rw [if_neg sp];rfl
  rw [this];exact step_rest h
 by_cases hs:0<p.stall
 ·have:p.step c={ p with stall:=p.stall - 1 }:=by unfold dA.step;rw [if_pos ⟨hs,h45⟩]
  rw [this];exact step_stalled h hp c hs (by simpa using h45)
 have hd:decide (0<p.stall)=false:=by simpa using hs
 have:p.step c=p.act c:=by unfold dA.step;rw [if_neg om]
 rw [this]
 by_cases h117:c=117
 ·subst h117;exact step_117 h hp hd
 by_cases h100:c=100
 ·subst h100;exact step_100 h hp hd
 by_cases h108:c=108
 ·subst h108;exact step_108 h hp hd
 by_cases h114:c=114
 ·subst h114;exact step_114 h hp hd
 by_cases h103:c=103
 ·subst h103;exact step_103 h hp hd
 by_cases h112:c=112
 ·subst h112;exact step_112 h hp hd
 by_cases h111:c=111
 ·subst h111;exact step_111 h hp hd
 by_cases h99:c=99
 ·subst h99;exact step_99 h hp hd
 by_cases h110:c=110
 ·subst h110;exact step_110 h hp hd
 by_cases h120:c=120
 ·subst h120;exact step_120 h hp hd
 have:p.act c=p:=by
  unfold dA.act;rw [if_neg h117,if_neg h100,if_neg h108,if_neg h114,if_neg h103,if_neg h112,if_neg h111,if_neg h99,if_neg h110,if_neg h120]
 rw [this];exact step_none h hd c (by simpa using h117) (by simpa using h100) (by simpa using h108) (by simpa using h114) (by simpa using h103) (by simpa using h112) (by simpa using h111) (by simpa using h99) (by simpa using h110) (by simpa using h120)
end Go.Proofs.YtplomeacjbkgnabGreatDoor
namespace Go.Proofs.YtplomeacjbkgnabGreatDoor
open Go.RowKit Tryz Ch
theorem bB.set {w:World} {rb:Nat} {p q:dA} (h:bB w rb p) (i:Nat) (v:Value) (hq:(rCells p).setIfInBounds i v=rCells q):bB (w.setCell ⟨rb,i,none⟩ v) rb q:=
 ⟨by rw [tB h.blk,hq]⟩
theorem slot_set (p:dA) {a b c:Nat} (a4:a<=4) (hb:b<=1) (hc:c<=1) (v:Int):
  (rCells p).setIfInBounds (7+a * 4+b * 2+c) (vi v)=rCells { p with slots:=sD p.slots ⟨(a:Int),(b:Int),(c:Int)⟩ v }:=by
 have ha:a=0\/a=1\/a=2\/a=3\/a=4:=om
 have hb:b=0\/b=1:=om
 have hc:c=0\/c=1:=om
 rcases ha with rfl|rfl|rfl|rfl|rfl <;> rcases hb with rfl|rfl <;> rcases hc with rfl|rfl <;> rfl
def RDid (rb:Nat) (w:World) (p':dA) (r:Value) (e:Ending) (w':World):Prop:=e = .returned r/\bB w' rb p'/\fA (Is rb) w w'
theorem rstall_any {rb:Nat} {p:dA} {w:World} (h:bB w rb p) (n:Int):
  Calls prog 64 #[.pointer (some ⟨rb,0,none⟩),vi n] w (RDid rb w (p.setStall n).1 (vi (p.setStall n).2)):=by
 obtain ⟨c0,c1,c2,c3,c4,c5,c6,c7,c8⟩:=h.cells;have hb:=cA c1;have HP:=aA h;have fz:=vA h.blk;clear h;go_enter func64,ntmps64;go_wp2
 all_goals
  go_ret;go_light;unfold dA.setStall
  first
  | (rw [if_pos om];exact ⟨rfl,HP.out,fA.refl _ _⟩)
  | (rw [if_neg om];exact ⟨rfl,HP.out.set 27 _ sp,(fA.refl _ _).put 27 _⟩)
theorem rleave_any {rb:Nat} {p:dA} {w:World} (h:bB w rb p):
  Calls prog 62 #[.pointer (some ⟨rb,0,none⟩)] w (RDid rb w p.leave.1 (.tuple #[vi p.leave.2.1,vi p.leave.2.2])):=by
 obtain ⟨c0,c1,c2,c3,c4,c5,c6,c7,c8⟩:=h.cells;have hb:=cA c1;have HP:=aA h;have fz:=vA h.blk;clear h;cases hd:p.door
 ·rw [hd] at c3
  have HL:Hid (p.leave=(p,0,7)):=by unfold Hid dA.leave;rw [if_pos (Or.inl hd)]
  clear hd;go_enter func62,ntmps62;go_wp2
  go_ret2
  rw [HL.out];exact ⟨rfl,HP.out,fA.refl _ _⟩
 ·rw [hd] at c3
  by_cases hy:p.bay=0
  ·have e1:(p.bay==0)=true:=by simpa using hy
   have HL:Hid (p.leave=(p,0,7)):=by unfold Hid dA.leave;rw [if_pos (Or.inr hy)]
   clear hd hy;go_enter func62,ntmps62;go_wp2
   go_ret2
   rw [HL.out];exact ⟨rfl,HP.out,fA.refl _ _⟩
  ·have e1:(p.bay==0)=false:=by simpa using hy
   have HL:Hid (p.leave=({ p with bay:=0 },p.bay,0)):=by unfold Hid dA.leave;rw [if_neg (by simp [hd,hy])]
   clear hd hy;go_enter func62,ntmps62;go_wp2
   go_ret2
   rw [HL.out];exact ⟨rfl,HP.out.set 6 _ sp,(fA.refl _ _).put 6 _⟩
theorem rwalk_any {rb:Nat} {p:dA} {w:World} (h:bB w rb p) (hp:p.WF) (n:Int):
  Calls prog 59 #[.pointer (some ⟨rb,0,none⟩),vi n] w (RDid rb w (p.walk n).1 (vi (p.walk n).2)):=by
 obtain ⟨c0,c1,c2,c3,c4,c5,c6,c7,c8⟩:=h.cells;have hb:=cA c1;have HP:=aA h;have fz:=vA h.blk;have h1:=hp.pe1;have h2:=hp.pe2;clear h
 by_cases hr:n < -9\/9<n
 ·have HL:Hid (p.walk n=(p,1)):=by unfold Hid dA.walk;rw [if_pos hr]
  have HR:=aA hr;clear hr;go_enter func59,ntmps59;go_wp2
  all_goals
   first
   | (exfalso;have:=HR.out;omega)
   | (go_ret;rw [HL.out];exact ⟨rfl,HP.out,fA.refl _ _⟩)
 ·have r1:-9<=n:=om
  have r2:n<=9:=om
  cases hd:p.door
  ·rw [hd] at c3
   have HL:Hid (p.walk n=(p,7)):=by unfold Hid dA.walk;rw [if_neg hr,if_pos hd]
   clear hr hd;go_enter func59,ntmps59;go_wp2;go_ret;rw [HL.out];exact ⟨rfl,HP.out,fA.refl _ _⟩
  ·rw [hd] at c3
   have HL:Hid (p.walk n=({ p with people:=oJ (p.people+n) 9 },0)):=by unfold Hid dA.walk;rw [if_neg hr,if_neg (by simp [hd])]
   have i1:IntKind.i64.wrap (p.people+n)=p.people+n:=IntWalk.i64_in _ om;clear hr hd;go_enter func59,ntmps59;go_wp2
   all_goals
    go_ret;rw [HL.out];refine ⟨rfl,?_,?_⟩
    case refine_1=>
     first
     | exact HP.out.set 4 _ (by first|(simp [oJ];done)|(simp [oJ];omega))
     | exact (HP.out.set (q:={ p with people:=p.people+n }) 4 _ sp).set 4 _ (by first|(simp [oJ];done)|(simp [oJ];omega))
    case refine_2=>
     first
     | exact (fA.refl _ _).put 4 _
     | exact ((fA.refl _ _).put 4 _).put 4 _
def RMade (w:World) (n:Int) (e:Ending) (w':World):Prop:=∃ rb,e = .returned (.tuple #[.pointer (some ⟨rb,0,none⟩),vi 0])/\bB w' rb (dA.new n)/\Ext w w'/\w.heap.size<=rb
theorem rnew_any (n:Int) (w:World) (h1:1<=n) (h2:n<=4):Calls prog 14 #[vi n] w (RMade w n):=by
 go_enter func14,ntmps14;go_wp2
 go_ret2
 refine ⟨w.heap.size,rfl,⟨?_⟩,eX,om⟩;rw [pA _ _ _ sp];rfl
theorem rwhere_any {rb:Nat} {p:dA} {w:World} (h:bB w rb p) (hp:p.WF) (id:Int):
  Calls prog 132 #[.pointer (some ⟨rb,0,none⟩),vi id] w fun e w'=>e = .returned (qI (p.where_ id))/\Ext w w':=by
 have HP0:=aA h;have hb:=h.lt;have hbw:=h.lt
 have h4:(4:Int)<=4:=dc
 have h41:(1:Int)<=4:=dc
 have HW:Hid (p.where_ id=aF p id 4 0):=where_find4 hp id;clear h;go_enter func132,ntmps132
 go_upto_region 1 with fail
 generalize hW:World.alloc _ _=w0;have r0:cI w0 w.heap.size 0 0:=cQ hW;have r1:cI w0 w.heap.size 1 0:=cQ hW;have r2:cI w0 w.heap.size 2 0:=cQ hW
 have fz:∀ i,w0.frozen? ⟨w.heap.size,i,none⟩=false:=by intro i;rw [<-hW];simp [go_sem]
 have hx:Ext w w0:=xQ hW;have HX:=aA hx;have HP:=aA (HP0.out.ext hx);have FZ:=aA fz;have hlev0:=HP.out.cells.1;have zlev:=cA hlev0;clear hW hx HP0 fz hb;go_wp2
 go_loopw [6] (fun i wr=>∃ a:Nat,1<=a/\(a:Int)<=4+1/\i = .int .i64 (a:Int)/\Hid (p.where_ id=aF p id 4 (4 * (a - 1)))/\Ext w0 wr) (fun i _=>(5 - intOf i).toNat)
 case atStart=>exact ⟨1,om,om,rfl,HW,eX⟩
 case round=>
  obtain ⟨a,ha,han',rfl,HR1,hxr⟩:=hrel;have HXR:=aA hxr;have hlev:=gA hxr hlev0;have zl:=cA hlev;clear hxr
  by_cases han:(a:Int)<=4
  ·go_wp2
   go_loopw [7] (fun i wr=>∃ s:Nat,s<=2/\i = .int .i64 (s:Int)/\Hid (p.where_ id=aF p id 4 (4 * (a - 1)+2 * s))/\Ext w0 wr) (fun i _=>(2 - intOf i).toNat)
   case atStart=>exact ⟨0,om,rfl,HR1,HXR.out.trans eX⟩
   case round=>
    obtain ⟨s,hs,rfl,HR2,hxr⟩:=hrel;have HXR:=aA hxr;clear hxr
    by_cases hs2:s<2
    ·have js:(s:Int)<2:=om
     go_wp2
     go_loopw [8] (fun i wr=>∃ d:Nat,d<=2/\i = .int .i64 (d:Int)/\Hid (p.where_ id=aF p id 4 (4 * (a - 1)+2 * s+d))/\Ext w0 wr) (fun i _=>(2 - intOf i).toNat)
     case atStart=>exact ⟨0,om,rfl,HR2,HXR.out.trans eX⟩
     case round=>
      obtain ⟨d,hd,rfl,HR3,hxr⟩:=hrel;have HXR:=aA hxr;clear hxr;have hR:w.heap.size<w0.heap.size:=cA r0
      by_cases hlt:d<2
      ·have hcell:=slotNat _ (HP.out.ext HXR.out) (a:=a) (b:=s) (c:=d) om om om
       have j0:(0:Int)<=(a:Int):=om
       have j1:(a:Int)<5:=om
       have j2:(0:Int)<=(s:Int):=om
       have j3:(s:Int)<2:=om
       have j4:(0:Int)<=(d:Int):=om
       have j5:(d:Int)<2:=om
       have hbr:=(HP.out.ext HXR.out).lt
       cases e0:(id != 0)
       ·have HNO:Hid (cH p id ⟨(a:Int),(s:Int),(d:Int)⟩=false):=by unfold Hid cH;rw [e0];rfl
        go_wp2;go_roundw
        case rel=>first|exact ⟨d+1,om,by go_num,by unfold Hid;rw [HR3.out];exact tK h4 ha han hs2 hlt HNO.out,HXR.out.trans eX⟩|(repeat apply Exists.intro;refine ⟨?_,rfl⟩;exact ⟨d+1,om,by go_num,by unfold Hid;rw [HR3.out];exact tK h4 ha han hs2 hlt HNO.out,HXR.out.trans eX⟩)
        case measure=>simp [intOf];omega
       ·cases e1:(p.slots ⟨(a:Int),(s:Int),(d:Int)⟩==id)
        ·have HNO:Hid (cH p id ⟨(a:Int),(s:Int),(d:Int)⟩=false):=by unfold Hid cH;rw [e0,e1];rfl
         go_wp2;go_roundw
         case rel=>first|exact ⟨d+1,om,by go_num,by unfold Hid;rw [HR3.out];exact tK h4 ha han hs2 hlt HNO.out,HXR.out.trans eX⟩|(repeat apply Exists.intro;refine ⟨?_,rfl⟩;exact ⟨d+1,om,by go_num,by unfold Hid;rw [HR3.out];exact tK h4 ha han hs2 hlt HNO.out,HXR.out.trans eX⟩)
         case measure=>simp [intOf];omega
        ·have HYES:Hid (p.where_ id=some ⟨(a:Int),(s:Int),(d:Int)⟩):=by unfold Hid;rw [HR3.out];exact where_yes h4 ha han hs2 hlt (by unfold cH;rw [e0,e1];rfl)
         go_upto_region 11 with fail
         have y0:=kA HXR.out hR (FZ.out 0);have y1:=kA HXR.out hR (FZ.out 1);have y2:=kA HXR.out hR (FZ.out 2);have t0:=gA HXR.out r0;have t1:=gA HXR.out r1;have t2:=gA HXR.out r2;go_wp2;obtain ⟨p0,p1,p2,px⟩:=put3w (w:=w) (a:=wr) (R:=w.heap.size) (x:=vi (a:Int)) (y:=vi (s:Int)) (z:=vi (d:Int)) (HX.out.trans HXR.out) (Nat.le_refl _) t0 t1 t2;exact bodyPost_ret (v:=.tuple #[.agg #[vi (a:Int),vi (s:Int),vi (d:Int)],.bool true]) (by simp [results,results132,go_sem,p0,p1,p2]) rfl ⟨by rw [HYES.out];rfl,px⟩
      ·have hd2:d=2:=om
       subst hd2;go_wp2;go_roundw
       case rel=>first|exact ⟨s+1,om,by go_num,by unfold Hid;rw [HR3.out];exact congrArg _ om,HXR.out.trans eX⟩|(repeat apply Exists.intro;refine ⟨?_,rfl⟩;exact ⟨s+1,om,by go_num,by unfold Hid;rw [HR3.out];exact congrArg _ om,HXR.out.trans eX⟩)
       case measure=>simp [intOf];omega
    ·have hs3:s=2:=om
     subst hs3;go_wp2;go_roundw
     case rel=>first|exact ⟨a+1,om,om,by go_num,by unfold Hid;rw [HR2.out];exact congrArg _ om,HXR.out.trans eX⟩|(repeat apply Exists.intro;refine ⟨?_,rfl⟩;exact ⟨a+1,om,om,by go_num,by unfold Hid;rw [HR2.out];exact congrArg _ om,HXR.out.trans eX⟩)
     case measure=>simp [intOf];omega
  ·have hend:Hid (p.where_ id=none):=by
    unfold Hid;rw [HR1.out];unfold aF;rw [List.drop_of_length_le (by rw [all_len om h4];omega)];rfl
   have y0:=kA HXR.out (cA r0) (FZ.out 0);have y1:=kA HXR.out (cA r0) (FZ.out 1);have y2:=kA HXR.out (cA r0) (FZ.out 2);have t0:=gA HXR.out r0;have t1:=gA HXR.out r1;have t2:=gA HXR.out r2;go_wp2;obtain ⟨p0,p1,p2,px⟩:=put3w (w:=w) (a:=wr) (R:=w.heap.size) (x:=vi 0) (y:=vi 0) (z:=vi 0) (HX.out.trans HXR.out) (Nat.le_refl _) t0 t1 t2;exact bodyPost_ret (v:=.tuple #[.agg #[vi 0,vi 0,vi 0],.bool false]) (by simp [results,results132,go_sem,p0,p1,p2]) rfl ⟨by rw [hend.out];rfl,px⟩
