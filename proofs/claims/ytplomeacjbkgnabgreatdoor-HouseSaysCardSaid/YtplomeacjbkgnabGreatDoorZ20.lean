import Derived.Test.YtplomeacjbkgnabGreatDoorZ18
import Derived.Lib.SmallJoins
set_option linter.all false
set_option maxRecDepth 100000
set_option maxHeartbeats 16000000
namespace Go.Proofs.YtplomeacjbkgnabGreatDoor
open Go.RowKit Go.MapKept
abbrev vb (n:Int):Value:=.int .u8 n
theorem byteMapType:Tryz.prog.underlying 179=some (.map 5 3):=by kernel_rfl
theorem byte_set (w:World) (o o':Obj):({ w.alloc o with heap:=(w.alloc o).heap.setIfInBounds w.heap.size o' }:World)=w.alloc o':=by
 show ({ w with heap:=(w.heap.push o).setIfInBounds w.heap.size o' }:World)={ w with heap:=w.heap.push o' }
 congr 1
 apply Array.ext_getElem?;intro i
 by_cases h:i=w.heap.size
 ·subst h;simp
 ·rw [Array.getElem?_setIfInBounds_ne (fun e=>h e.symm)]
  simp [Array.getElem?_push,h]
theorem byte_key (e:Bool) (k:Int) (w:World):(Instr.checkKey e 10000 5 (vb k)).run Tryz.prog w = .ok () w:=by kernel_rfl
theorem byte_insert (w:World) (es:Array MapEntry) (clock:Nat) (k v:Int) (h:Instr.findNow (.int .u8) (vb k) es.toList 0=some none):
  (Instr.mapUpdate 179 (.map (some w.heap.size)) (vb k) (vi v)).run Tryz.prog (w.alloc (.map es clock)) = .ok () (w.alloc (.map (es.push { key:=vb k,val:=vi v,born:=clock }) (clock+1))):=by
 have hb:(w.alloc (.map es clock)).heap[w.heap.size]? = some (.map es clock):=heap_alloc_new w _
 have hk:Tryz.prog.underlying 5=some (.int .u8):=by kernel_rfl
 have hc:(Instr.checkKey false 10000 5 (vb k)).run Tryz.prog (w.alloc (.map es clock)) = .ok () (w.alloc (.map es clock)):=byte_key _ _ _;have hf:(Instr.findKey 5 (vb k) es.toList).run Tryz.prog (w.alloc (.map es clock)) = .ok none (w.alloc (.map es clock)):=run_findKey hk h;simp [Instr.mapUpdate,run_underlying byteMapType,MapKept.run_getObj_map hb,hc,hf,run_setObj_map _ hb,Result.andThen];exact byte_set w _ _
theorem byte_look (w:World) (es:Array MapEntry) (clock:Nat) (k v:Int) (i:Nat) (h:Instr.findNow (.int .u8) (vb k) es.toList 0=some (some (i,vi v))):
  (Instr.lookup 179 (.map (some w.heap.size)) (vb k) false).run Tryz.prog (w.alloc (.map es clock)) = .ok (vi v) (w.alloc (.map es clock)):=by
 have hb:(w.alloc (.map es clock)).heap[w.heap.size]? = some (.map es clock):=heap_alloc_new w _
 have hk:Tryz.prog.underlying 5=some (.int .u8):=by kernel_rfl
 have hc:∀ b,(Instr.checkKey b 10000 5 (vb k)).run Tryz.prog (w.alloc (.map es clock)) = .ok () (w.alloc (.map es clock)):=fun b=>byte_key _ _ _
 have hf:(Instr.findKey 5 (vb k) es.toList).run Tryz.prog (w.alloc (.map es clock)) = .ok (some (i,vi v)) (w.alloc (.map es clock)):=run_findKey hk h;simp [Instr.lookup,run_underlying byteMapType,MapKept.run_getObj_map hb,hc,hf,Result.andThen]
abbrev twoMap (k1 v1 k2 v2:Int):Obj:=.map #[{ key:=vb k1,val:=vi v1,born:=0 },{ key:=vb k2,val:=vi v2,born:=1 }] 2
theorem byte_one (w:World) (k1 v1:Int):(Instr.mapUpdate 179 (.map (some w.heap.size)) (vb k1) (vi v1)).run Tryz.prog (w.alloc (.map #[] 0)) = .ok () (w.alloc (.map #[{ key:=vb k1,val:=vi v1,born:=0 }] 1)):=
 byte_insert w #[] 0 k1 v1 rfl
theorem byte_two (w:World) (k1 v1 k2 v2:Int) (h:(k2==k1)=false):(Instr.mapUpdate 179 (.map (some w.heap.size)) (vb k2) (vi v2)).run Tryz.prog (w.alloc (.map #[{ key:=vb k1,val:=vi v1,born:=0 }] 1)) = .ok () (w.alloc (twoMap k1 v1 k2 v2)):=
 byte_insert w #[{ key:=vb k1,val:=vi v1,born:=0 }] 1 k2 v2 (by simp [Instr.findNow,Instr.sameNow,h])
theorem byte_get1 (w:World) (k1 v1 k2 v2:Int):(Instr.lookup 179 (.map (some w.heap.size)) (vb k1) false).run Tryz.prog (w.alloc (twoMap k1 v1 k2 v2)) = .ok (vi v1) (w.alloc (twoMap k1 v1 k2 v2)):=
 byte_look w _ 2 k1 v1 0 (by simp [Instr.findNow,Instr.sameNow])
theorem byte_get2 (w:World) (k1 v1 k2 v2:Int) (h:(k2==k1)=false):(Instr.lookup 179 (.map (some w.heap.size)) (vb k2) false).run Tryz.prog (w.alloc (twoMap k1 v1 k2 v2)) = .ok (vi v2) (w.alloc (twoMap k1 v1 k2 v2)):=
 byte_look w _ 2 k2 v2 1 (by simp [Instr.findNow,Instr.sameNow,h])
theorem step_117 {pb mb:Nat} {p:Ch.Plant} {w:World} (h:tA w pb mb p) (hp:p.WF) (hs:decide (0<p.stall)=false):
  Calls Tryz.prog 56 #[.pointer (some ⟨pb,0,none⟩),vb 117] w (Did pb mb w (p.rise 1) (.tuple #[])):=by
 obtain ⟨c0,c1,c2,c3,c4,c5,c6,c7,c8,c9⟩:=h.cells;have hb:=dA c1;have HP:=aA h;have fz:=xA h.blk;clear h;have m0:=@run_makeMap Tryz.prog
 have m1:=fun w=>byte_one w 117 1
 have m2:=fun w=>byte_two w 117 1 100 (-1) rfl
 have m3:=fun w=>byte_get1 w 117 1 100 (-1)
 have m4:=fun w=>byte_get2 w 117 1 100 (-1) rfl
 go_enter Tryz.func56,Tryz.ntmps56;go_wp2_with (go_at_call 104;(with_reducible refine (rise_any (HP.out.ext eX) hp 1 (Or.inl rfl)).mono ?_);rintro e w1 ⟨rfl,hq,hk⟩)
 go_end0
 exact ⟨rfl,hq,(mA.of_ext eX).trans hk⟩
theorem step_100 {pb mb:Nat} {p:Ch.Plant} {w:World} (h:tA w pb mb p) (hp:p.WF) (hs:decide (0<p.stall)=false):
  Calls Tryz.prog 56 #[.pointer (some ⟨pb,0,none⟩),vb 100] w (Did pb mb w (p.rise (-1)) (.tuple #[])):=by
 obtain ⟨c0,c1,c2,c3,c4,c5,c6,c7,c8,c9⟩:=h.cells;have hb:=dA c1;have HP:=aA h;have fz:=xA h.blk;clear h;have m0:=@run_makeMap Tryz.prog
 have m1:=fun w=>byte_one w 117 1
 have m2:=fun w=>byte_two w 117 1 100 (-1) rfl
 have m3:=fun w=>byte_get1 w 117 1 100 (-1)
 have m4:=fun w=>byte_get2 w 117 1 100 (-1) rfl
 go_enter Tryz.func56,Tryz.ntmps56;go_wp2_with (go_at_call 104;(with_reducible refine (rise_any (HP.out.ext eX) hp (-1) (Or.inr rfl)).mono ?_);rintro e w1 ⟨rfl,hq,hk⟩)
 go_end0
 exact ⟨rfl,hq,(mA.of_ext eX).trans hk⟩
theorem step_108 {pb mb:Nat} {p:Ch.Plant} {w:World} (h:tA w pb mb p) (hp:p.WF) (hs:decide (0<p.stall)=false):
  Calls Tryz.prog 56 #[.pointer (some ⟨pb,0,none⟩),vb 108] w (Did pb mb w (p.stretch (-1)) (.tuple #[])):=by
 obtain ⟨c0,c1,c2,c3,c4,c5,c6,c7,c8,c9⟩:=h.cells;have hb:=dA c1;have HP:=aA h;have fz:=xA h.blk;clear h;have m0:=@run_makeMap Tryz.prog
 have m1:=fun w=>byte_one w 108 (-1)
 have m2:=fun w=>byte_two w 108 (-1) 114 1 rfl
 have m3:=fun w=>byte_get1 w 108 (-1) 114 1
 have m4:=fun w=>byte_get2 w 108 (-1) 114 1 rfl
 go_enter Tryz.func56,Tryz.ntmps56;go_wp2_with (go_at_call 105;(with_reducible refine (stretch_any (HP.out.ext eX) hp (-1) (Or.inr rfl)).mono ?_);rintro e w1 ⟨rfl,hq,hk⟩)
 go_end0
 exact ⟨rfl,hq,(mA.of_ext eX).trans hk⟩
theorem step_114 {pb mb:Nat} {p:Ch.Plant} {w:World} (h:tA w pb mb p) (hp:p.WF) (hs:decide (0<p.stall)=false):
  Calls Tryz.prog 56 #[.pointer (some ⟨pb,0,none⟩),vb 114] w (Did pb mb w (p.stretch 1) (.tuple #[])):=by
 obtain ⟨c0,c1,c2,c3,c4,c5,c6,c7,c8,c9⟩:=h.cells;have hb:=dA c1;have HP:=aA h;have fz:=xA h.blk;clear h;have m0:=@run_makeMap Tryz.prog
 have m1:=fun w=>byte_one w 108 (-1)
 have m2:=fun w=>byte_two w 108 (-1) 114 1 rfl
 have m3:=fun w=>byte_get1 w 108 (-1) 114 1
 have m4:=fun w=>byte_get2 w 108 (-1) 114 1 rfl
 go_enter Tryz.func56,Tryz.ntmps56;go_wp2_with (go_at_call 105;(with_reducible refine (stretch_any (HP.out.ext eX) hp 1 (Or.inl rfl)).mono ?_);rintro e w1 ⟨rfl,hq,hk⟩)
 go_end0
 exact ⟨rfl,hq,(mA.of_ext eX).trans hk⟩
theorem step_103 {pb mb:Nat} {p:Ch.Plant} {w:World} (h:tA w pb mb p) (hp:p.WF) (hs:decide (0<p.stall)=false):
  Calls Tryz.prog 56 #[.pointer (some ⟨pb,0,none⟩),vb 103] w (Did pb mb w (p.grab) (.tuple #[])):=by
 obtain ⟨c0,c1,c2,c3,c4,c5,c6,c7,c8,c9⟩:=h.cells;have hb:=dA c1;have HP:=aA h;have fz:=xA h.blk;clear h;go_enter Tryz.func56,Tryz.ntmps56;go_wp2_with (go_at_call 106;(with_reducible refine (grab_any (HP.out.ext eX) hp).mono ?_);rintro e w1 ⟨rfl,hq,hk⟩)
 go_end0
 exact ⟨rfl,hq,(mA.of_ext eX).trans hk⟩
theorem step_112 {pb mb:Nat} {p:Ch.Plant} {w:World} (h:tA w pb mb p) (hp:p.WF) (hs:decide (0<p.stall)=false):
  Calls Tryz.prog 56 #[.pointer (some ⟨pb,0,none⟩),vb 112] w (Did pb mb w (p.put) (.tuple #[])):=by
 obtain ⟨c0,c1,c2,c3,c4,c5,c6,c7,c8,c9⟩:=h.cells;have hb:=dA c1;have HP:=aA h;have fz:=xA h.blk;clear h;go_enter Tryz.func56,Tryz.ntmps56;go_wp2_with (go_at_call 107;(with_reducible refine (put_any (HP.out.ext eX) hp).mono ?_);rintro e w1 ⟨rfl,hq,hk⟩)
 go_end0
 exact ⟨rfl,hq,(mA.of_ext eX).trans hk⟩
theorem step_111 {pb mb:Nat} {p:Ch.Plant} {w:World} (h:tA w pb mb p) (hp:p.WF) (hs:decide (0<p.stall)=false):
  Calls Tryz.prog 56 #[.pointer (some ⟨pb,0,none⟩),vb 111] w (Did pb mb w (p.swing true) (.tuple #[])):=by
 obtain ⟨c0,c1,c2,c3,c4,c5,c6,c7,c8,c9⟩:=h.cells;have hb:=dA c1;have HP:=aA h;have fz:=xA h.blk;clear h;go_enter Tryz.func56,Tryz.ntmps56;go_wp2_with (go_at_call 108;(with_reducible refine (swing_any (HP.out.ext eX) true).mono ?_);rintro e w1 ⟨rfl,hq,hk⟩)
 go_end0
 exact ⟨rfl,hq,(mA.of_ext eX).trans hk⟩
theorem step_99 {pb mb:Nat} {p:Ch.Plant} {w:World} (h:tA w pb mb p) (hp:p.WF) (hs:decide (0<p.stall)=false):
  Calls Tryz.prog 56 #[.pointer (some ⟨pb,0,none⟩),vb 99] w (Did pb mb w (p.swing false) (.tuple #[])):=by
 obtain ⟨c0,c1,c2,c3,c4,c5,c6,c7,c8,c9⟩:=h.cells;have hb:=dA c1;have HP:=aA h;have fz:=xA h.blk;clear h;go_enter Tryz.func56,Tryz.ntmps56;go_wp2_with (go_at_call 108;(with_reducible refine (swing_any (HP.out.ext eX) false).mono ?_);rintro e w1 ⟨rfl,hq,hk⟩)
 go_end0
 exact ⟨rfl,hq,(mA.of_ext eX).trans hk⟩
theorem step_110 {pb mb:Nat} {p:Ch.Plant} {w:World} (h:tA w pb mb p) (hp:p.WF) (hs:decide (0<p.stall)=false):
  Calls Tryz.prog 56 #[.pointer (some ⟨pb,0,none⟩),vb 110] w (Did pb mb w (p.pass true) (.tuple #[])):=by
 obtain ⟨c0,c1,c2,c3,c4,c5,c6,c7,c8,c9⟩:=h.cells;have hb:=dA c1;have HP:=aA h;have fz:=xA h.blk;clear h;go_enter Tryz.func56,Tryz.ntmps56;go_wp2_with (go_at_call 109;(with_reducible refine (pass_any (HP.out.ext eX) true).mono ?_);rintro e w1 ⟨rfl,hq,hk⟩)
 go_end0
 exact ⟨rfl,hq,(mA.of_ext eX).trans hk⟩
theorem step_120 {pb mb:Nat} {p:Ch.Plant} {w:World} (h:tA w pb mb p) (hp:p.WF) (hs:decide (0<p.stall)=false):
  Calls Tryz.prog 56 #[.pointer (some ⟨pb,0,none⟩),vb 120] w (Did pb mb w (p.pass false) (.tuple #[])):=by
 obtain ⟨c0,c1,c2,c3,c4,c5,c6,c7,c8,c9⟩:=h.cells;have hb:=dA c1;have HP:=aA h;have fz:=xA h.blk;clear h;go_enter Tryz.func56,Tryz.ntmps56;go_wp2_with (go_at_call 109;(with_reducible refine (pass_any (HP.out.ext eX) false).mono ?_);rintro e w1 ⟨rfl,hq,hk⟩)
 go_end0
 exact ⟨rfl,hq,(mA.of_ext eX).trans hk⟩
theorem step_none {pb mb:Nat} {p:Ch.Plant} {w:World} (h:tA w pb mb p) (hs:decide (0<p.stall)=false) (c:Int) (h117:(c==117)=false) (h100:(c==100)=false) (h108:(c==108)=false) (h114:(c==114)=false) (h103:(c==103)=false) (h112:(c==112)=false) (h111:(c==111)=false) (h99:(c==99)=false) (h110:(c==110)=false) (h120:(c==120)=false):
  Calls Tryz.prog 56 #[.pointer (some ⟨pb,0,none⟩),vb c] w (Did pb mb w p (.tuple #[])):=by
 obtain ⟨c0,c1,c2,c3,c4,c5,c6,c7,c8,c9⟩:=h.cells;have hb:=dA c1;have HP:=aA h;have fz:=xA h.blk;clear h;go_enter Tryz.func56,Tryz.ntmps56;go_wp2
 all_goals
  go_end0
  exact ⟨rfl,HP.out,mA.refl _ _⟩
theorem step_rest {pb mb:Nat} {p:Ch.Plant} {w:World} (h:tA w pb mb p):
  Calls Tryz.prog 56 #[.pointer (some ⟨pb,0,none⟩),vb 45] w (Did pb mb w p (.tuple #[])):=by
 obtain ⟨c0,c1,c2,c3,c4,c5,c6,c7,c8,c9⟩:=h.cells;have hb:=dA c1;have HP:=aA h;have fz:=xA h.blk;clear h;go_enter Tryz.func56,Tryz.ntmps56;go_wp2
 all_goals
  go_end0
  exact ⟨rfl,HP.out,mA.refl _ _⟩
theorem step_stalled {pb mb:Nat} {p:Ch.Plant} {w:World} (h:tA w pb mb p) (hp:p.WF) (c:Int) (hs:0<p.stall) (hc:(c==45)=false):
  Calls Tryz.prog 56 #[.pointer (some ⟨pb,0,none⟩),vb c] w (Did pb mb w { p with stall:=p.stall - 1 } (.tuple #[])):=by
 have hc':(c != 45)=true:=by simpa using hc
 have h2:=hp.st2;have i1:IntKind.i64.wrap (p.stall - 1)=p.stall - 1:=IntWalk.i64_in _ (by omega);obtain ⟨c0,c1,c2,c3,c4,c5,c6,c7,c8,c9⟩:=h.cells;have hb:=dA c1;have HP:=aA h;have fz:=xA h.blk;clear h;go_enter Tryz.func56,Tryz.ntmps56;go_wp2;refine bodyPost_ret (results_none rfl _ _ _) rfl ?_;exact ⟨rfl,HP.out.set 8 _ (by simp) rfl,(mA.refl _ _).setCell (Or.inl (Or.inl rfl)) _⟩
theorem step_any {pb mb:Nat} {p:Ch.Plant} {w:World} (h:tA w pb mb p) (hp:p.WF) (c:Int):
  Calls Tryz.prog 56 #[.pointer (some ⟨pb,0,none⟩),vb c] w (Did pb mb w (p.step c) (.tuple #[])):=by
 by_cases h45:c=45
 ·subst h45
  have:p.step 45=p:=by unfold Ch.Plant.step;rw [if_neg (by simp)];rfl
  rw [this];exact step_rest h
 by_cases hs:0<p.stall
 ·have:p.step c={ p with stall:=p.stall - 1 }:=by unfold Ch.Plant.step;rw [if_pos ⟨hs,h45⟩]
  rw [this];exact step_stalled h hp c hs (by simpa using h45)
 have hd:decide (0<p.stall)=false:=by simpa using hs
 have:p.step c=p.act c:=by unfold Ch.Plant.step;rw [if_neg (by omega)]
 rw [this]
 by_cases h117:c=117
 ·subst h117;exact step_117 h hp hd
 by_cases h100:c=100
 ·subst h100;exact step_100 h hp hd
 by_cases h108:c=108
 ·subst h108;exact step_108 h hp hd
 by_cases h114:c=114
 ·subst h114;exact step_114 h hp hd
 by_cases h103:c=103
 ·subst h103;exact step_103 h hp hd
 by_cases h112:c=112
 ·subst h112;exact step_112 h hp hd
 by_cases h111:c=111
 ·subst h111;exact step_111 h hp hd
 by_cases h99:c=99
 ·subst h99;exact step_99 h hp hd
 by_cases h110:c=110
 ·subst h110;exact step_110 h hp hd
 by_cases h120:c=120
 ·subst h120;exact step_120 h hp hd
 have:p.act c=p:=by
  unfold Ch.Plant.act;rw [if_neg h117,if_neg h100,if_neg h108,if_neg h114,if_neg h103,if_neg h112,if_neg h111,if_neg h99,if_neg h110,if_neg h120]
 rw [this];exact step_none h hd c (by simpa using h117) (by simpa using h100) (by simpa using h108) (by simpa using h114) (by simpa using h103) (by simpa using h112) (by simpa using h111) (by simpa using h99) (by simpa using h110) (by simpa using h120)
end Go.Proofs.YtplomeacjbkgnabGreatDoor
namespace Ch
/-! ### turn -/
def Book.stay (b:Book) (t:Int):Stay:=(b.find t).getD default
def firstJob (b:Book) (bay:Int):Option Job:=
 match b.jobs.find? (fun j=>!j.fetch&&(b.stay j.ticket).car.id==bay) with
 | some j=>some j
 | none=>b.jobs.head?
def blocks (b:Book) (p:Plant) (x:Stay) (j:Job):Bool:=
 j.fetch&&(b.stay j.ticket).home.depth==1&&front (b.stay j.ticket).home==x.home&&p.slots (b.stay j.ticket).home==(b.stay j.ticket).car.id
def loaded (b:Book) (levels:Int) (p:Plant):List Goal:=
 match b.of p.lift with
 | none=>giveOut
 | some x=>
  match firstJob b p.bay with
  | some j=>
   if j.fetch&&j.ticket==x.ticket&&p.bay==0 then giveOut
   else if (x.home.depth==1&&p.slots (front x.home) != 0) || blocks b p x j then bring (spare levels)
   else bring x.home
  | none=>if x.home.depth==1&&p.slots (front x.home) != 0 then bring (spare levels) else bring x.home
def storeOf (p:Plant) (x:Stay):List Goal×Option Bool:=
 if p.slots x.home=x.car.id then ([],some false)
 else if p.bay=x.car.id then (takeIn,none)
 else if p.has x.car.id then ([],none) else ([],some true)
def fetchOf (p:Plant) (x:Stay):List Goal×Bool:=
 if p.bay=x.car.id∨p.has x.car.id=false then ([],true)
 else if p.bay≠0∧p.door=true then ([],false)
 else if p.bay≠0 then (welcome,false)
 else if p.door=true then ([⟨5,0⟩],false)
 else match p.where_ x.car.id with
  | some y=>if y.depth=1∧p.slots (front y)≠0 then (fetch (front y),false) else (fetch y,false)
  | none=>([],false)
def jobOf (b:Book) (p:Plant) (j:Job):List Goal×Option Book:=
 if j.fetch then
  if (fetchOf p (b.stay j.ticket)).2 then ([],some (doneWith b j false)) else ((fetchOf p (b.stay j.ticket)).1,none)
 else
  match (storeOf p (b.stay j.ticket)).2 with
  | some g=>([],some (doneWith b j g))
  | none=>((storeOf p (b.stay j.ticket)).1,none)
def turnOf (b:Book) (levels:Int) (p:Plant):List Goal×Option Book:=
 if p.lift≠0 then (loaded b levels p,none)
 else
  let j:=firstJob b p.bay
  if p.slots (spare levels)≠0∧¬ (∃ y∈j,∃ x∈b.of (p.slots (spare levels)),blocks b p x y=true) then (fetch (spare levels),none)
  else match j with
   | some j=>jobOf b p j
   | none=>if p.door then ([],none) else (welcome,none)
/-! ### house -/
structure House where
 sizes:List Size
 p:Plant
 b:Book
 goals:List Goal
def House.n (h:House):Int:=h.sizes.length
def drive (p:Plant):List Goal→Plant×List Goal
 | []=>(p,[])
 | g :: r=>if (nextOf g p.sense).2 then drive p r else if may (nextOf g p.sense).1 p.sense then (p.step (nextOf g p.sense).1,g :: r) else (p,[])
def House.go (h:House) (l:List Goal):House:={ h with p:=(drive h.p l).1,goals:=(drive h.p l).2 }
def House.tick (h:House):House:=
 if h.goals=[] then
  match turnOf h.b h.n h.p with
  | (_,some b)=>{ h with b:=b }
  | (l,none)=>h.go l
 else h.go h.goals
def House.park (h:House) (c:Car):House×Int×Int:=
 if h.p.bay≠c.id then (h,0,7)
 else match Ch.park h.b h.sizes c with
  | .error e=>(h,0,e)
  | .ok (b,n)=>({ h with b:=b },n,0)
def House.want (h:House) (t:Int):House×Int:=
 match Ch.want h.b t with
 | .error e=>(h,e)
 | .ok b=>({ h with b:=b },0)
def House.ticks:Nat→House→House
 | 0,h=>h
 | n+1,h=>House.ticks n h.tick
def kPark:ByteArray:=⟨#[112,97,114,107]⟩
def kWant:ByteArray:=⟨#[119,97,110,116]⟩
def kOpen:ByteArray:=⟨#[111,112,101,110]⟩
def House.new (sizes:List Size):House:=⟨sizes,Plant.new sizes.length,⟨0,[],[]⟩,[]⟩
/-! ### what stays true -/
structure SafeL (p:Plant):Prop where
 wf:p.WF
structure Core (n:Int) (b:Book) (p:Plant):Prop where
 book:b.OK n
 safe:SafeL p
structure House.Inv' (h:House):Prop where
 lv:levelsFault h.sizes=0
 core:Core h.n h.b h.p
 few:h.goals.length≤6
theorem of_some {b:Book} {id:Int} {x:Stay} (h:b.of id=some x):x∈b.stays∧x.car.id=id:=by
 unfold Book.of at h;exact ⟨List.mem_of_find?_eq_some h,by simpa using List.find?_some h⟩
theorem of_none {b:Book} {id:Int} (h:b.of id=none):∀ x∈b.stays,x.car.id≠id:=by
 unfold Book.of at h;rw [List.find?_eq_none] at h;intro x hx e;exact h x hx (by simpa using e)
theorem first_mem {b:Book} {bay:Int} {j:Job} (h:firstJob b bay=some j):j∈b.jobs∧(b.jobs.head? = some j∨(j.fetch=false∧(b.stay j.ticket).car.id=bay)):=by
 unfold firstJob at h
 split at h
 ·rename_i i hi
  cases h;have:=List.find?_some hi;simp at this;exact ⟨List.mem_of_find?_eq_some hi,Or.inr ⟨this.1,this.2⟩⟩
 ·exact ⟨List.mem_of_head? h,Or.inl h⟩
theorem levels_len {l:List Size} (h:levelsFault l=0):1≤l.length∧l.length≤4:=by
 unfold levelsFault at h
 split at h
 ·cases h
 ·omega
theorem drive_wf {p:Plant} (hp:p.WF):∀ l,(drive p l).1.WF∧(drive p l).2.length≤l.length
 | []=>⟨hp,Nat.le_refl _⟩
 | g :: r=>by
  unfold drive
  split
  ·exact ⟨(drive_wf hp r).1,Nat.le_succ_of_le (drive_wf hp r).2⟩
  ·split
   ·exact ⟨hp.step _,Nat.le_refl _⟩
   ·exact ⟨hp,Nat.zero_le _⟩
theorem loaded_few (b:Book) (n:Int) (p:Plant):(loaded b n p).length≤6:=by
 unfold loaded
 repeat' split
 all_goals first|exact Nat.le_refl 6|(simp [giveOut,bring,there,ahead];done)|decide
theorem store_few (p:Plant) (x:Stay):(storeOf p x).1.length≤6:=by
 unfold storeOf
 repeat' split
 all_goals first|decide|(simp [takeIn,ahead];done)
theorem fetch_few (p:Plant) (x:Stay):(fetchOf p x).1.length≤6:=by
 unfold fetchOf
 repeat' split
 all_goals first|decide|(simp [welcome,fetch,there,ahead];done)
theorem job_few (b:Book) (p:Plant) (j:Job):(jobOf b p j).1.length≤6:=by
 unfold jobOf
 repeat' split
 all_goals first|exact Nat.zero_le _|exact fetch_few _ _|exact store_few _ _
theorem turn_few (b:Book) (n:Int) (p:Plant):(turnOf b n p).1.length≤6:=by
 unfold turnOf
 split
 ·exact loaded_few b n p
 ·dsimp only
  split
  ·simp [fetch,there,ahead]
  ·split
   ·exact job_few b p _
   ·split <;> (first|decide|simp [welcome,ahead])
theorem turn_book {n:Int} {b b':Book} {p:Plant} {l:List Goal} (h:Core n b p) (ht:turnOf b n p=(l,some b')):Core n b' p∧True:=by
 refine ⟨⟨?_,h.safe⟩,trivial⟩
 have hj:∀ j,(jobOf b p j).2=some b'→b'.OK n:=by
  intro j hj;unfold jobOf at hj
  repeat' split at hj
  all_goals first|(cases hj;exact done_ok h.book _ _)|cases hj
 unfold turnOf at ht
 split at ht
 ·cases ht
 ·dsimp only at ht
  split at ht
  ·cases ht
  ·split at ht
   ·exact hj _ (by rw [ht])
   ·split at ht <;> cases ht
theorem House.Inv'.new {sizes:List Size} (h:levelsFault sizes=0):(House.new sizes).Inv':=by
 have hl:=levels_len h;refine ⟨h,⟨bookFault_iff.1 ?_,⟨Plant.WF.new (by omega) (by omega)⟩⟩,Nat.zero_le _⟩;simp [House.new,bookFault,staysFault,jobsFault]
theorem House.Inv'.go {h:House} (hi:h.Inv') {l:List Goal} (hl:l.length≤6):(h.go l).Inv':=
 ⟨hi.lv,⟨hi.core.book,⟨(drive_wf hi.core.safe.wf l).1⟩⟩,Nat.le_trans (drive_wf hi.core.safe.wf l).2 hl⟩
theorem House.Inv'.tick {h:House} (hi:h.Inv'):h.tick.Inv':=by
 unfold House.tick
 split
 ·cases ht:turnOf h.b h.n h.p with
  | mk l o=>
   cases o with
   | none=>exact hi.go (by have:=turn_few h.b h.n h.p;rw [ht] at this;exact this)
   | some b=>exact ⟨hi.lv,(turn_book hi.core ht).1,hi.few⟩
 ·exact hi.go hi.few
theorem House.Inv'.park {h:House} (hi:h.Inv') (c:Car):(h.park c).1.Inv':=by
 unfold House.park
 split
 ·exact hi
 ·have hlen:=levels_len hi.lv
  cases hp:Ch.park h.b h.sizes c with
  | error e=>exact hi
  | ok r=>
   obtain ⟨b,k⟩:=r;obtain ⟨x,k1,k2,k3,k4,k5,k6,k7,k8⟩:=park_ok (x:=b) (k:=k) hi.core.book hlen.2 hp;exact ⟨hi.lv,⟨k8,hi.core.safe⟩,hi.few⟩
theorem House.Inv'.want {h:House} (hi:h.Inv') (t:Int):(h.want t).1.Inv':=by
 unfold House.want
 cases hw:Ch.want h.b t with
 | error e=>exact hi
 | ok b=>exact ⟨hi.lv,⟨(want_ok hi.core.book hw).2,hi.core.safe⟩,hi.few⟩
theorem House.Inv'.nil {h:House} (hi:h.Inv'):({ h with goals:=[] }:House).Inv':=⟨hi.lv,hi.core,Nat.zero_le _⟩
theorem House.Inv'.ticks {h:House} (hi:h.Inv') (n:Nat):(House.ticks n h).Inv':=by
 induction n generalizing h with
 | zero=>exact hi
 | succ n ih=>exact ih hi.tick
theorem House.Inv'.plant {h:House} (hi:h.Inv') {p:Plant} (hp:p.WF):({ h with p:=p }:House).Inv':=⟨hi.lv,⟨hi.core.book,⟨hp⟩⟩,hi.few⟩
end Ch
namespace Ch.Live
structure House.Inv2 (h:House):Prop where
 inv:h.Inv'
theorem House.Inv2.new {sizes:List Size} (h:levelsFault sizes=0):House.Inv2 (House.new sizes):=⟨.new h⟩
theorem House.Inv2.tick {h:House} (hi:House.Inv2 h):House.Inv2 h.tick:=⟨hi.inv.tick⟩
theorem House.Inv2.park {h:House} (hi:House.Inv2 h) (c:Car):House.Inv2 (h.park c).1:=⟨hi.inv.park c⟩
theorem House.Inv2.want {h:House} (hi:House.Inv2 h) (t:Int):House.Inv2 (h.want t).1:=⟨hi.inv.want t⟩
theorem goals_few {h:House} (hi:House.Inv2 h):h.goals.length≤6:=hi.inv.few
end Ch.Live
namespace Go.Proofs.YtplomeacjbkgnabGreatDoor
open Go.ChangeShapes Go.WideShapes Go.ChangeAt Go.RowKit
def Rd {H:Type} (enc:TypeId×Value→H) (P:Program) (w:World) (t:TypeId) (cs:List Value):Prop:=∃ fuel x,DataW.trod enc P w 0 (fun _=>true) true fuel t cs=some x
section
variable {H:Type} {enc:TypeId×Value→H} {P:Program} {w:World}
theorem eH {t:TypeId} {cs:List Value} (ht:P.underlying t=some (.int .i64)) (h:Rd enc P w t cs):∃ n,cs=[vi n]∧I64 n:=by
 obtain ⟨fuel,x,hx⟩:=h;obtain ⟨n,rfl,_,hw⟩:=DataW.trod_int ht hx;refine ⟨n,rfl,?_⟩;simp only [Lit.wf,Bool.and_eq_true,decide_eq_true_eq] at hw;unfold I64;simp [IntKind.min,IntKind.max,IntKind.signed,IntKind.bits] at hw;omega
theorem rd_bool {t:TypeId} {cs:List Value} (ht:P.underlying t=some .bool) (h:Rd enc P w t cs):∃ b,cs=[.bool b]:=by
 obtain ⟨fuel,x,hx⟩:=h;obtain ⟨b,rfl,_⟩:=DataW.trod_bool ht hx;exact ⟨b,rfl⟩
theorem rd_string {t:TypeId} {cs:List Value} (ht:P.underlying t=some .string) (h:Rd enc P w t cs):∃ s:ByteArray,cs=[.string s]∧s.size≤maxLen:=by
 obtain ⟨fuel,x,hx⟩:=h;obtain ⟨b,rfl,_,hb⟩:=DataW.trod_string ht hx;exact ⟨b,rfl,hb⟩
theorem nG {t:TypeId} {cs:List Value} (fs:List (TypeId×Nat×Nat)) (n:Nat) (ht:P.underlying t=some (.struct (P.fieldsOf t))) (hf:(P.fieldsOf t).toList.map (fun f=>(f.type,f.offset,P.cellsOf f.type))=fs) (hn:P.cellsOf t=n)
  (h:Rd enc P w t cs):cs.length=n∧∀ f∈fs,Rd enc P w f.1 ((cs.drop f.2.1).take f.2.2):=by
 obtain ⟨fuel,x,hx⟩:=h;obtain ⟨xs,m,rfl,_,hl,hxs,he⟩:=DataW.trod_struct ht hx;refine ⟨by rw [hl,hn],?_⟩;intro f hm;rw [←hf,List.mem_map] at hm;obtain ⟨g,hg,rfl⟩:=hm;obtain ⟨i,hi,hgi⟩:=List.getElem_of_mem hg
 have hi':(P.fieldsOf t)[i]? = some g:=by
  rw [←Array.getElem?_toList,List.getElem?_eq_getElem hi,hgi]
 have:=he i g hi'
 have hlt:i<xs.length:=by rw [hxs];simpa using hi
 rw [List.getElem?_eq_getElem hlt] at this;exact ⟨m,_,this⟩
theorem rd_slice {t e:TypeId} {cs:List Value} {c:Nat} (ht:P.underlying t=some (.slice e)) (hc:P.cellsOf e=c) (h:Rd enc P w t cs):
  ∃ a len cap,cs=[.slice a len cap]∧len≤cap∧cap≤maxLen∧(a=none→len=0∧cap=0) ∧
   ∀ ad,a=some ad→∀ i,i<len→∃ ecs:List Value,ecs.length=c∧Rd enc P w e ecs∧∀ j y,ecs[j]? = some y→w.cell? ((ad.add (i * c)).add j)=some y:=by
 obtain ⟨fuel,x,hx⟩:=h;subst hc
 rcases DataW.trod_slice ht hx with ⟨rfl,_⟩|⟨a,len,cap,elems,rest,n,rfl,rfl,_,_,hl,hcap,hel,hat,_⟩
 ·exact ⟨none,0,0,rfl,Nat.le_refl _,Nat.zero_le _,fun _=>⟨rfl,rfl⟩,fun _ h=>by cases h⟩
 ·refine ⟨some a,len,cap,rfl,hl,hcap,(fun h=>by cases h),?_⟩
  intro ad had i hi;cases had;have hh:=hat i hi
  have hlt:i<elems.length:=by omega
  rw [List.getElem?_eq_getElem hlt] at hh;simp only [Option.bind_eq_some_iff] at hh;obtain ⟨ecs,h1,h2⟩:=hh;obtain ⟨_,h3,h4⟩:=World.cells?_some h1;refine ⟨ecs,h3,⟨n,_,h2⟩,fun j y hy=>?_⟩
  have hj:j<ecs.length:=by
   by_cases hj:j<ecs.length
   ·exact hj
   ·rw [List.getElem?_eq_none (by omega)] at hy;cases hy
  rw [h4 j (by omega),hy]
end
theorem add_add (a:Addr) (m n:Nat) (h:a.spot=none):(a.add m).add n=⟨a.block,a.off+m+n,none⟩:=by
 obtain ⟨b,o,s⟩:=a;simp only at h;subst h;unfold Addr.add
 by_cases hm:m=0 <;> by_cases hn:n=0 <;> simp [hm,hn]
theorem rd_list {H:Type} {enc:TypeId×Value→H} {P:Program} {w:World} {α:Type} {t e:TypeId} {cs:List Value} {c:Nat} (cells:α→List Value) (good:α→Prop) (hc0:0<c) (hlen:∀ x,(cells x).length=c)
  (ht:P.underlying t=some (.slice e)) (hc:P.cellsOf e=c)
  (he:∀ ecs,Rd enc P w e ecs→∃ x:α,ecs=cells x∧good x) (h:Rd enc P w t cs):
  ∃ l a n cap,cs=[.slice a n cap]∧Sl w c cells l a n cap∧∀ x∈l,good x:=by
 obtain ⟨a,len,cap,rfl,h1,h2,h3,h4⟩:=rd_slice ht hc h
 cases a with
 | none=>
  obtain ⟨rfl,rfl⟩:=h3 rfl;exact ⟨[],none,0,0,rfl,Sl.nil w c cells,by simp⟩
 | some ad=>
  have key:∀ m,m≤len→∃ l:List α,l.length=m∧(∀ x∈l,good x)∧∀ i x,l[i]? = some x→∀ j y,(cells x)[j]? = some y→w.cell? ((ad.add (i * c)).add j)=some y:=by
   intro m
   induction m with
   | zero=>intro _;exact ⟨[],rfl,by simp,by intro i x hx;simp at hx⟩
   | succ m ih=>
    intro hm;obtain ⟨l,hl,hg,hx⟩:=ih (by omega);obtain ⟨ecs,hel,hrd,hcell⟩:=h4 ad rfl m (by omega);obtain ⟨x,rfl,hgx⟩:=he ecs hrd;refine ⟨l++[x],by simp [hl],by intro y hy;simp at hy;rcases hy with hy|rfl;exact hg y hy;exact hgx,?_⟩;intro i y hy j z hz
    by_cases hi:i<l.length
    ·rw [List.getElem?_append_left hi] at hy
     exact hx i y hy j z hz
    ·rw [List.getElem?_append_right (by omega)] at hy
     have:i - l.length=0:=by
      by_cases h0:i - l.length=0
      ·exact h0
      ·rw [List.getElem?_eq_none (by first|(simp;done)|(simp;omega))] at hy;cases hy
     rw [this] at hy;simp at hy;subst hy
     have hi2:i=m:=by omega
     subst hi2;exact hcell j z hz
  obtain ⟨l,hl,hg,hx⟩:=key len (Nat.le_refl _)
  have hspot:0<len→ad.spot=none:=by
   intro hlen0
   have hl0:0<l.length:=by omega
   have h0:=hx 0 (l[0]) (by simp) 0 ((cells l[0])[0]'(by rw [hlen];exact hc0)) (by simp);simp only [Nat.zero_mul,Addr.add,if_true] at h0;obtain ⟨b,o,s⟩:=ad
   cases s with
   | none=>rfl
   | some s=>simp [World.cell?] at h0;split at h0 <;> simp at h0
  refine ⟨l,some ad,len,cap,rfl,⟨hl,h1,h2,fun h0=>⟨ad.block,ad.off,?_,?_⟩⟩,hg⟩
  ·have:=hspot h0
   cases ad;simp at this ⊢;exact this
  ·intro i x hix j y hy
   have:=hx i x hix j y hy;rw [add_add _ _ _ (hspot h0)] at this;exact this
/-! ### the types of this program -/
section
variable {H:Type} {enc:TypeId×Value→H} {w:World}
def I64S (s:Ch.Size):Prop:=I64 s.long∧I64 s.high∧I64 s.heavy
def I64C (c:Ch.Car):Prop:=I64 c.id∧I64S c.size
def I64P (p:Ch.Place):Prop:=I64 p.level∧I64 p.side∧I64 p.depth
def I64Y (s:Ch.Stay):Prop:=I64 s.ticket∧I64C s.car∧I64P s.home
def I64J (j:Ch.Job):Prop:=I64 j.ticket
theorem list3 {l:List Value} {a b c:Value} (hl:l.length=3) (h0:(l.drop 0).take 1=[a]) (h1:(l.drop 1).take 1=[b]) (h2:(l.drop 2).take 1=[c]):l=[a,b,c]:=by
 match l,hl with
 | [x,y,z],_=>simp at h0 h1 h2;simp [h0,h1,h2]
theorem rd_size {cs:List Value} (h:Rd enc Tryz.prog w 54 cs):∃ s:Ch.Size,cs=lB s∧I64S s:=by
 obtain ⟨hl,hf⟩:=nG [(3,0,1),(3,1,1),(3,2,1)] 3 kR kR kR h;obtain ⟨a,ha,wa⟩:=eH Tryz.underlying3 (hf (3,0,1) (by simp));obtain ⟨b,hb,wb⟩:=eH Tryz.underlying3 (hf (3,1,1) (by simp));obtain ⟨c,hc,wc⟩:=eH Tryz.underlying3 (hf (3,2,1) (by simp));exact ⟨⟨a,b,c⟩,list3 hl ha hb hc,wa,wb,wc⟩
theorem rd_place {cs:List Value} (h:Rd enc Tryz.prog w 89 cs):∃ p:Ch.Place,cs=zC p∧I64P p:=by
 obtain ⟨hl,hf⟩:=nG [(3,0,1),(3,1,1),(3,2,1)] 3 kR kR kR h;obtain ⟨a,ha,wa⟩:=eH Tryz.underlying3 (hf (3,0,1) (by simp));obtain ⟨b,hb,wb⟩:=eH Tryz.underlying3 (hf (3,1,1) (by simp));obtain ⟨c,hc,wc⟩:=eH Tryz.underlying3 (hf (3,2,1) (by simp));exact ⟨⟨a,b,c⟩,list3 hl ha hb hc,wa,wb,wc⟩
theorem rd_job {cs:List Value} (h:Rd enc Tryz.prog w 143 cs):∃ j:Ch.Job,cs=jA j∧I64J j:=by
 obtain ⟨hl,hf⟩:=nG [(3,0,1),(4,1,1)] 2 kR kR kR h;obtain ⟨a,ha,wa⟩:=eH Tryz.underlying3 (hf (3,0,1) (by simp));obtain ⟨b,hb⟩:=rd_bool Tryz.underlying4 (hf (4,1,1) (by simp));refine ⟨⟨a,b⟩,?_,wa⟩
 match cs,hl with
 | [x,y],_=>simp at ha hb;simp [jA,ha,hb]
theorem rd_car {cs:List Value} (h:Rd enc Tryz.prog w 56 cs):∃ c:Ch.Car,cs=carCells c∧I64C c:=by
 obtain ⟨hl,hf⟩:=nG [(3,0,1),(54,1,3)] 4 kR kR kR h;obtain ⟨a,ha,wa⟩:=eH Tryz.underlying3 (hf (3,0,1) (by simp));obtain ⟨s,hs,ws⟩:=rd_size (hf (54,1,3) (by simp));refine ⟨⟨a,s⟩,?_,wa,ws⟩
 match cs,hl with
 | [x,y,z,u],_=>simp [lB] at ha hs;simp [carCells,ha,hs]
theorem rd_stay {cs:List Value} (h:Rd enc Tryz.prog w 141 cs):∃ s:Ch.Stay,cs=gA s∧I64Y s:=by
 obtain ⟨hl,hf⟩:=nG [(3,0,1),(56,1,4),(89,5,3)] 8 kR kR kR h;obtain ⟨a,ha,wa⟩:=eH Tryz.underlying3 (hf (3,0,1) (by simp));obtain ⟨c,hc,wc⟩:=rd_car (hf (56,1,4) (by simp));obtain ⟨p,hp,wp⟩:=rd_place (hf (89,5,3) (by simp));refine ⟨⟨a,c,p⟩,?_,wa,wc,wp⟩
 match cs,hl with
 | [x0,x1,x2,x3,x4,x5,x6,x7],_=>simp [carCells,zC] at ha hc hp;simp [gA,ha,hc,hp]
end
theorem rd_of_trod {H:Type} {enc:TypeId×Value→H} {P:Program} {w:World} {t:TypeId} {v:Value} {d:DataW H} {p:List MemPlace} (h:DataW.Trod enc P w 0 (fun _=>true) true t v d p):Rd enc P w t v.cells.toList:=by
 obtain ⟨fuel,hf⟩:=h;exact ⟨fuel,_,hf⟩
structure RAct where
 kind:ByteArray
 a:Int
 b:Int
 car:Ch.Car
 s:ByteArray
 k:Int
 last:Int
 a1:Option Addr
 n1:Nat
 c1:Nat
 a2:Option Addr
 n2:Nat
 c2:Nat
def ractCells (x:RAct):List Value:=[.string x.kind,vi x.a,vi x.b,vi x.car.id,vi x.car.size.long,vi x.car.size.high,vi x.car.size.heavy,.string x.s,.int .u64 x.k,vi x.last,.slice x.a1 x.n1 x.c1,.slice x.a2 x.n2 x.c2]
def RAct.act (x:RAct):Ch.Act:=⟨x.kind,x.a,x.b,x.car,x.s,x.k,⟨x.last,[],[]⟩⟩
structure RAct.Good (x:RAct):Prop where
 kind:x.kind.size≤maxLen
 s:x.s.size≤maxLen
 a:I64 x.a
 b:I64 x.b
 car:I64C x.car
 last:I64 x.last
 k0:0≤x.k
 k1:x.k<18446744073709551616
 l1:x.n1≤x.c1∧x.c1≤maxLen
 l2:x.n2≤x.c2∧x.c2≤maxLen
section
variable {H:Type} {enc:TypeId×Value→H} {w:World}
theorem rd_u64 {P:Program} {t:TypeId} {cs:List Value} (ht:P.underlying t=some (.int .u64)) (h:Rd enc P w t cs):∃ n,cs=[.int .u64 n]∧0≤n∧n<18446744073709551616:=by
 obtain ⟨fuel,x,hx⟩:=h;obtain ⟨n,rfl,_,hw⟩:=DataW.trod_int ht hx;refine ⟨n,rfl,?_⟩;simp only [Lit.wf,Bool.and_eq_true,decide_eq_true_eq] at hw;simp [IntKind.min,IntKind.max,IntKind.signed,IntKind.bits] at hw;omega
end
theorem at12 {w:World} {b p:Nat} {x0 x1 x2 x3 x4 x5 x6 x7 x8 x9 x10 x11:Value} (h:∀ j y,([x0,x1,x2,x3,x4,x5,x6,x7,x8,x9,x10,x11]:List Value)[j]? = some y→w.cell? ⟨b,p+j,none⟩=some y):
  w.cell? ⟨b,p,none⟩=some x0∧w.cell? ⟨b,p+1,none⟩=some x1∧w.cell? ⟨b,p+2,none⟩=some x2∧w.cell? ⟨b,p+3,none⟩=some x3 ∧
  w.cell? ⟨b,p+4,none⟩=some x4∧w.cell? ⟨b,p+5,none⟩=some x5∧w.cell? ⟨b,p+6,none⟩=some x6∧w.cell? ⟨b,p+7,none⟩=some x7 ∧
  w.cell? ⟨b,p+8,none⟩=some x8∧w.cell? ⟨b,p+9,none⟩=some x9∧w.cell? ⟨b,p+10,none⟩=some x10∧w.cell? ⟨b,p+11,none⟩=some x11:=
 ⟨h 0 _ rfl,h 1 _ rfl,h 2 _ rfl,h 3 _ rfl,h 4 _ rfl,h 5 _ rfl,h 6 _ rfl,h 7 _ rfl,h 8 _ rfl,h 9 _ rfl,h 10 _ rfl,h 11 _ rfl⟩
def Told (w:World) (e:Ending) (w':World):Prop:=∃ b,e = .returned (.bool b)∧Ext w w'
theorem lightActs_any (m:Int) (a:Option Addr) (n cap:Nat) (l:List RAct) (w:World) (h:Sl w 12 ractCells l a n cap) (hg:∀ x∈l,x.Good):
    Calls Tryz.prog 6 #[.slice a n cap,vi m] w (Told w):=by
  have hb:=h.bound;have HS:=aA h;have HG:=aA hg;clear h hg;go_enter Tryz.func6,Tryz.ntmps6;go_wp2
  · go_ret
    exact ⟨_,rfl,eX⟩
  · go_loop [5] (fun i=>∃ k:Nat,k≤n∧i = .int .i64 k) (fun i=>n - (intOf i).toNat)
    case atStart=>exact ⟨0,by omega,rfl⟩
    case round=>
      obtain ⟨k,hk,rfl⟩:=hrel
      by_cases hlt:k<n
      · obtain ⟨b,q,x,rfl,hx,dx⟩:=HS.out.get hlt
        have dx:=at12 dx;have gx:=HG.out x (List.mem_of_getElem? hx);have l1:=gx.s;have l2:=gx.l1;have l3:=gx.l2;unfold maxLen at l1 l2 l3;clear gx hx;go_wp2
        all_goals
          first
          | (go_ret;exact ⟨_,rfl,eX⟩)
          | (go_round
             case rel=>exact ⟨k+1,by omega,by go_num⟩
             case measure=>simp [intOf];omega)
      · go_wp2
        go_ret;exact ⟨_,rfl,eX⟩
/-! ### a machine, and what comes from outside -/
