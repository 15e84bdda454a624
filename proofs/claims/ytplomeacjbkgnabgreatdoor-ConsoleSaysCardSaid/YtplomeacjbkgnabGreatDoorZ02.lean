import Derived.Test.YtplomeacjbkgnabGreatDoorZ01
import Derived.Deep.AppendLies
import Derived.OrdersHeld
import Derived.RangeFuncCalls
import Derived.RangeFuncBox
import Derived.OwnWalkIn
import Derived.LoopNIn
import Derived.LoopIn
import Derived.Shelf.RegionOpen
set_option linter.all false
set_option maxRecDepth 100000
set_option maxHeartbeats 16000000
namespace Go.Proofs.YtplomeacjbkgnabGreatDoor
open Go.RowKit Tryz
structure fA (S:Nat->Prop) (w w':World):Prop where
 os:w'.os=w.os
 tape:w'.tape=w.tape
 output:w'.output=w.output
 size:w.heap.size<=w'.heap.size
 block:∀ k,k<w.heap.size->¬ S k->w'.heap[k]? = w.heap[k]?
theorem fA.refl (S:Nat->Prop) (w:World):fA S w w:=⟨rfl,rfl,rfl,Nat.le_refl _,fun _ _ _=>rfl⟩
theorem fA.of_ext {S:Nat->Prop} {w w':World} (h:Ext w w'):fA S w w':=by
 have hb:=h.below;exact ⟨hb.os,hb.tape,hb.output,hb.size,fun k hk _=>hb.block k hk⟩
theorem fA.trans {S:Nat->Prop} {a b c:World} (h:fA S a b) (h':fA S b c):fA S a c:=
 ⟨h'.os.trans h.os,h'.tape.trans h.tape,h'.output.trans h.output,Nat.le_trans h.size h'.size,fun k hk hs=>(h'.block k (Nat.lt_of_lt_of_le hk h.size) hs).trans (h.block k hk hs)⟩
theorem fA.ext {S:Nat->Prop} {a b c:World} (h:fA S a b) (h':Ext b c):fA S a c:=h.trans (fA.of_ext h')
theorem cF (w:World) (a:Addr) (v:Value):(w.setCell a v).heap.size=w.heap.size:=by simp [World.setCell]
theorem kB {w:World} {a:Addr} {v:Value} {k:Nat} (h:k≠a.block):(w.setCell a v).heap[k]? = w.heap[k]?:=by
 simp only [World.setCell,Array.getElem?_modify];rw [if_neg (fun e=>h e.symm)]
theorem tB {w:World} {b i:Nat} {v:Value} {cs:Array Value} {t:TypeId} {fr:Nat×Nat} (h:w.heap[b]? = some (.cells cs t fr)):(w.setCell ⟨b,i,none⟩ v).heap[b]? = some (.cells (cs.setIfInBounds i v) t fr):=by
 simp [World.setCell,Array.getElem?_modify,h]
theorem fA.setCell {S:Nat->Prop} {w w':World} (h:fA S w w') {a:Addr} (ha:S a.block\/w.heap.size<=a.block) (v:Value):fA S w (w'.setCell a v):=
 ⟨h.os,h.tape,h.output,by rw [cF];exact h.size,fun k hk hs=>by
  rw [kB]
  ·exact h.block k hk hs
  ·rintro rfl
   rcases ha with ha|ha
   ·exact hs ha
   ·omega⟩
theorem fA.setBlock {S:Nat->Prop} {w w':World} (h:fA S w w') {b:Nat} (hb:S b) (o:Obj):fA S w (ChangeMaps.setBlock w' b o):=
 ⟨h.os,h.tape,h.output,by simp [ChangeMaps.setBlock];exact h.size,fun k hk hs=>by
  have hne:b≠k:=by rintro rfl;exact hs hb
  simp only [ChangeMaps.setBlock]
  rw [Array.getElem?_setIfInBounds_ne hne]
  exact h.block k hk hs⟩
theorem gA {w w':World} (h:Ext w w') {b o:Nat} {v:Value} (hc:w.cell? ⟨b,o,none⟩=some v):w'.cell? ⟨b,o,none⟩=some v:=by
 obtain ⟨o',n,rfl⟩:=h;rw [cB _ _ _ _ _ _ (cA hc)];exact hc
theorem xe3 {w w':World} {b0 o0 b1 o1 b2 o2:Nat} {v0 v1 v2:Value} (x:Ext w w') (h0:cV w b0 o0 v0) (h1:cV w b1 o1 v1) (h2:cV w b2 o2 v2):cV w' b0 o0 v0/\cV w' b1 o1 v1/\cV w' b2 o2 v2:=⟨gA x h0,gA x h1,gA x h2⟩
theorem xe4 {w w':World} {b0 o0 b1 o1 b2 o2 b3 o3:Nat} {v0 v1 v2 v3:Value} (x:Ext w w') (h0:cV w b0 o0 v0) (h1:cV w b1 o1 v1) (h2:cV w b2 o2 v2) (h3:cV w b3 o3 v3):cV w' b0 o0 v0/\cV w' b1 o1 v1/\cV w' b2 o2 v2/\cV w' b3 o3 v3:=⟨gA x h0,gA x h1,gA x h2,gA x h3⟩
theorem xe5 {w w':World} {b0 o0 b1 o1 b2 o2 b3 o3 b4 o4:Nat} {v0 v1 v2 v3 v4:Value} (x:Ext w w') (h0:cV w b0 o0 v0) (h1:cV w b1 o1 v1) (h2:cV w b2 o2 v2) (h3:cV w b3 o3 v3) (h4:cV w b4 o4 v4):cV w' b0 o0 v0/\cV w' b1 o1 v1/\cV w' b2 o2 v2/\cV w' b3 o3 v3/\cV w' b4 o4 v4:=⟨gA x h0,gA x h1,gA x h2,gA x h3,gA x h4⟩
theorem xe6 {w w':World} {b0 o0 b1 o1 b2 o2 b3 o3 b4 o4 b5 o5:Nat} {v0 v1 v2 v3 v4 v5:Value} (x:Ext w w') (h0:cV w b0 o0 v0) (h1:cV w b1 o1 v1) (h2:cV w b2 o2 v2) (h3:cV w b3 o3 v3) (h4:cV w b4 o4 v4) (h5:cV w b5 o5 v5):cV w' b0 o0 v0/\cV w' b1 o1 v1/\cV w' b2 o2 v2/\cV w' b3 o3 v3/\cV w' b4 o4 v4/\cV w' b5 o5 v5:=⟨gA x h0,gA x h1,gA x h2,gA x h3,gA x h4,gA x h5⟩
theorem xe7 {w w':World} {b0 o0 b1 o1 b2 o2 b3 o3 b4 o4 b5 o5 b6 o6:Nat} {v0 v1 v2 v3 v4 v5 v6:Value} (x:Ext w w') (h0:cV w b0 o0 v0) (h1:cV w b1 o1 v1) (h2:cV w b2 o2 v2) (h3:cV w b3 o3 v3) (h4:cV w b4 o4 v4) (h5:cV w b5 o5 v5) (h6:cV w b6 o6 v6):cV w' b0 o0 v0/\cV w' b1 o1 v1/\cV w' b2 o2 v2/\cV w' b3 o3 v3/\cV w' b4 o4 v4/\cV w' b5 o5 v5/\cV w' b6 o6 v6:=⟨gA x h0,gA x h1,gA x h2,gA x h3,gA x h4,gA x h5,gA x h6⟩
theorem xe8 {w w':World} {b0 o0 b1 o1 b2 o2 b3 o3 b4 o4 b5 o5 b6 o6 b7 o7:Nat} {v0 v1 v2 v3 v4 v5 v6 v7:Value} (x:Ext w w') (h0:cV w b0 o0 v0) (h1:cV w b1 o1 v1) (h2:cV w b2 o2 v2) (h3:cV w b3 o3 v3) (h4:cV w b4 o4 v4) (h5:cV w b5 o5 v5) (h6:cV w b6 o6 v6) (h7:cV w b7 o7 v7):cV w' b0 o0 v0/\cV w' b1 o1 v1/\cV w' b2 o2 v2/\cV w' b3 o3 v3/\cV w' b4 o4 v4/\cV w' b5 o5 v5/\cV w' b6 o6 v6/\cV w' b7 o7 v7:=⟨gA x h0,gA x h1,gA x h2,gA x h3,gA x h4,gA x h5,gA x h6,gA x h7⟩
theorem xe9 {w w':World} {b0 o0 b1 o1 b2 o2 b3 o3 b4 o4 b5 o5 b6 o6 b7 o7 b8 o8:Nat} {v0 v1 v2 v3 v4 v5 v6 v7 v8:Value} (x:Ext w w') (h0:cV w b0 o0 v0) (h1:cV w b1 o1 v1) (h2:cV w b2 o2 v2) (h3:cV w b3 o3 v3) (h4:cV w b4 o4 v4) (h5:cV w b5 o5 v5) (h6:cV w b6 o6 v6) (h7:cV w b7 o7 v7) (h8:cV w b8 o8 v8):cV w' b0 o0 v0/\cV w' b1 o1 v1/\cV w' b2 o2 v2/\cV w' b3 o3 v3/\cV w' b4 o4 v4/\cV w' b5 o5 v5/\cV w' b6 o6 v6/\cV w' b7 o7 v7/\cV w' b8 o8 v8:=⟨gA x h0,gA x h1,gA x h2,gA x h3,gA x h4,gA x h5,gA x h6,gA x h7,gA x h8⟩
theorem xe10 {w w':World} {b0 o0 b1 o1 b2 o2 b3 o3 b4 o4 b5 o5 b6 o6 b7 o7 b8 o8 b9 o9:Nat} {v0 v1 v2 v3 v4 v5 v6 v7 v8 v9:Value} (x:Ext w w') (h0:cV w b0 o0 v0) (h1:cV w b1 o1 v1) (h2:cV w b2 o2 v2) (h3:cV w b3 o3 v3) (h4:cV w b4 o4 v4) (h5:cV w b5 o5 v5) (h6:cV w b6 o6 v6) (h7:cV w b7 o7 v7) (h8:cV w b8 o8 v8) (h9:cV w b9 o9 v9):cV w' b0 o0 v0/\cV w' b1 o1 v1/\cV w' b2 o2 v2/\cV w' b3 o3 v3/\cV w' b4 o4 v4/\cV w' b5 o5 v5/\cV w' b6 o6 v6/\cV w' b7 o7 v7/\cV w' b8 o8 v8/\cV w' b9 o9 v9:=⟨gA x h0,gA x h1,gA x h2,gA x h3,gA x h4,gA x h5,gA x h6,gA x h7,gA x h8,gA x h9⟩
theorem xe11 {w w':World} {b0 o0 b1 o1 b2 o2 b3 o3 b4 o4 b5 o5 b6 o6 b7 o7 b8 o8 b9 o9 b10 o10:Nat} {v0 v1 v2 v3 v4 v5 v6 v7 v8 v9 v10:Value} (x:Ext w w') (h0:cV w b0 o0 v0) (h1:cV w b1 o1 v1) (h2:cV w b2 o2 v2) (h3:cV w b3 o3 v3) (h4:cV w b4 o4 v4) (h5:cV w b5 o5 v5) (h6:cV w b6 o6 v6) (h7:cV w b7 o7 v7) (h8:cV w b8 o8 v8) (h9:cV w b9 o9 v9) (h10:cV w b10 o10 v10):cV w' b0 o0 v0/\cV w' b1 o1 v1/\cV w' b2 o2 v2/\cV w' b3 o3 v3/\cV w' b4 o4 v4/\cV w' b5 o5 v5/\cV w' b6 o6 v6/\cV w' b7 o7 v7/\cV w' b8 o8 v8/\cV w' b9 o9 v9/\cV w' b10 o10 v10:=⟨gA x h0,gA x h1,gA x h2,gA x h3,gA x h4,gA x h5,gA x h6,gA x h7,gA x h8,gA x h9,gA x h10⟩
theorem iF {w w':World} {b0 o0 b1 o1 b2 o2 b3 o3 b4 o4 b5 o5 b6 o6 b7 o7 b8 o8 b9 o9 b10 o10 b11 o11:Nat} {v0 v1 v2 v3 v4 v5 v6 v7 v8 v9 v10 v11:Value} (x:Ext w w') (h0:cV w b0 o0 v0) (h1:cV w b1 o1 v1) (h2:cV w b2 o2 v2) (h3:cV w b3 o3 v3) (h4:cV w b4 o4 v4) (h5:cV w b5 o5 v5) (h6:cV w b6 o6 v6) (h7:cV w b7 o7 v7) (h8:cV w b8 o8 v8) (h9:cV w b9 o9 v9) (h10:cV w b10 o10 v10) (h11:cV w b11 o11 v11):cV w' b0 o0 v0/\cV w' b1 o1 v1/\cV w' b2 o2 v2/\cV w' b3 o3 v3/\cV w' b4 o4 v4/\cV w' b5 o5 v5/\cV w' b6 o6 v6/\cV w' b7 o7 v7/\cV w' b8 o8 v8/\cV w' b9 o9 v9/\cV w' b10 o10 v10/\cV w' b11 o11 v11:=⟨gA x h0,gA x h1,gA x h2,gA x h3,gA x h4,gA x h5,gA x h6,gA x h7,gA x h8,gA x h9,gA x h10,gA x h11⟩
theorem kA {w w':World} (h:Ext w w') {b o:Nat} (hb:b<w.heap.size) (hc:w.frozen? ⟨b,o,none⟩=false):w'.frozen? ⟨b,o,none⟩=false:=by
 obtain ⟨o',n,rfl⟩:=h;rw [bN _ _ _ _ _ _ hb];exact hc
theorem gF {w w':World} {row:Option Nat} (h:w.grownBy w' row) {b o:Nat} {v:Value} (hc:w.cell? ⟨b,o,none⟩=some v) (hne:row≠some b):w'.cell? ⟨b,o,none⟩=some v:=by
 have:=h.block b (cA hc) (fun e=>hne e.symm);simp only [World.cell?,this]
 simpa only [World.cell?] using hc
theorem gfree {w w':World} {row:Option Nat} (h:w.grownBy w' row) {b o:Nat} (hb:b<w.heap.size) (hc:w.frozen? ⟨b,o,none⟩=false) (hne:row≠some b):w'.frozen? ⟨b,o,none⟩=false:=by
 have:=h.block b hb (fun e=>hne e.symm);simp only [World.frozen?,this]
 simpa only [World.frozen?] using hc
theorem lK (w:World) (cs:Array Value) (t:TypeId):∀ j u,cs.toList[j]? = some u->(w.alloc (.cells cs t)).drew.cell? ((⟨w.heap.size,0,none⟩:Addr).add j)=some u:=
 World.news_of_block (w:=(w.alloc (.cells cs t)).drew) (fr:=(0,0)) (t:=t) (cs:=cs) (heap_alloc_new w _)
theorem bF {B:Nat} {S:Nat->Prop} {w a b:World} (h:Below B w a) (hb:B<=w.heap.size) (k:fA S a b) (hs:∀ i,S i->B<=i):Below B w b:=
 ⟨k.os.trans h.os,k.tape.trans h.tape,k.output.trans h.output,Nat.le_trans h.size k.size,fun i hi=>(k.block i (by have:=h.size;omega) (fun c=>by have:=hs i c;omega)).trans (h.block i hi)⟩
theorem qB {S:Nat->Prop} {w w':World} (k:fA S w w') {b o:Nat} {v:Value} (hc:w.cell? ⟨b,o,none⟩=some v) (hn:¬ S b):w'.cell? ⟨b,o,none⟩=some v:=by
 have h:=k.block b (cA hc) hn;simp only [World.cell?,h]
 simpa only [World.cell?] using hc
def Is (T:Nat):Nat->Prop:=fun k=>k=T
theorem fA.put {T:Nat} {w w':World} (h:fA (Is T) w w') (o:Nat) (v:Value):fA (Is T) w (w'.setCell ⟨T,o,none⟩ v):=h.setCell (a:=⟨T,o,none⟩) (Or.inl (show T=T from rfl)) v
theorem fA.other {T k:Nat} {w w':World} (h:fA (Is T) w w') (hk:k<w.heap.size) (hn:k≠T):w'.heap[k]? = w.heap[k]?:=h.block k hk hn
theorem fA.cell {T b o:Nat} {w w':World} {v:Value} (h:fA (Is T) w w') (hc:w.cell? ⟨b,o,none⟩=some v) (hn:b≠T):w'.cell? ⟨b,o,none⟩=some v:=qB h hc hn
theorem fA.grown {S:Nat->Prop} {w a b:World} {row:Option Nat} (h:fA S w a) (g:a.grownBy b row) (hr:∀ k,row=some k->w.heap.size<=k):fA S w b:=
 ⟨g.os.trans h.os,g.tape.trans h.tape,g.output.trans h.output,Nat.le_trans h.size g.size,fun k hk hs=>
  (g.block k (Nat.lt_of_lt_of_le hk h.size) (fun e=>by have:=hr k e.symm;omega)).trans (h.block k hk hs)⟩
theorem fA.widen {w0 w a:World} {T:Nat} (h:fA (Is T) w a) (e:Ext w0 w) (hT:w0.heap.size<=T):Ext w0 a:=
 Ext.of_below (bF (w:=w0) e.below (Nat.le_refl _) h (fun i hi=>by rw [show i=T from hi];exact hT))
theorem fA.own {S S':Nat->Prop} {w a b:World} (h:fA S w a) (k:fA S' a b) (hr:∀ i,S' i->w.heap.size<=i):fA S w b:=
 ⟨k.os.trans h.os,k.tape.trans h.tape,k.output.trans h.output,Nat.le_trans h.size k.size,fun i hi hs=>(k.block i (Nat.lt_of_lt_of_le hi h.size) (fun c=>by have:=hr i c;omega)).trans (h.block i hi hs)⟩
theorem zC {w w':World} {base e size:Nat} {v:Value} {n:Nat} {xs:List Value} (h:w.ownsRow base e size v n xs) (x:Ext w w'):w'.ownsRow base e size v n xs:=by
 obtain ⟨o,m,rfl⟩:=x;exact vF h o m
theorem xC {w w':World} {b o:Nat} {v:Value} (h:Ext w w':=by simp (maxDischargeDepth:=60)) (hc:w.cell? ⟨b,o,none⟩=some v:=by assumption):w'.cell? ⟨b,o,none⟩=some v:=gA h hc
section
variable {P:Program} {ops:Array Oper} {Q:Exit->Act->World->Prop} {md:Region.Mode} {S:World->Prop} {t:Nat}
def dJ (P:Program) (md:Region.Mode) (ops:Array Oper) (Q:Exit->Act->World->Prop) (S:World->Prop) (t:Nat):Nat->Array Bool->Act->World->Prop
 | 0,listed,a,w=>Region.ready md ops listed=[]/\Q .normal a w
 | fuel+1,listed,a,w=>
  (Region.ready md ops listed=[]->Q .normal a w) /\
  ∀ i∈Region.ready md ops listed,wpOp P ops Q i (fun a' w'=>(i≠t->S w')/\dJ P md ops Q S t fuel (listed.setIfInBounds i true) a' w') a w
theorem wpAny_of_T:∀ (fuel:Nat) (listed:Array Bool) (a:Act) (w:World),dJ P md ops Q S t fuel listed a w->wpAny P md ops Q fuel listed a w
 | 0,_,_,_,h=>h
 | fuel+1,_,_,_,h=>⟨h.1,fun i hi=>wpOp_mono (fun a' w' h'=>wpAny_of_T fuel _ a' w' h'.2) (h.2 i hi)⟩
def awaitsB (md:Region.Mode) (ops:Array Oper) (t i:Nat):Bool:=((ops[t]?).map fun o=>o.after.any fun e=>Region.binds md e&&e.on==i).getD false
theorem waits_spec {i:Nat} (h:awaitsB md ops t i=true) {listed:Array Bool} (hl:t∈Region.ready md ops listed):listed.getD i false=true:=by
 obtain ⟨_,ot,hot,hall⟩:=mem_ready.1 hl;unfold awaitsB at h;rw [hot] at h;simp only [Option.map_some,Option.getD_some] at h;obtain ⟨e,he,hb⟩:=Array.any_eq_true'.1 h;simp only [Bool.and_eq_true,beq_iff_eq] at hb;have:=hall e he hb.1;rw [hb.2] at this;exact this
theorem getD_clash {listed:Array Bool} {i:Nat} (h1:listed.getD i false=true) (h0:listed.getD i true=false):False:=by
 rcases Nat.lt_or_ge i listed.size with h'|h'
 ·simp [h'] at h0 h1;rw [h0] at h1;cases h1
 ·simp [Array.getElem?_eq_none h'] at h1
theorem wpAnyT_first {i:Nat} {oi:Oper} {v:Value} (hi:ops[i]? = some oi) (hw:awaitsB md ops t i=true) (hsel:∀ (j:Nat) (o:Oper) cs b,ops[j]? = some o->o.op≠.select cs b)
  (hQ:∀ c a w,Q (.panic c) (a.put oi.dst v) w->Q (.panic c) a w):
  ∀ (fuel:Nat) (listed:Array Bool) (a:Act) (w:World),
   (∀ j oj,ops[j]? = some oj->j≠i->listed.getD j true=false->(∀ e∈oj.after,Region.binds md e=true->e.on≠i)->oi.apart ops oj=true) ->
   i∈Region.ready md ops listed->YieldsIf P ops S oi v a->S w ->
   dJ P md ops Q S t fuel (listed.setIfInBounds i true) (a.put oi.dst v) w->dJ P md ops Q S t (fuel+1) listed a w:=by
 intro fuel
 induction fuel with
 | zero=>
  intro listed a w _ hr hy hS H;refine ⟨fun h=>(by rw [h] at hr;cases hr),fun j hj=>?_⟩
  by_cases hji:j=i
  ·subst hji;exact hy.wpOp hi hS ⟨fun _=>hS,H⟩
  ·have:=ready_mono hj hji
   rw [H.1] at this;cases this
 | succ fuel ih=>
  intro listed a w hfree hr hy hS H;refine ⟨fun h=>(by rw [h] at hr;cases hr),fun j hj=>?_⟩
  by_cases hji:j=i
  ·subst hji;exact hy.wpOp hi hS ⟨fun _=>hS,H⟩
  ·have h1:=H.2 j (ready_mono hj hji)
   obtain ⟨hjun,oj,hoj,hall⟩:=mem_ready.1 hj
   have hjt:j≠t:=by
    rintro rfl;exact getD_clash (waits_spec hw hj) (mem_ready.1 hr).1
   have hnot:∀ e∈oj.after,Region.binds md e=true->e.on≠i:=fun e he hb heq=>by
    have h1:=hall e he hb;rw [heq] at h1;exact getD_clash h1 (mem_ready.1 hr).1
   have h2:=wpOp_putIf hoj (hfree j oj hoj hji hjun hnot) (fun cs b=>hsel i oi cs b hi) (fun cs b=>hsel j oj cs b hoj) hQ hy h1
   have hfree':∀ k ok,ops[k]? = some ok->k≠i->(listed.setIfInBounds j true).getD k true=false ->
     (∀ e∈ok.after,Region.binds md e=true->e.on≠i)->oi.apart ops ok=true:=fun k ok hk hki hun hno=>by
    refine hfree k ok hk hki ?_ hno
    by_cases hjk:j=k
    ·subst hjk;exact hjun
    ·rw [getD_set_ne true hjk] at hun;exact hun
   refine wpOp_mono (fun a' w' h3=>⟨fun _=>h3.2.1 hjt,ih (listed.setIfInBounds j true) a' w' hfree' (ready_mono hr (Ne.symm hji)) h3.1 (h3.2.1 hjt) ?_⟩) h2;rw [Array.setIfInBounds_comm _ _ hji];exact h3.2.2
theorem wpAnyT_take {i:Nat} {oi:Oper} {v:Value} {fuel:Nat} {listed:Array Bool} {a:Act} {w:World} (hi:ops[i]? = some oi) (hw:awaitsB md ops t i=true)
  (hs:Region.noSelect ops=true) (hf:Region.free md ops listed i=true) (hr:(Region.ready md ops listed).contains i=true)
  (hQ:∀ c a w,Q (.panic c) (a.put oi.dst v) w->Q (.panic c) a w) (hy:YieldsIf P ops S oi v a) (hS:S w)
  (h:dJ P md ops Q S t fuel (listed.setIfInBounds i true) (a.put oi.dst v) w):dJ P md ops Q S t (fuel+1) listed a w:=
 wpAnyT_first hi hw (Region.noSelect_spec hs) hQ fuel listed a w (Region.free_spec hi hf) (by simpa using hr) hy hS h
theorem wpAnyT_take' {i:Nat} {oi:Oper} {v:Value} {fuel:Nat} {listed:Array Bool} {a:Act} {w:World} (d:Option Nat) (hi:ops[i]? = some oi) (hd:(ops[i]?).map (·.dst)=some d) (hw:awaitsB md ops t i=true)
  (hs:Region.noSelect ops=true) (hf:Region.free md ops listed i=true) (hr:(Region.ready md ops listed).contains i=true)
  (hQ:∀ c a w,Q (.panic c) (a.put d v) w->Q (.panic c) a w) (hy:YieldsIf P ops S oi v a) (hS:S w)
  (h:dJ P md ops Q S t fuel (listed.setIfInBounds i true) (a.put d v) w):dJ P md ops Q S t (fuel+1) listed a w:=by
 rw [hi] at hd;obtain rfl:oi.dst=d:=Option.some.inj hd;exact wpAnyT_take hi hw hs hf hr hQ hy hS h
theorem tT {i D:Nat} {oi:Oper} {v:Value} {fuel:Nat} {listed:Array Bool} {a:Act} {w:World} (h:dJ P md ops Q S t fuel (listed.setIfInBounds i true) (a.put (some D) v) w) (hi:ops[i]? = some oi:=by rfl) (hd:(ops[i]?).map (·.dst)=some (some D):=by kernel_rfl) (hw:awaitsB md ops t i=true:=by kernel_rfl)
  (hs:Region.noSelect ops=true:=by kernel_rfl) (hf:Region.free md ops listed i=true:=by kernel_rfl) (hr:(Region.ready md ops listed).contains i=true:=by kernel_rfl) (hQ:∀ c a w,Q (.panic c) (a.put (some D) v) w->Q (.panic c) a w:=by exact fun _ _ _ h=>h)
  (hy:YieldsIf P ops S oi v a:=by refine Or.inl ⟨by rfl,?_⟩;intro w hSw;(try dsimp only at hSw);go_simp;(try with_reducible rfl)) (hS:S w:=by assumption):dJ P md ops Q S t (fuel+1) listed a w:=wpAnyT_take' (some D) hi hd hw hs hf hr hQ hy hS h
theorem xB {i:Nat} {o:Oper} {fuel:Nat} {listed:Array Bool} {a:Act} {w:World} (hr:Region.ready md ops listed=[i]) (ho:ops[i]? = some o)
  (h:∀ K':Act->World->Prop,(∀ a w,((i≠t->S w)/\dJ P md ops Q S t fuel (listed.setIfInBounds i true) a w)->K' a w)->if Region.wanted o (yielded ops a.tmps)=true then Oper.wp P o a w K' Q else K' (a.put o.dst undef) w):
  dJ P md ops Q S t (fuel+1) listed a w:=
 ⟨(fun h0=>by rw [hr] at h0;cases h0),fun j hj=>by
  rw [hr] at hj
  obtain rfl:j=i:=by simpa using hj
  exact wpOp_step ho h⟩
theorem eG {listed:Array Bool} {a:Act} {w:World} (hr:Region.ready md ops listed=[]) (h:Q .normal a w):∀ fuel,dJ P md ops Q S t fuel listed a w
 | 0=>⟨hr,h⟩
 | _+1=>⟨fun _=>h,by rw [hr];simp⟩
theorem tH {id:Nat} {a:Act} {w:World} (t:Nat) (S:World->Prop) (hm:P.follows .mixedOrders=true) (hS:S w.drew)
  (h:S w.drew->dJ P .any ops Q S t ops.size (Array.replicate ops.size false) a w.drew):(Code.region id ops true).wp P Q a w:=
 wp_region_any hm (wpAny_of_T _ _ _ _ (h hS))
end
section
variable {P:Program} {ops:Array Oper} {Q:Exit->Act->World->Prop} {md:Region.Mode} {n l:Nat}
theorem upon_inRound {o:Oper} {a:Act} {K:Act->World->Prop} {r:Result Next} (h:o.upon P a K Q r):o.uponIn (Fence.wide.inRound l) n P a K Q r:=by
 cases r with
 | ok x w'=>
  cases x with
  | value v=>exact h
  | skip=>exact h
  | defer d=>exact h
  | enter f args=>exact ⟨fun hd=>by simp [Fence.wide] at hd,CallsIn.inRound l (callsIn_wide.2 h)⟩
  | row row args=>exact ⟨fun hd=>by simp [Fence.wide] at hd,fun c cs _=>let ⟨v,w'',r,s⟩:=h c cs;⟨v,w'',r,stepsIn_wide.2 s⟩⟩
  | _=>exact h.elim
 | halt x w'=>
  cases x with
  | panic v=>exact h
  | _=>exact h.elim
def noDefer (ops:Array Oper):Bool:=ops.all fun o=>match o.op with | .defer _=>false|_=>true
theorem noDefer_spec (h:noDefer ops=true) {i:Nat} {o:Oper} (hi:ops[i]? = some o):∀ c,o.op≠.defer c:=by
 intro c e;unfold noDefer at h;rw [Array.all_eq_true] at h;obtain ⟨hlt,he⟩:=Array.getElem?_eq_some_iff.1 hi;have:=h i hlt;rw [he,e] at this;cases this
theorem op_inRound (hnd:noDefer ops=true) (hQ:¬ LetsOut Q) {i:Nat} {K K':Act->World->Prop} {a:Act} {w:World} (hK:∀ a w,K a w->K' a w) (h:wpOp P ops Q i K a w):wpOpIn (Fence.wide.inRound l) n P ops Q i K' a w:=by
 unfold wpOp at h;unfold wpOpIn
 cases ho:ops[i]? with
 | none=>simp only [ho] at h ⊢;exact hK _ _ h
 | some o=>
  simp only [ho] at h ⊢
  split
  ·rename_i hw
   rw [if_pos hw] at h
   rcases h with h|⟨_,h⟩
   ·refine Oper.wpIn_mono hK ⟨fun _ _=>trivial,?_⟩
    have e:(o.semAt (Fence.wide.inRound l).round a.eval)=execOp a.eval o:=Oper.semAt_some l a.eval o (noDefer_spec hnd ho);rw [e];exact upon_inRound h
   ·exact absurd h hQ
  ·rename_i hw
   rw [if_neg hw] at h;exact ⟨fun _ _=>trivial,hK _ _ h⟩
theorem any_inRound (hnd:noDefer ops=true) (hQ:¬ LetsOut Q):∀ (fuel:Nat) (listed:Array Bool) (a:Act) (w:World),wpAny P md ops Q fuel listed a w->wpAnyIn (Fence.wide.inRound l) n P md ops Q fuel listed a w
 | 0,_,_,_,h=>h
 | fuel+1,_,_,_,h=>⟨h.1,fun i hi=>op_inRound hnd hQ (fun a' w' h'=>any_inRound hnd hQ fuel _ a' w' h') (h.2 i hi)⟩
theorem wpIn_region_T {id:Nat} {a:Act} {w:World} (t:Nat) (S:World->Prop) (hnd:noDefer ops=true) (hQ:¬ LetsOut Q) (hm:P.follows .mixedOrders=true) (hS:S w.drew)
  (h:S w.drew->dJ P .any ops Q S t ops.size (Array.replicate ops.size false) a w.drew):(Code.region id ops true).wpIn (Fence.wide.inRound l) n P Q a w:=
 wpIn_region_any hm (any_inRound hnd hQ _ _ _ _ (wpAny_of_T _ _ _ _ (h hS)))
end
end Go.Proofs.YtplomeacjbkgnabGreatDoor
namespace Go.Proofs.YtplomeacjbkgnabGreatDoor
open Go.RowKit Go.Shelf Tryz
attribute [local go_sem] Oper.semAt_some
abbrev partV (g L k:Nat):Value:=.slice (some ⟨g,64 * k,none⟩) (min 64 (L - 64 * k)) (min 64 (L - 64 * k))
abbrev Part (L:Nat):Type:={ k:Nat // 64 * k<L }
def nN (bs bn:Nat) (A B:World):Prop:=B.heap[bs]? = A.heap[bs]?/\B.heap[bn]? = A.heap[bn]?
theorem keepTwo_t {bs bn:Nat} {A B C:World} (h:nN bs bn A B) (k:nN bs bn B C):nN bs bn A C:=⟨k.1.trans h.1,k.2.trans h.2⟩
theorem keepTwo_b {bs bn:Nat} {w:World} (h1:bs<w.heap.size) (h2:bn<w.heap.size) (W:World) (l:Nat) (o o':Obj) (hl:w.heap.size<=l) (_:W.heap[l]? = some o) (_:o.isCells=false) (_:o.isWalk=false):nN bs bn W (W.putObj l o'):=
 ⟨World.putObj_heap_other om,World.putObj_heap_other om⟩
theorem qL {bs bn:Nat} {A B:World} (h:nN bs bn A B) (i:Nat):B.cell? ⟨bs,i,none⟩=A.cell? ⟨bs,i,none⟩/\B.cell? ⟨bn,i,none⟩=A.cell? ⟨bn,i,none⟩:=by
 unfold World.cell?;exact ⟨by simp only [h.1],by simp only [h.2]⟩
def vG (L:Nat) (k:Nat) (pre:List (Part L)):Prop:=pre.map (·.1)=List.range k
theorem uG {L k:Nat} {pre:List (Part L)} (h:vG L k pre) (hk:64 * k<L):vG L (k+1) (pre++[⟨k,hk⟩]):=by
 unfold vG at *;rw [List.map_append,h,List.range_succ];rfl
theorem partsUpto_len {L k:Nat} {pre:List (Part L)} (h:vG L k pre):pre.length=k:=by
 have:=congrArg List.length h
 simpa using this
theorem chunk1_in (F:Fence) (n:Nat) (hf:F.fn 161) (hro:F.round=none) (hn:1<=n) (l bs bn g L cap:Nat) (hL:L<=1000000) (hcap:L<=cap) (hcm:cap<=maxLen) (J Jx:List (Part L)->World->Prop)
    (hY:∀ pre x W,J pre W->pre.length<(L+63) / 64->YieldAt F (n - 1) prog l #[partV g L x.1] W fun e W'=>
      (e = .returned (.bool true)/\J (pre++[x]) W'/\nN bs bn W W')\/(e = .returned (.bool false)/\Jx (pre++[x]) W'))
    (W:World) (hbs:W.cell? ⟨bs,0,none⟩=some (.slice (some ⟨g,0,none⟩) L cap)) (hbn:W.cell? ⟨bn,0,none⟩=some (.int .i64 64)) (h0:J [] W) (hd:∀ pre W n,J pre W->J pre (W.drewN n)):
    CallsIn F n prog 161 #[.func (.yield l) #[] #[],.pointer (some ⟨bs,0,none⟩),.pointer (some ⟨bn,0,none⟩)] W fun e W'=>(∃ v,e = .returned v) /\
      ((∃ ys,vG L ((L+63) / 64) ys/\J ys W')\/(∃ pre,(∃ k,k<=(L+63) / 64/\vG L k pre)/\Jx pre W')):=by
  refine callsIn_of_wp func161 rfl hf ?_ hro;simp only [ntmps161,List.size_toArray,List.length_cons,List.length_nil,Nat.reduceAdd,Nat.reduceSub,Array.replicate_succ,Array.replicate_zero,List.push_toArray,List.append_toArray,List.nil_append,List.cons_append]
  gi_wp2
  gi_loopw [4] (fun i wr=>∃ k j:Nat,k<=(L+63) / 64/\Hid (j=64 * k)/\i = .int .i64 (j:Int)/\(∃ pre,vG L k pre/\J pre wr)/\wr.cell? ⟨bs,0,none⟩=some (.slice (some ⟨g,0,none⟩) L cap)/\wr.cell? ⟨bn,0,none⟩=some (.int .i64 64))
    (fun i _=>2 * L+200 - (intOf i).toNat)
  case atStart=>exact ⟨0,0,Nat.zero_le _,rfl,rfl,⟨[],rfl,h0⟩,hbs,hbn⟩
  case round=>
    obtain ⟨k,j,hk,hj,rfl,⟨pre,hp,hJs⟩,hcs,hcn⟩:=hrel
    by_cases hlt:j<L
    · have hkl:64 * k<L:=by rw [<-hj.out];exact hlt
      have HY:=aA (fun n=>hY pre ⟨k,hkl⟩ (wr.drewN n) (hd _ _ _ hJs) (by rw [partsUpto_len hp];omega))
      have i0:(0:Int)<=(j:Int):=om
      have i1:(j:Int)<(L:Int):=om
      have i2:(j:Int)<=(L:Int):=om
      have i3:(L:Int)<=(cap:Int):=om
      obtain ⟨m,hm⟩:∃ m:Nat,Hid (m=min 64 (L - j)):=⟨_,rfl⟩
      have hm1:m=min 64 (L - j):=hm.out
      have i5:IntKind.i64.wrap ((j:Int)+(m:Int))=((j+m:Nat):Int):=by rw [IntWalk.i64_in _ om];omega
      have i6:(j:Int)<=((j+m:Nat):Int):=om
      have i7:((j+m:Nat):Int)<=(cap:Int):=om
      clear hm1
      gi_wp2
      by_cases hq:64<=L - j
      · have hq1:(64:Int)<=((L - j:Nat):Int):=om
        (refine wpIn_region_quiet_lit hro kR kR ?_
         repeat (gi_big_quiet_step (fail))
         refine wpQuietIn_nil ?_
         intro _ hw'
         obtain ⟨nq,hw''⟩:=hw'
         subst hw'')
        obtain ⟨fn,tmps,assign,body,hy,hR⟩:=HY.out nq;unfold partV at hy;rw [<-hj.out,<-hm.out] at hy
        have hm64:m=64:=by have:=hm.out;omega
        subst hm64
        gi_wp2
        refine hR.mono ?_;rintro e W3 (⟨rfl,hJ3,hk3⟩|⟨rfl,hJx3⟩)
        · have d1:W3.cell? ⟨bs,0,none⟩=some (.slice (some ⟨g,0,none⟩) L cap):=(qL hk3 0).1.trans hcs
          have d2:W3.cell? ⟨bn,0,none⟩=some (.int .i64 64):=(qL hk3 0).2.trans hcn
          gi_wp2
          go_roundw
          case rel=>first|exact ⟨k+1,j+64,by have:=hj.out;omega,by unfold Hid;have:=hj.out;omega,by go_num,⟨_,uG hp hkl,hJ3⟩,d1,d2⟩|(repeat apply Exists.intro;refine ⟨?_,rfl⟩;exact ⟨k+1,j+64,by have:=hj.out;omega,by unfold Hid;have:=hj.out;omega,by go_num,⟨_,uG hp hkl,hJ3⟩,d1,d2⟩)
          case measure=>(simp [intOf] <;> omega)
        · gi_wp2
          refine bodyPost_ret (results_none rfl _ _ _) rfl ?_;exact ⟨⟨_,rfl⟩,.inr ⟨_,⟨k+1,by have:=hj.out;omega,uG hp hkl⟩,hJx3⟩⟩
      · have hq1:¬ (64:Int)<=((L - j:Nat):Int):=om
        (refine wpIn_region_quiet_lit hro kR kR ?_
         repeat (gi_big_quiet_step (fail))
         refine wpQuietIn_nil ?_
         intro _ hw'
         obtain ⟨nq,hw''⟩:=hw'
         subst hw'')
        obtain ⟨fn,tmps,assign,body,hy,hR⟩:=HY.out nq;unfold partV at hy;rw [<-hj.out,<-hm.out] at hy
        have hm64:m=L - j:=by have:=hm.out;omega
        subst hm64
        gi_wp2
        refine hR.mono ?_;rintro e W3 (⟨rfl,hJ3,hk3⟩|⟨rfl,hJx3⟩)
        · have d1:W3.cell? ⟨bs,0,none⟩=some (.slice (some ⟨g,0,none⟩) L cap):=(qL hk3 0).1.trans hcs
          have d2:W3.cell? ⟨bn,0,none⟩=some (.int .i64 64):=(qL hk3 0).2.trans hcn
          gi_wp2
          go_roundw
          case rel=>first|exact ⟨k+1,j+64,by have:=hj.out;omega,by unfold Hid;have:=hj.out;omega,by go_num,⟨_,uG hp hkl,hJ3⟩,d1,d2⟩|(repeat apply Exists.intro;refine ⟨?_,rfl⟩;exact ⟨k+1,j+64,by have:=hj.out;omega,by unfold Hid;have:=hj.out;omega,by go_num,⟨_,uG hp hkl,hJ3⟩,d1,d2⟩)
          case measure=>(simp [intOf] <;> omega)
        · gi_wp2
          refine bodyPost_ret (results_none rfl _ _ _) rfl ?_;exact ⟨⟨_,rfl⟩,.inr ⟨_,⟨k+1,by have:=hj.out;omega,uG hp hkl⟩,hJx3⟩⟩
    · gi_wp2
      have hke:k=(L+63) / 64:=by have:=hj.out;omega
      subst hke
      go_end0
      exact ⟨⟨_,rfl⟩,.inl ⟨_,hp,hJs⟩⟩
theorem abides_drewN {α:Type} {B:Nat} {J:α->World->Prop} (h:AbidesFrom B J) (s:α) (W:World) (n:Nat) (hj:J s W):J s (W.drewN n):=
 h s W (W.drewN n) none hj ⟨rfl,rfl,rfl,Nat.le_refl _,fun _ _ _=>rfl⟩ (fun _ e=>by cases e)
theorem chunk_stops (F:Fence) (n:Nat) (hf:F.fn 161) (hro:F.round=none) (hn:1<=n) (bs bn g L cap:Nat) (hL:L<=1000000) (hcap:L<=cap) (hcm:cap<=maxLen) (w:World)
  (h1:bs<w.heap.size) (h2:bn<w.heap.size) (hbs:w.cell? ⟨bs,0,none⟩=some (.slice (some ⟨g,0,none⟩) L cap)) (hbn:w.cell? ⟨bn,0,none⟩=some (.int .i64 64)):
  SeqStopsK F n prog 161 #[.pointer (some ⟨bs,0,none⟩),.pointer (some ⟨bn,0,none⟩)] (fun x:Part L=>#[partV g L x.1]) (nN bs bn) (vG L ((L+63) / 64)) (fun pre=>∃ k,k<=(L+63) / 64/\vG L k pre) ((L+63) / 64) w:=
 fun l J Jx W hW hJ _ hY h0=>
  chunk1_in F n hf hro hn l bs bn g L cap hL hcap hcm J Jx hY W ((hW.cell (p:=⟨bs,0,none⟩) h1).trans hbs) ((hW.cell (p:=⟨bn,0,none⟩) h2).trans hbn) h0 (fun pre W n=>abides_drewN hJ pre W n)
theorem chunk_any (a:Option Addr) (n c:Nat) (w:World):Calls prog 98 #[.slice a n c,.int .i64 64] w fun e w'=>
  e = .returned (.func (.func 161) #[] #[.pointer (some ⟨w.heap.size,0,none⟩),.pointer (some ⟨w.heap.size+1,0,none⟩)])/\w'=(w.alloc (.cells #[.slice a n c] 155)).alloc (.cells #[.int .i64 64] 3):=by
 go_enter func98,ntmps98;go_wp2_with fail;go_ret;exact ⟨rfl,rfl⟩
