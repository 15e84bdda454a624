import Derived.Test.YtplomeacjbkgnaaZ01
import Derived.Deep.AppendLies
set_option linter.all false
set_option maxRecDepth 100000
set_option maxHeartbeats 16000000
namespace Go.Proofs.Ytplomeacjbkgnaa
open Go.RowKit
structure Kept (S:Nat→Prop) (w w':World):Prop where
 os:w'.os=w.os
 tape:w'.tape=w.tape
 output:w'.output=w.output
 size:w.heap.size≤w'.heap.size
 block:∀ k,k<w.heap.size→¬ S k→w'.heap[k]? = w.heap[k]?
theorem Kept.refl (S:Nat→Prop) (w:World):Kept S w w:=⟨rfl,rfl,rfl,Nat.le_refl _,fun _ _ _=>rfl⟩
theorem Kept.of_ext {S:Nat→Prop} {w w':World} (h:Ext w w'):Kept S w w':=by
 have hb:=h.below;exact ⟨hb.os,hb.tape,hb.output,hb.size,fun k hk _=>hb.block k hk⟩
theorem Kept.trans {S:Nat→Prop} {a b c:World} (h:Kept S a b) (h':Kept S b c):Kept S a c:=
 ⟨h'.os.trans h.os,h'.tape.trans h.tape,h'.output.trans h.output,Nat.le_trans h.size h'.size,fun k hk hs=>(h'.block k (Nat.lt_of_lt_of_le hk h.size) hs).trans (h.block k hk hs)⟩
theorem Kept.ext {S:Nat→Prop} {a b c:World} (h:Kept S a b) (h':Ext b c):Kept S a c:=h.trans (Kept.of_ext h')
theorem setCell_size (w:World) (a:Addr) (v:Value):(w.setCell a v).heap.size=w.heap.size:=by simp [World.setCell]
theorem setCell_other {w:World} {a:Addr} {v:Value} {k:Nat} (h:k≠a.block):(w.setCell a v).heap[k]? = w.heap[k]?:=by
 simp only [World.setCell,Array.getElem?_modify];rw [if_neg (fun e=>h e.symm)]
theorem setCell_block {w:World} {b i:Nat} {v:Value} {cs:Array Value} {t:TypeId} {fr:Nat×Nat} (h:w.heap[b]? = some (.cells cs t fr)):(w.setCell ⟨b,i,none⟩ v).heap[b]? = some (.cells (cs.setIfInBounds i v) t fr):=by
 simp [World.setCell,Array.getElem?_modify,h]
theorem Kept.setCell {S:Nat→Prop} {w w':World} (h:Kept S w w') {a:Addr} (ha:S a.block∨w.heap.size≤a.block) (v:Value):Kept S w (w'.setCell a v):=
 ⟨h.os,h.tape,h.output,by rw [setCell_size];exact h.size,fun k hk hs=>by
  rw [setCell_other]
  ·exact h.block k hk hs
  ·rintro rfl
   rcases ha with ha|ha
   ·exact hs ha
   ·omega⟩
theorem Kept.setBlock {S:Nat→Prop} {w w':World} (h:Kept S w w') {b:Nat} (hb:S b) (o:Obj):Kept S w (ChangeMaps.setBlock w' b o):=
 ⟨h.os,h.tape,h.output,by simp [ChangeMaps.setBlock];exact h.size,fun k hk hs=>by
  have hne:b≠k:=by rintro rfl;exact hs hb
  simp only [ChangeMaps.setBlock]
  rw [Array.getElem?_setIfInBounds_ne hne]
  exact h.block k hk hs⟩
theorem xcell {w w':World} (h:Ext w w') {b o:Nat} {v:Value} (hc:w.cell? ⟨b,o,none⟩=some v):w'.cell? ⟨b,o,none⟩=some v:=by
 obtain ⟨o',n,rfl⟩:=h;rw [plus_cell _ _ _ _ _ _ (cell_lt hc)];exact hc
theorem xfree {w w':World} (h:Ext w w') {b o:Nat} (hb:b<w.heap.size) (hc:w.frozen? ⟨b,o,none⟩=false):w'.frozen? ⟨b,o,none⟩=false:=by
 obtain ⟨o',n,rfl⟩:=h;rw [plus_frozen _ _ _ _ _ _ hb];exact hc
theorem news_drew (w:World) (cs:Array Value) (t:TypeId):∀ j u,cs.toList[j]? = some u→(w.alloc (.cells cs t)).drew.cell? ((⟨w.heap.size,0,none⟩:Addr).add j)=some u:=
 World.news_of_block (w:=(w.alloc (.cells cs t)).drew) (fr:=(0,0)) (t:=t) (cs:=cs) (heap_alloc_new w _)
theorem below_kept {B:Nat} {S:Nat→Prop} {w a b:World} (h:Below B w a) (hb:B≤w.heap.size) (k:Kept S a b) (hs:∀ i,S i→B≤i):Below B w b:=
 ⟨k.os.trans h.os,k.tape.trans h.tape,k.output.trans h.output,Nat.le_trans h.size k.size,fun i hi=>(k.block i (by have:=h.size;omega) (fun c=>by have:=hs i c;omega)).trans (h.block i hi)⟩
theorem cell_kept {S:Nat→Prop} {w w':World} (k:Kept S w w') {b o:Nat} {v:Value} (hc:w.cell? ⟨b,o,none⟩=some v) (hn:¬ S b):w'.cell? ⟨b,o,none⟩=some v:=by
 have h:=k.block b (cell_lt hc) hn;simp only [World.cell?,h]
 simpa only [World.cell?] using hc
def Is (T:Nat):Nat→Prop:=fun k=>k=T
theorem Kept.put {T:Nat} {w w':World} (h:Kept (Is T) w w') (o:Nat) (v:Value):Kept (Is T) w (w'.setCell ⟨T,o,none⟩ v):=h.setCell (a:=⟨T,o,none⟩) (Or.inl (show T=T from rfl)) v
theorem Kept.other {T k:Nat} {w w':World} (h:Kept (Is T) w w') (hk:k<w.heap.size) (hn:k≠T):w'.heap[k]? = w.heap[k]?:=h.block k hk hn
theorem Kept.cell {T b o:Nat} {w w':World} {v:Value} (h:Kept (Is T) w w') (hc:w.cell? ⟨b,o,none⟩=some v) (hn:b≠T):w'.cell? ⟨b,o,none⟩=some v:=cell_kept h hc hn
theorem Kept.grown {S:Nat→Prop} {w a b:World} {row:Option Nat} (h:Kept S w a) (g:a.grownBy b row) (hr:∀ k,row=some k→w.heap.size≤k):Kept S w b:=
 ⟨g.os.trans h.os,g.tape.trans h.tape,g.output.trans h.output,Nat.le_trans h.size g.size,fun k hk hs=>
  (g.block k (Nat.lt_of_lt_of_le hk h.size) (fun e=>by have:=hr k e.symm;omega)).trans (h.block k hk hs)⟩
theorem Kept.widen {w0 w a:World} {T:Nat} (h:Kept (Is T) w a) (e:Ext w0 w) (hT:w0.heap.size≤T):Ext w0 a:=
 Ext.of_below (below_kept (w:=w0) e.below (Nat.le_refl _) h (fun i hi=>by rw [show i=T from hi];exact hT))
theorem Kept.own {S S':Nat→Prop} {w a b:World} (h:Kept S w a) (k:Kept S' a b) (hr:∀ i,S' i→w.heap.size≤i):Kept S w b:=
 ⟨k.os.trans h.os,k.tape.trans h.tape,k.output.trans h.output,Nat.le_trans h.size k.size,fun i hi hs=>(k.block i (Nat.lt_of_lt_of_le hi h.size) (fun c=>by have:=hr i c;omega)).trans (h.block i hi hs)⟩
theorem owns_x {w w':World} {base e size:Nat} {v:Value} {n:Nat} {xs:List Value} (h:w.ownsRow base e size v n xs) (x:Ext w w'):w'.ownsRow base e size v n xs:=by
 obtain ⟨o,m,rfl⟩:=x;exact owns_plus h o m
end Go.Proofs.Ytplomeacjbkgnaa
