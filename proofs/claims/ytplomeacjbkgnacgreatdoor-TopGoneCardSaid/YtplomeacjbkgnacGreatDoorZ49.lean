import Derived.Test.YtplomeacjbkgnacGreatDoorZ46
import Derived.Test.YtplomeacjbkgnacGreatDoorZ41
set_option linter.all false
set_option maxRecDepth 100000
set_option maxHeartbeats 16000000
namespace Go.Proofs.YtplomeacjbkgnacGreatDoor
open Go.RowKit
theorem NewInts.both {w:World} {l:List Int} {e:Ending} {w':World} (h:NewInts w l e w'):∃ a n cap,e = .returned (.slice a n cap)∧Sl w' 1 intCells l a n cap∧w'.ownsRow w.heap.size 3 1 (.slice a n cap) n (l.flatMap intCells)∧(∀ b o,a=some ⟨b,o,none⟩→w.heap.size≤b)∧Ext w w':=by
 obtain ⟨v,rfl,ho,hx⟩:=h;obtain ⟨a,cap,rfl,hs⟩:=Sl.of_owns ho (by decide) (fun _=>rfl);refine ⟨a,_,cap,rfl,hs,ho,?_,hx⟩;rintro b o rfl;exact (ho.lt b rfl).1
theorem owns_keptB {w w':World} {base e size:Nat} {v:Value} {n:Nat} {xs:List Value} {S:Nat→Prop} (h:w.ownsRow base e size v n xs) (k:Kept S w w') (hs:∀ b,v.ownBlock=some b→¬ S b):w'.ownsRow base e size v n xs:=by
 refine ⟨h.1,?_⟩
 rcases h.2 with h2|⟨g,cap,cur,hv,hb,hg,hn,hc,hz,ht⟩
 ·exact .inl h2
 ·refine .inr ⟨g,cap,cur,hv,hb,?_,hn,hc,hz,ht⟩
  subst hv;rw [k.block g ?_ (hs g rfl)]
  ·exact hg
  ·rcases Nat.lt_or_ge g w.heap.size with hlt|hge
   ·exact hlt
   ·rw [Array.getElem?_eq_none hge] at hg;cases hg
theorem filter_yes {l:List Int} {id y:Int} {j:Nat} (hy:l[j]? = some y) (h:(y != id)=true):(l.take (j+1)).filter (fun x=>x != id)=(l.take j).filter (fun x=>x != id)++[y]:=by
 rw [List.take_add_one,hy,List.filter_append];simp [h]
theorem filter_no {l:List Int} {id y:Int} {j:Nat} (hy:l[j]? = some y) (h:(y != id)=false):(l.take (j+1)).filter (fun x=>x != id)=(l.take j).filter (fun x=>x != id):=by
 rw [List.take_add_one,hy,List.filter_append];simp [h]
theorem filter_len {l:List Int} {id:Int} {j:Nat} (h:l.length≤18):((l.take j).filter (fun x=>x != id)).length≤18:=by
 have h1:=List.length_filter_le (fun x:Int=>x != id) (l.take j)
 have h2:(l.take j).length≤l.length:=by rw [List.length_take];omega
 omega
theorem cars_len (p:Ch.Plant):p.cars.length≤18:=by rw [←carsTo_all];exact carsTo_len p 16 (by omega)
theorem Kept.of_grown {w w':World} {row:Option Nat} (g:w.grownBy w' row):Kept (fun i=>row=some i) w w':=
 ⟨g.os,g.tape,g.output,g.size,fun i hi hn=>g.block i hi (fun e=>hn e.symm)⟩
structure Mine (w0:World) (N:Nat→Prop) (l:List Int) (v:Value) (w:World):Prop where
 own:w.ownsRow w0.heap.size 3 1 v l.length (l.flatMap intCells)
 nn:∀ b,v.ownBlock=some b→N b
section
variable {w0:World} {N:Nat→Prop} {pb mb db lb hb:Nat} {h:Ch.House} {k:Nat} {w w':World} {l:List Int} {v:Value}
theorem Mine.ext (m:Mine w0 N l v w) (e:Ext w w'):Mine w0 N l v w':=⟨owns_later m.own e,m.nn⟩
theorem Mine.kept (m:Mine w0 N l v w) (e:Kept (Own0 w0 N) w w'):Mine w0 N l v w':=⟨owns_keptB m.own e (fun b hb hh=>hh.2 (m.nn b hb)),m.nn⟩
theorem Mine.sl (m:Mine w0 N l v w):∃ a c,v = .slice a l.length c∧Sl w 1 intCells l a l.length c:=Sl.of_owns m.own (by decide) (fun _=>rfl)
theorem Mine.push (m:Mine w0 N l v w) (s:St w0 N pb mb db lb hb h k w) {x:Int} {g cap:Nat} (hown:w'.ownsRow w0.heap.size 3 1 (.slice (some ⟨g,0,none⟩) (l.length+1) cap) (l.length+1) (l.flatMap intCells++[vi x])) (hg:w.grownBy w' v.ownBlock) (hat:v.ownBlock=some g∨g=w.heap.size) (hlt:g<w'.heap.size):
  ∃ N',Mine w0 N' (l++[x]) (.slice (some ⟨g,0,none⟩) (l++[x]).length cap) w'∧St w0 N' pb mb db lb hb h k w':=by
 refine ⟨_,⟨?_,?_⟩,s.grow (Kept.of_grown hg) (fun i hi=>⟨m.nn i hi,owns_block m.own i hi⟩)⟩
 ·rw [List.length_append,List.flatMap_append];exact hown
 ·intro b e
  cases e
  rcases hat with hat|rfl
  ·exact Or.inl (m.nn _ hat)
  ·exact Or.inr ⟨Nat.le_refl _,hlt⟩
theorem Mine.of_gathered (s:St w0 N pb mb db lb hb h k w) (hg:Gathered w l v w'):∃ N',Mine w0 N' l v w'∧St w0 N' pb mb db lb hb h k w':=by
 refine ⟨_,⟨owns_base hg.own s.x.below.size,fun b e=>Or.inr ⟨owns_block hg.own b e,?_⟩⟩,s.own hg.ext⟩;exact (hg.own.lt b e).2
end
end Go.Proofs.YtplomeacjbkgnacGreatDoor
