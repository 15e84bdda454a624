import Derived.Test.YtplomeacjbkgnaaZ10
set_option linter.all false
set_option maxRecDepth 100000
set_option maxHeartbeats 16000000
namespace Go.Proofs.Ytplomeacjbkgnaa
open Go.RowKit
structure BookCell (w:World) (T:Nat) (x y z:Value):Prop where
 c0:w.cell? ⟨T,0,none⟩=some x
 c1:w.cell? ⟨T,1,none⟩=some y
 c2:w.cell? ⟨T,2,none⟩=some z
 fz:∀ i,w.frozen? ⟨T,i,none⟩=false
theorem BookCell.lt {w:World} {T:Nat} {x y z:Value} (h:BookCell w T x y z):T<w.heap.size:=cell_lt h.c0
theorem BookCell.same {w w':World} {T:Nat} {x y z:Value} (h:BookCell w T x y z) (e:w'.heap[T]? = w.heap[T]?):BookCell w' T x y z:=
 ⟨(World.cell?_of_block e).trans h.c0,(World.cell?_of_block e).trans h.c1,(World.cell?_of_block e).trans h.c2,fun i=>(World.frozen?_of_block e).trans (h.fz i)⟩
theorem BookCell.ext {w w':World} {T:Nat} {x y z:Value} (h:BookCell w T x y z) (e:Ext w w'):BookCell w' T x y z:=by
 obtain ⟨o,n,rfl⟩:=e;exact h.same (plus_heap w o n T h.lt)
theorem BookCell.grown {w w':World} {row:Option Nat} {T:Nat} {x y z:Value} (h:BookCell w T x y z) (g:w.grownBy w' row) (hn:row≠some T):BookCell w' T x y z:=
 h.same (g.block T h.lt (fun e=>hn e.symm))
theorem BookCell.set0 {w:World} {T:Nat} {x y z:Value} (h:BookCell w T x y z) (u:Value):BookCell (w.setCell ⟨T,0,none⟩ u) T u y z:=
 ⟨World.cell?_setCell_same _ _ _ h.c0,by rw [World.cell?_setCell_other (h:=by intro e;cases e)];exact h.c1,by rw [World.cell?_setCell_other (h:=by intro e;cases e)];exact h.c2,fun i=>by rw [World.frozen?_setCell];exact h.fz i⟩
theorem BookCell.set1 {w:World} {T:Nat} {x y z:Value} (h:BookCell w T x y z) (u:Value):BookCell (w.setCell ⟨T,1,none⟩ u) T x u z:=
 ⟨by rw [World.cell?_setCell_other (h:=by intro e;cases e)];exact h.c0,World.cell?_setCell_same _ _ _ h.c1,by rw [World.cell?_setCell_other (h:=by intro e;cases e)];exact h.c2,fun i=>by rw [World.frozen?_setCell];exact h.fz i⟩
theorem BookCell.set2 {w:World} {T:Nat} {x y z:Value} (h:BookCell w T x y z) (u:Value):BookCell (w.setCell ⟨T,2,none⟩ u) T x y u:=
 ⟨by rw [World.cell?_setCell_other (h:=by intro e;cases e)];exact h.c0,by rw [World.cell?_setCell_other (h:=by intro e;cases e)];exact h.c1,World.cell?_setCell_same _ _ _ h.c2,fun i=>by rw [World.frozen?_setCell];exact h.fz i⟩
theorem BookCell.set {w:World} {T:Nat} {x y z:Value} (h:BookCell w T x y z) (x' y' z':Value):BookCell (((w.setCell ⟨T,0,none⟩ x').setCell ⟨T,1,none⟩ y').setCell ⟨T,2,none⟩ z') T x' y' z':=((h.set0 x').set1 y').set2 z'
theorem of_some {l:List Ch.Stay} {t:Int} {last:Int} {js:List Ch.Job} (h:((⟨last,l,js⟩:Ch.Book).of t).isSome=true):∃ i:Nat,Ch.indexOf (fun s:Ch.Stay=>s.car.id==t) l=i:=by
 apply index_some
 simpa [Ch.Book.of] using h
def NewBook (w:World) (x:Ch.Book) (r:Value→Value) (e:Ending) (w':World):Prop:=∃ v1 v2,e = .returned (r (.agg #[vi x.last,v1,v2]))∧OwnBook w w' x.last x.stays x.jobs v1 v2∧Ext w w'
end Go.Proofs.Ytplomeacjbkgnaa
namespace Go.Proofs.Ytplomeacjbkgnaa
/-! ### the sieve -/
structure Sieve {α:Type} (p:α→Bool) (l xs:List α) (i j:Nat):Prop where
 le:j≤l.length
 is:∃ mid,xs=(l.take j).filter (fun x=>!p x)++mid++l.drop j∧i=((l.take j).filter (fun x=>!p x)).length∧mid.length+i=j∧0<mid.length
section
variable {α:Type} {p:α→Bool} {l xs:List α} {i j:Nat} {v:α}
theorem lt_of_get {l:List α} {j:Nat} {v:α} (h:l[j]? = some v):j<l.length:=by
 rcases Nat.lt_or_ge j l.length with h1|h1
 ·exact h1
 ·rw [List.getElem?_eq_none h1] at h;cases h
theorem drop_at {l:List α} {j:Nat} {v:α} (h:l[j]? = some v):l.drop j=v :: l.drop (j+1):=by
 have hj:=lt_of_get h;rw [List.drop_eq_getElem_cons hj];rw [List.getElem?_eq_getElem hj] at h;cases h;rfl
theorem filter_take {l:List α} {j:Nat} {v:α} (q:α→Bool) (h:l[j]? = some v):(l.take (j+1)).filter q=(l.take j).filter q++(if q v then [v] else []):=by
 rw [List.take_add_one,h,List.filter_append]
 congr 1
 cases hq:q v <;> simp [hq]
theorem Sieve.start (h:l[j]? = some v) (hp:p v=true) (hb:∀ k s,k<j→l[k]? = some s→p s=false):Sieve p l l j (j+1):=by
 have hj:=lt_of_get h
 have hf:(l.take j).filter (fun x=>!p x)=l.take j:=by
  rw [List.filter_eq_self];intro a ha;obtain ⟨k,hk,rfl⟩:=List.getElem_of_mem ha
  have hk2:k<j:=by rw [List.length_take] at hk;omega
  have:=hb k _ hk2 (by rw [List.getElem?_eq_getElem (by omega)]);rw [List.getElem_take];simp [this]
 refine ⟨hj,[v],?_,?_,?_,by simp⟩
 ·rw [filter_take _ h,hf,hp]
  simp only [Bool.not_true,Bool.false_eq_true,if_false,List.append_nil];rw [List.append_assoc,List.singleton_append,←drop_at h,List.take_append_drop]
 ·rw [filter_take _ h,hf,hp]
  simp only [Bool.not_true,Bool.false_eq_true,if_false,List.append_nil];rw [List.length_take];omega
 ·simp;omega
theorem Sieve.skip (s:Sieve p l xs i j) (h:l[j]? = some v) (hp:p v=true):Sieve p l xs i (j+1):=by
 have hj:=lt_of_get h;obtain ⟨mid,h1,h2,h3,h4⟩:=s.is;refine ⟨hj,mid++[v],?_,?_,by simp;omega,by simp⟩
 ·rw [filter_take _ h,hp]
  simp only [Bool.not_true,Bool.false_eq_true,if_false,List.append_nil];rw [h1,drop_at h];simp
 ·rw [filter_take _ h,hp]
  simpa using h2
theorem Sieve.keep (s:Sieve p l xs i j) (h:l[j]? = some v) (hp:p v=false):Sieve p l (xs.set i v) (i+1) (j+1):=by
 have hj:=lt_of_get h;obtain ⟨mid,h1,h2,h3,h4⟩:=s.is
 match mid,h4 with
 | m :: mid,_=>
  refine ⟨hj,mid++[v],?_,?_,by simp at *;omega,by simp⟩
  ·rw [filter_take _ h,hp]
   simp only [Bool.not_false,if_true];rw [h1,drop_at h,h2];simp
  ·rw [filter_take _ h,hp]
   simp only [Bool.not_false,if_true,List.length_append,List.length_singleton];omega
theorem Sieve.at (s:Sieve p l xs i j):xs[j]? = l[j]?:=by
 obtain ⟨mid,h1,h2,h3,h4⟩:=s.is;rw [h1,List.append_assoc,List.getElem?_append_right (by omega),List.getElem?_append_right (by omega)];rw [List.getElem?_drop]
 congr 1;omega
theorem Sieve.len (s:Sieve p l xs i j):xs.length=l.length:=by
 obtain ⟨mid,h1,h2,h3,h4⟩:=s.is;have:=s.le;rw [h1];simp only [List.length_append,List.length_drop];omega
theorem Sieve.lt (s:Sieve p l xs i j):i<j∧j≤l.length:=by
 obtain ⟨mid,h1,h2,h3,h4⟩:=s.is;exact ⟨by omega,s.le⟩
theorem Sieve.done (s:Sieve p l xs i j) (hj:j=l.length):xs.take i=l.filter (fun x=>!p x)∧i=(l.filter (fun x=>!p x)).length:=by
 obtain ⟨mid,h1,h2,h3,h4⟩:=s.is;subst hj;rw [List.take_length] at h1 h2;refine ⟨?_,h2⟩;rw [h1,h2,List.append_assoc];exact List.take_left
end
/-! ### cells written in a list of one's own -/
def putAll (xs:List Value) (o:Nat):List Value→List Value
 | []=>xs
 | v :: r=>putAll (xs.set o v) (o+1) r
theorem putAll_mid {C:List Value}:∀ (B B' A:List Value),B.length=B'.length→putAll (A++B++C) A.length B'=A++B'++C
 | [],[],A,_=>rfl
 | b :: B,b' :: B',A,h=>by
  have ih:=putAll_mid (C:=C) B B' (A++[b']) (by simpa using h)
  have e:(A++b :: B++C).set A.length b'=A++[b']++B++C:=by simp
  rw [putAll,e];rw [List.length_append] at ih
  simpa using ih
theorem putAll_flat {α:Type} {enc:α→List Value} {c:Nat} (he:∀ x,(enc x).length=c) (xs:List α) (i:Nat) (v:α) (hi:i<xs.length):putAll (xs.flatMap enc) (i * c) (enc v)=(xs.set i v).flatMap enc:=by
 have hlen:∀ l:List α,(l.flatMap enc).length=l.length * c:=by
  intro l
  induction l with
  | nil=>simp
  | cons x l ih=>simp [ih,he,Nat.add_mul];omega
 have e:xs=xs.take i++xs[i] :: xs.drop (i+1):=by
  rw [←List.drop_eq_getElem_cons hi,List.take_append_drop]
 have e2:xs.set i v=xs.take i++v :: xs.drop (i+1):=by
  conv=>lhs;rw [e]
  rw [List.set_append_right _ _ (by rw [List.length_take];omega)];rw [List.length_take,show i - min i xs.length=0 by omega,List.set_cons_zero]
 have e3:xs.flatMap enc=(xs.take i).flatMap enc++enc xs[i]++(xs.drop (i+1)).flatMap enc:=by
  conv=>lhs;rw [e]
  rw [List.flatMap_append,List.flatMap_cons,List.append_assoc]
 rw [e2,e3,List.flatMap_append,List.flatMap_cons,←List.append_assoc];have:=putAll_mid (C:=(xs.drop (i+1)).flatMap enc) (enc xs[i]) (enc v) ((xs.take i).flatMap enc) (by rw [he,he]);rw [hlen,List.length_take,Nat.min_eq_left (by omega)] at this;exact this
theorem owns_setCells {base e size g n cap:Nat}:∀ (vs:List Value) (o:Nat) {w:World} {xs:List Value},w.ownsRow base e size (.slice (some ⟨g,0,none⟩) n cap) n xs →
  (w.setCells g o vs).ownsRow base e size (.slice (some ⟨g,0,none⟩) n cap) n (putAll xs o vs)∧w.grownBy (w.setCells g o vs) (some g)
 | [],_,w,_,h=>⟨h,⟨rfl,rfl,rfl,Nat.le_refl _,fun _ _ _=>rfl⟩⟩
 | v :: r,o,w,xs,h=>by
  have h1:=h.stored o v;have h2:=owns_setCells r (o+1) h1.1;refine ⟨h2.1,⟨h2.2.os.trans h1.2.os,h2.2.tape.trans h1.2.tape,h2.2.output.trans h1.2.output,Nat.le_trans h1.2.size h2.2.size,fun k hk hn=>?_⟩⟩;rw [World.setCells,h2.2.block k (Nat.lt_of_lt_of_le hk h1.2.size) hn,h1.2.block k hk hn]
theorem owns_prefix {w:World} {base e size g n cap i:Nat} {xs:List Value} (h:w.ownsRow base e size (.slice (some ⟨g,0,none⟩) n cap) n xs) (hi:i≤n):
  w.ownsRow base e size (.slice (some ⟨g,0,none⟩) i cap) i (xs.take (i * size)):=by
 have hm:i * size≤n * size:=Nat.mul_le_mul_right _ hi;refine ⟨by rw [List.length_take,h.1];omega,?_⟩
 rcases h.2 with ⟨h',_⟩|⟨g',cap',cur,h',hb,hg,hnc,hcm,hcs,htake⟩
 ·simp at h'
 ·simp only [Value.slice.injEq,Option.some.injEq,Addr.mk.injEq,and_true,true_and] at h'
  obtain ⟨rfl,rfl⟩:=h';exact .inr ⟨g,cap,cur,rfl,hb,hg,by omega,hcm,hcs,by rw [←htake,List.take_take,Nat.min_eq_left hm]⟩
theorem take_flat {α:Type} {enc:α→List Value} {c:Nat} (he:∀ x,(enc x).length=c):∀ (xs:List α) (i:Nat),(xs.flatMap enc).take (i * c)=(xs.take i).flatMap enc
 | [],i=>by simp
 | x :: xs,0=>by simp
 | x :: xs,i+1=>by
  rw [List.flatMap_cons,List.take_succ_cons,List.flatMap_cons,Nat.add_mul,Nat.one_mul,List.take_append,he,←take_flat he xs i];rw [List.take_of_length_le (by rw [he];omega),show i * c+c - c=i * c by omega]
theorem putAll_take {o k:Nat}:∀ (vs xs:List Value),k≤o→(putAll xs o vs).take k=xs.take k:=by
 intro vs
 induction vs generalizing o with
 | nil=>intro xs _;rfl
 | cons v r ih=>
  intro xs h;rw [putAll,ih _ (by omega),List.take_set];exact List.set_eq_of_length_le (by rw [List.length_take];omega)
theorem run_clear_cells {P:Program} (w:World) (t e ty:TypeId) (z:Value) (ht:P.underlying t=some (.slice e)) (hv:∀ w,(zeroValue e).run P w = .ok z w) (h1:∀ v∈z.cells.toList,v.oneCell'=true) (b o n c:Nat) (hn:0<n)
  (hc:∀ j,j<n * z.cells.size→(w.cell? ⟨b,o+j,none⟩).isSome=true) (hf:∀ j,j<n * z.cells.size→w.frozen? ⟨b,o+j,none⟩=false):
  (Builtin.clear_ #[t] ty #[.slice (some ⟨b,o,none⟩) n c]).run P w = .ok (.tuple #[]) (w.setCells b o (Builtin.zeroCells z.cells n).toList):=by
 have hlen:(Builtin.zeroCells z.cells n).toList.length=n * z.cells.size:=by simp [Builtin.zeroCells]
 have hone:∀ v∈(Builtin.zeroCells z.cells n).toList,v.oneCell'=true:=by
  intro v hv';simp only [Builtin.zeroCells,Array.toList_map,List.mem_map,Array.mem_toList_iff,Array.mem_range] at hv';obtain ⟨i,hi,rfl⟩:=hv'
  have hs:0<z.cells.size:=by
   rcases Nat.eq_zero_or_pos z.cells.size with h0|h0
   ·rw [h0] at hi;simp at hi
   ·exact h0
  have hm:i % z.cells.size<z.cells.size:=Nat.mod_lt _ hs;rw [getElem!_pos z.cells (i % z.cells.size) hm];exact h1 _ (by simp)
 have hst:=run_storeCells_cells (P:=P) b o (Builtin.zeroCells z.cells n).toList 0 w (by intro j hj;rw [hlen] at hj;simpa using hc j hj) (by intro j hj;rw [hlen] at hj;simpa using hf j hj) hone;simp only [Nat.add_zero] at hst
 obtain ⟨m,rfl⟩:∃ m,n=m+1:=⟨n - 1,by omega⟩
 simp only [Builtin.clear_];simp [run_underlying ht,hv,hst]
theorem clear_tail {P:Program} {w:World} {base e c g n cap i k:Nat} {xs:List Value} (t ty:TypeId) (z:Value) (ht:P.underlying t=some (.slice e)) (hv:∀ w,(zeroValue e).run P w = .ok z w) (hz:z.cells.size=c) (h1:∀ v∈z.cells.toList,v.oneCell'=true)
  (h:w.ownsRow base e c (.slice (some ⟨g,0,none⟩) n cap) n xs) (hi:i<n):
  ∃ wz,(Builtin.clear_ #[t] ty #[.slice (some ⟨g,i * c,none⟩) (n - i) k]).run P w = .ok (.tuple #[]) wz∧wz.ownsRow base e c (.slice (some ⟨g,0,none⟩) i cap) i (xs.take (i * c))∧w.grownBy wz (some g):=by
 have hlen:=h.1
 have hmul:(n - i) * c+i * c=n * c:=by rw [←Nat.add_mul];congr 1;omega
 have hr:=run_clear_cells (P:=P) w t e ty z ht hv h1 g (i * c) (n - i) k (by omega)
  (fun j hj=>by
   rw [hz] at hj
   have hj2:i * c+j<n * c:=by omega
   rw [h.cellAt _ hj2,List.getElem?_eq_getElem (by omega)];rfl)
  (fun j _=>h.frozenAt _)
 have ho:=owns_setCells (Builtin.zeroCells z.cells (n - i)).toList (i * c) h;refine ⟨_,hr,?_,ho.2⟩;have hp:=owns_prefix ho.1 (Nat.le_of_lt hi);rw [putAll_take _ _ (Nat.le_refl _)] at hp;exact hp
end Go.Proofs.Ytplomeacjbkgnaa
