import Derived.RangeFuncNested
import Derived.RangeFuncBound
import Derived.Lib.SlBytesRow
import Derived.Test.YtplomeacjbkgnabGreatDoorZ35
set_option linter.all false
set_option maxRecDepth 100000
set_option maxHeartbeats 16000000
namespace Go.Proofs.YtplomeacjbkgnabGreatDoor
open Go.RowKit
open Ch hiding Act
def sI (T:ByteArray) (k:Nat):ByteArray:=T.extract (64 * k) (64 * k+min 64 (T.size - 64 * k))
theorem partOf_size (T:ByteArray) (k:Nat):(sI T k).size=min 64 (T.size - 64 * k):=by
 unfold sI;rw [ByteArray.size_extract];omega
theorem partOf_list (T:ByteArray) (k:Nat):(sI T k).data.toList=(T.data.toList.drop (64 * k)).take 64:=by
 have hz:T.data.toList.length=T.size:=by rw [Array.length_toList];rfl
 unfold sI;simp only [ByteArray.data_extract,Array.toList_extract,List.extract_eq_take_drop];rw [show 64 * k+min 64 (T.size - 64 * k) - 64 * k=min 64 (T.size - 64 * k) by omega]
 by_cases h:64<=T.size - 64 * k
 ·rw [Nat.min_eq_left h]
 ·rw [Nat.min_eq_right om,List.take_of_length_le (by rw [List.length_drop];omega),List.take_of_length_le (by rw [List.length_drop];omega)]
theorem parts_all (T:ByteArray):(List.range ((T.size+63) / 64)).map (sI T)=dH T.data.toList:=by
 have hz:T.data.toList.length=T.size:=by rw [Array.length_toList];rfl
 apply List.ext_getElem?;intro k
 by_cases hk:k<(T.size+63) / 64
 ·rw [List.getElem?_map,List.getElem?_range hk]
  unfold dH;rw [List.getElem?_map,chunks_get _ _ _ (Nat.le_refl _) (by rw [hz];omega)];simp only [Option.map_some]
  congr 1
  apply ba_ext;rw [partOf_list]
 ·rw [List.getElem?_eq_none so,List.getElem?_eq_none (by rw [gN,hz];omega)]
theorem bytes_new (T:ByteArray) (c:Nat) (fr:Nat×Nat) (e:TypeId) (w':World) (g:Nat) (h:w'.heap[g]? = some (.cells (bytesRow T c) e fr)):Lib.Bytes w' g 0 T:=by
 intro i hi
 have e:(bytesRow T c)[i]? = some (.int .u8 (T[i].toNat:Int)):=by
  unfold bytesRow;rw [Array.getElem?_append_left (by rw [Array.size_map];exact hi),Array.getElem?_map,Array.getElem?_eq_getElem hi];rfl
 simp [World.cell?,h,e]
abbrev wrote (d:aB) (i0:Nat) (T:ByteArray) (pre:List (Part T.size)):aB×Int:=aD d i0 (pre.map fun x=>sI T x.1)
def jM (F:Nat->Prop) (A3 E A5:Nat) (k:Nat):Prop:=F k\/k=A3\/k=E\/k=A5
structure KI (F:Nat->Prop) (w5:World) (db n:Nat) (d:aB) (i0 A3 E A5:Nat) (T:ByteArray) (pre:List (Part T.size)) (W:World):Prop where
 ok:(wrote d i0 T pre).2=0
 disk:oG F w5.heap.size db n (wrote d i0 T pre).1 W
 kept:fA (jM F A3 E A5) w5 W
 c3:W.cell? ⟨A3,0,none⟩=some .nilIface
 f3:W.frozen? ⟨A3,0,none⟩=false
 cE:W.cell? ⟨E,0,none⟩=some .nilIface
 fE:W.frozen? ⟨E,0,none⟩=false
 c5:W.cell? ⟨A5,0,none⟩=some (vi ((i0+pre.length:Nat):Int))
 f5:W.frozen? ⟨A5,0,none⟩=false
structure KX (F:Nat->Prop) (w5:World) (db n:Nat) (d:aB) (i0 A3 E A5:Nat) (T:ByteArray) (c:Code) (pre:List (Part T.size)) (W:World):Prop where
 jump:c = .ret
 bad:¬ (wrote d i0 T pre).2=0
 disk:oG F w5.heap.size db n (wrote d i0 T pre).1 W
 kept:fA (jM F A3 E A5) w5 W
 c3:W.cell? ⟨A3,0,none⟩=some (.iface 92 (vi (wrote d i0 T pre).2))
 f3:W.frozen? ⟨A3,0,none⟩=false
theorem grown_kept {w w':World} {row:Option Nat} (g:w.grownBy w' row):fA (fun k=>row=some k) w w':=
 ⟨g.os,g.tape,g.output,g.size,fun k hk hn=>g.block k hk (fun e=>hn e.symm)⟩
theorem oG.grown {F:Nat->Prop} {B db n:Nat} {d:aB} {w w':World} {row:Option Nat} (h:oG F B db n d w) (g:w.grownBy w' row) (hr:∀ r,row=some r->∃ o:Obj,w.heap[r]? = some o/\o.isCells=false):oG F B db n d w':=
 h.kept (grown_kept g) (fun i hi=>Or.inl (hr i hi))
theorem row_ne {B A:Nat} {row:Option Nat} {w:World} (hr:∀ r,row=some r->B<=r/\∃ o:Obj,w.heap[r]? = some o/\o.isCells=false) (h:A<B):row≠some A:=fun e=>by have:=(hr A e).1;omega
theorem KI.own {F:Nat->Prop} {w5:World} {db n:Nat} {d:aB} {i0 A3 E A5:Nat} {T:ByteArray} (h3:A3<w5.heap.size) (hE:E<w5.heap.size) (h5:A5<w5.heap.size):OwnFrom w5.heap.size (KI F w5 db n d i0 A3 E A5 T):=by
 intro s A B row h g hr;exact ⟨h.ok,h.disk.grown g (fun r e=>(hr r e).2),h.kept.grown g (fun r e=>(hr r e).1),gF g h.c3 (row_ne hr h3),gfree g (cA h.c3) h.f3 (row_ne hr h3),gF g h.cE (row_ne hr hE),gfree g (cA h.cE) h.fE (row_ne hr hE),gF g h.c5 (row_ne hr h5),gfree g (cA h.c5) h.f5 (row_ne hr h5)⟩
theorem KX.own {F:Nat->Prop} {w5:World} {db n:Nat} {d:aB} {i0 A3 E A5:Nat} {T:ByteArray} {c:Code} (h3:A3<w5.heap.size):OwnFrom w5.heap.size (KX F w5 db n d i0 A3 E A5 T c):=by
 intro s A B row h g hr;exact ⟨h.jump,h.bad,h.disk.grown g (fun r e=>(hr r e).2),h.kept.grown g (fun r e=>(hr r e).1),gF g h.c3 (row_ne hr h3),gfree g (cA h.c3) h.f3 (row_ne hr h3)⟩
theorem wrote_snoc {d:aB} {i0:Nat} {T:ByteArray} {pre:List (Part T.size)} (x:Part T.size) (h:(wrote d i0 T pre).2=0):wrote d i0 T (pre++[x])=(wrote d i0 T pre).1.write ((i0+pre.length:Nat):Int) (sI T x.1):=by
 unfold wrote at *;rw [List.map_append,List.map_cons,List.map_nil,writes_snoc _ _ _ _ h,List.length_map]
theorem wrote_wait (d:aB):∀ (l:List ByteArray) (i0:Nat),(aD d i0 l).1.wait.length<=d.wait.length+l.length:=by
 intro l
 induction l generalizing d with
 | nil=>intro i0;simp [aD]
 | cons s l ih=>
  intro i0;have h1:=zN d (i0:Int) s;unfold aD;simp only [List.length_cons]
  split
  ·have:=ih (d.write (i0:Int) s).1 (i0+1);omega
  ·omega
theorem wrote_all {d:aB} {i0:Nat} {T:ByteArray} {xs:List (Part T.size)} (h:vG T.size ((T.size+63) / 64) xs):wrote d i0 T xs=aD d i0 (dH T.data.toList):=by
 unfold wrote;rw [<-parts_all,<-h,List.map_map];rfl
theorem wrote_part {d:aB} {i0:Nat} {T:ByteArray} {pre:List (Part T.size)} {k:Nat} (hk:k<=(T.size+63) / 64) (h:vG T.size k pre) (hb:¬ (wrote d i0 T pre).2=0):aD d i0 (dH T.data.toList)=wrote d i0 T pre:=by
 have e:pre.map (fun x=>sI T x.1)=(List.range k).map (sI T):=by rw [<-h,List.map_map];rfl
 unfold wrote at *
 rw [e] at hb ⊢
 rw [<-parts_all]
 obtain ⟨j,hj⟩:∃ j,(T.size+63) / 64=k+j:=⟨_,(Nat.add_sub_cancel' hk).symm⟩
 rw [hj,List.range_add,List.map_append];exact writes_bad _ _ _ _ hb
theorem three_new (w:World) (x y z:Obj):(((w.alloc x).alloc y).alloc z).drew.heap[w.heap.size]? = some x/\(((w.alloc x).alloc y).alloc z).drew.heap[w.heap.size+1]? = some y/\(((w.alloc x).alloc y).alloc z).drew.heap[w.heap.size+1+1]? = some z/\(((w.alloc x).alloc y).alloc z).drew.heap.size=w.heap.size+1+1+1:=by
 have e:(((w.alloc x).alloc y).alloc z).drew.heap=((w.heap.push x).push y).push z:=rfl;rw [e];refine ⟨?_,?_,?_,?_⟩
 ·rw [Array.getElem?_push,if_neg so,Array.getElem?_push,if_neg sp,Array.getElem?_push,if_pos rfl]
 ·rw [Array.getElem?_push,if_neg sp,Array.getElem?_push,if_pos sp]
 ·rw [Array.getElem?_push,if_pos sp]
 ·simp
theorem zJ.three {F:Nat->Prop} {B:Nat} {W W1:World} {A3 E A5:Nat} {x3 xE x5:Value} (hk:zJ F B W.drew W1) (h3:A3<B) (hE:E<B) (h5:A5<B) (n3:¬ F A3) (nE:¬ F E) (n5:¬ F A5)
  (c3:W.cell? ⟨A3,0,none⟩=some x3) (f3:W.frozen? ⟨A3,0,none⟩=false) (cE:W.cell? ⟨E,0,none⟩=some xE) (fE:W.frozen? ⟨E,0,none⟩=false) (c5:W.cell? ⟨A5,0,none⟩=some x5) (f5:W.frozen? ⟨A5,0,none⟩=false):
  W1.cell? ⟨A3,0,none⟩=some x3/\W1.frozen? ⟨A3,0,none⟩=false/\W1.cell? ⟨E,0,none⟩=some xE/\W1.frozen? ⟨E,0,none⟩=false/\W1.cell? ⟨A5,0,none⟩=some x5/\W1.frozen? ⟨A5,0,none⟩=false:=
 ⟨hk.cell (w:=W.drew) c3 h3 n3,hk.free (w:=W.drew) f3 h3 n3,hk.cell (w:=W.drew) cE hE nE,hk.free (w:=W.drew) fE hE nE,hk.cell (w:=W.drew) c5 h5 n5,hk.free (w:=W.drew) f5 h5 n5⟩
theorem range_set {α:Type} {F:Fence} {n:Nat} {P:Program} {g:Operand} {p v:Tmp} {assign body:Code} {Q:Exit->Act->World->Prop} {a:Act} {w:World}
  (hro:F.round=none) (h1:1<=n) {gf:Nat} {lb:Array Value} (hg:a.eval g = .func (.func gf) #[] lb) (hFg:F.fn gf) (eg:∀ args w,(callFunc gf args).run P w = .ok (.enter gf args) w)
  {enc:α->Value} {Kp:World->World->Prop} {S Sp:List α->Prop} {N:Nat} (hseq:SeqStopsK F (n - 1) P gf lb (fun x=>#[enc x]) Kp S Sp N w)
  (hKt:∀ {A B C:World},Kp A B->Kp B C->Kp A C) (hKb:∀ (W:World) (l:Nat) (o o':Obj),w.heap.size<=l->W.heap[l]? = some o->o.isCells=false->o.isWalk=false->Kp W (W.putObj l o'))
  (I:List α->World->Prop) (Ix:Code->List α->World->Prop) (hI:OwnFrom w.heap.size I) (hIx:∀ c,OwnFrom w.heap.size (Ix c)) (h0:I [] w)
  (hassign:∀ (l:Nat) (x:α) (W:World) (K:Act->World->Prop),K { tmps:=(a.tmps.setIfInBounds p (enc x)).setIfInBounds v (enc x),defers:=[] } W ->
   assign.wpIn (F.inRound l) (n - 1 - 1) P (Exit.then K (fun _ _ _=>False)) { tmps:=a.tmps.setIfInBounds p (enc x),defers:=[] } W)
  (hbody:∀ (l:Nat) (pre:List α) (x:α) (W:World),I pre W->pre.length<N->body.wpIn (F.inRound l) (n - 1 - 1) P (ownPostG w.heap.size Kp I Ix (pre++[x]) W) { tmps:=(a.tmps.setIfInBounds p (enc x)).setIfInBounds v (enc x),defers:=[] } W)
  (hdone:∀ (D:Nat) (xs:List α) (W:World),w.heap.size<=D->S xs->I xs W->W.heap[D]? = some (.deferred (some []))->Q .normal { a with defers:={ target:=.collected D,args:=#[] } :: a.defers } W)
  (hstop:∀ (D:Nat) (c:Code) (pre:List α) (W:World),w.heap.size<=D->Sp pre->Ix c pre W->W.heap[D]? = some (.deferred (some []))->c.wpIn F n P Q { a with defers:={ target:=.collected D,args:=#[] } :: a.defers } W):
  (Code.rangeFunc g #[p] assign body).wpIn F n P Q a w:=
 wpIn_rangeFunc_ownG hro h1 hg hFg eg hseq (fun h k=>hKt h k) hKb (Below.refl _ _) (fun _=>rfl) I Ix hI hIx h0 (fun x=>{ tmps:=(a.tmps.setIfInBounds p (enc x)).setIfInBounds v (enc x),defers:=[] }) (fun l x W K hK=>by have h:=hassign l x W K hK;simpa using h) hbody hdone hstop
theorem next_num (j:Nat) (h:j<=100000):IntKind.i64.wrap ((j:Int)+1)=((j+1:Nat):Int)/\wrap64 ((j:Int)+1)=((j+1:Nat):Int):=by
 have jr:-9223372036854775808<=(j:Int)+1/\(j:Int)+1<=9223372036854775807:=om
 exact ⟨IntWalk.i64_in _ jr,IntWalk.wrap64_in _ jr⟩
theorem round_on {F:Nat->Prop} {w5:World} {db n:Nat} {d dk:aB} {i0 A3 E A5 g1 g2 j:Nat} {T s:ByteArray} {pre:List (Part T.size)} {x:Part T.size} {W W1:World}
  (h3:A3<w5.heap.size) (hE:E<w5.heap.size) (h5:A5<w5.heap.size) (hg1:g1<w5.heap.size) (hg2:g2<w5.heap.size) (n3:¬ F A3) (nE:¬ F E) (n5:¬ F A5) (ng1:¬ F g1) (ng2:¬ F g2)
  (e35:A3≠A5) (e3E:A3≠E) (eE5:E≠A5) (g1E:g1≠E) (g15:g1≠A5) (g2E:g2≠E) (g25:g2≠A5)
  (hSN:wrote d i0 T (pre++[x])=dk.write (j:Int) s) (hz:(dk.write (j:Int) s).2=0) (hj:j=i0+pre.length) (hk:fA (jM F A3 E A5) w5 W)
  (hd1:oG F w5.heap.size db n (dk.write (j:Int) s).1 W1) (hk1:zJ F w5.heap.size W.drew W1)
  (t3:W1.cell? ⟨A3,0,none⟩=some .nilIface) (u3:W1.frozen? ⟨A3,0,none⟩=false) (tE:W1.cell? ⟨E,0,none⟩=some .nilIface) (uE:W1.frozen? ⟨E,0,none⟩=false) (t5:W1.cell? ⟨A5,0,none⟩=some (vi (j:Int))) (u5:W1.frozen? ⟨A5,0,none⟩=false):
  KeepsFrom w5.heap.size W ((W1.setCell ⟨E,0,none⟩ .nilIface).setCell ⟨A5,0,none⟩ (vi ((j+1:Nat):Int)))/\nN g1 g2 W ((W1.setCell ⟨E,0,none⟩ .nilIface).setCell ⟨A5,0,none⟩ (vi ((j+1:Nat):Int))) /\
  KI F w5 db n d i0 A3 E A5 T (pre++[x]) ((W1.setCell ⟨E,0,none⟩ .nilIface).setCell ⟨A5,0,none⟩ (vi ((j+1:Nat):Int))):=by
 have hsz:=hk.size
 have a3E:(⟨E,0,none⟩:Addr)≠⟨A3,0,none⟩:=by intro e;cases e;exact e3E rfl
 have a35:(⟨A5,0,none⟩:Addr)≠⟨A3,0,none⟩:=by intro e;cases e;exact e35 rfl
 have aE5:(⟨A5,0,none⟩:Addr)≠⟨E,0,none⟩:=by intro e;cases e;exact eE5 rfl
 have a5E:(⟨E,0,none⟩:Addr)≠⟨A5,0,none⟩:=by intro e;cases e;exact eE5 rfl
 refine ⟨?_,?_,?_⟩
 ·have h0:KeepsFrom w5.heap.size W W1:=⟨hk1.size,fun k o _ hk ho=>hk1.others k o hk ho⟩
  exact (h0.trans ((KeepsOthers.setCell _ _ _).from _)).trans ((KeepsOthers.setCell _ _ _).from _)
 ·exact ⟨by rw [kB g15,kB g1E];exact hk1.old g1 hg1 ng1,by rw [kB g25,kB g2E];exact hk1.old g2 hg2 ng2⟩
 ·refine ⟨by rw [hSN];exact hz,?_,?_,?_,?_,?_,?_,?_,?_⟩
  ·rw [hSN]
   exact (hd1.set _ hE nE).set _ h5 n5
  ·have hk2:fA (jM F A3 E A5) w5 W1:=zJ.since (w:=W.drew) (hk.ext (show Ext W W.drew from eX)) hk1 (Nat.le_refl _) (fun i hi=>Or.inl hi)
   exact (hk2.setCell (a:=⟨E,0,none⟩) (Or.inl (Or.inr (Or.inr (Or.inl rfl)))) _).setCell (a:=⟨A5,0,none⟩) (Or.inl (Or.inr (Or.inr (Or.inr rfl)))) _
  ·rw [World.cell?_setCell_other (h:=a35),World.cell?_setCell_other (h:=a3E)];exact t3
  ·rw [World.frozen?_setCell,World.frozen?_setCell];exact u3
  ·rw [World.cell?_setCell_other (h:=aE5),World.cell?_setCell_same (h:=tE)]
  ·rw [World.frozen?_setCell,World.frozen?_setCell];exact uE
  ·rw [World.cell?_setCell_same (h:=(show (W1.setCell ⟨E,0,none⟩ .nilIface).cell? ⟨A5,0,none⟩=some (vi (j:Int)) by rw [World.cell?_setCell_other (h:=a5E)];exact t5)),List.length_append,hj]
   rfl
  ·rw [World.frozen?_setCell,World.frozen?_setCell];exact u5
theorem round_off {F:Nat->Prop} {w5:World} {db n:Nat} {d dk:aB} {i0 A3 E A5 j:Nat} {T s:ByteArray} {pre:List (Part T.size)} {x:Part T.size} {W W1:World} {f:Int}
  (h3:A3<w5.heap.size) (hE:E<w5.heap.size) (n3:¬ F A3) (nE:¬ F E) (e3E:A3≠E)
  (hSN:wrote d i0 T (pre++[x])=dk.write (j:Int) s) (hf:(dk.write (j:Int) s).2=f) (hz:¬ f=0) (hk:fA (jM F A3 E A5) w5 W)
  (hd1:oG F w5.heap.size db n (dk.write (j:Int) s).1 W1) (hk1:zJ F w5.heap.size W.drew W1)
  (t3:W1.cell? ⟨A3,0,none⟩=some .nilIface) (u3:W1.frozen? ⟨A3,0,none⟩=false):
  KeepsFrom w5.heap.size W ((W1.setCell ⟨E,0,none⟩ (.iface 92 (vi f))).setCell ⟨A3,0,none⟩ (.iface 92 (vi f))) /\
  KX F w5 db n d i0 A3 E A5 T .ret (pre++[x]) ((W1.setCell ⟨E,0,none⟩ (.iface 92 (vi f))).setCell ⟨A3,0,none⟩ (.iface 92 (vi f))):=by
 have a3E:(⟨E,0,none⟩:Addr)≠⟨A3,0,none⟩:=by intro e;cases e;exact e3E rfl
 refine ⟨?_,rfl,by rw [hSN,hf];exact hz,?_,?_,?_,?_⟩
 ·have h0:KeepsFrom w5.heap.size W W1:=⟨hk1.size,fun k o _ hk ho=>hk1.others k o hk ho⟩
  exact (h0.trans ((KeepsOthers.setCell _ _ _).from _)).trans ((KeepsOthers.setCell _ _ _).from _)
 ·rw [hSN]
  exact (hd1.set _ hE nE).set _ h3 n3
 ·have hk2:fA (jM F A3 E A5) w5 W1:=zJ.since (w:=W.drew) (hk.ext (show Ext W W.drew from eX)) hk1 (Nat.le_refl _) (fun i hi=>Or.inl hi)
  exact (hk2.setCell (a:=⟨E,0,none⟩) (Or.inl (Or.inr (Or.inr (Or.inl rfl)))) _).setCell (a:=⟨A3,0,none⟩) (Or.inl (Or.inr (Or.inl rfl))) _
 ·rw [hSN,hf,World.cell?_setCell_same (h:=(show (W1.setCell ⟨E,0,none⟩ (.iface 92 (vi f))).cell? ⟨A3,0,none⟩=some .nilIface by rw [World.cell?_setCell_other (h:=a3E)];exact t3))]
 ·rw [World.frozen?_setCell,World.frozen?_setCell];exact u3
theorem keepS_old {F:Nat->Prop} {A3 E A5 k n:Nat} (h:jM F A3 E A5 k) (hk:k<n) (h3:n<=A3) (hE:n<=E) (h5:n<=A5):F k:=by
 rcases h with h|h|h|h
 ·exact h
 ·omega
 ·omega
 ·omega
theorem mK {F:Nat->Prop} {A3 E A5:Nat} {w w5 W:World} (hx:Ext w w5) (hk:fA (jM F A3 E A5) w5 W) (h3:w.heap.size<=A3) (hE:w.heap.size<=E) (h5:w.heap.size<=A5):fA F w W:=
 ⟨hk.os.trans hx.below.os,hk.tape.trans hx.below.tape,hk.output.trans hx.below.output,Nat.le_trans hx.below.size hk.size,fun k hlt hn=>
  (hk.block k (Nat.lt_of_lt_of_le hlt hx.below.size) (fun h=>hn (keepS_old h hlt h3 hE h5))).trans (hx.below.block k hlt)⟩
theorem oG.weaken {F:Nat->Prop} {B B' db n:Nat} {d:aB} {w:World} (h:oG F B db n d w) (hB:B'<=B):oG F B' db n d w:=by
 obtain ⟨F',h1,h2,h3⟩:=h;exact ⟨F',h1,fun k hk=>(h2 k hk).imp id (fun h=>Nat.le_trans hB h),h3⟩
structure KeepBad (F:Nat->Prop) (w:World) (lb db n:Nat) (lv e la:Int) (v1 v2:Value) (d:aB) (w':World):Prop where
 disk:oG F w.heap.size db n d w'
 kept:fA F w w'
 blk:kE w' lb db lv e la v1 v2
theorem keep_stop {F:Nat->Prop} {w w5 W:World} {lb db n:Nat} {lv e la:Int} {v1 v2:Value} {dk:aB} {A3 E A5 D:Nat} (hx:Ext w w5) (hB:kE w lb db lv e la v1 v2) (hF:¬ F lb)
  (h3:w.heap.size<=A3) (hE:w.heap.size<=E) (h5:w.heap.size<=A5) (hD:w5.heap.size<=D) (hK:W.heap[D]? = some (.deferred (some []))) (hd:oG F w5.heap.size db n dk W) (hk:fA (jM F A3 E A5) w5 W):
  KeepBad F w lb db n lv e la v1 v2 dk (W.putObj D (.deferred none)):=by
 have hk2:=mK hx hk h3 hE h5;have hs:=hx.below.size;have hg:=grownBy_putObj' W D (.deferred none);refine ⟨(hd.grown hg (fun r e=>by cases e;exact ⟨_,hK,rfl⟩)).weaken hs,hk2.grown hg (fun k e=>by cases e;omega),?_⟩;have h1:W.heap[lb]? = w.heap[lb]?:=hk2.block lb (tI hB) hF;have h2:(W.putObj D (.deferred none)).heap[lb]? = W.heap[lb]?:=World.putObj_heap_other (by have:=tI hB;omega);exact (h2.trans h1).trans hB
def KeepGood (F:Nat->Prop) (w:World) (lb db n:Nat) (lv e last:Int) (l:List sA) (js:List Job) (d:aB) (w':World):Prop:=
 ∃ F' v1 v2,gH w' F' db n d/\(∀ k,F' k->F k\/w.heap.size<=k)/\fA (fun k=>F k\/k=lb) w w'/\kE w' lb db lv e last v1 v2 /\
  w'.ownsRow w.heap.size 141 8 v1 l.length (l.flatMap iA)/\w'.ownsRow w.heap.size 143 2 v2 js.length (js.flatMap jA)/\∀ k,v1.ownBlock=some k\/v2.ownBlock=some k->¬ F' k
def KeepPost (F:Nat->Prop) (w:World) (lb db n:Nat) (lv e la:Int) (v1 v2:Value) (ep:Nat) (last:Int) (l:List sA) (js:List Job) (r:aB×Int) (x:Ending) (w':World):Prop:=
 x = .returned (aC r.2)/\((¬ r.2=0/\KeepBad F w lb db n lv e la v1 v2 r.1 w')\/(r.2=0/\KeepGood F w lb db n lv (ep:Int) last l js r.1 w'))
structure Lies (F:Nat->Prop) (w w5:World) (lb A1 A2 A3 E A5 D:Nat):Prop where
 x:Ext w w5
 fl:∀ k,F k->k<w.heap.size
 l:lb<w.heap.size
 nl:¬ F lb
 a1:w.heap.size<=A1
 a2:w.heap.size<=A2
 a3:w.heap.size<=A3
 e:w.heap.size<=E
 a5:w.heap.size<=A5
 b1:A1<w5.heap.size
 b2:A2<w5.heap.size
 b3:A3<w5.heap.size
 be:E<w5.heap.size
 d1:A1≠E
 d2:A2≠E
 d3:A3≠E
 dd:w5.heap.size<=D
structure Pk (F:Nat->Prop) (w w5:World) (lb db n:Nat) (lv e la:Int) (v1 v2:Value) (A1 A2 A3 E A5 D:Nat) (last:Int) (u1 u2:Value) (d:aB) (vE:Value) (W:World):Prop where
 disk:oG F w5.heap.size db n d W
 kept:fA (jM F A3 E A5) w5 W
 c1:W.cell? ⟨A1,0,none⟩=some (.pointer (some ⟨lb,0,none⟩))
 s0:W.cell? ⟨A2,0,none⟩=some (vi last)
 s1:W.cell? ⟨A2,1,none⟩=some u1
 s2:W.cell? ⟨A2,2,none⟩=some u2
 c3:W.cell? ⟨A3,0,none⟩=some .nilIface
 f3:W.frozen? ⟨A3,0,none⟩=false
 cE:W.cell? ⟨E,0,none⟩=some vE
 fE:W.frozen? ⟨E,0,none⟩=false
 blk:kE W lb db lv e la v1 v2
 mark:W.heap[D]? = some (.deferred (some []))
variable {F:Nat->Prop} {w w5 W W1:World} {lb db n:Nat} {lv e la:Int} {v1 v2:Value} {A1 A2 A3 E A5 D:Nat} {last:Int} {u1 u2:Value} {d d':aB} {vE:Value}
theorem Lies.nF (h:Lies F w w5 lb A1 A2 A3 E A5 D) {k:Nat} (hk:w.heap.size<=k):¬ F k:=fun hf=>by have:=h.fl k hf;omega
theorem Pk.ext (h:Pk F w w5 lb db n lv e la v1 v2 A1 A2 A3 E A5 D last u1 u2 d vE W) (x:Ext W W1):Pk F w w5 lb db n lv e la v1 v2 A1 A2 A3 E A5 D last u1 u2 d vE W1:=
 ⟨h.disk.ext x,h.kept.ext x,gA x h.c1,gA x h.s0,gA x h.s1,gA x h.s2,gA x h.c3,kA x (cA h.c3) h.f3,gA x h.cE,kA x (cA h.cE) h.fE,h.blk.ext x,(x.below.block D (tI h.mark)).trans h.mark⟩
theorem Pk.step (hL:Lies F w w5 lb A1 A2 A3 E A5 D) (h:Pk F w w5 lb db n lv e la v1 v2 A1 A2 A3 E A5 D last u1 u2 d vE W) (hd:oG F w5.heap.size db n d' W1) (hk:zJ F w5.heap.size W W1):
  Pk F w w5 lb db n lv e la v1 v2 A1 A2 A3 E A5 D last u1 u2 d' vE W1:=by
 have hs:=hL.x.below.size;have hl:=hL.l;exact ⟨hd,zJ.since h.kept hk (Nat.le_refl _) (fun i hi=>Or.inl hi),hk.cell h.c1 hL.b1 (hL.nF hL.a1),hk.cell h.s0 hL.b2 (hL.nF hL.a2),hk.cell h.s1 hL.b2 (hL.nF hL.a2),hk.cell h.s2 hL.b2 (hL.nF hL.a2),hk.cell h.c3 hL.b3 (hL.nF hL.a3),hk.free h.f3 hL.b3 (hL.nF hL.a3),hk.cell h.cE hL.be (hL.nF hL.e),hk.free h.fE hL.be (hL.nF hL.e),(hk.old lb om hL.nl).trans h.blk,hk.others D _ h.mark rfl⟩
theorem Pk.err (hL:Lies F w w5 lb A1 A2 A3 E A5 D) (h:Pk F w w5 lb db n lv e la v1 v2 A1 A2 A3 E A5 D last u1 u2 d vE W) (v:Value):
  Pk F w w5 lb db n lv e la v1 v2 A1 A2 A3 E A5 D last u1 u2 d v (W.setCell ⟨E,0,none⟩ v):=by
 have hs:=hL.x.below.size;have hl:=hL.l;have he:=hL.e;have hbe:=hL.be;have hdd:=hL.dd
 have q1:(⟨E,0,none⟩:Addr)≠⟨A1,0,none⟩:=by intro e;cases e;exact hL.d1 rfl
 have q2:∀ i,(⟨E,0,none⟩:Addr)≠⟨A2,i,none⟩:=by intro i e;cases e;exact hL.d2 rfl
 have q3:(⟨E,0,none⟩:Addr)≠⟨A3,0,none⟩:=by intro e;cases e;exact hL.d3 rfl
 refine ⟨h.disk.set v hL.be (hL.nF hL.e),h.kept.setCell (a:=⟨E,0,none⟩) (Or.inl (Or.inr (Or.inr (Or.inl rfl)))) v,?_,?_,?_,?_,?_,?_,World.cell?_setCell_same W _ _ h.cE,?_,?_,?_⟩
 ·rw [World.cell?_setCell_other (h:=q1)];exact h.c1
 ·rw [World.cell?_setCell_other (h:=q2 0)];exact h.s0
 ·rw [World.cell?_setCell_other (h:=q2 1)];exact h.s1
 ·rw [World.cell?_setCell_other (h:=q2 2)];exact h.s2
 ·rw [World.cell?_setCell_other (h:=q3)];exact h.c3
 ·rw [World.frozen?_setCell];exact h.f3
 ·rw [World.frozen?_setCell];exact h.fE
 ·exact (kB (by show lb≠E;omega)).trans h.blk
 ·exact (kB (by show D≠E;omega)).trans h.mark
theorem KI.pack {i0:Nat} {T:ByteArray} {xs:List (Part T.size)} (hL:Lies F w w5 lb A1 A2 A3 E A5 D) (h:KI F w5 db n d i0 A3 E A5 T xs W) (hB:kE w lb db lv e la v1 v2)
  (c1:w5.cell? ⟨A1,0,none⟩=some (.pointer (some ⟨lb,0,none⟩))) (s0:w5.cell? ⟨A2,0,none⟩=some (vi last)) (s1:w5.cell? ⟨A2,1,none⟩=some u1) (s2:w5.cell? ⟨A2,2,none⟩=some u2)
  (n1:A1≠A3/\A1≠A5) (n2:A2≠A3/\A2≠A5) (hm:W.heap[D]? = some (.deferred (some []))):
  Pk F w w5 lb db n lv e la v1 v2 A1 A2 A3 E A5 D last u1 u2 (wrote d i0 T xs).1 .nilIface W:=by
 have k1:¬ jM F A3 E A5 A1:=by
  rintro (h|h|h|h)
  ·exact hL.nF hL.a1 h
  ·exact n1.1 h
  ·exact hL.d1 h
  ·exact n1.2 h
 have k2:¬ jM F A3 E A5 A2:=by
  rintro (h|h|h|h)
  ·exact hL.nF hL.a2 h
  ·exact n2.1 h
  ·exact hL.d2 h
  ·exact n2.2 h
 exact ⟨h.disk,h.kept,qB h.kept c1 k1,qB h.kept s0 k2,qB h.kept s1 k2,qB h.kept s2 k2,h.c3,h.f3,h.cE,h.fE,((mK hL.x h.kept hL.a3 hL.e hL.a5).block lb hL.l hL.nl).trans hB,hm⟩
theorem Pk.bad (hL:Lies F w w5 lb A1 A2 A3 E A5 D) (h:Pk F w w5 lb db n lv e la v1 v2 A1 A2 A3 E A5 D last u1 u2 d vE W) (v:Value):
  KeepBad F w lb db n lv e la v1 v2 d ((W.setCell ⟨A3,0,none⟩ v).putObj D (.deferred none))/\((W.setCell ⟨A3,0,none⟩ v).putObj D (.deferred none)).cell? ⟨A3,0,none⟩=some v/\(W.setCell ⟨A3,0,none⟩ v).heap[D]? = some (.deferred (some [])):=by
 have h3:=hL.a3;have b3:=hL.b3;have hdd:=hL.dd;have hm:(W.setCell ⟨A3,0,none⟩ v).heap[D]? = some (.deferred (some [])):=(kB (by show D≠A3;omega)).trans h.mark;have hk:fA (jM F A3 E A5) w5 (W.setCell ⟨A3,0,none⟩ v):=h.kept.setCell (a:=⟨A3,0,none⟩) (Or.inl (Or.inr (Or.inl rfl))) v;refine ⟨?_,gF (grownBy_putObj' _ D (.deferred none)) (World.cell?_setCell_same W _ _ h.c3) (fun e=>by cases e;omega),hm⟩;have hl:=hL.l;have hs:=hL.x.below.size;have hk2:=mK hL.x hk hL.a3 hL.e hL.a5;have hg:=grownBy_putObj' (W.setCell ⟨A3,0,none⟩ v) D (.deferred none);refine ⟨((h.disk.set v hL.b3 (hL.nF hL.a3)).grown hg (fun r e=>by cases e;exact ⟨_,hm,rfl⟩)).weaken hs,hk2.grown hg (fun k e=>by cases e;omega),?_⟩;have q1:(W.setCell ⟨A3,0,none⟩ v).heap[lb]? = W.heap[lb]?:=kB (by show lb≠A3;omega);have q2:((W.setCell ⟨A3,0,none⟩ v).putObj D (.deferred none)).heap[lb]? = (W.setCell ⟨A3,0,none⟩ v).heap[lb]?:=World.putObj_heap_other om;exact (q2.trans q1).trans h.blk
theorem then_n {K:Act->World->Prop} {Q:Exit->Act->World->Prop} {a:Act} {w:World} (h:K a w):Exit.then K Q .normal a w:=h
theorem wp_onlyN {P:Program} {c:Code} {Q:Exit->Act->World->Prop} {a:Act} {w:World} (h:c.wp P (Exit.then (fun a w=>Q .normal a w) (fun _ _ _=>False)) a w):c.wp P Q a w:=by
 refine wp_mono h ?_;intro e a w hq
 cases e with
 | normal=>exact hq
 | _=>exact hq.elim
abbrev ledSet (W:World) (lb:Nat) (e last:Int) (v1 v2:Value):World:=(((W.setCell ⟨lb,2,none⟩ (vi e)).setCell ⟨lb,3,none⟩ (vi last)).setCell ⟨lb,4,none⟩ v1).setCell ⟨lb,5,none⟩ v2
theorem ledSet_other {W:World} {lb k:Nat} {e last:Int} {v1 v2:Value} (h:k≠lb):(ledSet W lb e last v1 v2).heap[k]? = W.heap[k]?:=by
 unfold ledSet;rw [kB h,kB h,kB h,kB h]
theorem fA.ledSet {S:Nat->Prop} {w0 W:World} (h:fA S w0 W) {lb:Nat} (hl:S lb) (e last:Int) (v1 v2:Value):fA S w0 (ledSet W lb e last v1 v2):=
 (((h.setCell (a:=⟨lb,2,none⟩) (Or.inl hl) _).setCell (a:=⟨lb,3,none⟩) (Or.inl hl) _).setCell (a:=⟨lb,4,none⟩) (Or.inl hl) _).setCell (a:=⟨lb,5,none⟩) (Or.inl hl) _
theorem owns_ledSet {W:World} {lb base base' t size n:Nat} {v:Value} {xs:List Value} {e last:Int} {v1 v2:Value} (h:W.ownsRow base t size v n xs) (hb:base'<=base) (hn:v.ownBlock≠some lb):(ledSet W lb e last v1 v2).ownsRow base' t size v n xs:=
 mA (lA (lA (lA (lA h _ hn) _ hn) _ hn) _ hn) hb
theorem owns_mark {W:World} {base t size n D:Nat} {v:Value} {xs:List Value} (h:W.ownsRow base t size v n xs) (hm:W.heap[D]? = some (.deferred (some []))):(W.putObj D (.deferred none)).ownsRow base t size v n xs:=by
 refine jF h (fun k hk=>?_)
 have:k≠D:=by
  rintro rfl
  rcases h.2 with ⟨e,-⟩|⟨g,cap,cur,e,_,hg,_⟩
  ·rw [e] at hk;cases hk
  ·rw [e] at hk;cases hk;rw [hm] at hg;cases hg
 exact World.putObj_heap_other this
theorem Pk.good {W7 W8:World} {ep:Nat} {y1 y2:Value} {l:List sA} {js:List Job} (hL:Lies F w w5 lb A1 A2 A3 E A5 D) (h:Pk F w w5 lb db n lv e la v1 v2 A1 A2 A3 E A5 D last u1 u2 d .nilIface W7) (hx:Ext W7 W8)
  (o1:W8.ownsRow W7.heap.size 141 8 y1 l.length (l.flatMap iA)) (o2:W8.ownsRow W7.heap.size 143 2 y2 js.length (js.flatMap jA)):
  KeepGood F w lb db n lv (ep:Int) last l js d (((ledSet W8 lb (ep:Int) last y1 y2).setCell ⟨A3,0,none⟩ .nilIface).putObj D (.deferred none)) /\
  (((ledSet W8 lb (ep:Int) last y1 y2).setCell ⟨A3,0,none⟩ .nilIface).putObj D (.deferred none)).cell? ⟨A3,0,none⟩=some .nilIface /\
  ((ledSet W8 lb (ep:Int) last y1 y2).setCell ⟨A3,0,none⟩ .nilIface).heap[D]? = some (.deferred (some [])) /\
  (ledSet W8 lb (ep:Int) last y1 y2).cell? ⟨E,0,none⟩=some .nilIface/\(ledSet W8 lb (ep:Int) last y1 y2).cell? ⟨A3,0,none⟩=some .nilIface/\(ledSet W8 lb (ep:Int) last y1 y2).frozen? ⟨A3,0,none⟩=false:=by
 have hs:=hL.x.below.size;have h3:=hL.a3;have b3:=hL.b3;have he:=hL.e;have be:=hL.be;have hdd:=hL.dd;have hl:=hL.l;have hs7:=h.kept.size;have h8:=h.ext hx;have hs8:=hx.below.size
 have g1:∀ k,y1.ownBlock=some k->W7.heap.size<=k:=fun k hk=>(rE o1 hk).1
 have g2:∀ k,y2.ownBlock=some k->W7.heap.size<=k:=fun k hk=>(rE o2 hk).1
 have n1:y1.ownBlock≠some lb:=fun e=>by have:=g1 _ e;omega
 have n2:y2.ownBlock≠some lb:=fun e=>by have:=g2 _ e;omega
 have m1:y1.ownBlock≠some A3:=fun e=>by have:=g1 _ e;omega
 have m2:y2.ownBlock≠some A3:=fun e=>by have:=g2 _ e;omega
 have cell_l:∀ {b o:Nat} {v:Value},W8.cell? ⟨b,o,none⟩=some v->b≠lb->(ledSet W8 lb (ep:Int) last y1 y2).cell? ⟨b,o,none⟩=some v:=by
  intro b o v hc hb;have:=ledSet_other (W:=W8) (e:=(ep:Int)) (last:=last) (v1:=y1) (v2:=y2) hb;unfold World.cell? at *;simp only [this];exact hc
 have c3:=cell_l h8.c3 om;have cE:=cell_l h8.cE om
 have f3:(ledSet W8 lb (ep:Int) last y1 y2).frozen? ⟨A3,0,none⟩=false:=by
  unfold ledSet;rw [World.frozen?_setCell,World.frozen?_setCell,World.frozen?_setCell,World.frozen?_setCell];exact h8.f3
 have hm0:(ledSet W8 lb (ep:Int) last y1 y2).heap[D]? = some (.deferred (some [])):=(ledSet_other om).trans h8.mark;have hm:((ledSet W8 lb (ep:Int) last y1 y2).setCell ⟨A3,0,none⟩ .nilIface).heap[D]? = some (.deferred (some [])):=(kB (by show D≠A3;omega)).trans hm0;refine ⟨?_,gF (grownBy_putObj' _ D (.deferred none)) (World.cell?_setCell_same _ _ _ c3) (fun e=>by cases e;omega),hm,cE,c3,f3⟩;obtain ⟨F',hd,hF',hcs⟩:=h.disk
 have hlt:∀ k,F' k->k<W7.heap.size:=by obtain ⟨kb,kc,nb,nc,wv,hI⟩:=hd;exact fun k hk=>hI.lt k hk
 have hgr:=grownBy_putObj' ((ledSet W8 lb (ep:Int) last y1 y2).setCell ⟨A3,0,none⟩ .nilIface) D (.deferred none)
 have kAll:fA (fun k=>k=lb\/k=A3\/k=D) W8 (((ledSet W8 lb (ep:Int) last y1 y2).setCell ⟨A3,0,none⟩ .nilIface).putObj D (.deferred none)):=by
  have k1:fA (fun k=>k=lb\/k=A3\/k=D) W8 ((ledSet W8 lb (ep:Int) last y1 y2).setCell ⟨A3,0,none⟩ .nilIface):=((fA.refl _ W8).ledSet (Or.inl rfl) _ _ _ _).setCell (a:=⟨A3,0,none⟩) (Or.inl (Or.inr (Or.inl rfl))) _;exact ⟨hgr.os.trans k1.os,hgr.tape.trans k1.tape,hgr.output.trans k1.output,Nat.le_trans k1.size hgr.size,fun k hk hn=>(hgr.block k (Nat.lt_of_lt_of_le hk k1.size) (fun e=>hn (by cases e;exact Or.inr (Or.inr rfl)))).trans (k1.block k hk hn)⟩
 refine ⟨F',y1,y2,cJ.kept (hd.ext hx) kAll ?_,fun k hk=>(hF' k hk).imp id (fun h=>Nat.le_trans hs h),?_,?_,?_,?_,?_⟩
 ·rintro k hk (rfl|rfl|rfl)
  ·rcases hF' _ hk with h'|h'
   ·exact hL.nl h'
   ·omega
  ·rcases hF' _ hk with h'|h'
   ·exact hL.nF h3 h'
   ·omega
  ·obtain ⟨cs,t,fr,hc⟩:=hcs _ hk
   rw [h.mark] at hc;cases hc
 ·have k0:fA F w W8:=(mK hL.x h.kept hL.a3 hL.e hL.a5).ext hx
  have hw8:w.heap.size<=W8.heap.size:=om
  exact ⟨kAll.os.trans k0.os,kAll.tape.trans k0.tape,kAll.output.trans k0.output,Nat.le_trans k0.size kAll.size,fun k hk hn=>(kAll.block k om (by
   rintro (e|e|e)
   ·exact hn (Or.inr e)
   ·omega
   ·omega)).trans (k0.block k hk (fun hf=>hn (Or.inl hf)))⟩
 ·have q0:kE (ledSet W8 lb (ep:Int) last y1 y2) lb db lv (ep:Int) last y1 y2:=(h8.blk.setEpoch (ep:Int)).setBook last y1 y2
  have q1:((ledSet W8 lb (ep:Int) last y1 y2).setCell ⟨A3,0,none⟩ .nilIface).heap[lb]? = (ledSet W8 lb (ep:Int) last y1 y2).heap[lb]?:=kB (by show lb≠A3;omega);have q2:(((ledSet W8 lb (ep:Int) last y1 y2).setCell ⟨A3,0,none⟩ .nilIface).putObj D (.deferred none)).heap[lb]? = ((ledSet W8 lb (ep:Int) last y1 y2).setCell ⟨A3,0,none⟩ .nilIface).heap[lb]?:=World.putObj_heap_other om;exact (q2.trans q1).trans q0
 ·exact owns_mark (lA (owns_ledSet o1 om n1) _ m1) hm
 ·exact owns_mark (lA (owns_ledSet o2 om n2) _ m2) hm
 ·rintro k (hk|hk) hF
  ·have:=g1 k hk;have:=hlt k hF;omega
  ·have:=g2 k hk;have:=hlt k hF;omega
theorem Sl.keptS {α:Type} {S:Nat->Prop} {W':World} {c:Nat} {enc:α->List Value} {l:List α} {a:Option Addr} {n cap:Nat} (h:Sl w c enc l a n cap) (k:fA S w W') (hn:0<n->∀ b o,a=some ⟨b,o,none⟩->¬ S b):Sl W' c enc l a n cap:=
 ⟨h.1,h.2.1,h.2.2.1,fun hp=>let ⟨b,o,e,f⟩:=h.2.2.2 hp;⟨b,o,e,fun i x hx j y hy=>qB k (f i x hx j y hy) (hn hp b o e)⟩⟩
theorem oE {lb b o i:Nat} {u v:Value} (hn:b≠lb) (h:W.cell? ⟨b,o,none⟩=some v):(W.setCell ⟨lb,i,none⟩ u).cell? ⟨b,o,none⟩=some v:=by
 rw [World.cell?_setCell_other (h:=fun e=>by cases e;exact hn rfl)];exact h
