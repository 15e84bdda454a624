import Derived.Test.YtplomeacjbkgnadGreatDoorZ35
set_option linter.all false
set_option maxRecDepth 100000
set_option maxHeartbeats 16000000
namespace Ch
theorem write_wait (d:Disk) (i:Int) (s:ByteArray):(d.write i s).1.wait.length≤d.wait.length+1:=by
 unfold Disk.write
 split
 ·exact Nat.le_succ _
 ·split
  ·rw [stepped_wait];exact Nat.le_succ _
  ·simp
theorem flush_wait (d:Disk):d.flush.1.wait.length≤d.wait.length:=by
 unfold Disk.flush
 split
 ·rw [stepped_wait];exact Nat.le_refl _
 ·simp
theorem writes_wait:∀ (l:List ByteArray) (d:Disk) (i:Nat),(writes d i l).1.wait.length≤d.wait.length+l.length
 | [],d,i=>Nat.le_refl _
 | s :: l,d,i=>by
  have h1:=write_wait d (i:Int) s;unfold writes
  split
  ·have h2:=writes_wait l (d.write (i:Int) s).1 (i+1)
   simp only [List.length_cons];omega
  ·simp only [List.length_cons]
   omega
theorem keep_wait (d:Disk) (e:Nat) (b:Book):(d.keep e b).1.wait.length≤d.wait.length+(chunksB (bookText b)).length+1:=by
 have h1:=writes_wait (chunksB (bookText b)) d (2+e % 2 * 10);unfold Disk.keep;dsimp only
 split
 ·have h2:=flush_wait (writes d (2+e % 2 * 10) (chunksB (bookText b))).1
  split
  ·have h3:=write_wait (writes d (2+e % 2 * 10) (chunksB (bookText b))).1.flush.1 ((e % 2:Nat):Int) ⟨(head e (bookText b).length).toArray⟩
   split
   ·have h4:=flush_wait ((writes d (2+e % 2 * 10) (chunksB (bookText b))).1.flush.1.write ((e % 2:Nat):Int) ⟨(head e (bookText b).length).toArray⟩).1
    omega
   ·omega
  ·omega
 ·omega
end Ch
namespace Ch.Live
theorem HD.keep_wait {x:HD} {n:Nat} {b:Book} (hx:x.Up n) (hb:House.Inv2 { x.h with b:=b }):(x.keep b).1.d.wait.length≤1000:=by
 have hlen:=levels_len hx.inv.inv.lv;have hbf:bookFault b x.h.n=0:=bookFault_iff.2 hb.inv.core.book;have ht:=text_len hbf (show x.h.n≤4 by unfold House.n;omega);have hc:=chunksB_len (bookText b);have h1:=Ch.keep_wait x.d (x.e+1) b;rw [hx.calm.none] at h1;have h0:([]:List (Nat×ByteArray)).length=0:=rfl;unfold HD.keep
 split <;> (dsimp only;omega)
theorem HD.Up.wait {x:HD} {n:Nat} (hx:x.Up n):x.d.wait.length≤1000:=by rw [hx.calm.none];exact Nat.zero_le _
theorem HD.tick_wait {x:HD} {n:Nat} (hx:x.Up n):x.tick.1.d.wait.length≤1000:=by
 have hti:=hx.inv.tick;unfold House.tick at hti;unfold HD.tick
 split
 ·rename_i hg
  rw [if_pos hg] at hti
  cases ht:turnOf x.h.b x.h.n x.h.p with
  | mk l o=>
   rw [ht] at hti
   cases o with
   | none=>exact hx.wait
   | some b=>exact HD.keep_wait hx hti
 ·exact hx.wait
theorem HD.ticks_wait {n:Nat} (hn:22≤n):∀ (k:Nat) (x:HD),x.Up n→x.e+k+1<4294967296→(HD.ticks k x).d.wait.length≤1000
 | 0,x,hx,_=>hx.wait
 | k+1,x,hx,he=>by
  show (HD.ticks k x.tick.1).d.wait.length≤1000
  rcases HD.tick_up hx hn (by omega) with ⟨a1,a2,a3,a4,a5⟩|⟨a1,a2,a3,a4,a5,a6⟩
  ·exact HD.ticks_wait hn k x.tick.1 a2 (by omega)
  ·rw [HD.stays_fell a6 k]
   exact HD.tick_wait hx
theorem HD.ticks_fit {n:Nat} (hn:22≤n) {k:Nat} {x:HD} (hx:x.Up n) (he:x.e+k+2<4294967296):(HD.ticks k x).h.Inv'∧(HD.ticks k x).e+1<4294967296∧(HD.ticks k x).d.wait.length≤1000:=by
 refine ⟨?_,?_,HD.ticks_wait hn k x hx (by omega)⟩
 ·rcases HD.ticks_up hn k x hx (by omega) with h|h
  ·exact h.1.inv.inv
  ·exact h.1.inv.inv
 ·rcases HD.ticks_up hn k x hx (by omega) with h|h
  ·have:=h.2.2.1;omega
  ·have:=h.2.1;omega
theorem HD.ticks_succ:∀ (k:Nat) (x:HD),(HD.ticks k x).tick.1=HD.ticks (k+1) x
 | 0,_=>rfl
 | k+1,x=>HD.ticks_succ k x.tick.1
theorem HD.park_wait {x:HD} {n:Nat} (hx:x.Up n) (c:Car):(x.park c).1.d.wait.length≤1000:=by
 have hi:=hx.inv.park c;unfold House.park at hi;unfold HD.park
 by_cases hb:x.h.p.bay≠c.id
 ·rw [if_pos hb];exact hx.wait
 ·rw [if_neg hb] at hi ⊢
  cases hp:Ch.park x.h.b x.h.sizes c with
  | error e=>exact hx.wait
  | ok r=>
   obtain ⟨b,k⟩:=r;rw [hp] at hi
   dsimp only at hi ⊢
   split <;> exact HD.keep_wait hx hi
theorem HD.want_wait {x:HD} {n:Nat} (hx:x.Up n) (t:Int):(x.want t).1.d.wait.length≤1000:=by
 have hi:=hx.inv.want t;unfold House.want at hi;unfold HD.want
 cases hw:Ch.want x.h.b t with
 | error e=>exact hx.wait
 | ok b=>
  rw [hw] at hi;exact HD.keep_wait hx hi
theorem HD.play_wait {x:HD} {n:Nat} (hx:x.Up n) (hn:22≤n) (he:x.e+62<4294967296) (a:Act):(x.play a).d.wait.length≤1000:=by
 unfold HD.play
 split
 ·exact HD.park_wait hx _
 ·split
  ·exact HD.want_wait hx _
  ·split
   ·exact hx.wait
   ·exact HD.ticks_wait hn _ x hx (by omega)
theorem HD.Up.stands {x:HD} {n:Nat} (hx:x.Up n):x.d.down=false:=hx.calm.up
end Ch.Live
namespace Go.Proofs.YtplomeacjbkgnadGreatDoor
open Go.RowKit
variable {T TT:TypeId}
theorem arm_any {F:Nat→Prop} {db kb kc nb nc n:Nat} {wv:Value} {d:Ch.Disk} {w:World} (h:DiskIn w F db kb kc nb nc n wv d) (k:Int) (hk:k≤9223372036854775807):
  Calls Tryz.prog 21 #[.pointer (some ⟨db,0,none⟩),vi k] w (DDid F db n w (d.arm k) (.tuple #[])):=by
 obtain ⟨c0,c1,c2,c3,c4⟩:=h.cells;have HD:=Lib.hid h;have HW:=Lib.hid (h.wf.arm k hk);have fz:=blk_free h.blk;have hb:=cell_lt c1;have f1:=h.f1;clear h;go_enter Tryz.func21,Tryz.ntmps21;go_wp2
 all_goals
  go_end0
  exact DiskInT.did (HD.out.put 3 _ (by first|(simp [Ch.Disk.arm];done)|(simp [Ch.Disk.arm];omega)) rfl rfl rfl HW.out) ((Kept.refl _ _).setCell (Or.inl f1) _)
end Go.Proofs.YtplomeacjbkgnadGreatDoor
namespace Go.Proofs.YtplomeacjbkgnadGreatDoor
open Go.RowKit
/-! ### something is done to a ledger's disk -/
theorem ln_did {Z:Nat→Prop} {db lb n:Nat} {lv:Int} {e:Nat} {b:Ch.Book} {d d':Ch.Disk} {w:World} {g:FuncId} {args:Array Value} {r:Value} (hZ:∀ k,w.heap.size≤k→Z k) (hN:LN Z db lb n lv e b d w)
  (hc:∀ F,DiskAt w F db n d→Calls Tryz.prog g args w (DDid F db n w d' r)):Calls Tryz.prog g args w fun x w'=>x = .returned r∧Kept Z w w'∧LN Z db lb n lv e b d' w':=by
 obtain ⟨F,v1,v2,g1,g2,g3,g4,g5,g6,g7,g8⟩:=hN;refine (hc F g1).mono ?_;rintro x w' ⟨rfl,⟨F',k1,k2⟩,k3⟩;have hlt:=g5.lt
 have lt6:∀ k,v1.ownBlock=some k∨v2.ownBlock=some k→k<w.heap.size:=fun k hk=>by
  rcases hk with hk|hk
  ·exact (own_lt g6 hk).2
  ·exact (own_lt g7 hk).2
 have nF:∀ k,v1.ownBlock=some k∨v2.ownBlock=some k→¬ F' k:=fun k hk hF=>by
  rcases k2 k hF with hF|hB
  ·exact (g8 k hk).1 hF
  ·have:=lt6 k hk;omega
 refine ⟨rfl,⟨k3.os,k3.tape,k3.output,k3.size,fun k hk hz=>k3.block k hk (fun hF=>hz (g2 k hF))⟩,F',v1,v2,k1,fun k hF=>(k2 k hF).elim (g2 k) (hZ k),?_,g4,?_,owns_same g6 (fun i hi=>k3.block i (lt6 i (Or.inl hi)) (g8 i (Or.inl hi)).1),owns_same g7 (fun i hi=>k3.block i (lt6 i (Or.inr hi)) (g8 i (Or.inr hi)).1),fun k hk'=>⟨nF k hk',(g8 k hk').2⟩⟩
 ·intro hF
  rcases k2 lb hF with hF|hB
  ·exact g3 hF
  ·omega
 ·exact (k3.block lb hlt g3).trans g5
end Go.Proofs.YtplomeacjbkgnadGreatDoor
