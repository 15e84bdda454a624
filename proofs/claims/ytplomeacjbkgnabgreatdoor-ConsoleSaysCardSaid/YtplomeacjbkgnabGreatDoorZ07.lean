import Derived.Test.YtplomeacjbkgnabGreatDoorZ06
import Derived.Laws.CopyOwn
set_option linter.all false
set_option maxRecDepth 100000
set_option maxHeartbeats 16000000
namespace Go.Proofs.YtplomeacjbkgnabGreatDoor
open Go.RowKit Tryz Ch
abbrev vs (s:ByteArray):Value:=.string s
def uL (t:Nat×ByteArray):List Value:=[vi (t.1:Int),vs t.2]
abbrev diskCells (kb kc nb nc n:Nat) (wv:Value) (d:aB):Array Value:=#[.slice (some ⟨kb,0,none⟩) n kc,.slice (some ⟨nb,0,none⟩) n nc,wv,vi d.fuse,.bool d.down]
structure sE (w:World) (g n c:Nat) (l:List ByteArray):Prop where
 len:l.length=n
 nc:n<=c
 cm:c<=maxLen
 heap:∃ cur:Array Value,w.heap[g]? = some (.cells cur 9 (0,0))/\cur.size=c/\cur.toList.take n=l.map vs
structure kC (T TT:TypeId) (w:World) (F:Nat->Prop) (db kb kc nb nc n:Nat) (wv:Value) (d:aB):Prop where
 blk:w.heap[db]? = some (.cells (diskCells kb kc nb nc n wv d) T (0,0))
 kept:sE w kb n kc d.kept
 now:sE w nb n nc d.now
 wait:w.ownsRow 0 TT 2 wv d.wait.length (d.wait.flatMap uL)
 f1:F db
 f2:F kb
 f3:F nb
 f4:∀ k,wv.ownBlock=some k->F k
 n1:db≠kb
 n2:db≠nb
 n3:kb≠nb
 n4:∀ k,wv.ownBlock=some k->k≠db/\k≠kb/\k≠nb
 lt:∀ k,F k->k<w.heap.size
 wf:d.WF n
def cJ (T TT:TypeId) (w:World) (F:Nat->Prop) (db n:Nat) (d:aB):Prop:=∃ kb kc nb nc wv,kC T TT w F db kb kc nb nc n wv d
abbrev lL:=kC 100 157
abbrev gH:=cJ 100 157
variable {T TT:TypeId}
theorem kD {w:World} {b:Nat} {cs:Array Value} {t:TypeId} {i:Nat} {v:Value} (h:w.heap[b]? = some (.cells cs t (0,0))) (hi:cs[i]? = some v):w.cell? ⟨b,i,none⟩=some v:=by
 simp [World.cell?,h,hi]
theorem wJ {w:World} {b:Nat} {cs:Array Value} {t:TypeId} (h:w.heap[b]? = some (.cells cs t (0,0))) (i:Nat):w.frozen? ⟨b,i,none⟩=false:=by
 simp [World.frozen?,h]
theorem tI {w:World} {b:Nat} {o:Obj} (h:w.heap[b]? = some o):b<w.heap.size:=by
 by_cases hb:b<w.heap.size
 ·exact hb
 ·rw [Array.getElem?_eq_none (Nat.le_of_not_lt hb)] at h;cases h
theorem sE.same {w w':World} {g n c:Nat} {l:List ByteArray} (h:sE w g n c l) (e:w'.heap[g]? = w.heap[g]?):sE w' g n c l:=
 ⟨h.len,h.nc,h.cm,let ⟨cur,h1,h2,h3⟩:=h.heap;⟨cur,e.trans h1,h2,h3⟩⟩
theorem sE.cell {w:World} {g n c:Nat} {l:List ByteArray} (h:sE w g n c l) {k:Nat} {s:ByteArray} (hs:l[k]? = some s):w.cell? ⟨g,k,none⟩=some (vs s):=by
 obtain ⟨cur,h1,h2,h3⟩:=h.heap
 have hk:k<n:=by
  have:=h.len
  by_cases hk:k<l.length
  ·omega
  ·rw [List.getElem?_eq_none om] at hs;cases hs
 refine kD h1 ?_
 have:(cur.toList.take n)[k]? = some (vs s):=by rw [h3,List.getElem?_map,hs];rfl
 rw [List.getElem?_take,if_pos hk] at this
 simpa using this
theorem sE.free {w:World} {g n c:Nat} {l:List ByteArray} (h:sE w g n c l) (k:Nat):w.frozen? ⟨g,k,none⟩=false:=by
 obtain ⟨cur,h1,_,_⟩:=h.heap;exact wJ h1 k
theorem sE.lt {w:World} {g n c:Nat} {l:List ByteArray} (h:sE w g n c l):g<w.heap.size:=by
 obtain ⟨cur,h1,_,_⟩:=h.heap;exact tI h1
theorem sE.set {w:World} {g n c:Nat} {l:List ByteArray} (h:sE w g n c l) (k:Nat) (s:ByteArray):sE (w.setCell ⟨g,k,none⟩ (vs s)) g n c (l.set k s):=by
 obtain ⟨cur,h1,h2,h3⟩:=h.heap;refine ⟨by simp [h.len],h.nc,h.cm,cur.setIfInBounds k (vs s),tB h1,by simpa using h2,?_⟩;rw [Array.toList_setIfInBounds,List.take_set,h3,List.map_set]
theorem jF {w w':World} {base e size:Nat} {v:Value} {n:Nat} {xs:List Value} (h:w.ownsRow base e size v n xs) (he:∀ k,v.ownBlock=some k->w'.heap[k]? = w.heap[k]?):w'.ownsRow base e size v n xs:=by
 refine ⟨h.1,?_⟩
 rcases h.2 with h2|⟨g,cap,cur,hv,hb,hg,r⟩
 ·exact .inl h2
 ·exact .inr ⟨g,cap,cur,hv,hb,(he g (by rw [hv];rfl)).trans hg,r⟩
theorem kC.same {w w':World} {F:Nat->Prop} {db kb kc nb nc n:Nat} {wv:Value} {d:aB} (h:kC T TT w F db kb kc nb nc n wv d) (hs:∀ k,F k->w'.heap[k]? = w.heap[k]?) (hz:w.heap.size<=w'.heap.size):kC T TT w' F db kb kc nb nc n wv d:=
 { h with
  blk:=(hs db h.f1).trans h.blk
  kept:=h.kept.same (hs kb h.f2)
  now:=h.now.same (hs nb h.f3)
  wait:=jF h.wait (fun k hk=>hs k (h.f4 k hk))
  lt:=fun k hk=>Nat.lt_of_lt_of_le (h.lt k hk) hz }
theorem kC.ext {w w':World} {F:Nat->Prop} {db kb kc nb nc n:Nat} {wv:Value} {d:aB} (h:kC T TT w F db kb kc nb nc n wv d) (e:Ext w w'):kC T TT w' F db kb kc nb nc n wv d:=by
 have hb:=e.below;exact h.same (fun k hk=>hb.block k (h.lt k hk)) hb.size
theorem cJ.ext {w w':World} {F:Nat->Prop} {db n:Nat} {d:aB} (h:cJ T TT w F db n d) (e:Ext w w'):cJ T TT w' F db n d:=by
 obtain ⟨kb,kc,nb,nc,wv,h⟩:=h;exact ⟨kb,kc,nb,nc,wv,h.ext e⟩
theorem cJ.kept {w w':World} {F S:Nat->Prop} {db n:Nat} {d:aB} (h:cJ T TT w F db n d) (k:fA S w w') (hs:∀ b,F b->¬ S b):cJ T TT w' F db n d:=by
 obtain ⟨kb,kc,nb,nc,wv,h⟩:=h;exact ⟨kb,kc,nb,nc,wv,h.same (fun b hb=>k.block b (h.lt b hb) (hs b hb)) k.size⟩
theorem kC.cells {w:World} {F:Nat->Prop} {db kb kc nb nc n:Nat} {wv:Value} {d:aB} (h:kC T TT w F db kb kc nb nc n wv d):
  w.cell? ⟨db,0,none⟩=some (.slice (some ⟨kb,0,none⟩) n kc)/\w.cell? ⟨db,1,none⟩=some (.slice (some ⟨nb,0,none⟩) n nc)/\w.cell? ⟨db,2,none⟩=some wv/\w.cell? ⟨db,3,none⟩=some (vi d.fuse)/\w.cell? ⟨db,4,none⟩=some (.bool d.down):=
 ⟨kD h.blk rfl,kD h.blk rfl,kD h.blk rfl,kD h.blk rfl,kD h.blk rfl⟩
theorem kC.put {w:World} {F:Nat->Prop} {db kb kc nb nc n:Nat} {wv:Value} {d e:aB} (h:kC T TT w F db kb kc nb nc n wv d) (i:Nat) (v:Value) (hq:(diskCells kb kc nb nc n wv d).setIfInBounds i v=diskCells kb kc nb nc n wv e)
  (h1:e.kept=d.kept) (h2:e.now=d.now) (h3:e.wait=d.wait) (hw:e.WF n):kC T TT (w.setCell ⟨db,i,none⟩ v) F db kb kc nb nc n wv e where
 blk:=by rw [tB h.blk,hq]
 kept:=h1▸h.kept.same (kB (fun e=>h.n1 e.symm))
 now:=h2▸h.now.same (kB (fun e=>h.n2 e.symm))
 wait:=h3▸jF h.wait (fun k hk=>kB (h.n4 k hk).1)
 f1:=h.f1
 f2:=h.f2
 f3:=h.f3
 f4:=h.f4
 n1:=h.n1
 n2:=h.n2
 n3:=h.n3
 n4:=h.n4
 lt:=fun k hk=>by rw [cF];exact h.lt k hk
 wf:=hw
def DDidT (T TT:TypeId) (F:Nat->Prop) (db n:Nat) (w:World) (d':aB) (r:Value) (e:Ending) (w':World):Prop:=
 e = .returned r/\(∃ F',cJ T TT w' F' db n d'/\∀ k,F' k->F k\/w.heap.size<=k)/\fA F w w'
abbrev DDid:=DDidT 100 157
theorem kC.did {F:Nat->Prop} {db kb kc nb nc n:Nat} {wv:Value} {w w':World} {d':aB} {r:Value} (h:kC T TT w' F db kb kc nb nc n wv d') (k:fA F w w'):DDidT T TT F db n w d' r (.returned r) w':=
 ⟨rfl,⟨F,⟨kb,kc,nb,nc,wv,h⟩,fun _ hk=>Or.inl hk⟩,k⟩
theorem dstep_any {F:Nat->Prop} {db kb kc nb nc n:Nat} {wv:Value} {d:aB} {w:World} (h:lL w F db kb kc nb nc n wv d):
  Calls prog 85 #[.pointer (some ⟨db,0,none⟩)] w fun e w'=>e = .returned (aC d.stepErr)/\lL w' F db kb kc nb nc n wv d.stepped/\fA F w w':=by
 obtain ⟨c0,c1,c2,c3,c4⟩:=h.cells;have HD:=aA h;have fz:=wJ h.blk;have hb:=cA c1;have hf:=h.wf.fuse;have hf2:=h.wf.fuse2;have f1:=h.f1;clear h;cases hd:d.down
 ·by_cases h0:d.fuse=0
  ·have HS:Hid (d.stepped={ d with down:=true,fuse:=-1 }):=by unfold Hid aB.stepped;rw [if_neg (by rw [hd];simp),if_pos h0]
   have HW:Hid (d.stepped.WF n):=by unfold Hid;exact HD.out.wf.stepped
   have H4:=aA hd;rw [hd] at c4;rw [h0] at c3;clear hd;go_enter func85,ntmps85;go_wp2;go_ret;rw [HS.out];refine ⟨by simp [aB.stepErr,HS.out,aC],?_,((fA.refl _ _).setCell (Or.inl f1) _).setCell (Or.inl f1) _⟩;exact (HD.out.put (e:={ d with down:=true }) 4 _ sp rfl rfl rfl ⟨HD.out.wf.kept,HD.out.wf.now,HD.out.wf.keptS,HD.out.wf.nowS,HD.out.wf.wait,HD.out.wf.fuse,HD.out.wf.fuse2⟩).put 3 _ sp rfl rfl rfl (by rw [<-HS.out];exact HW.out)
  ·have HS:Hid (d.stepped={ d with fuse:=max (d.fuse - 1) (-1) }):=by unfold Hid aB.stepped;rw [if_neg (by rw [hd];simp),if_neg h0]
   have HW:Hid (d.stepped.WF n):=by unfold Hid;exact HD.out.wf.stepped
   have h0':(d.fuse==0)=false:=by simpa using h0
   have i1:IntKind.i64.wrap (d.fuse - 1)=d.fuse - 1:=IntWalk.i64_in _ om;have H4:=aA hd;rw [hd] at c4;clear hd h0;go_enter func85,ntmps85;go_wp2
   all_goals
    go_ret;rw [HS.out];refine ⟨by simp [aB.stepErr,HS.out,H4.out],?_,(fA.refl _ _).setCell (Or.inl f1) _⟩;exact HD.out.put 3 _ so rfl rfl rfl (by rw [<-HS.out];exact HW.out)
 ·have HS:Hid (d.stepped=d):=by unfold Hid aB.stepped;rw [if_pos hd]
  have H4:=aA hd;rw [hd] at c4;clear hd;go_enter func85,ntmps85;go_wp2;go_ret;rw [HS.out];exact ⟨by simp [aB.stepErr,HS.out,H4.out,aC],HD.out,fA.refl _ _⟩
end Go.Proofs.YtplomeacjbkgnabGreatDoor
namespace Go.Proofs.YtplomeacjbkgnabGreatDoor
open Go.RowKit Tryz Ch
variable {T TT:TypeId}
theorem infoByte:(prog.info? 5).map (fun i=>(i.zero,i.size,i.bytes))=some (some (.int .u8 0),1,1):=by kernel_rfl
theorem zero_cells (k:Nat):madeCells #[.int .u8 0] k=(List.replicate k (Value.int .u8 0)).toArray:=by
 apply Array.ext
 ·simp [madeCells]
 ·intro i h1 h2
  simp [madeCells,Nat.mod_one]
theorem zeros_back (k c:Nat) (w:World) (g:Nat) (h:w.heap[g]? = some (.cells (madeCells #[.int .u8 0] k) 5 (0,0))):
  (Go.convert 155 9 (.slice (some ⟨g,0,none⟩) k c)).run prog w = .ok (vs (yL k)) w:=by
 have:=run_convert_bytes_back (P:=prog) w 155 9 5 ⟨g,0,none⟩ c (List.replicate k 0) underlying155 kR kR (fun j hj=>by
  have hj':j<k:=by simpa using hj
  have e:(⟨g,0,none⟩:Addr).add j=⟨g,j,none⟩:=by unfold Addr.add;split <;> simp_all
  rw [e,zero_cells] at *
  simp [World.cell?,h,hj'])
 simp only [List.length_replicate] at this;rw [this]
 congr 3
theorem make_zeros (k:Nat) (hk:k<=1000) (w:World):(Instr.makeSlice 155 (vi (k:Int)) (vi (k:Int))).run prog w = .ok (.slice (some ⟨w.heap.size,0,none⟩) k k) (w.alloc (.cells (madeCells #[.int .u8 0] k) 5)):=by
 obtain ⟨i0,hi,hz0,hz1,hz2⟩:=info_parts infoByte;have hr:=run_make (P:=prog) w 155 5 i0 _ underlying155 hi hz0 .i64 .i64 (k:Int) (k:Int) om om (by rw [hz2];omega) om;rw [hr];simp [hz1,Value.cells]
theorem dfull_any (s:ByteArray) (w:World) (hs:s.size<=64):
  Calls prog 40 #[vs s] w fun e w'=>e = .returned (vs (vC s))/\Ext w w':=by
 have e1:(64:Int) - (s.size:Int)=((64 - s.size:Nat):Int):=om
 have m1:∀ wx,(Instr.makeSlice 155 (vi ((64:Int) - (s.size:Int))) (vi ((64:Int) - (s.size:Int)))).run prog wx = .ok (.slice (some ⟨wx.heap.size,0,none⟩) (64 - s.size) (64 - s.size)) (wx.alloc (.cells (madeCells #[.int .u8 0] (64 - s.size)) 5)):=fun wx=>by rw [e1];exact make_zeros _ om wx
 have m2:=zeros_back (64 - s.size) (64 - s.size) (w.alloc (.cells (madeCells #[.int .u8 0] (64 - s.size)) 5)) w.heap.size (heap_alloc_new w _);have i1:IntKind.i64.wrap ((64:Int) - (s.size:Int))=(64:Int) - (s.size:Int):=IntWalk.i64_in _ om
 have m3:¬ 9223372036854775807<s.size+(yL (64 - s.size)).size:=by rw [yN];omega
 clear e1;go_enter func40,ntmps40;go_wp2;go_ret;exact ⟨rfl,eX⟩
theorem rC {F:Nat->Prop} {db kb kc nb nc n:Nat} {wv:Value} {d:aB} {w:World} (h:lL w F db kb kc nb nc n wv d):
  Calls prog 42 #[.pointer (some ⟨db,0,none⟩)] w fun e w'=>e = .returned (vi (n:Int))/\Ext w w':=by
 obtain ⟨c0,c1,c2,c3,c4⟩:=h.cells;have hb:=cA c1;clear h;go_enter func42,ntmps42;go_wp2;go_ret;exact ⟨rfl,eX⟩
theorem read_any {F:Nat->Prop} {db kb kc nb nc n:Nat} {wv:Value} {d:aB} {w:World} (h:lL w F db kb kc nb nc n wv d) (k:Int):
  Calls prog 90 #[.pointer (some ⟨db,0,none⟩),vi k] w fun e w'=>e = .returned (.tuple #[vs (d.read k).1,aC (d.read k).2])/\Ext w w':=by
 obtain ⟨c0,c1,c2,c3,c4⟩:=h.cells;have hb:=cA c1;have hn:=h.wf.now;have hnc:=h.now.nc;have hcm:=h.now.cm;unfold maxLen at hcm;cases hd:d.down
 ·rw [hd] at c4
  by_cases hk:k<0\/(n:Int)<=k
  ·have HR:Hid (d.read k=(⟨#[]⟩,1)):=by unfold Hid aB.read;rw [hd,if_neg sp,hn,if_pos hk]
   clear h hd hn
   rcases hk with hk|hk
   ·go_enter func90,ntmps90
    go_wp2
    go_ret2
    exact ⟨by rw [HR.out];rfl,eX⟩
   ·have hk0:0<=k:=om
    go_enter func90,ntmps90;go_wp2
    go_ret2
    exact ⟨by rw [HR.out];rfl,eX⟩
  ·obtain ⟨j,rfl⟩:∃ j:Nat,k=(j:Int):=⟨k.toNat,om⟩
   have hj:j<n:=om
   obtain ⟨s,hs⟩:∃ s,d.now[j]? = some s:=⟨d.now[j]'om,sp⟩
   have hc:=h.now.cell hs;have hbn:=cA hc
   have HR:Hid (d.read (j:Int)=(s,0)):=by unfold Hid aB.read;rw [hd,if_neg sp,hn,if_neg hk];simp [List.getD,hs]
   clear h hd hn hk hs;go_enter func90,ntmps90;go_wp2
   go_ret2
   exact ⟨by rw [HR.out];rfl,eX⟩
 ·rw [hd] at c4
  have HR:Hid (d.read k=(⟨#[]⟩,9)):=by unfold Hid aB.read;rw [hd,if_pos rfl]
  clear h hd hn;go_enter func90,ntmps90;go_wp2
  go_ret2
  exact ⟨by rw [HR.out];rfl,eX⟩
end Go.Proofs.YtplomeacjbkgnabGreatDoor
namespace Go.Proofs.YtplomeacjbkgnabGreatDoor
open Go.RowKit Tryz Ch
variable {T TT:TypeId}
theorem infoTurn:(prog.info? 157).map (fun i=>(i.zero,i.size,i.bytes))=some (some (.agg #[vi 0,vs ⟨#[]⟩]),2,24):=by kernel_rfl
theorem write_bad {F:Nat->Prop} {db kb kc nb nc n:Nat} {wv:Value} {d:aB} {w:World} (h:lL w F db kb kc nb nc n wv d) (k:Int) (s:ByteArray) (hs:s.size<=maxLen) (hbad:k<0\/(n:Int)<=k\/64<s.size):
  Calls prog 44 #[.pointer (some ⟨db,0,none⟩),vi k,vs s] w fun e w'=>e = .returned (aC 1)/\Ext w w':=by
 obtain ⟨c0,c1,c2,c3,c4⟩:=h.cells;have hb:=cA c1;have hnc:=h.now.nc;have hcm:=h.now.cm;unfold maxLen at hcm hs;clear h
 by_cases h1:k<0
 ·clear hbad
  go_enter func44,ntmps44;go_wp2;go_ret;exact ⟨rfl,eX⟩
 ·have h1':0<=k:=om
  by_cases h2:(n:Int)<=k
  ·clear hbad h1
   go_enter func44,ntmps44;go_wp2;go_ret;exact ⟨rfl,eX⟩
  ·have h2':k<(n:Int):=om
   have h3:64<s.size:=om
   clear hbad h1 h2;go_enter func44,ntmps44;go_wp2;go_ret;exact ⟨rfl,eX⟩
theorem write_down {F:Nat->Prop} {db kb kc nb nc n:Nat} {wv:Value} {d:aB} {w:World} (h:lL w F db kb kc nb nc n wv d) (j:Nat) (s:ByteArray) (hj:j<n) (hs:s.size<=64) (hd:d.stepErr=9):
  Calls prog 44 #[.pointer (some ⟨db,0,none⟩),vi (j:Int),vs s] w (DDid F db n w d.stepped (aC 9)):=by
 obtain ⟨c0,c1,c2,c3,c4⟩:=h.cells;have hb:=cA c1;have hnc:=h.now.nc;have hcm:=h.now.cm;have HD:=aA h;unfold maxLen at hcm
 have he:aC d.stepErr = .iface 92 (vi 9):=by rw [hd];rfl
 clear h hd;go_enter func44,ntmps44;go_wp2_with (go_at_call 85;(with_reducible refine (dstep_any (HD.out.ext eX)).mono ?_);rintro e w1 ⟨rfl,hq,hk⟩);go_ret;exact kC.did hq ((fA.of_ext eX).trans hk)
theorem kC.wrote {w:World} {F:Nat->Prop} {db kb kc nb nc n:Nat} {wv:Value} {d:aB} (h:kC T TT w F db kb kc nb nc n wv d) (j:Nat) (s:ByteArray) (hs:s.size=64):
  kC T TT (w.setCell ⟨nb,j,none⟩ (vs s)) F db kb kc nb nc n wv { d with now:=d.now.set j s } where
 blk:=(kB h.n2).trans h.blk
 kept:=h.kept.same (kB h.n3)
 now:=h.now.set j s
 wait:=jF h.wait (fun k hk=>kB (h.n4 k hk).2.2)
 f1:=h.f1
 f2:=h.f2
 f3:=h.f3
 f4:=h.f4
 n1:=h.n1
 n2:=h.n2
 n3:=h.n3
 n4:=h.n4
 lt:=fun k hk=>by rw [cF];exact h.lt k hk
 wf:=⟨h.wf.kept,by simp [h.wf.now],h.wf.keptS,(fun x hx=>by rcases List.mem_or_eq_of_mem_set hx with hx|rfl;exact h.wf.nowS x hx;exact hs),h.wf.wait,h.wf.fuse,h.wf.fuse2⟩
theorem ext_heap {w w':World} (h:Ext w w') {b:Nat} (hb:b<w.heap.size):w'.heap[b]? = w.heap[b]?:=h.below.block b hb
theorem kC.waits {w w3:World} {F:Nat->Prop} {db kb kc nb nc n:Nat} {wv:Value} {d:aB} (h:kC T TT w F db kb kc nb nc n wv d) (v:Value) (t:Nat×ByteArray) (ht:t.1<n/\t.2.size=64)
  (hown:w3.ownsRow 0 TT 2 v (d.wait.length+1) (d.wait.flatMap uL++uL t)) (hg:w.grownBy w3 wv.ownBlock) (hv:∀ k,v.ownBlock=some k->wv.ownBlock=some k\/w.heap.size<=k):
  kC T TT (w3.setCell ⟨db,2,none⟩ v) (fun k=>F k\/v.ownBlock=some k) db kb kc nb nc n v { d with wait:=d.wait++[t] }:=by
 have hs:∀ k,k<w.heap.size->wv.ownBlock≠some k->w3.heap[k]? = w.heap[k]?:=fun k hk hne=>hg.block k hk (fun e=>hne e.symm)
 have l1:=h.lt db h.f1;have l2:=h.lt kb h.f2;have l3:=h.lt nb h.f3
 have hne:∀ k,v.ownBlock=some k->k≠db/\k≠kb/\k≠nb:=fun k hk=>by
  rcases hv k hk with e|e
  ·exact h.n4 k e
  ·exact ⟨om,om,om⟩
 have hb3:w3.heap[db]? = w.heap[db]?:=hs db l1 (fun e=>(h.n4 db e).1 rfl);refine ⟨?_,?_,?_,?_,Or.inl h.f1,Or.inl h.f2,Or.inl h.f3,fun k hk=>Or.inr hk,h.n1,h.n2,h.n3,hne,?_,?_⟩
 ·rw [tB (hb3.trans h.blk)];rfl
 ·exact h.kept.same ((kB (fun e=>h.n1 e.symm)).trans (hs kb l2 (fun e=>(h.n4 kb e).2.1 rfl)))
 ·exact h.now.same ((kB (fun e=>h.n2 e.symm)).trans (hs nb l3 (fun e=>(h.n4 nb e).2.2 rfl)))
 ·refine jF ?_ (fun k hk=>kB (hne k hk).1)
  simpa [List.flatMap_append] using hown
 ·intro k hk
  rw [cF]
  rcases hk with hk|hk
  ·have:=h.lt k hk;have:=hg.size;omega
  ·exact (hown.lt k hk).2
 ·have:=h.wf
  refine ⟨this.kept,this.now,this.keptS,this.nowS,?_,this.fuse,this.fuse2⟩;intro x hx;simp at hx
  rcases hx with hx|rfl
  ·exact this.wait x hx
  ·exact ht
theorem write_ok {F:Nat->Prop} {db kb kc nb nc n:Nat} {wv:Value} {d:aB} {w:World} (h:lL w F db kb kc nb nc n wv d) (j:Nat) (s:ByteArray) (hj:j<n) (hs:s.size<=64) (hd:d.stepErr=0) (hl:d.wait.length<=1000000):
  Calls prog 44 #[.pointer (some ⟨db,0,none⟩),vi (j:Int),vs s] w (DDid F db n w (d.write (j:Int) s).1 (aC 0)):=by
 obtain ⟨i0,hi,hz0,hz1,hz2⟩:=info_parts infoTurn;obtain ⟨c0,c1,c2,c3,c4⟩:=h.cells;have hb:=cA c1;have hnc:=h.now.nc;have hcm:=h.now.cm;have HD:=aA h;have HN:=aA h.wf.now;unfold maxLen at hcm
 have he:aC d.stepErr = .nilIface:=by rw [hd];rfl
 have HE:Hid (d.write (j:Int) s=({ d.stepped with now:=d.stepped.now.set j (vC s),wait:=d.stepped.wait++[(j,vC s)] },0)):=by
  unfold Hid aB.write
  have:¬ d.stepped.down=true:=by unfold aB.stepErr at hd;split at hd <;> simp_all
  rw [if_neg (by have:=HN.out;omega),if_neg this,uK,fG];simp
 clear h hd;go_enter func44,ntmps44
 go_upto_region 5 with (go_at_call 85;(with_reducible refine (dstep_any (HD.out.ext eX)).mono ?_);rintro e w1 ⟨rfl,hq,hk⟩)
 obtain ⟨b0,b1,b2,b3,b4⟩:=hq.cells
 obtain ⟨x,hx⟩:∃ x,d.stepped.now[j]? = some x:=⟨d.stepped.now[j]'(by have:=hq.wf.now;omega),sp⟩
 have hc:=hq.now.cell hx;have fz:=hq.now.free j;have hbn:=cA hc;have hbd:=cA b1
 have hlw:d.stepped.wait.length<=1000000:=by rw [fG];exact hl
 have HQ:=aA hq;have HK:=aA hk;generalize d.stepped=q at HQ hlw HE b3 b4 hx;clear hq hk hl HN hx c0 c1 c2 c3 c4 HD
 (refine iD 8 kR kR ?_;(simp only [List.take_succ_cons,List.take_zero,List.drop_succ_cons,List.drop_zero]);(repeat (first|go_big_quiet_step ((intro _;go_at_call 40;exact qC (dfull_any _ _ hs)))|quiet_step (fail)));refine wpQuiet_nil ?_;rintro _ ⟨oq,nq,rfl⟩)
 go_upto_region 6 with fail
 generalize hW:World.setCell _ _ _=w3
 have hq3:lL w3 F db kb kc nb nc n wv { q with now:=q.now.set j (vC s) }:=by
  rw [<-hW];exact (HQ.out.ext eX).wrote j _ (mO hs)
 have hk3:fA F w w3:=by rw [<-hW];exact (HK.out.ext eX).setCell (Or.inl HQ.out.f3) _
 clear hW b0 b1 b2 b3 b4 hc fz hbn hbd HQ HK;obtain ⟨b0,b1,b2,b3,b4⟩:=hq3.cells;have hc:=hq3.now.cell (k:=j) (s:=vC s) (by rw [List.getElem?_set_self (by have:=hq3.wf.now;simp at this;omega)]);have hbn:=cA hc;have hbd:=cA b1;have fz:=wJ hq3.blk;have HQ:=aA hq3;have HK:=aA hk3;have ne2:=hq3.n2;have hown:=aA (show w3.ownsRow 0 157 2 wv q.wait.length (q.wait.flatMap uL) from hq3.wait);have hne:=aA hq3.n4;clear hq3 hk3
 go_region_law (first|(refine step_append_lies _ rfl _ _ _ rfl 0 157 i0 _ 2 24 underlying98 hi hz0 hz1 hz2 rfl dc wv q.wait.length _ rfl (mI (iB hown.out _)) ⟨w3.heap.size,0,none⟩ 1 1 [vi (j:Int),vs (vC s)] rfl rfl (lK w3 #[vi (j:Int),vs (vC s)] 157) (by simp [Value.oneCell']) dc (by unfold maxLen;omega) om om _ rfl ?_;intro gg cap w5 hown5 hgrow hat hlt;have s1:=gF hgrow (gA (w:=w3) eX b1) (fun e=>(hne.out _ e).1 rfl);have s2:=gF hgrow (gA (w:=w3) eX b2) (fun e=>(hne.out _ e).1 rfl);have s3:=gF hgrow (gA (w:=w3) eX hc) (fun e=>(hne.out _ e).2.2 rfl);have s4:=gfree hgrow so (kA (w:=w3) eX hbd (fz 2)) (fun e=>(hne.out _ e).1 rfl)))
 all_goals
  go_wp2;go_ret;rw [HE.out];have hx3:Ext w3 (w3.alloc (.cells #[vi (j:Int),vs (vC s)] 157)).drew:=eX;have hz3:=hx3.below.size;refine ⟨rfl,⟨fun k=>F k\/some gg=some k,⟨kb,kc,nb,nc,_,(HQ.out.ext hx3).waits (.slice (some ⟨gg,0,none⟩) (q.wait.length+1) cap) (j,vC s) ⟨hj,mO hs⟩ hown5 hgrow ?_⟩,?_⟩,?_⟩
  ·intro k hk
   obtain rfl:gg=k:=by simpa [Value.ownBlock] using hk
   rcases hat with hat|hat
   ·exact Or.inl hat
   ·exact Or.inr om
  ·intro k hk
   rcases hk with hk|hk
   ·exact Or.inl hk
   ·obtain rfl:gg=k:=by simpa using hk
    rcases hat with hat|hat
    ·exact Or.inl (HQ.out.f4 _ hat)
    ·have:=HK.out.size
     exact Or.inr om
  ·refine fA.setCell ?_ (Or.inl HQ.out.f1) _
   exact HK.out.trans ((fA.of_ext hx3).trans ⟨hgrow.os,hgrow.tape,hgrow.output,hgrow.size,fun k hk hs=>hgrow.block k hk (fun e=>hs (HQ.out.f4 k e.symm))⟩)
end Go.Proofs.YtplomeacjbkgnabGreatDoor
namespace Go.Proofs.YtplomeacjbkgnabGreatDoor
open Go.RowKit Tryz Ch
variable {T TT:TypeId}
theorem write_any {F:Nat->Prop} {db n:Nat} {d:aB} {w:World} (h:gH w F db n d) (k:Int) (s:ByteArray) (hs:s.size<=maxLen) (hl:d.wait.length<=1000000):
  Calls prog 44 #[.pointer (some ⟨db,0,none⟩),vi k,vs s] w (DDid F db n w (d.write k s).1 (aC (d.write k s).2)):=by
 obtain ⟨kb,kc,nb,nc,wv,h⟩:=h;have hn:=h.wf.now
 by_cases hb:k<0\/(n:Int)<=k\/64<s.size
 ·have e:d.write k s=(d,1):=by unfold aB.write;rw [hn,if_pos hb]
  rw [e];refine (write_bad h k s hs hb).mono ?_;rintro e w' ⟨rfl,hx⟩;exact kC.did (h.ext hx) (fA.of_ext hx)
 ·obtain ⟨j,rfl⟩:∃ j:Nat,k=(j:Int):=⟨k.toNat,om⟩
  by_cases hd:d.stepped.down=true
  ·have e:d.write (j:Int) s=(d.stepped,9):=by unfold aB.write;rw [hn,if_neg hb,if_pos hd]
   rw [e];exact write_down h j s om om (by unfold aB.stepErr;rw [if_pos hd])
  ·have e:(d.write (j:Int) s).2=0:=by unfold aB.write;rw [hn,if_neg hb,if_neg hd]
   rw [e];exact write_ok h j s om om (by unfold aB.stepErr;rw [if_neg hd]) hl
theorem infoStr:(prog.info? 9).map (·.size)=some 1:=by kernel_rfl
theorem sE.copied {w:World} {g n c:Nat} {l m:List ByteArray} {cur:Array Value} (h1:w.heap[g]? = some (.cells cur 9 (0,0))) (h2:cur.size=c) (hn:n<=c) (hc:c<=maxLen) (hm:m.length=n):
  sE (w.setRow g (cur.toList.take 0++(m.map vs++cur.toList.drop (0+(m.map vs).length))).toArray) g n c m:=by
 refine ⟨hm,hn,hc,_,setRow_heap w g cur _ 9 _ h1,by simp;omega,?_⟩;simp [hm]
theorem sE.src {w:World} {g n c:Nat} {l:List ByteArray} (h:sE w g n c l):∀ j v,(l.map vs)[j]? = some v->w.cell? ((⟨g,0,none⟩:Addr).add j)=some v:=by
 intro j v hj;rw [List.getElem?_map] at hj
 cases hs:l[j]? with
 | none=>rw [hs] at hj;cases hj
 | some s=>
  rw [hs] at hj
  obtain rfl:vs s=v:=by simpa using hj
  have e:(⟨g,0,none⟩:Addr).add j=⟨g,j,none⟩:=by unfold Addr.add;split <;> simp_all
  rw [e];exact h.cell hs
theorem eK {w:World} {g k:Nat} {cs:Array Value} (h:k≠g):(w.setRow g cs).heap[k]? = w.heap[k]?:=setRow_other w g k cs h
theorem kC.copy_kept {w:World} {F:Nat->Prop} {db kb kc nb nc n:Nat} {wv:Value} {d:aB} (h:kC T TT w F db kb kc nb nc n wv d) {cur:Array Value} (h1:w.heap[kb]? = some (.cells cur 9 (0,0))) (h2:cur.size=kc):
  kC T TT (w.setRow kb (cur.toList.take 0++(d.now.map vs++cur.toList.drop (0+(d.now.map vs).length))).toArray) F db kb kc nb nc n wv { d with kept:=d.now } where
 blk:=(eK h.n1).trans h.blk
 kept:=sE.copied (l:=d.kept) h1 h2 h.kept.nc h.kept.cm h.wf.now
 now:=h.now.same (eK (fun e=>h.n3 e.symm))
 wait:=jF h.wait (fun k hk=>eK (h.n4 k hk).2.1)
 f1:=h.f1
 f2:=h.f2
 f3:=h.f3
 f4:=h.f4
 n1:=h.n1
 n2:=h.n2
 n3:=h.n3
 n4:=h.n4
 lt:=fun k hk=>by have:=h.lt k hk;simpa [World.setRow] using this
 wf:=⟨h.wf.now,h.wf.now,h.wf.nowS,h.wf.nowS,h.wf.wait,h.wf.fuse,h.wf.fuse2⟩
theorem kC.copy_now {w:World} {F:Nat->Prop} {db kb kc nb nc n:Nat} {wv:Value} {d:aB} (h:kC T TT w F db kb kc nb nc n wv d) {cur:Array Value} (h1:w.heap[nb]? = some (.cells cur 9 (0,0))) (h2:cur.size=nc):
  kC T TT (w.setRow nb (cur.toList.take 0++(d.kept.map vs++cur.toList.drop (0+(d.kept.map vs).length))).toArray) F db kb kc nb nc n wv { d with now:=d.kept } where
 blk:=(eK h.n2).trans h.blk
 kept:=h.kept.same (eK h.n3)
 now:=sE.copied (l:=d.now) h1 h2 h.now.nc h.now.cm h.wf.kept
 wait:=jF h.wait (fun k hk=>eK (h.n4 k hk).2.2)
 f1:=h.f1
 f2:=h.f2
 f3:=h.f3
 f4:=h.f4
 n1:=h.n1
 n2:=h.n2
 n3:=h.n3
 n4:=h.n4
 lt:=fun k hk=>by have:=h.lt k hk;simpa [World.setRow] using this
 wf:=⟨h.wf.kept,h.wf.kept,h.wf.keptS,h.wf.keptS,h.wf.wait,h.wf.fuse,h.wf.fuse2⟩
theorem fA.setRow {S:Nat->Prop} {w w':World} (h:fA S w w') {b:Nat} (hb:S b) (cs:Array Value):fA S w (w'.setRow b cs):=
 ⟨h.os,h.tape,h.output,by simpa [World.setRow] using h.size,fun k hk hs=>(eK (fun e=>hs (by rw [e];exact hb))).trans (h.block k hk hs)⟩
theorem kC.calmed {w:World} {F:Nat->Prop} {db kb kc nb nc n:Nat} {wv:Value} {d:aB} (h:kC T TT w F db kb kc nb nc n wv d):
  kC T TT (w.setCell ⟨db,2,none⟩ (.slice none 0 0)) F db kb kc nb nc n (.slice none 0 0) { d with wait:=[] } where
 blk:=by rw [tB h.blk];rfl
 kept:=h.kept.same (kB (fun e=>h.n1 e.symm))
 now:=h.now.same (kB (fun e=>h.n2 e.symm))
 wait:=World.ownsRow_nil _ _ _ _
 f1:=h.f1
 f2:=h.f2
 f3:=h.f3
 f4:=fun k hk=>by cases hk
 n1:=h.n1
 n2:=h.n2
 n3:=h.n3
 n4:=fun k hk=>by cases hk
 lt:=fun k hk=>by rw [cF];exact h.lt k hk
 wf:=⟨h.wf.kept,h.wf.now,h.wf.keptS,h.wf.nowS,sp,h.wf.fuse,h.wf.fuse2⟩
theorem oneStr (l:List ByteArray):∀ v∈l.map vs,v.oneCell'=true:=by
 intro v hv;obtain ⟨s,_,rfl⟩:=List.mem_map.1 hv;rfl
theorem flush_any {F:Nat->Prop} {db n:Nat} {d:aB} {w:World} (h:gH w F db n d):
  Calls prog 45 #[.pointer (some ⟨db,0,none⟩)] w (DDid F db n w d.flush.1 (aC d.flush.2)):=by
 obtain ⟨kb,kc,nb,nc,wv,h⟩:=h;have HD:=aA h;clear h
 by_cases hd:d.stepped.down=true
 ·have e:d.flush=(d.stepped,9):=by unfold aB.flush;rw [if_pos hd]
  have he:aC d.stepErr = .iface 92 (vi 9):=by unfold aB.stepErr;rw [if_pos hd];rfl
  have HE:=aA e;clear e hd;go_enter func45,ntmps45;go_wp2_with (go_at_call 85;(with_reducible refine (dstep_any (HD.out.ext eX)).mono ?_);rintro e w1 ⟨rfl,hq,hk⟩);go_ret;rw [HE.out];exact kC.did hq ((fA.of_ext eX).trans hk)
 ·have e:d.flush=({ d.stepped with kept:=d.stepped.now,wait:=[] },0):=by unfold aB.flush;rw [if_neg hd,uK]
  have he:aC d.stepErr = .nilIface:=by unfold aB.stepErr;rw [if_neg hd];rfl
  have HE:=aA e;clear e hd;go_enter func45,ntmps45
  go_upto_region 3 with (go_at_call 85;(with_reducible refine (dstep_any (HD.out.ext eX)).mono ?_);rintro e w1 ⟨rfl,hq,hk⟩)
  obtain ⟨b0,b1,b2,b3,b4⟩:=hq.cells;have hbd:=cA b1;have HQ:=aA hq;have HK:=aA hk;generalize d.stepped=q at HQ HE b3 b4;clear hq hk HD
  (refine iD 8 kR kR ?_;(simp only [List.take_succ_cons,List.take_zero,List.drop_succ_cons,List.drop_zero]);(repeat (first|go_big_quiet_step (fail)|quiet_step (fail)));refine wpQuiet_nil ?_;rintro _ ⟨oq,nq,rfl⟩)
  obtain ⟨cur,hc1,hc2,hc3⟩:=(HQ.out.ext (w':=World.plus w1 oq nq) eX).kept.heap;have hcm:=HQ.out.kept.nc;have hn:=HQ.out.wf.now;have H1:=aA hc1;refine wpList_copy_own rfl _ _ _ _ rfl 9 underlying77 infoStr kb 0 n kc ⟨nb,0,none⟩ n nc rfl rfl cur 9 hc1 (q.now.map vs) (by simp [hn]) (HQ.out.ext (w':=World.plus w1 oq nq) eX).now.src (by first|(simp [hn];done)|(simp [hn];omega)) (oneStr _) ?_;have hq2:=(HQ.out.ext (w':=World.plus w1 oq nq) eX).copy_kept hc1 hc2;have hk2:fA F w ((World.plus w1 oq nq).setRow kb (cur.toList.take 0++(q.now.map vs++cur.toList.drop (0+(q.now.map vs).length))).toArray):=(HK.out.ext eX).setRow HQ.out.f2 _
  generalize (World.plus w1 oq nq).setRow kb (cur.toList.take 0++(q.now.map vs++cur.toList.drop (0+(q.now.map vs).length))).toArray=w4 at hq2 hk2 ⊢
  clear hc1 hc2 hc3 b0 b1 b2 b3 b4;obtain ⟨b0,b1,b2,b3,b4⟩:=hq2.cells;have fz:=wJ hq2.blk;have hbd:=cA b1;have HQ2:=aA hq2;clear hq2;go_wp2;go_ret;rw [HE.out];exact kC.did HQ2.out.calmed (hk2.setCell (Or.inl HQ.out.f1) _)
end Go.Proofs.YtplomeacjbkgnabGreatDoor
namespace Go.Proofs.YtplomeacjbkgnabGreatDoor
open Go.RowKit Tryz Ch
variable {T TT:TypeId}
theorem down_any {F:Nat->Prop} {db kb kc nb nc n:Nat} {wv:Value} {d:aB} {w:World} (h:lL w F db kb kc nb nc n wv d):
  Calls prog 89 #[.pointer (some ⟨db,0,none⟩)] w fun e w'=>e = .returned (.bool d.down)/\Ext w w':=by
 obtain ⟨c0,c1,c2,c3,c4⟩:=h.cells;have hb:=cA c1;clear h;go_enter func89,ntmps89;go_wp2;go_ret;exact ⟨rfl,eX⟩
