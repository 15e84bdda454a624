import Derived.Test.YtplomeacjbkgnabGreatDoorZ28
set_option linter.all false
set_option maxRecDepth 100000
set_option maxHeartbeats 16000000
namespace Go.Proofs.YtplomeacjbkgnabGreatDoor
open Go.RowKit
variable {T TT:TypeId}
def keptAt (d:Ch.Disk) (keep k:Nat):Ch.Disk:={ d with kept:=Ch.keptOf keep 0 (d.wait.take k) d.kept }
structure Resumed (w wr:World) (F:Nat→Prop) (db kb kc nb nc n:Nat) (wv:Value) (d:Ch.Disk) (keep k:Nat):Prop where
 at_:iH wr F db kb kc nb nc n wv (keptAt d keep k)
 kept:mA F w wr
end Go.Proofs.YtplomeacjbkgnabGreatDoor
namespace Go.Proofs.YtplomeacjbkgnabGreatDoor
open Go.RowKit
variable {T TT:TypeId}
theorem mask_nat (a:Nat) (ha:a≤40):bits .and .u64 (a:Int) 4294967295=(a:Int):=by
 have h:=bits_and_u64_nat a 4294967295 (by omega) (by decide);have e:a &&& 4294967295=a % 4294967296:=Nat.and_two_pow_sub_one_eq_mod a 32;rw [e,Nat.mod_eq_of_lt (by omega)] at h;exact h
theorem mul64_one (n:Nat) (hn:n≤40) (w:World):Calls Tryz.prog 147 #[.int .u64 1,.int .u64 (n:Int)] w fun e w'=>e = .returned (.tuple #[.int .u64 0,.int .u64 (n:Int)])∧w'=w:=by
 have m1:bits .and .u64 1 4294967295=1:=mask_nat 1 (by omega);have m2:=mask_nat n hn;have m3:bits .and .u64 0 4294967295=0:=mask_nat 0 (by omega)
 have d1:(n:Int) / 4294967296=0:=by omega
 have w1:IntKind.u64.wrap (n:Int)=(n:Int):=by rw [IntKind.wrap_u64];omega
 have w0:IntKind.u64.wrap 0=0:=by rw [IntKind.wrap_u64];rfl
 go_enter Tryz.func147,Tryz.ntmps147;go_wp2
 try simp only [m1,m2,m3,d1,w1,w0,Int.one_mul,Int.zero_mul,Int.mul_zero,Int.zero_add,Int.add_zero,Int.zero_ediv,Int.mul_one,Int.one_ediv,show (1:Int) / 4294967296=0 by decide]
 go_ret2
 exact ⟨rfl,rfl⟩
theorem mul_one (n:Nat) (hn:n≤40) (w:World):Calls Tryz.prog 83 #[.int .u64 1,.int .u64 (n:Int)] w fun e w'=>e = .returned (.tuple #[.int .u64 0,.int .u64 (n:Int)])∧w'=w:=by
 go_enter Tryz.func83,Tryz.ntmps83;go_wp2_with (go_at_call 147;(with_reducible refine (mul64_one n hn _).mono ?_);rintro e w1 ⟨rfl,hw⟩;rw [hw])
 go_ret2
 exact ⟨rfl,rfl⟩
theorem infoStr3:(Tryz.prog.info? 9).map (fun i=>(i.zero,i.size,i.bytes))=some (some (vs ⟨#[]⟩),1,16):=by kernel_rfl
def kC (s:ByteArray) (m n:Nat):Array Value:=(List.replicate m (vs s)++List.replicate (n - m) (vs ⟨#[]⟩)).toArray
theorem rep_size {s:ByteArray} {m n:Nat} (h:m≤n):(kC s m n).size=n:=by simp [kC];omega
theorem rep_made (s:ByteArray) (n:Nat):madeCells #[vs ⟨#[]⟩] n=kC s 0 n:=by
 apply Array.ext
 ·simp [madeCells,kC]
 ·intro i h1 h2
  simp [madeCells,Nat.mod_one,kC]
theorem make_strs (n:Nat) (hn:n≤1000) (s:ByteArray) (w:World):(Instr.makeSlice 77 (vi (n:Int)) (vi (n:Int))).run Tryz.prog w = .ok (.slice (some ⟨w.heap.size,0,none⟩) n n) (w.alloc (.cells (kC s 0 n) 9)):=by
 obtain ⟨i0,hi,hz0,hz1,hz2⟩:=info_parts infoStr3;have hr:=run_make (P:=Tryz.prog) w 77 9 i0 _ Tryz.underlying77 hi hz0 .i64 .i64 (n:Int) (n:Int) (by omega) (by omega) (by rw [hz2];omega) (by omega);rw [hr];simp [hz1,Value.cells,rep_made s n]
theorem rep_copy (s:ByteArray) {m k n:Nat} (h:m+k≤n):((kC s m n).toList.take m++(List.replicate k (vs s)++(kC s m n).toList.drop (m+(List.replicate k (vs s)).length))).toArray=kC s (m+k) n:=by
 apply Array.ext';simp only [kC,List.length_replicate]
 have e1:(List.replicate m (vs s)++List.replicate (n - m) (vs ⟨#[]⟩)).take m=List.replicate m (vs s):=by
  rw [List.take_append_of_le_length (by simp)];simp
 have e2:(List.replicate m (vs s)++List.replicate (n - m) (vs ⟨#[]⟩)).drop (m+k)=List.replicate (n - (m+k)) (vs ⟨#[]⟩):=by
  rw [List.drop_append];simp;omega
 rw [e1,e2,←List.append_assoc,List.replicate_append_replicate]
structure Filled (w wr:World) (g m n:Nat) (s:ByteArray):Prop where
 heap:wr.heap[g]? = some (.cells (kC s m n) 9 (0,0))
 ext:Ext w wr
 m1:1≤m
 mn:m≤n
theorem Filled.src {w wr:World} {g m n:Nat} {s:ByteArray} (h:Filled w wr g m n s) {k:Nat} (hk:k≤m):∀ j v,(List.replicate k (vs s))[j]? = some v→wr.cell? ((⟨g,0,none⟩:Addr).add j)=some v:=by
 intro j v hj
 have hjk:j<k:=by
  by_cases hjk:j<k
  ·exact hjk
  ·rw [List.getElem?_eq_none (by first|(simp;done)|(simp;omega))] at hj;cases hj
 have e:(⟨g,0,none⟩:Addr).add j=⟨g,j,none⟩:=by unfold Addr.add;split <;> simp_all
 rw [e];refine cC h.heap ?_;rw [List.getElem?_replicate,if_pos hjk] at hj;simp only [kC,List.getElem?_toArray];rw [List.getElem?_append_left (by first|(simp;done)|(simp;omega)),List.getElem?_replicate,if_pos (by omega)];exact hj
theorem oneRep (s:ByteArray) (k:Nat):∀ v∈List.replicate k (vs s),v.oneCell'=true:=by
 intro v hv;rw [(List.mem_replicate.1 hv).2];rfl
theorem Filled.row {w wr:World} {g n:Nat} {s:ByteArray} (h:Filled w wr g n n s) (hn:n≤1000):aD wr g n n (List.replicate n s):=
 ⟨by simp,Nat.le_refl _,by unfold maxLen;omega,_,h.heap,rep_size (Nat.le_refl _),by simp [kC]⟩
theorem repeat_any (s:ByteArray) (n b:Nat) (w:World) (h0:w.heap[b]? = some (.cells #[vs s] 9 (0,0))) (h1:1≤n) (h2:n≤40):
  Calls Tryz.prog 39 #[.slice (some ⟨b,0,none⟩) 1 1,vi (n:Int)] w fun e w'=>∃ g,e = .returned (.slice (some ⟨g,0,none⟩) n n)∧w.heap.size≤g∧aD w' g n n (List.replicate n s)∧Ext w w':=by
 have hb:=dG h0
 have mk:=fun w=>make_strs n (by omega) s w
 have H0:=aA h0;clear h0;go_enter Tryz.func39,Tryz.ntmps39
 go_upto_region 7 with (go_at_call 83;(with_reducible refine (mul_one n h2 _).mono ?_);rintro e w1 ⟨rfl,hw⟩;rw [hw])
 have rz:=rep_size (s:=s) (m:=0) (n:=n) (by omega)
 have hsrc:∀ j v,([vs s]:List Value)[j]? = some v→(w.alloc (.cells (kC s 0 n) 9)).cell? ((⟨b,0,none⟩:Addr).add j)=some v:=by
  intro j v hj
  match j,hj with
  | 0,hj=>
   obtain rfl:vs s=v:=by simpa using hj
   exact eA (w:=w) eX (cC H0.out rfl)
 have HSRC:=aA hsrc;clear hsrc;have hcp:=run_copy_row (P:=Tryz.prog) (w.alloc (.cells (kC s 0 n) 9)) 77 77 3 9 w.heap.size 0 n n ⟨b,0,none⟩ 1 1 (kC s 0 n) 9 [vs s] Tryz.underlying77 infoStr (heap_alloc_new w _) (show 1=min 1 n by omega) HSRC.out (show 0+1≤(kC s 0 n).size by rw [rz];omega) (by simp [Value.oneCell']);generalize hW:World.setRow _ _ _=w2 at hcp;have e1:=rep_copy s (m:=0) (k:=1) (n:=n) (by omega)
 have F0:Filled w w2 w.heap.size 1 n s:=by
  refine ⟨?_,?_,by omega,h1⟩
  ·rw [←hW,setRow_heap _ _ (kC s 0 n) _ 9 _ (heap_alloc_new w _),←e1]
   congr 2
  ·rw [←hW]
   exact Ext.of_below (below_setRow (Ext.below eX) (Nat.le_refl _) _)
 have HF:=aA F0;clear F0 hW HSRC rz e1;go_wp2
 go_loopw [8] (fun i wr=>∃ m:Nat,i = .int .i64 m∧Filled w wr w.heap.size m n s) (fun i _=>n - (intOf i).toNat)
 case atStart=>exact ⟨1,rfl,HF.out⟩
 case round=>
  obtain ⟨m,rfl,hf⟩:=hrel;have hm1:=hf.m1;have hmn:=hf.mn;have HR:=aA hf
  by_cases hlt:m<n
  ·have hne:¬ m=n:=by omega
   clear hf
   go_upto_region 9 with fail
   have hq:Filled w wr.drew w.heap.size m n s:=⟨HR.out.heap,HR.out.ext.drew,hm1,hmn⟩
   have hk:m+min m (n - m)≤n:=by omega
   have e1:=rep_copy s (m:=m) (k:=min m (n - m)) (n:=n) hk;have hcp2:=run_copy_row (P:=Tryz.prog) wr.drew 77 77 3 9 w.heap.size m (n - m) (n - m) ⟨w.heap.size,0,none⟩ m n (kC s m n) 9 (List.replicate (min m (n - m)) (vs s)) Tryz.underlying77 infoStr hq.heap (by rw [List.length_replicate]) (hq.src (by omega)) (by rw [List.length_replicate,rep_size hmn];exact hk) (oneRep _ _);rw [List.append_assoc,e1,List.length_replicate] at hcp2
   have hq2:Filled w (wr.drew.setRow w.heap.size (kC s (m+min m (n - m)) n)) w.heap.size (m+min m (n - m)) n s:=⟨setRow_heap _ _ _ _ 9 _ hq.heap,Ext.of_below (below_setRow hq.ext.below (Nat.le_refl _) _),by omega,hk⟩
   generalize wr.drew.setRow w.heap.size (kC s (m+min m (n - m)) n)=w4 at hcp2 hq2;have hwr:IntKind.i64.wrap ((m:Int)+((min m (n - m):Nat):Int))=(m:Int)+((min m (n - m):Nat):Int):=IntWalk.i64_in _ (by omega);clear hq e1
   go_region_held3 (fun _=>True) (first|exact trivial) (first|fail)
   have HQ2:=aA hq2;clear hq2;go_wp2;go_roundw
   case rel=>exact ⟨m+min m (n - m),by go_num,HQ2.out⟩
   case measure=>simp [intOf];omega
  ·obtain rfl:m=n:=by omega
   clear hf;go_wp2;go_ret;exact ⟨w.heap.size,rfl,Nat.le_refl _,HR.out.row (by omega),HR.out.ext⟩
end Go.Proofs.YtplomeacjbkgnabGreatDoor
namespace Go.Proofs.YtplomeacjbkgnabGreatDoor
open Go.RowKit
variable {T TT:TypeId}
theorem aD.of_owns {w:World} {base g n cap:Nat} {l:List ByteArray} (h:w.ownsRow base 9 1 (.slice (some ⟨g,0,none⟩) n cap) n (l.map vs)):aD w g n cap l∧base≤g:=by
 rcases h.2 with ⟨h',_⟩|⟨g',cap',cur,h',hb,hg,hn,hc,hs,ht⟩
 ·simp at h'
 ·simp only [Value.slice.injEq,Option.some.injEq,Addr.mk.injEq,and_true,true_and] at h'
  obtain ⟨rfl,rfl⟩:=h';refine ⟨⟨by simpa using h.1,hn,hc,cur,hg,by simpa using hs,by simpa using ht⟩,hb⟩
theorem cloneStr_any {g n c:Nat} {l:List ByteArray} {w:World} (h:aD w g n c l) (h1:1≤n) (h2:n≤1000):
  Calls Tryz.prog 41 #[.slice (some ⟨g,0,none⟩) n c] w fun e w'=>∃ g' c',e = .returned (.slice (some ⟨g',0,none⟩) n c')∧aD w' g' n c' l∧w.heap.size≤g'∧Ext w w':=by
 obtain ⟨i0,hi,hz0,hz1,hz2⟩:=info_parts infoStr3
 have hq:∀ w,(Go.binOp .eql 77 (.slice (some ⟨g,0,none⟩) n c) (.slice none 0 0)).run Tryz.prog w = .ok (.bool false) w:=fun w=>Lib.run_eql_slice_nil w _ _ _ _ _ _ _ Tryz.underlying77
 have hl:=h.len
 have hnews:∀ j u,(l.map vs)[j]? = some u→(w.alloc (.cells #[] 9)).cell? ((⟨g,0,none⟩:Addr).add j)=some u:=(h.same (ext_heap (w':=w.alloc (.cells #[] 9)) eX h.lt)).src
 have HN:=aA hnews;have HO:=aA (oneStr l);clear hnews h;go_enter Tryz.func41,Tryz.ntmps41;go_wp2_with (at_builtin;refine wpList_append_own _ rfl _ _ _ rfl w.heap.size 9 i0 _ 1 16 Tryz.underlying77 hi hz0 hz1 hz2 rfl (by decide) _ 0 [] rfl (xG w 9 1 0 #[] rfl (by decide)) ⟨g,0,none⟩ n c (l.map vs) rfl (by simp [hl]) HN.out HO.out (by unfold maxLen;omega) (by omega) (by simp) ?_;intro v' w1 hown hgrow hnil;obtain ⟨o1,n1,rfl⟩:=uB (w:=w) eX hgrow (by intro k hk;cases hk;exact Nat.le_refl _));go_ret
 have hown':(w.plus o1 n1).ownsRow w.heap.size 9 1 v' n (l.map vs):=by simpa using hown
 obtain ⟨g',c',rfl,_,_⟩:=World.ownsRow.form hown' (by omega);obtain ⟨z1,z2⟩:=aD.of_owns hown';exact ⟨g',c',rfl,z1,z2,eX⟩
theorem full_zero:Ch.fullS ⟨#[]⟩=Ch.zeros 64:=by
 unfold Ch.fullS;apply ByteArray.ext;simp [Ch.zeros];rfl
def NewDisk (w:World) (n:Nat) (e:Ending) (w':World):Prop:=
 ∃ (db:Nat) (F:Nat→Prop),e = .returned (.tuple #[.pointer (some ⟨db,0,none⟩),.nilIface])∧oF w' F db n (Ch.Disk.new n)∧(∀ k,F k→w.heap.size≤k)∧Ext w w'
theorem diskNew_any (n:Nat) (w:World) (h1:1≤n) (h2:n≤40):Calls Tryz.prog 9 #[vi (n:Int)] w (NewDisk w n):=by
 go_enter Tryz.func9,Tryz.ntmps9
 go_wp2_with (first
  | (go_at_call 40;(with_reducible refine (dfull_any _ _ (by decide)).mono ?_);rintro e w1 ⟨rfl,o1,n1,rfl⟩)
  | (go_at_call 39;(with_reducible refine (repeat_any (Ch.fullS ⟨#[]⟩) n _ _ (sA _ _ _ (by simp)) h1 h2).mono ?_);rintro e w2 ⟨kb,rfl,hkb,hrow,hx⟩)
  | (go_at_call 41;(with_reducible refine (cloneStr_any hrow h1 (by omega)).mono ?_);rintro e w3 ⟨nb,nc,rfl,hrow3,hnb,hx3⟩))
 go_ret2
 go_light;have hzk:=hrow.lt;have hz3:=hx3.below.size;have hz2:=hx.below.size;simp at hkb hz2;have hrow3':aD w3 kb n n (List.replicate n (Ch.fullS ⟨#[]⟩)):=hrow.same (ext_heap hx3 hzk);have hz':=hrow3.lt;refine ⟨_,fun k=>k=w3.heap.size∨k=kb∨k=nb,rfl,⟨kb,n,nb,nc,.slice none 0 0,?_⟩,?_,?_⟩
 ·refine ⟨?_,?_,?_,World.ownsRow_nil _ _ _ _,Or.inl rfl,Or.inr (Or.inl rfl),Or.inr (Or.inr rfl),(fun k hk=>by cases hk),by omega,by omega,by omega,(fun k hk=>by cases hk),?_,Ch.Disk.WF.new n⟩
  ·exact heap_alloc_new _ _
  ·exact (full_zero▸hrow3').same (ext_heap (w':=w3.alloc _) eX (by omega))
  ·exact (full_zero▸hrow3).same (ext_heap (w':=w3.alloc _) eX hz')
  ·intro k hk
   rw [World.size_alloc]
   rcases hk with rfl|rfl|rfl <;> omega
 ·intro k hk
  rcases hk with rfl|rfl|rfl <;> omega
 ·exact (Ext.trans (Ext.trans eX hx) hx3).alloc _
end Go.Proofs.YtplomeacjbkgnabGreatDoor
namespace Go.Proofs.YtplomeacjbkgnabGreatDoor
open Go.RowKit
def DZ (Z:Nat→Prop) (db n:Nat) (d:Ch.Disk) (w:World):Prop:=∃ F,oF w F db n d∧∀ k,F k→Z k
theorem DZ.ext {Z:Nat→Prop} {db n:Nat} {d:Ch.Disk} {w w':World} (h:DZ Z db n d w) (x:Ext w w'):DZ Z db n d w':=by
 obtain ⟨F,h1,h2⟩:=h;exact ⟨F,h1.ext x,h2⟩
def LN (Z:Nat→Prop) (db lb n:Nat) (lv:Int) (e:Nat) (b:Ch.Book) (d:Ch.Disk) (w:World):Prop:=
 ∃ F v1 v2,oF w F db n d∧(∀ k,F k→Z k)∧¬ F lb∧Z lb∧pC w lb db lv (e:Int) b.last v1 v2 ∧
  w.ownsRow 0 141 8 v1 b.stays.length (b.stays.flatMap gA)∧w.ownsRow 0 143 2 v2 b.jobs.length (b.jobs.flatMap jA) ∧
  ∀ k,v1.ownBlock=some k∨v2.ownBlock=some k→¬ F k∧k≠lb∧Z k
theorem LN.ext {Z:Nat→Prop} {db lb n:Nat} {lv:Int} {e:Nat} {b:Ch.Book} {d:Ch.Disk} {w w':World} (h:LN Z db lb n lv e b d w) (x:Ext w w'):LN Z db lb n lv e b d w':=by
 obtain ⟨F,v1,v2,h1,h2,h3,h4,h5,h6,h7,h8⟩:=h;exact ⟨F,v1,v2,h1.ext x,h2,h3,h4,h5.ext x,mD h6 x,mD h7 x,h8⟩
theorem LN.dz {Z:Nat→Prop} {db lb n:Nat} {lv:Int} {e:Nat} {b:Ch.Book} {d:Ch.Disk} {w:World} (h:LN Z db lb n lv e b d w):DZ Z db n d w:=by
 obtain ⟨F,v1,v2,h1,h2,_⟩:=h;exact ⟨F,h1,h2⟩
theorem disk_ltL {w:World} {F:Nat→Prop} {db n:Nat} {d:Ch.Disk} (h:oF w F db n d):∀ k,F k→k<w.heap.size:=by
 obtain ⟨_,_,_,_,_,h⟩:=h;exact h.lt
theorem LN.move {Z Z':Nat→Prop} {db lb n:Nat} {lv:Int} {e:Nat} {b:Ch.Book} {d:Ch.Disk} {w:World} (h:LN Z db lb n lv e b d w) (hz:∀ k,k<w.heap.size→Z k→Z' k):LN Z' db lb n lv e b d w:=by
 obtain ⟨F,v1,v2,h1,h2,h3,h4,h5,h6,h7,h8⟩:=h;refine ⟨F,v1,v2,h1,fun k hk=>hz k (disk_ltL h1 k hk) (h2 k hk),h3,hz lb h5.lt h4,h5,h6,h7,fun k hk=>⟨(h8 k hk).1,(h8 k hk).2.1,hz k ?_ (h8 k hk).2.2⟩⟩
 rcases hk with hk|hk
 ·exact (iD h6 hk).2
 ·exact (iD h7 hk).2
theorem LN.kept {Z S:Nat→Prop} {db lb n:Nat} {lv:Int} {e:Nat} {b:Ch.Book} {d:Ch.Disk} {w w':World} (h:LN Z db lb n lv e b d w) (k:mA S w w') (hs:∀ i,S i→¬ Z i):LN Z db lb n lv e b d w':=by
 obtain ⟨F,v1,v2,h1,h2,h3,h4,h5,h6,h7,h8⟩:=h
 have g:∀ i,i<w.heap.size→Z i→w'.heap[i]? = w.heap[i]?:=fun i hi hz=>k.block i hi (fun hS=>hs i hS hz)
 exact ⟨F,v1,v2,h1.kept k (fun i hi hS=>hs i hS (h2 i hi)),h2,h3,h4,(g lb h5.lt h4).trans h5,
  mE h6 (fun i hi=>g i (iD h6 hi).2 (h8 i (Or.inl hi)).2.2),mE h7 (fun i hi=>g i (iD h7 hi).2 (h8 i (Or.inr hi)).2.2),h8⟩
structure LP (n:Nat) (lv:Int) (e:Nat) (b:Ch.Book) (d:Ch.Disk):Prop where
 calm:d.Calm n
 fuse:d.fuse=-1
 holds:Ch.Holds d.now lv e b
/-! ### a disk -/
theorem new_dz (n:Nat) (w:World) (h1:1≤n) (h2:n≤40):Calls Tryz.prog 9 #[vi (n:Int)] w fun e w'=>∃ db,e = .returned (.tuple #[.pointer (some ⟨db,0,none⟩),.nilIface])∧DZ (fun k=>w.heap.size≤k) db n (Ch.Disk.new n) w'∧Ext w w':=by
 refine (diskNew_any n w h1 h2).mono ?_;rintro e w' ⟨db,F,rfl,hd,hf,hx⟩;exact ⟨db,rfl,⟨F,hd,hf⟩,hx⟩
/-! ### it is formatted -/
theorem format_now {Z:Nat→Prop} {db n:Nat} {d:Ch.Disk} {w:World} (hZ:∀ k,w.heap.size≤k→Z k) (h:DZ Z db n d w) (hc:d.Calm n) (hf:d.fuse=-1) (hn:22≤n) (lv:Int) (ht:Tab w):
  Calls Tryz.prog 10 #[.pointer (some ⟨db,0,none⟩)] w fun e w'=>e = .returned .nilIface∧mA Z w w'∧∃ d',LP n lv 2 ⟨0,[],[]⟩ d'∧DZ Z db n d' w':=by
 obtain ⟨F,hd,hF⟩:=h;obtain ⟨q1,q2,q3,q4⟩:=Ch.format_law hc hf hn lv;refine (format_any hd hn (by rw [hc.none];simp) ht).mono ?_;rintro e w' ⟨rfl,F',g1,g2,g3⟩;rw [q1];refine ⟨rfl,⟨g3.os,g3.tape,g3.output,g3.size,fun k hk hz=>g3.block k hk (fun hf=>hz (hF k hf))⟩,d.format.1,⟨q2,q3,q4⟩,F',g1,?_⟩;intro k hk
 rcases g2 k hk with h|h
 ·exact hF k h
 ·exact hZ k h
/-! ### it is opened -/
theorem open_now {Z:Nat→Prop} {db n:Nat} {d:Ch.Disk} {w:World} {lv:Int} {e:Nat} {b:Ch.Book} (hZ:∀ k,w.heap.size≤k→Z k) (h:DZ Z db n d w) (hP:LP n lv e b d) (l1:1≤lv) (l4:lv≤4) (hn:22≤n) (L:Libs w):
  Calls Tryz.prog 48 #[.pointer (some ⟨db,0,none⟩),vi lv] w fun x w'=>∃ lb,x = .returned (.tuple #[.pointer (some ⟨lb,0,none⟩),.nilIface])∧LN Z db lb n lv e b d w'∧Ext w w':=by
 obtain ⟨F,hd,hF⟩:=h;have hlt:=disk_ltL hd;obtain ⟨kb,kc,nb,nc,wv,hq⟩:=hd;have:=ledOpen_any hq hP.calm.up hn lv l1 l4 L;rw [hP.holds.opens l4] at this;refine this.mono ?_;rintro x w' ⟨lb,v1,v2,rfl,g1,g2,g3,g4,gx⟩;refine ⟨lb,rfl,⟨F,v1,v2,fG.ext ⟨kb,kc,nb,nc,wv,hq⟩ gx,hF,fun hf=>by have:=hlt lb hf;omega,hZ lb g1,g2,rA g3 (Nat.zero_le _),rA g4 (Nat.zero_le _),?_⟩,gx⟩;intro k hk
 have:lb+1≤k:=by
  rcases hk with hk|hk
  ·exact uA g3 k hk
  ·exact uA g4 k hk
 exact ⟨fun hf=>by have:=hlt k hf;omega,by omega,hZ k (by omega)⟩
/-! ### its book -/
theorem book_now {Z:Nat→Prop} {db lb n:Nat} {lv:Int} {e:Nat} {b:Ch.Book} {d:Ch.Disk} {w:World} (h:LN Z db lb n lv e b d w) (m1:b.stays.length≤1000) (m2:b.jobs.length≤1000):
  Calls Tryz.prog 51 #[.pointer (some ⟨lb,0,none⟩)] w fun x w'=>∃ y1 d1 y2 d2,x = .returned (rB b.last y1 b.stays.length d1 y2 b.jobs.length d2)∧Sl w' 8 gA b.stays y1 b.stays.length d1∧Sl w' 2 jA b.jobs y2 b.jobs.length d2∧Ext w w':=by
 obtain ⟨F,v1,v2,h1,h2,h3,h4,h5,h6,h7,h8⟩:=h;obtain ⟨z1,c1,rfl,s1⟩:=Sl.of_owns (c:=8) (enc:=gA) h6 (by decide) (fun _=>rfl);obtain ⟨z2,c2,rfl,s2⟩:=Sl.of_owns (c:=2) (enc:=jA) h7 (by decide) (fun _=>rfl);refine (book_led b.stays b.jobs h5 s1 s2 m1 m2).mono ?_;rintro x w' ⟨v1,v2,rfl,ob,hx⟩;obtain ⟨y1,d1,rfl,s1⟩:=Sl.of_owns (c:=8) (enc:=gA) ob.stays (by decide) (fun _=>rfl);obtain ⟨y2,d2,rfl,s2⟩:=Sl.of_owns (c:=2) (enc:=jA) ob.jobs (by decide) (fun _=>rfl);exact ⟨y1,d1,y2,d2,rfl,s1,s2,hx⟩
/-! ### a book is kept -/
theorem keep_led {Z:Nat→Prop} {db lb n:Nat} {lv:Int} {e:Nat} {b:Ch.Book} {d:Ch.Disk} {w:World} (hZ:∀ k,w.heap.size≤k→Z k) (hN:LN Z db lb n lv e b d w) (hw:d.wait.length≤1000) (l4:lv≤4) (he:e+1<4294967296) (hT:Tab w)
  (last:Int) (a1:Option Addr) (m1 c1:Nat) (a2:Option Addr) (m2 c2:Nat) (l:List Ch.Stay) (js:List Ch.Job)
  (h:Sl w 8 gA l a1 m1 c1) (h2:Sl w 2 jA js a2 m2 c2) (ha:∀ b o,(0<m1∧a1=some ⟨b,o,none⟩)∨(0<m2∧a2=some ⟨b,o,none⟩)→¬ Z b)
  (hf:Ch.bookFault ⟨last,l,js⟩ lv=0):
  Calls Tryz.prog 52 #[.pointer (some ⟨lb,0,none⟩),rB last a1 m1 c1 a2 m2 c2] w fun x w'=>x = .returned (kB (d.keep (e+1) ⟨last,l,js⟩).2)∧mA Z w w' ∧
   (((d.keep (e+1) ⟨last,l,js⟩).2=0∧LN Z db lb n lv (e+1) ⟨last,l,js⟩ (d.keep (e+1) ⟨last,l,js⟩).1 w')∨(¬ (d.keep (e+1) ⟨last,l,js⟩).2=0∧LN Z db lb n lv e b (d.keep (e+1) ⟨last,l,js⟩).1 w')):=by
 obtain ⟨F,v1,v2,g1,g2,g3,g4,g5,g6,g7,g8⟩:=hN;refine (keep_walk g5 g1 g3 l4 he hw hT last a1 m1 c1 a2 m2 c2 l js h h2 (fun b o hh hF=>ha b o hh (g2 b hF)) hf).mono ?_;rintro x w' ⟨rfl,hk⟩
 rcases hk with ⟨h0,hk⟩|⟨h0,F',u1,u2,k1,k2,k3,k4,k5,k6,k7⟩
 ·refine ⟨rfl,⟨hk.kept.os,hk.kept.tape,hk.kept.output,hk.kept.size,fun k hk' hz=>hk.kept.block k hk' (fun hF=>hz (g2 k hF))⟩,Or.inr ⟨h0,?_⟩⟩
  obtain ⟨F',h1,h2',h3⟩:=hk.disk;have hlt:=g5.lt
  have lt6:∀ k,v1.ownBlock=some k∨v2.ownBlock=some k→k<w.heap.size:=fun k hk=>by
   rcases hk with hk|hk
   ·exact (iD g6 hk).2
   ·exact (iD g7 hk).2
  have nF:∀ k,v1.ownBlock=some k∨v2.ownBlock=some k→¬ F' k:=fun k hk hF=>by
   rcases h2' k hF with hF|hB
   ·exact (g8 k hk).1 hF
   ·have:=lt6 k hk;omega
  refine ⟨F',v1,v2,h1,fun k hF=>(h2' k hF).elim (g2 k) (hZ k),?_,g4,hk.blk,mE g6 (fun i hi=>hk.kept.block i (lt6 i (Or.inl hi)) (g8 i (Or.inl hi)).1),mE g7 (fun i hi=>hk.kept.block i (lt6 i (Or.inr hi)) (g8 i (Or.inr hi)).1),fun k hk'=>⟨nF k hk',(g8 k hk').2⟩⟩;intro hF
  rcases h2' lb hF with hF|hB
  ·exact g3 hF
  ·omega
 ·have hs:=k3.size
  have hlt:=g5.lt;refine ⟨rfl,⟨k3.os,k3.tape,k3.output,k3.size,fun k hk hz=>k3.block k hk (fun hS=>hz (by rcases hS with hS|rfl;exact g2 k hS;exact g4))⟩,Or.inl ⟨h0,F',u1,u2,k1,?_,?_,g4,k4,rA k5 (Nat.zero_le _),rA k6 (Nat.zero_le _),?_⟩⟩
  ·intro k hk
   rcases k2 k hk with hk|hk
   ·exact g2 k hk
   ·exact hZ k hk
  ·intro hF
   rcases k2 lb hF with hk|hk
   ·exact g3 hk
   ·omega
  ·intro k hk
   have:w.heap.size≤k:=by
    rcases hk with hk|hk
    ·exact uA k5 k hk
    ·exact uA k6 k hk
   exact ⟨k7 k hk,by omega,hZ k this⟩
