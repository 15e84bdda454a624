import Derived.Test.YtplomeacjbkgnabGreatDoorZ38
set_option linter.all false
set_option maxRecDepth 100000
set_option maxHeartbeats 16000000
namespace Go.Proofs.YtplomeacjbkgnabGreatDoor
open Go.RowKit Tryz Ch
variable {T TT:TypeId}
theorem kC.keeps {w:World} {F:Nat->Prop} {db kb kc nb nc n:Nat} {wv:Value} {d:aB} (h:kC T TT w F db kb kc nb nc n wv d) (j:Nat) (s:ByteArray) (hs:s.size=64):
  kC T TT (w.setCell ⟨kb,j,none⟩ (vs s)) F db kb kc nb nc n wv { d with kept:=d.kept.set j s } where
 blk:=(kB h.n1).trans h.blk
 kept:=h.kept.set j s
 now:=h.now.same (kB (fun e=>h.n3 e.symm))
 wait:=jF h.wait (fun k hk=>kB (h.n4 k hk).2.1)
 f1:=h.f1
 f2:=h.f2
 f3:=h.f3
 f4:=h.f4
 n1:=h.n1
 n2:=h.n2
 n3:=h.n3
 n4:=h.n4
 lt:=fun k hk=>by rw [cF];exact h.lt k hk
 wf:=⟨by simp [h.wf.kept],h.wf.now,(fun x hx=>by rcases List.mem_or_eq_of_mem_set hx with hx|rfl;exact h.wf.keptS x hx;exact hs),h.wf.nowS,h.wf.wait,h.wf.fuse,h.wf.fuse2⟩
def tJ (d:aB) (keep k:Nat):aB:={ d with kept:=nH keep 0 (d.wait.take k) d.kept }
structure Resumed (w wr:World) (F:Nat->Prop) (db kb kc nb nc n:Nat) (wv:Value) (d:aB) (keep k:Nat):Prop where
 at_:lL wr F db kb kc nb nc n wv (tJ d keep k)
 kept:fA F w wr
theorem bit_is (keep k:Nat) (h:keep<18446744073709551616):(bits .and .u64 ((keep:Int) / 2 ^ (k % 64)) 1==1)=rL keep k:=by
 have e:((keep:Int) / 2 ^ (k % 64))=((keep / 2 ^ (k % 64):Nat):Int):=by push_cast;rfl
 have hlt:keep / 2 ^ (k % 64)<18446744073709551616:=Nat.lt_of_le_of_lt (Nat.div_le_self _ _) h;have h1:=bits_and_u64_nat (keep / 2 ^ (k % 64)) 1 hlt dc;rw [e]
 have h2:bits .and .u64 ((keep / 2 ^ (k % 64):Nat):Int) 1=(((keep / 2 ^ (k % 64)) % 2:Nat):Int):=by
  rw [<-Nat.and_one_is_mod];exact h1
 rw [h2];unfold rL
 have:(keep / 2 ^ (k % 64)) % 2=0\/(keep / 2 ^ (k % 64)) % 2=1:=om
 rcases this with e|e <;> rw [e] <;> rfl
theorem keptAt_no {d:aB} {keep k:Nat} {t:Nat×ByteArray} (h:d.wait[k]? = some t) (hb:rL keep k=false):tJ d keep (k+1)=tJ d keep k:=by
 unfold tJ;rw [keptOf_take keep h,hb];rfl
theorem keptAt_yes {d:aB} {keep k:Nat} {t:Nat×ByteArray} (h:d.wait[k]? = some t) (hb:rL keep k=true):tJ d keep (k+1)={ tJ d keep k with kept:=(tJ d keep k).kept.set t.1 t.2 }:=by
 unfold tJ;rw [keptOf_take keep h,hb];rfl
theorem restart_any {F:Nat->Prop} {db n:Nat} {d:aB} {w:World} (h:gH w F db n d) (keep:Nat) (hk:keep<18446744073709551616) (hl:d.wait.length<=1000000):
  Calls prog 184 #[.pointer (some ⟨db,0,none⟩),.int .u64 (keep:Int)] w (DDid F db n w (d.restart keep) (.tuple #[])):=by
 obtain ⟨kb,kc,nb,nc,wv,h⟩:=h;obtain ⟨a,cap,rfl,hs⟩:=Sl.of_owns h.wait dc (fun _=>rfl);have hbd:=hs.bound;obtain ⟨c0,c1,c2,c3,c4⟩:=h.cells;have hb:=cA c1
 have R0:Resumed w w F db kb kc nb nc n _ d keep 0:=⟨h,fA.refl _ _⟩
 have HR0:=aA R0;generalize hm:d.wait.length=m at *;clear h hs R0;go_enter func184,ntmps184;go_wp2
 go_loopw [11] (fun i wr=>∃ k:Nat,k<=m/\i = .int .i64 k/\Resumed w wr F db kb kc nb nc n (.slice a m cap) d keep k) (fun i _=>m - (intOf i).toNat)
 case atStart=>exact ⟨0,om,rfl,HR0.out⟩
 case round=>
  obtain ⟨k,hkm,rfl,hr⟩:=hrel
  by_cases hlt:k<m
  ·obtain ⟨a',cap',e1,hs⟩:=Sl.of_owns (l:=d.wait) (enc:=uL) hr.at_.wait dc (fun _=>rfl)
   obtain ⟨rfl,rfl⟩:a=a'/\cap=cap':=by
    simp only [Value.slice.injEq] at e1;exact ⟨e1.1,e1.2.2⟩
   have hs:Sl wr 2 uL d.wait a m cap:=by rw [<-hm];exact hs
   obtain ⟨b,o,t,rfl,ht,dx⟩:=hs.get hlt;have dx:=at2 dx;have hbl:=cA dx.1;have HR:=aA hr;have HT:=aA ht;have hw:=hr.at_.wf.wait t (List.mem_of_getElem? ht);clear hr hs e1 ht c0 c1 c2 c3 c4 hb;have hbit:=bit_is keep k hk
   obtain ⟨x,hx⟩:∃ x,(tJ d keep k).kept[t.1]? = some x:=⟨(tJ d keep k).kept[t.1]'(by have:=HR.out.at_.wf.kept;omega),sp⟩
   have hc:=HR.out.at_.kept.cell hx;have fz:=HR.out.at_.kept.free t.1;have hbn:=cA hc;obtain ⟨c0,c1,c2,c3,c4⟩:=HR.out.at_.cells;have hbd2:=cA c1;clear hx;cases hkb:rL keep k
   ·have HB:=aA hkb
    rw [hkb] at hbit;clear hkb;go_wp2;go_roundw
    case rel=>exact ⟨k+1,om,by go_num,⟨by rw [keptAt_no HT.out HB.out];exact HR.out.at_.ext eX,HR.out.kept.ext eX⟩⟩
    case measure=>simp [intOf];omega
   ·have HB:=aA hkb
    rw [hkb] at hbit;clear hkb;go_wp2
    (refine iD 9 kR kR ?_;(simp only [List.take_succ_cons,List.take_zero,List.drop_succ_cons,List.drop_zero]);(repeat (first|go_big_quiet_step (fail)|quiet_step (fail)));refine wpQuiet_nil ?_;rintro _ ⟨oq,nq,rfl⟩)
    go_wp2;go_roundw
    case rel=>exact ⟨k+1,om,by go_num,⟨by rw [keptAt_yes HT.out HB.out];exact (HR.out.at_.ext eX).keeps _ _ hw.2,(HR.out.kept.ext eX).setCell (Or.inl HR.out.at_.f2) _⟩⟩
    case measure=>simp [intOf];omega
  ·obtain rfl:k=m:=om
   obtain ⟨c0,c1,c2,c3,c4⟩:=hr.at_.cells;have hbd2:=cA c1
   have HE:Hid (d.restart keep={ tJ d keep k with now:=(tJ d keep k).kept,wait:=[],fuse:=-1,down:=false }):=by
    unfold Hid tJ aB.restart;rw [List.take_of_length_le om]
   have HA:=aA hr.at_;have HKP:=aA hr.kept;clear hr;generalize tJ d keep k=q at HA HE c3 c4
   go_upto_region 6 with fail
   (refine iD 8 kR kR ?_;(simp only [List.take_succ_cons,List.take_zero,List.drop_succ_cons,List.drop_zero]);(repeat (first|go_big_quiet_step (fail)|quiet_step (fail)));refine wpQuiet_nil ?_;rintro _ ⟨oq,nq,rfl⟩)
   have hq:=HA.out.ext (w':=World.plus wr oq nq) eX;obtain ⟨cur,hc1,hc2,hc3⟩:=hq.now.heap;have hn:=hq.wf.kept;have hnc:=hq.now.nc;refine wpList_copy_own rfl _ _ _ _ rfl 9 underlying77 infoStr nb 0 n nc ⟨kb,0,none⟩ n kc rfl rfl cur 9 hc1 (q.kept.map vs) (by simp [hn]) hq.kept.src (by first|(simp [hn];done)|(simp [hn];omega)) (oneStr _) ?_;have hq2:=hq.copy_now hc1 hc2;have hk2:fA F w ((World.plus wr oq nq).setRow nb (cur.toList.take 0++(q.kept.map vs++cur.toList.drop (0+(q.kept.map vs).length))).toArray):=(HKP.out.ext eX).setRow hq.f3 _
   generalize (World.plus wr oq nq).setRow nb (cur.toList.take 0++(q.kept.map vs++cur.toList.drop (0+(q.kept.map vs).length))).toArray=w4 at hq2 hk2 ⊢
   have f1:=hq.f1;clear hc1 hc2 hc3 c0 c1 c2 c3 c4 hq;obtain ⟨b0,b1,b2,b3,b4⟩:=hq2.cells;have fz:=wJ hq2.blk;have hbd:=cA b1;have HQ2:=aA hq2;clear hq2;go_wp2
   go_end0
   rw [HE.out];have z1:=HQ2.out.calmed;have z2:=z1.put (e:={ q with now:=q.kept,wait:=[],down:=false }) 4 (.bool false) sp rfl rfl rfl ⟨z1.wf.kept,z1.wf.now,z1.wf.keptS,z1.wf.nowS,z1.wf.wait,z1.wf.fuse,z1.wf.fuse2⟩;have z3:=z2.put (e:={ q with now:=q.kept,wait:=[],fuse:=-1,down:=false }) 3 (vi (-1)) sp rfl rfl rfl ⟨z1.wf.kept,z1.wf.now,z1.wf.keptS,z1.wf.nowS,z1.wf.wait,sp,sp⟩;exact kC.did z3 (((hk2.setCell (Or.inl f1) _).setCell (Or.inl f1) _).setCell (Or.inl f1) _)
end Go.Proofs.YtplomeacjbkgnabGreatDoor
namespace Go.Proofs.YtplomeacjbkgnabGreatDoor
open Go.RowKit Tryz Ch
variable {T TT:TypeId}
theorem mask_nat (a:Nat) (ha:a<=40):bits .and .u64 (a:Int) 4294967295=(a:Int):=by
 have h:=bits_and_u64_nat a 4294967295 om dc;have e:a &&& 4294967295=a % 4294967296:=Nat.and_two_pow_sub_one_eq_mod a 32;rw [e,Nat.mod_eq_of_lt om] at h;exact h
theorem mul64_one (n:Nat) (hn:n<=40) (w:World):Calls prog 147 #[.int .u64 1,.int .u64 (n:Int)] w fun e w'=>e = .returned (.tuple #[.int .u64 0,.int .u64 (n:Int)])/\w'=w:=by
 have m1:bits .and .u64 1 4294967295=1:=mask_nat 1 om;have m2:=mask_nat n hn;have m3:bits .and .u64 0 4294967295=0:=mask_nat 0 om
 have d1:(n:Int) / 4294967296=0:=om
 have w1:IntKind.u64.wrap (n:Int)=(n:Int):=by rw [IntKind.wrap_u64];omega
 have w0:IntKind.u64.wrap 0=0:=by rw [IntKind.wrap_u64];rfl
 go_enter func147,ntmps147;go_wp2
 try simp only [m1,m2,m3,d1,w1,w0,Int.one_mul,Int.zero_mul,Int.mul_zero,Int.zero_add,Int.add_zero,Int.zero_ediv,Int.mul_one,Int.one_ediv,show (1:Int) / 4294967296=0 by decide]
 go_ret2
 exact ⟨rfl,rfl⟩
theorem mul_one (n:Nat) (hn:n<=40) (w:World):Calls prog 83 #[.int .u64 1,.int .u64 (n:Int)] w fun e w'=>e = .returned (.tuple #[.int .u64 0,.int .u64 (n:Int)])/\w'=w:=by
 go_enter func83,ntmps83;go_wp2_with (go_at_call 147;(with_reducible refine (mul64_one n hn _).mono ?_);rintro e w1 ⟨rfl,hw⟩;rw [hw])
 go_ret2
 exact ⟨rfl,rfl⟩
theorem infoStr3:(prog.info? 9).map (fun i=>(i.zero,i.size,i.bytes))=some (some (vs ⟨#[]⟩),1,16):=by kernel_rfl
def yD (s:ByteArray) (m n:Nat):Array Value:=(List.replicate m (vs s)++List.replicate (n - m) (vs ⟨#[]⟩)).toArray
theorem rep_size {s:ByteArray} {m n:Nat} (h:m<=n):(yD s m n).size=n:=by simp [yD];omega
theorem rep_made (s:ByteArray) (n:Nat):madeCells #[vs ⟨#[]⟩] n=yD s 0 n:=by
 apply Array.ext
 ·simp [madeCells,yD]
 ·intro i h1 h2
  simp [madeCells,Nat.mod_one,yD]
theorem make_strs (n:Nat) (hn:n<=1000) (s:ByteArray) (w:World):(Instr.makeSlice 77 (vi (n:Int)) (vi (n:Int))).run prog w = .ok (.slice (some ⟨w.heap.size,0,none⟩) n n) (w.alloc (.cells (yD s 0 n) 9)):=by
 obtain ⟨i0,hi,hz0,hz1,hz2⟩:=info_parts infoStr3;have hr:=run_make (P:=prog) w 77 9 i0 _ underlying77 hi hz0 .i64 .i64 (n:Int) (n:Int) om om (by rw [hz2];omega) om;rw [hr];simp [hz1,Value.cells,rep_made s n]
theorem rep_copy (s:ByteArray) {m k n:Nat} (h:m+k<=n):((yD s m n).toList.take m++(List.replicate k (vs s)++(yD s m n).toList.drop (m+(List.replicate k (vs s)).length))).toArray=yD s (m+k) n:=by
 apply Array.ext';simp only [yD,List.length_replicate]
 have e1:(List.replicate m (vs s)++List.replicate (n - m) (vs ⟨#[]⟩)).take m=List.replicate m (vs s):=by
  rw [List.take_append_of_le_length sp];simp
 have e2:(List.replicate m (vs s)++List.replicate (n - m) (vs ⟨#[]⟩)).drop (m+k)=List.replicate (n - (m+k)) (vs ⟨#[]⟩):=by
  rw [List.drop_append];simp;omega
 rw [e1,e2,<-List.append_assoc,List.replicate_append_replicate]
structure Filled (w wr:World) (g m n:Nat) (s:ByteArray):Prop where
 heap:wr.heap[g]? = some (.cells (yD s m n) 9 (0,0))
 ext:Ext w wr
 m1:1<=m
 mn:m<=n
theorem Filled.src {w wr:World} {g m n:Nat} {s:ByteArray} (h:Filled w wr g m n s) {k:Nat} (hk:k<=m):∀ j v,(List.replicate k (vs s))[j]? = some v->wr.cell? ((⟨g,0,none⟩:Addr).add j)=some v:=by
 intro j v hj
 have hjk:j<k:=by
  by_cases hjk:j<k
  ·exact hjk
  ·rw [List.getElem?_eq_none so] at hj;cases hj
 have e:(⟨g,0,none⟩:Addr).add j=⟨g,j,none⟩:=by unfold Addr.add;split <;> simp_all
 rw [e];refine kD h.heap ?_;rw [List.getElem?_replicate,if_pos hjk] at hj;simp only [yD,List.getElem?_toArray];rw [List.getElem?_append_left so,List.getElem?_replicate,if_pos om];exact hj
theorem oneRep (s:ByteArray) (k:Nat):∀ v∈List.replicate k (vs s),v.oneCell'=true:=by
 intro v hv;rw [(List.mem_replicate.1 hv).2];rfl
theorem Filled.row {w wr:World} {g n:Nat} {s:ByteArray} (h:Filled w wr g n n s) (hn:n<=1000):sE wr g n n (List.replicate n s):=
 ⟨sp,Nat.le_refl _,by unfold maxLen;omega,_,h.heap,rep_size (Nat.le_refl _),by simp [yD]⟩
theorem repeat_any (s:ByteArray) (n b:Nat) (w:World) (h0:w.heap[b]? = some (.cells #[vs s] 9 (0,0))) (h1:1<=n) (h2:n<=40):
  Calls prog 39 #[.slice (some ⟨b,0,none⟩) 1 1,vi (n:Int)] w fun e w'=>∃ g,e = .returned (.slice (some ⟨g,0,none⟩) n n)/\w.heap.size<=g/\sE w' g n n (List.replicate n s)/\Ext w w':=by
 have hb:=tI h0
 have mk:=fun w=>make_strs n om s w
 have H0:=aA h0;clear h0;go_enter func39,ntmps39
 go_upto_region 7 with (go_at_call 83;(with_reducible refine (mul_one n h2 _).mono ?_);rintro e w1 ⟨rfl,hw⟩;rw [hw])
 have rz:=rep_size (s:=s) (m:=0) (n:=n) om
 have hsrc:∀ j v,([vs s]:List Value)[j]? = some v->(w.alloc (.cells (yD s 0 n) 9)).cell? ((⟨b,0,none⟩:Addr).add j)=some v:=by
  intro j v hj
  match j,hj with
  | 0,hj=>
   obtain rfl:vs s=v:=by simpa using hj
   exact gA (w:=w) eX (kD H0.out rfl)
 have HSRC:=aA hsrc;clear hsrc;have hcp:=run_copy_row (P:=prog) (w.alloc (.cells (yD s 0 n) 9)) 77 77 3 9 w.heap.size 0 n n ⟨b,0,none⟩ 1 1 (yD s 0 n) 9 [vs s] underlying77 infoStr (heap_alloc_new w _) (show 1=min 1 n by omega) HSRC.out (show 0+1<=(yD s 0 n).size by rw [rz];omega) (by simp [Value.oneCell']);generalize hW:World.setRow _ _ _=w2 at hcp;have e1:=rep_copy s (m:=0) (k:=1) (n:=n) om
 have F0:Filled w w2 w.heap.size 1 n s:=by
  refine ⟨?_,?_,om,h1⟩
  ·rw [<-hW,setRow_heap _ _ (yD s 0 n) _ 9 _ (heap_alloc_new w _),<-e1]
   congr 2
  ·rw [<-hW]
   exact Ext.of_below (below_setRow (Ext.below eX) (Nat.le_refl _) _)
 have HF:=aA F0;clear F0 hW HSRC rz e1;go_wp2
 go_loopw [8] (fun i wr=>∃ m:Nat,i = .int .i64 m/\Filled w wr w.heap.size m n s) (fun i _=>n - (intOf i).toNat)
 case atStart=>exact ⟨1,rfl,HF.out⟩
 case round=>
  obtain ⟨m,rfl,hf⟩:=hrel;have hm1:=hf.m1;have hmn:=hf.mn;have HR:=aA hf
  by_cases hlt:m<n
  ·have hne:¬ m=n:=om
   clear hf
   go_upto_region 9 with fail
   have hq:Filled w wr.drew w.heap.size m n s:=⟨HR.out.heap,HR.out.ext.drew,hm1,hmn⟩
   have hk:m+min m (n - m)<=n:=om
   have e1:=rep_copy s (m:=m) (k:=min m (n - m)) (n:=n) hk;have hcp2:=run_copy_row (P:=prog) wr.drew 77 77 3 9 w.heap.size m (n - m) (n - m) ⟨w.heap.size,0,none⟩ m n (yD s m n) 9 (List.replicate (min m (n - m)) (vs s)) underlying77 infoStr hq.heap (by rw [List.length_replicate]) (hq.src om) (by rw [List.length_replicate,rep_size hmn];exact hk) (oneRep _ _);rw [List.append_assoc,e1,List.length_replicate] at hcp2
   have hq2:Filled w (wr.drew.setRow w.heap.size (yD s (m+min m (n - m)) n)) w.heap.size (m+min m (n - m)) n s:=⟨setRow_heap _ _ _ _ 9 _ hq.heap,Ext.of_below (below_setRow hq.ext.below (Nat.le_refl _) _),om,hk⟩
   generalize wr.drew.setRow w.heap.size (yD s (m+min m (n - m)) n)=w4 at hcp2 hq2;have hwr:IntKind.i64.wrap ((m:Int)+((min m (n - m):Nat):Int))=(m:Int)+((min m (n - m):Nat):Int):=IntWalk.i64_in _ om;clear hq e1
   go_region_held3 (fun _=>True) (first|exact trivial) (first|fail)
   have HQ2:=aA hq2;clear hq2;go_wp2;go_roundw
   case rel=>exact ⟨m+min m (n - m),by go_num,HQ2.out⟩
   case measure=>simp [intOf];omega
  ·obtain rfl:m=n:=om
   clear hf;go_wp2;go_ret;exact ⟨w.heap.size,rfl,Nat.le_refl _,HR.out.row om,HR.out.ext⟩
end Go.Proofs.YtplomeacjbkgnabGreatDoor
namespace Go.Proofs.YtplomeacjbkgnabGreatDoor
open Go.RowKit Tryz Ch
variable {T TT:TypeId}
theorem sE.of_owns {w:World} {base g n cap:Nat} {l:List ByteArray} (h:w.ownsRow base 9 1 (.slice (some ⟨g,0,none⟩) n cap) n (l.map vs)):sE w g n cap l/\base<=g:=by
 rcases h.2 with ⟨h',_⟩|⟨g',cap',cur,h',hb,hg,hn,hc,hs,ht⟩
 ·simp at h'
 ·simp only [Value.slice.injEq,Option.some.injEq,Addr.mk.injEq,and_true,true_and] at h'
  obtain ⟨rfl,rfl⟩:=h';refine ⟨⟨by simpa using h.1,hn,hc,cur,hg,by simpa using hs,by simpa using ht⟩,hb⟩
theorem cloneStr_any {g n c:Nat} {l:List ByteArray} {w:World} (h:sE w g n c l) (h1:1<=n) (h2:n<=1000):
  Calls prog 41 #[.slice (some ⟨g,0,none⟩) n c] w fun e w'=>∃ g' c',e = .returned (.slice (some ⟨g',0,none⟩) n c')/\sE w' g' n c' l/\w.heap.size<=g'/\Ext w w':=by
 obtain ⟨i0,hi,hz0,hz1,hz2⟩:=info_parts infoStr3
 have hq:∀ w,(Go.binOp .eql 77 (.slice (some ⟨g,0,none⟩) n c) (.slice none 0 0)).run prog w = .ok (.bool false) w:=fun w=>Lib.run_eql_slice_nil w _ _ _ _ _ _ _ underlying77
 have hl:=h.len
 have hnews:∀ j u,(l.map vs)[j]? = some u->(w.alloc (.cells #[] 9)).cell? ((⟨g,0,none⟩:Addr).add j)=some u:=(h.same (ext_heap (w':=w.alloc (.cells #[] 9)) eX h.lt)).src
 have HN:=aA hnews;have HO:=aA (oneStr l);clear hnews h;go_enter func41,ntmps41;go_wp2_with (at_builtin;refine wpList_append_own _ rfl _ _ _ rfl w.heap.size 9 i0 _ 1 16 underlying77 hi hz0 hz1 hz2 rfl dc _ 0 [] rfl (iM w 9 1 0 #[] rfl dc) ⟨g,0,none⟩ n c (l.map vs) rfl (by simp [hl]) HN.out HO.out (by unfold maxLen;omega) om sp ?_;intro v' w1 hown hgrow hnil;obtain ⟨o1,n1,rfl⟩:=vB (w:=w) eX hgrow (by intro k hk;cases hk;exact Nat.le_refl _));go_ret
 have hown':(w.plus o1 n1).ownsRow w.heap.size 9 1 v' n (l.map vs):=by simpa using hown
 obtain ⟨g',c',rfl,_,_⟩:=World.ownsRow.form hown' om;obtain ⟨z1,z2⟩:=sE.of_owns hown';exact ⟨g',c',rfl,z1,z2,eX⟩
theorem full_zero:vC ⟨#[]⟩=yL 64:=by
 unfold vC;apply ByteArray.ext;simp [yL];rfl
def NewDisk (w:World) (n:Nat) (e:Ending) (w':World):Prop:=
 ∃ (db:Nat) (F:Nat->Prop),e = .returned (.tuple #[.pointer (some ⟨db,0,none⟩),.nilIface])/\gH w' F db n (aB.new n)/\(∀ k,F k->w.heap.size<=k)/\Ext w w'
theorem diskNew_any (n:Nat) (w:World) (h1:1<=n) (h2:n<=40):Calls prog 9 #[vi (n:Int)] w (NewDisk w n):=by
 go_enter func9,ntmps9
 go_wp2_with (first
  | (go_at_call 40;with_reducible refine mo (dfull_any _ _ dc) fun o1 n1=>?_)
  | (go_at_call 39;(with_reducible refine (repeat_any (vC ⟨#[]⟩) n _ _ (pA _ _ _ sp) h1 h2).mono ?_);rintro e w2 ⟨kb,rfl,hkb,hrow,hx⟩)
  | (go_at_call 41;(with_reducible refine (cloneStr_any hrow h1 om).mono ?_);rintro e w3 ⟨nb,nc,rfl,hrow3,hnb,hx3⟩))
 go_ret2
 go_light;have hzk:=hrow.lt;have hz3:=hx3.below.size;have hz2:=hx.below.size;simp at hkb hz2;have hrow3':sE w3 kb n n (List.replicate n (vC ⟨#[]⟩)):=hrow.same (ext_heap hx3 hzk);have hz':=hrow3.lt;refine ⟨_,fun k=>k=w3.heap.size\/k=kb\/k=nb,rfl,⟨kb,n,nb,nc,.slice none 0 0,?_⟩,?_,?_⟩
 ·refine ⟨?_,?_,?_,World.ownsRow_nil _ _ _ _,Or.inl rfl,Or.inr (Or.inl rfl),Or.inr (Or.inr rfl),(fun k hk=>by cases hk),om,om,om,(fun k hk=>by cases hk),?_,aB.WF.new n⟩
  ·exact heap_alloc_new _ _
  ·exact (full_zero▸hrow3').same (ext_heap (w':=w3.alloc _) eX om)
  ·exact (full_zero▸hrow3).same (ext_heap (w':=w3.alloc _) eX hz')
  ·intro k hk
   rw [World.size_alloc]
   rcases hk with rfl|rfl|rfl <;> omega
 ·intro k hk
  rcases hk with rfl|rfl|rfl <;> omega
 ·exact (Ext.trans (Ext.trans eX hx) hx3).alloc _
end Go.Proofs.YtplomeacjbkgnabGreatDoor
namespace Go.Proofs.YtplomeacjbkgnabGreatDoor
open Go.RowKit Tryz Ch
def DZ (Z:Nat->Prop) (db n:Nat) (d:aB) (w:World):Prop:=∃ F,gH w F db n d/\∀ k,F k->Z k
theorem DZ.ext {Z:Nat->Prop} {db n:Nat} {d:aB} {w w':World} (h:DZ Z db n d w) (x:Ext w w'):DZ Z db n d w':=by
 obtain ⟨F,h1,h2⟩:=h;exact ⟨F,h1.ext x,h2⟩
def LN (Z:Nat->Prop) (db lb n:Nat) (lv:Int) (e:Nat) (b:gB) (d:aB) (w:World):Prop:=
 ∃ F v1 v2,gH w F db n d/\(∀ k,F k->Z k)/\¬ F lb/\Z lb/\kE w lb db lv (e:Int) b.last v1 v2 /\
  w.ownsRow 0 141 8 v1 b.stays.length (b.stays.flatMap iA)/\w.ownsRow 0 143 2 v2 b.jobs.length (b.jobs.flatMap jA) /\
  ∀ k,v1.ownBlock=some k\/v2.ownBlock=some k->¬ F k/\k≠lb/\Z k
theorem LN.ext {Z:Nat->Prop} {db lb n:Nat} {lv:Int} {e:Nat} {b:gB} {d:aB} {w w':World} (h:LN Z db lb n lv e b d w) (x:Ext w w'):LN Z db lb n lv e b d w':=by
 obtain ⟨F,v1,v2,h1,h2,h3,h4,h5,h6,h7,h8⟩:=h;exact ⟨F,v1,v2,h1.ext x,h2,h3,h4,h5.ext x,zC h6 x,zC h7 x,h8⟩
theorem LN.dz {Z:Nat->Prop} {db lb n:Nat} {lv:Int} {e:Nat} {b:gB} {d:aB} {w:World} (h:LN Z db lb n lv e b d w):DZ Z db n d w:=by
 obtain ⟨F,v1,v2,h1,h2,_⟩:=h;exact ⟨F,h1,h2⟩
theorem disk_ltL {w:World} {F:Nat->Prop} {db n:Nat} {d:aB} (h:gH w F db n d):∀ k,F k->k<w.heap.size:=by
 obtain ⟨_,_,_,_,_,h⟩:=h;exact h.lt
theorem LN.move {Z Z':Nat->Prop} {db lb n:Nat} {lv:Int} {e:Nat} {b:gB} {d:aB} {w:World} (h:LN Z db lb n lv e b d w) (hz:∀ k,k<w.heap.size->Z k->Z' k):LN Z' db lb n lv e b d w:=by
 obtain ⟨F,v1,v2,h1,h2,h3,h4,h5,h6,h7,h8⟩:=h;refine ⟨F,v1,v2,h1,fun k hk=>hz k (disk_ltL h1 k hk) (h2 k hk),h3,hz lb h5.lt h4,h5,h6,h7,fun k hk=>⟨(h8 k hk).1,(h8 k hk).2.1,hz k ?_ (h8 k hk).2.2⟩⟩
 rcases hk with hk|hk
 ·exact (rE h6 hk).2
 ·exact (rE h7 hk).2
theorem LN.kept {Z S:Nat->Prop} {db lb n:Nat} {lv:Int} {e:Nat} {b:gB} {d:aB} {w w':World} (h:LN Z db lb n lv e b d w) (k:fA S w w') (hs:∀ i,S i->¬ Z i):LN Z db lb n lv e b d w':=by
 obtain ⟨F,v1,v2,h1,h2,h3,h4,h5,h6,h7,h8⟩:=h
 have g:∀ i,i<w.heap.size->Z i->w'.heap[i]? = w.heap[i]?:=fun i hi hz=>k.block i hi (fun hS=>hs i hS hz)
 exact ⟨F,v1,v2,h1.kept k (fun i hi hS=>hs i hS (h2 i hi)),h2,h3,h4,(g lb h5.lt h4).trans h5,
  jF h6 (fun i hi=>g i (rE h6 hi).2 (h8 i (Or.inl hi)).2.2),jF h7 (fun i hi=>g i (rE h7 hi).2 (h8 i (Or.inr hi)).2.2),h8⟩
structure LP (n:Nat) (lv:Int) (e:Nat) (b:gB) (d:aB):Prop where
 calm:d.Calm n
 fuse:d.fuse=-1
 holds:rF d.now lv e b
theorem new_dz (n:Nat) (w:World) (h1:1<=n) (h2:n<=40):Calls prog 9 #[vi (n:Int)] w fun e w'=>∃ db,e = .returned (.tuple #[.pointer (some ⟨db,0,none⟩),.nilIface])/\DZ (fun k=>w.heap.size<=k) db n (aB.new n) w'/\Ext w w':=by
 refine (diskNew_any n w h1 h2).mono ?_;rintro e w' ⟨db,F,rfl,hd,hf,hx⟩;exact ⟨db,rfl,⟨F,hd,hf⟩,hx⟩
theorem format_now {Z:Nat->Prop} {db n:Nat} {d:aB} {w:World} (hZ:∀ k,w.heap.size<=k->Z k) (h:DZ Z db n d w) (hc:d.Calm n) (hf:d.fuse=-1) (hn:22<=n) (lv:Int) (ht:Tab w):
  Calls prog 10 #[.pointer (some ⟨db,0,none⟩)] w fun e w'=>e = .returned .nilIface/\fA Z w w'/\∃ d',LP n lv 2 ⟨0,[],[]⟩ d'/\DZ Z db n d' w':=by
 obtain ⟨F,hd,hF⟩:=h;obtain ⟨q1,q2,q3,q4⟩:=format_law hc hf hn lv;refine (format_any hd hn (by rw [hc.none];simp) ht).mono ?_;rintro e w' ⟨rfl,F',g1,g2,g3⟩;rw [q1];refine ⟨rfl,⟨g3.os,g3.tape,g3.output,g3.size,fun k hk hz=>g3.block k hk (fun hf=>hz (hF k hf))⟩,d.format.1,⟨q2,q3,q4⟩,F',g1,?_⟩;intro k hk
 rcases g2 k hk with h|h
 ·exact hF k h
 ·exact hZ k h
theorem open_now {Z:Nat->Prop} {db n:Nat} {d:aB} {w:World} {lv:Int} {e:Nat} {b:gB} (hZ:∀ k,w.heap.size<=k->Z k) (h:DZ Z db n d w) (hP:LP n lv e b d) (l1:1<=lv) (l4:lv<=4) (hn:22<=n) (L:kL w):
  Calls prog 48 #[.pointer (some ⟨db,0,none⟩),vi lv] w fun x w'=>∃ lb,x = .returned (.tuple #[.pointer (some ⟨lb,0,none⟩),.nilIface])/\LN Z db lb n lv e b d w'/\Ext w w':=by
 obtain ⟨F,hd,hF⟩:=h;have hlt:=disk_ltL hd;obtain ⟨kb,kc,nb,nc,wv,hq⟩:=hd;have:=ledOpen_any hq hP.calm.up hn lv l1 l4 L;rw [hP.holds.opens l4] at this;refine this.mono ?_;rintro x w' ⟨lb,v1,v2,rfl,g1,g2,g3,g4,gx⟩;refine ⟨lb,rfl,⟨F,v1,v2,cJ.ext ⟨kb,kc,nb,nc,wv,hq⟩ gx,hF,fun hf=>by have:=hlt lb hf;omega,hZ lb g1,g2,mA g3 (Nat.zero_le _),mA g4 (Nat.zero_le _),?_⟩,gx⟩;intro k hk
 have:lb+1<=k:=by
  rcases hk with hk|hk
  ·exact qA g3 k hk
  ·exact qA g4 k hk
 exact ⟨fun hf=>by have:=hlt k hf;omega,om,hZ k om⟩
theorem book_now {Z:Nat->Prop} {db lb n:Nat} {lv:Int} {e:Nat} {b:gB} {d:aB} {w:World} (h:LN Z db lb n lv e b d w) (m1:b.stays.length<=1000) (m2:b.jobs.length<=1000):
  Calls prog 51 #[.pointer (some ⟨lb,0,none⟩)] w fun x w'=>∃ y1 d1 y2 d2,x = .returned (lC b.last y1 b.stays.length d1 y2 b.jobs.length d2)/\Sl w' 8 iA b.stays y1 b.stays.length d1/\Sl w' 2 jA b.jobs y2 b.jobs.length d2/\Ext w w':=by
 obtain ⟨F,v1,v2,h1,h2,h3,h4,h5,h6,h7,h8⟩:=h;obtain ⟨z1,c1,rfl,s1⟩:=Sl.of_owns (c:=8) (enc:=iA) h6 dc (fun _=>rfl);obtain ⟨z2,c2,rfl,s2⟩:=Sl.of_owns (c:=2) (enc:=jA) h7 dc (fun _=>rfl);refine (book_led b.stays b.jobs h5 s1 s2 m1 m2).mono ?_;rintro x w' ⟨v1,v2,rfl,ob,hx⟩;obtain ⟨y1,d1,rfl,s1⟩:=Sl.of_owns (c:=8) (enc:=iA) ob.stays dc (fun _=>rfl);obtain ⟨y2,d2,rfl,s2⟩:=Sl.of_owns (c:=2) (enc:=jA) ob.jobs dc (fun _=>rfl);exact ⟨y1,d1,y2,d2,rfl,s1,s2,hx⟩
theorem keep_led {Z:Nat->Prop} {db lb n:Nat} {lv:Int} {e:Nat} {b:gB} {d:aB} {w:World} (hZ:∀ k,w.heap.size<=k->Z k) (hN:LN Z db lb n lv e b d w) (hw:d.wait.length<=1000) (l4:lv<=4) (he:e+1<4294967296) (hT:Tab w)
  (last:Int) (a1:Option Addr) (m1 c1:Nat) (a2:Option Addr) (m2 c2:Nat) (l:List sA) (js:List Job)
  (h:Sl w 8 iA l a1 m1 c1) (h2:Sl w 2 jA js a2 m2 c2) (ha:∀ b o,(0<m1/\a1=some ⟨b,o,none⟩)\/(0<m2/\a2=some ⟨b,o,none⟩)->¬ Z b)
  (hf:fC ⟨last,l,js⟩ lv=0):
  Calls prog 52 #[.pointer (some ⟨lb,0,none⟩),lC last a1 m1 c1 a2 m2 c2] w fun x w'=>x = .returned (aC (d.keep (e+1) ⟨last,l,js⟩).2)/\fA Z w w' /\
   (((d.keep (e+1) ⟨last,l,js⟩).2=0/\LN Z db lb n lv (e+1) ⟨last,l,js⟩ (d.keep (e+1) ⟨last,l,js⟩).1 w')\/(¬ (d.keep (e+1) ⟨last,l,js⟩).2=0/\LN Z db lb n lv e b (d.keep (e+1) ⟨last,l,js⟩).1 w')):=by
 obtain ⟨F,v1,v2,g1,g2,g3,g4,g5,g6,g7,g8⟩:=hN;refine (keep_walk g5 g1 g3 l4 he hw hT last a1 m1 c1 a2 m2 c2 l js h h2 (fun b o hh hF=>ha b o hh (g2 b hF)) hf).mono ?_;rintro x w' ⟨rfl,hk⟩
 rcases hk with ⟨h0,hk⟩|⟨h0,F',u1,u2,k1,k2,k3,k4,k5,k6,k7⟩
 ·refine ⟨rfl,⟨hk.kept.os,hk.kept.tape,hk.kept.output,hk.kept.size,fun k hk' hz=>hk.kept.block k hk' (fun hF=>hz (g2 k hF))⟩,Or.inr ⟨h0,?_⟩⟩
  obtain ⟨F',h1,h2',h3⟩:=hk.disk;have hlt:=g5.lt
  have lt6:∀ k,v1.ownBlock=some k\/v2.ownBlock=some k->k<w.heap.size:=fun k hk=>by
   rcases hk with hk|hk
   ·exact (rE g6 hk).2
   ·exact (rE g7 hk).2
  have nF:∀ k,v1.ownBlock=some k\/v2.ownBlock=some k->¬ F' k:=fun k hk hF=>by
   rcases h2' k hF with hF|hB
   ·exact (g8 k hk).1 hF
   ·have:=lt6 k hk;omega
  refine ⟨F',v1,v2,h1,fun k hF=>(h2' k hF).elim (g2 k) (hZ k),?_,g4,hk.blk,jF g6 (fun i hi=>hk.kept.block i (lt6 i (Or.inl hi)) (g8 i (Or.inl hi)).1),jF g7 (fun i hi=>hk.kept.block i (lt6 i (Or.inr hi)) (g8 i (Or.inr hi)).1),fun k hk'=>⟨nF k hk',(g8 k hk').2⟩⟩;intro hF
  rcases h2' lb hF with hF|hB
  ·exact g3 hF
  ·omega
 ·have hs:=k3.size
  have hlt:=g5.lt;refine ⟨rfl,⟨k3.os,k3.tape,k3.output,k3.size,fun k hk hz=>k3.block k hk (fun hS=>hz (by rcases hS with hS|rfl;exact g2 k hS;exact g4))⟩,Or.inl ⟨h0,F',u1,u2,k1,?_,?_,g4,k4,mA k5 (Nat.zero_le _),mA k6 (Nat.zero_le _),?_⟩⟩
  ·intro k hk
   rcases k2 k hk with hk|hk
   ·exact g2 k hk
   ·exact hZ k hk
  ·intro hF
   rcases k2 lb hF with hk|hk
   ·exact g3 hk
   ·omega
  ·intro k hk
   have:w.heap.size<=k:=by
    rcases hk with hk|hk
    ·exact qA k5 k hk
    ·exact qA k6 k hk
   exact ⟨k7 k hk,om,hZ k this⟩
