import Derived.Test.YtplomeacjbkgnaaZ05
import Derived.WalkSpells
import Derived.Test.YtplomeacjbkgnaaZ02
import Derived.Deep.RegionHeld3
set_option linter.all false
set_option maxRecDepth 100000
set_option maxHeartbeats 16000000
namespace Go.Proofs.Ytplomeacjbkgnaa
open Go.RowKit
theorem rcarFault_f (x a b c:Int) (w:World):Calls Try.prog 34 #[.agg #[vi x,vi a,vi b,vi c]] w fun e w'=>e = .returned (vi (Ch.carFault ⟨x,⟨a,b,c⟩⟩))∧Ext w w':=by
 go_enter Try.func34,Try.ntmps34;go_wp2_with (go_at_call 32;(with_reducible refine (rsizeFault_f _ _ _ _).mono ?_);rintro e w1 ⟨rfl,o1,n1,rfl⟩)
 all_goals
  go_ret;go_light;refine ⟨?_,(by simp (maxDischargeDepth:=60))⟩;simp only [Ch.carFault]
  first|(rw [if_pos (by omega)];rfl)|(rw [if_neg (by omega)];rfl)|(rw [if_neg (by omega)])
theorem infoPlace:(Try.prog.info? 23).map (fun i=>(i.zero,i.size,i.bytes))=some (some (.agg #[.int .i64 0,.int .i64 0,.int .i64 0]),3,24):=by kernel_rfl
def NewPlaces (w:World) (l:List Ch.Place) (e:Ending) (w':World):Prop:=∃ v,e = .returned v∧w'.ownsRow w.heap.size 23 3 v l.length (l.flatMap placeCells)∧Ext w w'
theorem NewPlaces.sl {w:World} {l:List Ch.Place} {e:Ending} {w':World} (h:NewPlaces w l e w'):∃ a n c,e = .returned (.slice a n c)∧Sl w' 3 placeCells l a n c∧Ext w w':=by
 obtain ⟨v,rfl,ho,hx⟩:=h;obtain ⟨a,c,rfl,hs⟩:=Sl.of_owns ho (by decide) (fun x=>rfl);exact ⟨a,_,c,rfl,hs,hx⟩
theorem placesFrom_step (levels:Int) (k:Nat) (n:Int):Ch.placesFrom levels (k+1) n=Ch.placesOf levels n++Ch.placesFrom levels k (n+1):=rfl
def PlacesRel (w:World) (levels n:Int) (v:Value) (wr:World):Prop:=∃ L,1≤n∧n≤levels+1∧L.length≤4 * (n - 1).toNat∧L++Ch.placesFrom levels (levels+1 - n).toNat n=Ch.places levels ∧
 wr.ownsRow w.heap.size 23 3 v L.length (L.flatMap placeCells)∧Ext w wr
theorem PlacesRel.start (w:World) (levels:Int) (h1:1≤levels) (o:Array Obj) (m:Nat):PlacesRel w levels 1 (.slice none 0 0) (w.plus o m):=
 ⟨[],by omega,by omega,by simp,by simp [Ch.places],World.ownsRow_nil _ _ _ _,by simp⟩
theorem PlacesRel.start' (w:World) (levels:Int) (h1:1≤levels):PlacesRel w levels 1 (.slice none 0 0) w:=
 ⟨[],by omega,by omega,by simp,by simp [Ch.places],World.ownsRow_nil _ _ _ _,by simp⟩
theorem PlacesRel.step {w:World} {levels n:Int} {L:List Ch.Place} (v':Value) (wr':World) (hn:1≤n) (hl:n≤levels) (hL:L.length≤4 * (n - 1).toNat) (he:L++Ch.placesFrom levels (levels+1 - n).toNat n=Ch.places levels) (new:List Ch.Place)
  (hnew:new=Ch.placesOf levels n) (k:Nat) (hk:k=(L++new).length) (xs:List Value) (hxs:xs=(L++new).flatMap placeCells) (ho:wr'.ownsRow w.heap.size 23 3 v' k xs) (hx:Ext w wr'):PlacesRel w levels (n+1) v' wr':=by
 subst hk hxs
 have h4:new.length≤4:=by rw [hnew];unfold Ch.placesOf;split <;> simp
 refine ⟨L++new,by omega,by omega,?_,?_,ho,hx⟩
 ·rw [List.length_append];omega
 ·rw [←he,hnew,List.append_assoc,show (levels+1 - n).toNat=(levels+1 - (n+1)).toNat+1 by omega,placesFrom_step]
theorem rplaces_any (levels:Int) (w:World) (h1:1≤levels) (h2:levels≤4):Calls Try.prog 45 #[vi levels] w (NewPlaces w (Ch.places levels)):=by
 obtain ⟨i0,hi,hz0,hz1,hz2⟩:=info_parts infoPlace;go_enter Try.func45,Try.ntmps45;go_wp2
 go_loopw [3,4] (fun v n wr=>∃ k:Int,n = .int .i64 k∧PlacesRel w levels k v wr) (fun _ n _=>(levels+1 - intOf n).toNat)
 case atStart=>exact ⟨1,rfl,PlacesRel.start' w levels h1⟩
 case round=>
  obtain ⟨k,rfl,L,hk1,hk2,hL,he,hown,o,m,rfl⟩:=hrel;have HE:=Lib.hid he;clear he
  by_cases hkl:k≤levels
  ·by_cases heq:levels≤k
   ·go_wp2
    (refine wp_loop_rounds 3 ?_;(repeat any_goals (rw [rounds_succ];go_wp2_with (first|(at_builtin;refine wpList_append_lies _ rfl _ _ _ rfl w.heap.size 23 i0 _ 3 24 Try.underlying59 hi hz0 hz1 hz2 rfl (by decide) _ _ _ rfl (owns_alloc (by assumption) _) _ 1 1 [vi k,vi 0,vi 1] rfl rfl (World.news_of_block (alloc_at _ _ _ (by simp))) (by simp [Value.oneCell']) (by decide) (by unfold maxLen;(try simp only [List.length_append,List.length_cons,List.length_nil]);omega) (by (try simp only [List.length_append,List.length_cons,List.length_nil]);omega) (by first|omega|(simp;done)|(simp;omega)) _ rfl ?_;intro gg cap w3 hown3 hgrow hat hlt;obtain ⟨o3,n3,rfl⟩:=ext_grown (w:=w) (by simp (maxDischargeDepth:=60)) hgrow (owns_block (by assumption)))|(at_builtin;refine wpList_append_lies _ rfl _ _ _ rfl w.heap.size 23 i0 _ 3 24 Try.underlying59 hi hz0 hz1 hz2 rfl (by decide) _ _ _ rfl (owns_alloc (by assumption) _) _ 1 1 [vi k,vi 0,vi 0] rfl rfl (World.news_of_block (alloc_at _ _ _ (by simp))) (by simp [Value.oneCell']) (by decide) (by unfold maxLen;(try simp only [List.length_append,List.length_cons,List.length_nil]);omega) (by (try simp only [List.length_append,List.length_cons,List.length_nil]);omega) (by first|omega|(simp;done)|(simp;omega)) _ rfl ?_;intro gg cap w3 hown3 hgrow hat hlt;obtain ⟨o3,n3,rfl⟩:=ext_grown (w:=w) (by simp (maxDischargeDepth:=60)) hgrow (owns_block (by assumption)))))))
    go_roundw
    case rel=>
     refine ⟨k+1,by go_num,PlacesRel.step _ _ hk1 hkl hL HE.out [⟨k,0,1⟩,⟨k,0,0⟩] (by unfold Ch.placesOf;rw [if_neg (by omega)]) _ ?_ _ ?_ (by assumption) (by simp (maxDischargeDepth:=60))⟩
     ·simp
     ·simp [placeCells]
    case measure=>simp [intOf];omega
   ·go_wp2
    (refine wp_loop_rounds 3 ?_;(repeat any_goals (rw [rounds_succ];go_wp2_with (first|(at_builtin;refine wpList_append_lies _ rfl _ _ _ rfl w.heap.size 23 i0 _ 3 24 Try.underlying59 hi hz0 hz1 hz2 rfl (by decide) _ _ _ rfl (owns_alloc (by assumption) _) _ 1 1 [vi k,vi 0,vi 1] rfl rfl (World.news_of_block (alloc_at _ _ _ (by simp))) (by simp [Value.oneCell']) (by decide) (by unfold maxLen;(try simp only [List.length_append,List.length_cons,List.length_nil]);omega) (by (try simp only [List.length_append,List.length_cons,List.length_nil]);omega) (by first|omega|(simp;done)|(simp;omega)) _ rfl ?_;intro gg cap w3 hown3 hgrow hat hlt;obtain ⟨o3,n3,rfl⟩:=ext_grown (w:=w) (by simp (maxDischargeDepth:=60)) hgrow (owns_block (by assumption)))|(at_builtin;refine wpList_append_lies _ rfl _ _ _ rfl w.heap.size 23 i0 _ 3 24 Try.underlying59 hi hz0 hz1 hz2 rfl (by decide) _ _ _ rfl (owns_alloc (by assumption) _) _ 1 1 [vi k,vi 0,vi 0] rfl rfl (World.news_of_block (alloc_at _ _ _ (by simp))) (by simp [Value.oneCell']) (by decide) (by unfold maxLen;(try simp only [List.length_append,List.length_cons,List.length_nil]);omega) (by (try simp only [List.length_append,List.length_cons,List.length_nil]);omega) (by first|omega|(simp;done)|(simp;omega)) _ rfl ?_;intro gg cap w3 hown3 hgrow hat hlt;obtain ⟨o3,n3,rfl⟩:=ext_grown (w:=w) (by simp (maxDischargeDepth:=60)) hgrow (owns_block (by assumption)))|(at_builtin;refine wpList_append_lies _ rfl _ _ _ rfl w.heap.size 23 i0 _ 3 24 Try.underlying59 hi hz0 hz1 hz2 rfl (by decide) _ _ _ rfl (owns_alloc (by assumption) _) _ 1 1 [vi k,vi 1,vi 1] rfl rfl (World.news_of_block (alloc_at _ _ _ (by simp))) (by simp [Value.oneCell']) (by decide) (by unfold maxLen;(try simp only [List.length_append,List.length_cons,List.length_nil]);omega) (by (try simp only [List.length_append,List.length_cons,List.length_nil]);omega) (by first|omega|(simp;done)|(simp;omega)) _ rfl ?_;intro gg cap w3 hown3 hgrow hat hlt;obtain ⟨o3,n3,rfl⟩:=ext_grown (w:=w) (by simp (maxDischargeDepth:=60)) hgrow (owns_block (by assumption)))|(at_builtin;refine wpList_append_lies _ rfl _ _ _ rfl w.heap.size 23 i0 _ 3 24 Try.underlying59 hi hz0 hz1 hz2 rfl (by decide) _ _ _ rfl (owns_alloc (by assumption) _) _ 1 1 [vi k,vi 1,vi 0] rfl rfl (World.news_of_block (alloc_at _ _ _ (by simp))) (by simp [Value.oneCell']) (by decide) (by unfold maxLen;(try simp only [List.length_append,List.length_cons,List.length_nil]);omega) (by (try simp only [List.length_append,List.length_cons,List.length_nil]);omega) (by first|omega|(simp;done)|(simp;omega)) _ rfl ?_;intro gg cap w3 hown3 hgrow hat hlt;obtain ⟨o3,n3,rfl⟩:=ext_grown (w:=w) (by simp (maxDischargeDepth:=60)) hgrow (owns_block (by assumption)))))))
    go_roundw
    case rel=>
     refine ⟨k+1,by go_num,PlacesRel.step _ _ hk1 hkl hL HE.out [⟨k,0,1⟩,⟨k,0,0⟩,⟨k,1,1⟩,⟨k,1,0⟩] (by unfold Ch.placesOf;rw [if_pos (by omega)]) _ ?_ _ ?_ (by assumption) (by simp (maxDischargeDepth:=60))⟩
     ·simp
     ·simp [placeCells]
    case measure=>simp [intOf];omega
  ·have hkk:k=levels+1:=by omega
   have HQ:=Lib.hid hkk;clear hkk;go_wp2;go_ret
   have hL:L=Ch.places levels:=by
    have h:=HE.out;rw [HQ.out] at h
    simpa [Ch.placesFrom] using h
   exact ⟨_,rfl,hL▸hown,(by simp (maxDischargeDepth:=60))⟩
theorem flat_at {α:Type} {enc:α→List Value} {c:Nat} (he:∀ x,(enc x).length=c):∀ {l:List α} {j:Nat} {u:Value},(l.flatMap enc)[j]? = some u→∃ i x r,l[i]? = some x∧(enc x)[r]? = some u∧j=i * c+r
 | [],j,u,h=>by simp at h
 | y :: l,j,u,h=>by
  simp only [List.flatMap_cons] at h
  by_cases hj:j<c
  ·rw [List.getElem?_append_left (by rw [he];exact hj)] at h
   exact ⟨0,y,j,rfl,h,by simp⟩
  ·rw [List.getElem?_append_right (by rw [he];omega),he] at h
   obtain ⟨i,x,r,h1,h2,h3⟩:=flat_at he h;exact ⟨i+1,x,r,h1,h2,by rw [Nat.add_mul];omega⟩
theorem Sl.cells {α:Type} {w:World} {c:Nat} {enc:α→List Value} {l:List α} {b o n cap:Nat} (h:Sl w c enc l (some ⟨b,o,none⟩) n cap) (he:∀ x,(enc x).length=c):
  ∀ j u,(l.flatMap enc)[j]? = some u→w.cell? ((⟨b,o,none⟩:Addr).add j)=some u:=by
 intro j u hu;obtain ⟨i,x,r,h1,h2,rfl⟩:=flat_at he hu
 have hi:i<n:=by
  have:=h.len
  by_cases hi:i<l.length
  ·omega
  ·rw [List.getElem?_eq_none (by omega)] at h1;cases h1
 obtain ⟨x',hx',f⟩:=h.get' hi;obtain rfl:x'=x:=Option.some.inj (hx'.symm.trans h1);have:=f r u h2
 have e:(⟨b,o,none⟩:Addr).add (i * c+r)=⟨b,o+i * c+r,none⟩:=by
  unfold Addr.add
  split <;> simp_all <;> omega
 rw [e];exact this
theorem flat_len {α:Type} {enc:α→List Value} {c:Nat} (he:∀ x,(enc x).length=c) (l:List α):(l.flatMap enc).length=l.length * c:=by
 induction l with
 | nil=>simp
 | cons x l ih=>simp [ih,he,Nat.add_mul];omega
theorem infoStay:(Try.prog.info? 149).map (fun i=>(i.zero,i.size,i.bytes))=some (some (.agg #[vi 0,vi 0,vi 0,vi 0,vi 0,vi 0,vi 0,vi 0]),8,64):=by kernel_rfl
theorem infoJob:(Try.prog.info? 94).map (fun i=>(i.zero,i.size,i.bytes))=some (some (.agg #[vi 0,.bool false]),2,16):=by kernel_rfl
theorem cloneStay_any (a:Option Addr) (n cap:Nat) (l:List Ch.Stay) (w:World) (h:Sl w 8 stayCells l a n cap) (hn:n≤1000):
  Calls Try.prog 139 #[.slice a n cap] w fun e w'=>∃ v,e = .returned v∧w'.ownsRow w.heap.size 149 8 v n (l.flatMap stayCells)∧Ext w w':=by
 obtain ⟨i0,hi,hz0,hz1,hz2⟩:=info_parts infoStay;have hb:=h.bound;have HF:=Lib.hid h;have HL:=Lib.hid h.len;clear h
 cases a with
 | none=>
  have h0:n=0:=by
   by_cases h0:n=0
   ·exact h0
   ·obtain ⟨_,_,_,e,_⟩:=HF.out.get (k:=0) (by omega);cases e
  subst h0
  have hl:l=[]:=by have:=HL.out;cases l <;> simp_all
  subst hl
  have hq:=fun (w:World)=>Lib.run_eql_slice_nil (P:=Try.prog) w
  go_enter Try.func139,Try.ntmps139;go_wp2;go_ret;exact ⟨_,rfl,World.ownsRow_nil _ _ _ _,(by simp (maxDischargeDepth:=60))⟩
 | some ad=>
  have hq:∀ w,(Go.binOp .eql 73 (.slice (some ad) n cap) (.slice none 0 0)).run Try.prog w = .ok (.bool false) w:=fun w=>Lib.run_eql_slice_nil w _ _ _ _ _ _ _ Try.underlying73
  have hnews:∀ j u,(l.flatMap stayCells)[j]? = some u→(w.alloc (.cells #[] 149)).cell? (ad.add j)=some u:=by
   by_cases h0:n=0
   ·have hl:l=[]:=by have:=HL.out;cases l <;> simp_all
    subst hl;intro j u hj;simp at hj
   ·obtain ⟨b,o,x,e,hx,_⟩:=HF.out.get (k:=0) (by omega)
    cases e;exact Sl.cells (Sl.alloc HF.out _) (fun _=>rfl)
  have hone:∀ u∈l.flatMap stayCells,u.oneCell'=true:=by
   intro u hu;obtain ⟨y,_,hy⟩:=List.mem_flatMap.1 hu;simp only [stayCells,List.mem_cons,List.not_mem_nil,or_false] at hy
   rcases hy with rfl|rfl|rfl|rfl|rfl|rfl|rfl|rfl <;> rfl
  have HN:=Lib.hid hnews;have HO:=Lib.hid hone;clear hnews hone;go_enter Try.func139,Try.ntmps139;go_wp2_with (at_builtin;refine wpList_append_own _ rfl _ _ _ rfl w.heap.size 149 i0 _ 8 64 Try.underlying73 hi hz0 hz1 hz2 rfl (by decide) _ 0 [] rfl (owns_new w 149 8 0 #[] rfl (by decide)) ad n cap (l.flatMap stayCells) rfl (by rw [flat_len (c:=8) (fun _=>rfl),HL.out]) HN.out HO.out (by unfold maxLen;omega) (by omega) (by simp) ?_;intro v' w1 hown hgrow hnil;obtain ⟨o1,n1,rfl⟩:=ext_grown (w:=w) (by simp (maxDischargeDepth:=60)) hgrow (by intro k hk;cases hk;exact Nat.le_refl _));go_ret;exact ⟨_,rfl,by simpa using hown,(by simp (maxDischargeDepth:=60))⟩
theorem cloneJob_any (a:Option Addr) (n cap:Nat) (l:List Ch.Job) (w:World) (h:Sl w 2 jobCells l a n cap) (hn:n≤1000):
  Calls Try.prog 140 #[.slice a n cap] w fun e w'=>∃ v,e = .returned v∧w'.ownsRow w.heap.size 94 2 v n (l.flatMap jobCells)∧Ext w w':=by
 obtain ⟨i0,hi,hz0,hz1,hz2⟩:=info_parts infoJob;have hb:=h.bound;have HF:=Lib.hid h;have HL:=Lib.hid h.len;clear h
 cases a with
 | none=>
  have h0:n=0:=by
   by_cases h0:n=0
   ·exact h0
   ·obtain ⟨_,_,_,e,_⟩:=HF.out.get (k:=0) (by omega);cases e
  subst h0
  have hl:l=[]:=by have:=HL.out;cases l <;> simp_all
  subst hl
  have hq:=fun (w:World)=>Lib.run_eql_slice_nil (P:=Try.prog) w
  go_enter Try.func140,Try.ntmps140;go_wp2;go_ret;exact ⟨_,rfl,World.ownsRow_nil _ _ _ _,(by simp (maxDischargeDepth:=60))⟩
 | some ad=>
  have hq:∀ w,(Go.binOp .eql 74 (.slice (some ad) n cap) (.slice none 0 0)).run Try.prog w = .ok (.bool false) w:=fun w=>Lib.run_eql_slice_nil w _ _ _ _ _ _ _ Try.underlying74
  have hnews:∀ j u,(l.flatMap jobCells)[j]? = some u→(w.alloc (.cells #[] 94)).cell? (ad.add j)=some u:=by
   by_cases h0:n=0
   ·have hl:l=[]:=by have:=HL.out;cases l <;> simp_all
    subst hl;intro j u hj;simp at hj
   ·obtain ⟨b,o,x,e,hx,_⟩:=HF.out.get (k:=0) (by omega)
    cases e;exact Sl.cells (Sl.alloc HF.out _) (fun _=>rfl)
  have hone:∀ u∈l.flatMap jobCells,u.oneCell'=true:=by
   intro u hu;obtain ⟨y,_,hy⟩:=List.mem_flatMap.1 hu;simp only [jobCells,List.mem_cons,List.not_mem_nil,or_false] at hy
   rcases hy with rfl|rfl <;> rfl
  have HN:=Lib.hid hnews;have HO:=Lib.hid hone;clear hnews hone;go_enter Try.func140,Try.ntmps140;go_wp2_with (at_builtin;refine wpList_append_own _ rfl _ _ _ rfl w.heap.size 94 i0 _ 2 16 Try.underlying74 hi hz0 hz1 hz2 rfl (by decide) _ 0 [] rfl (owns_new w 94 2 0 #[] rfl (by decide)) ad n cap (l.flatMap jobCells) rfl (by rw [flat_len (c:=2) (fun _=>rfl),HL.out]) HN.out HO.out (by unfold maxLen;omega) (by omega) (by simp) ?_;intro v' w1 hown hgrow hnil;obtain ⟨o1,n1,rfl⟩:=ext_grown (w:=w) (by simp (maxDischargeDepth:=60)) hgrow (by intro k hk;cases hk;exact Nat.le_refl _));go_ret;exact ⟨_,rfl,by simpa using hown,(by simp (maxDischargeDepth:=60))⟩
structure OwnBook (w0 w:World) (last:Int) (l:List Ch.Stay) (js:List Ch.Job) (v1 v2:Value):Prop where
 stays:w.ownsRow w0.heap.size 149 8 v1 l.length (l.flatMap stayCells)
 jobs:w.ownsRow w0.heap.size 94 2 v2 js.length (js.flatMap jobCells)
 apart:∀ k,v1.ownBlock=some k→v2.ownBlock≠some k
theorem OwnBook.ext {w0 w w':World} {last:Int} {l:List Ch.Stay} {js:List Ch.Job} {v1 v2:Value} (h:OwnBook w0 w last l js v1 v2) (x:Ext w w'):OwnBook w0 w' last l js v1 v2:=by
 obtain ⟨o,n,rfl⟩:=x;exact ⟨owns_plus h.stays o n,owns_plus h.jobs o n,h.apart⟩
theorem owns_set {w:World} {base e size:Nat} {v:Value} {n:Nat} {xs:List Value} (h:w.ownsRow base e size v n xs) {a:Addr} (u:Value) (hn:v.ownBlock≠some a.block):(w.setCell a u).ownsRow base e size v n xs:=by
 refine ⟨h.1,?_⟩
 rcases h.2 with h2|⟨g,cap,cur,rfl,hb,hg,hnc,hc,hs,ht⟩
 ·exact .inl h2
 ·refine .inr ⟨g,cap,cur,rfl,hb,?_,hnc,hc,hs,ht⟩
  rw [setCell_other]
  ·exact hg
  ·rintro rfl;exact hn rfl
theorem own_lt {w:World} {base e size:Nat} {v:Value} {n:Nat} {xs:List Value} (h:w.ownsRow base e size v n xs) {k:Nat} (hk:v.ownBlock=some k):base≤k∧k<w.heap.size:=h.lt k hk
theorem copy_any (last:Int) (a1:Option Addr) (m1 c1:Nat) (a2:Option Addr) (m2 c2:Nat) (l:List Ch.Stay) (js:List Ch.Job) (w:World) (h:Sl w 8 stayCells l a1 m1 c1) (h2:Sl w 2 jobCells js a2 m2 c2) (hm1:m1≤1000) (hm2:m2≤1000):
  Calls Try.prog 106 #[bookA last a1 m1 c1 a2 m2 c2] w fun e w'=>∃ v1 v2,e = .returned (.agg #[vi last,v1,v2])∧OwnBook w w' last l js v1 v2∧Ext w w':=by
 have HF:=Lib.hid h;have HJ:=Lib.hid h2;have E1:=Lib.hid h.len;have E2:=Lib.hid h2.len;clear h h2;go_enter Try.func106,Try.ntmps106
 go_upto_region 1 with fail
 go_region_with (first
  | (go_at_call 139;refine (cloneStay_any a1 m1 c1 l _ (Sl.below HF.out (Ext.below (by simp (maxDischargeDepth:=60)))) hm1).mono ?_;rintro e w1 ⟨v1,rfl,hown1,o1,n1,rfl⟩;obtain ⟨b1,d1,rfl,-⟩:=Sl.of_owns (c:=8) (enc:=stayCells) hown1 (by decide) (fun _=>rfl))
  | (go_at_call 140;refine (cloneJob_any a2 m2 c2 js _ (Sl.below HJ.out (Ext.below (by simp (maxDischargeDepth:=60)))) hm2).mono ?_;rintro e w2 ⟨v2,rfl,hown2,o2,n2,rfl⟩;obtain ⟨b2,d2,rfl,-⟩:=Sl.of_owns (c:=2) (enc:=jobCells) hown2 (by decide) (fun _=>rfl)))
 all_goals
  generalize hW:World.plus _ _ _=wq
  have k0:wq.cell? ⟨w.heap.size,0,none⟩=some (vi last):=by rw [←hW];simp [go_sem]
  have k1:wq.cell? ⟨w.heap.size,1,none⟩=some (.slice a1 m1 c1):=by rw [←hW];simp [go_sem]
  have k2:wq.cell? ⟨w.heap.size,2,none⟩=some (.slice a2 m2 c2):=by rw [←hW];simp [go_sem]
  have r0:wq.cell? ⟨w.heap.size+1,0,none⟩=some (.int .i64 0):=by rw [←hW];simp [go_sem]
  have r1:wq.cell? ⟨w.heap.size+1,1,none⟩=some (.slice none 0 0):=by rw [←hW];simp [go_sem]
  have r2:wq.cell? ⟨w.heap.size+1,2,none⟩=some (.slice none 0 0):=by rw [←hW];simp [go_sem]
  have fz:∀ i,wq.frozen? ⟨w.heap.size+1,i,none⟩=false:=by intro i;rw [←hW];simp [go_sem]
  have hx:Ext w wq:=by rw [←hW];exact (by simp (maxDischargeDepth:=60))
  have z:=cell_lt r0
  have hap:∀ k,(Value.slice b1 m1 d1).ownBlock=some k→(Value.slice b2 m2 d2).ownBlock≠some k:=by
   intro k hk1 hk2;have q1:=(own_lt hown1 hk1).2;have q2:=(own_lt hown2 hk2).1;omega
  have g1:∀ k,(Value.slice b1 m1 d1).ownBlock=some k→w.heap.size+2≤k:=by
   intro k hk1;have q1:=(own_lt hown1 hk1).1;simp at q1;omega
  have g2:∀ k,(Value.slice b2 m2 d2).ownBlock=some k→w.heap.size+2≤k:=by
   intro k hk1;have q1:=(own_lt hown2 hk1).1;simp at q1;omega
  have hs1:wq.ownsRow w.heap.size 149 8 (.slice b1 m1 d1) m1 (l.flatMap stayCells):=by
   rw [←hW];exact owns_base (owns_more hown1 _ _) (by first|(simp;done)|(simp;omega))
  have hs2:wq.ownsRow w.heap.size 94 2 (.slice b2 m2 d2) m2 (js.flatMap jobCells):=by
   rw [←hW,←plus_plus _ _ n1 _ _];exact owns_base hown2 (by first|(simp;done)|(simp;omega))
  have HAP:=Lib.hid hap;have G1:=Lib.hid g1;have G2:=Lib.hid g2;have HS1:=Lib.hid hs1;have HS2:=Lib.hid hs2;have HX:=Lib.hid hx;clear hW hown1 hown2 hap g1 g2 hs1 hs2 hx;go_wp2;refine bodyPost_ret (v:=.agg #[vi last,.slice b1 m1 d1,.slice b2 m2 d2]) (by simp [results,Try.results106,go_sem, *]) rfl ⟨_,_,rfl,⟨?_,?_,HAP.out⟩,?_⟩
  ·rw [E1.out]
   refine owns_set (owns_set (owns_set (owns_set (owns_set HS1.out _ ?_) _ ?_) _ ?_) _ ?_) _ ?_ <;> (intro e;have:=G1.out _ e;(try dsimp only at this);omega)
  ·rw [E2.out]
   refine owns_set (owns_set (owns_set (owns_set (owns_set HS2.out _ ?_) _ ?_) _ ?_) _ ?_) _ ?_ <;> (intro e;have:=G2.out _ e;(try dsimp only at this);omega)
  ·refine Ext.setCell (Ext.setCell (Ext.setCell (Ext.setCell (Ext.setCell HX.out ?_ _) ?_ _) ?_ _) ?_ _) ?_ _ <;> (dsimp only;omega)
end Go.Proofs.Ytplomeacjbkgnaa
