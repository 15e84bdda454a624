import Derived.Test.YtplomeacjbkgnabGreatDoorZ06
import Derived.WalkSpells
set_option linter.all false
set_option maxRecDepth 100000
set_option maxHeartbeats 16000000
namespace Go.Proofs.YtplomeacjbkgnabGreatDoor
open Go.RowKit
theorem flat_at {α:Type} {enc:α→List Value} {c:Nat} (he:∀ x,(enc x).length=c):∀ {l:List α} {j:Nat} {u:Value},(l.flatMap enc)[j]? = some u→∃ i x r,l[i]? = some x∧(enc x)[r]? = some u∧j=i * c+r
 | [],j,u,h=>by simp at h
 | y :: l,j,u,h=>by
  simp only [List.flatMap_cons] at h
  by_cases hj:j<c
  ·rw [List.getElem?_append_left (by rw [he];exact hj)] at h
   exact ⟨0,y,j,rfl,h,by simp⟩
  ·rw [List.getElem?_append_right (by rw [he];omega),he] at h
   obtain ⟨i,x,r,h1,h2,h3⟩:=flat_at he h;exact ⟨i+1,x,r,h1,h2,by rw [Nat.add_mul];omega⟩
theorem Sl.cells {α:Type} {w:World} {c:Nat} {enc:α→List Value} {l:List α} {b o n cap:Nat} (h:Sl w c enc l (some ⟨b,o,none⟩) n cap) (he:∀ x,(enc x).length=c):
  ∀ j u,(l.flatMap enc)[j]? = some u→w.cell? ((⟨b,o,none⟩:Addr).add j)=some u:=by
 intro j u hu;obtain ⟨i,x,r,h1,h2,rfl⟩:=flat_at he hu
 have hi:i<n:=by
  have:=h.len
  by_cases hi:i<l.length
  ·omega
  ·rw [List.getElem?_eq_none (by omega)] at h1;cases h1
 obtain ⟨x',hx',f⟩:=h.get' hi;obtain rfl:x'=x:=Option.some.inj (hx'.symm.trans h1);have:=f r u h2
 have e:(⟨b,o,none⟩:Addr).add (i * c+r)=⟨b,o+i * c+r,none⟩:=by
  unfold Addr.add
  split <;> simp_all <;> omega
 rw [e];exact this
theorem flat_len {α:Type} {enc:α→List Value} {c:Nat} (he:∀ x,(enc x).length=c) (l:List α):(l.flatMap enc).length=l.length * c:=by
 induction l with
 | nil=>simp
 | cons x l ih=>simp [ih,he,Nat.add_mul];omega
theorem infoStay:(Tryz.prog.info? 141).map (fun i=>(i.zero,i.size,i.bytes))=some (some (.agg #[vi 0,vi 0,vi 0,vi 0,vi 0,vi 0,vi 0,vi 0]),8,64):=by kernel_rfl
theorem fJ:(Tryz.prog.info? 143).map (fun i=>(i.zero,i.size,i.bytes))=some (some (.agg #[vi 0,.bool false]),2,16):=by kernel_rfl
theorem cloneStay_any (a:Option Addr) (n cap:Nat) (l:List Ch.Stay) (w:World) (h:Sl w 8 gA l a n cap) (hn:n≤1000):
  Calls Tryz.prog 158 #[.slice a n cap] w fun e w'=>∃ v,e = .returned v∧w'.ownsRow w.heap.size 141 8 v n (l.flatMap gA)∧Ext w w':=by
 obtain ⟨i0,hi,hz0,hz1,hz2⟩:=info_parts infoStay;have hb:=h.bound;have HF:=aA h;have HL:=aA h.len;clear h
 cases a with
 | none=>
  have h0:n=0:=by
   by_cases h0:n=0
   ·exact h0
   ·obtain ⟨_,_,_,e,_⟩:=HF.out.get (k:=0) (by omega);cases e
  subst h0
  have hl:l=[]:=by have:=HL.out;cases l <;> simp_all
  subst hl
  have hq:=fun (w:World)=>Lib.run_eql_slice_nil (P:=Tryz.prog) w
  go_enter Tryz.func158,Tryz.ntmps158;go_wp2;go_ret;exact ⟨_,rfl,World.ownsRow_nil _ _ _ _,eX⟩
 | some ad=>
  have hq:∀ w,(Go.binOp .eql 46 (.slice (some ad) n cap) (.slice none 0 0)).run Tryz.prog w = .ok (.bool false) w:=fun w=>Lib.run_eql_slice_nil w _ _ _ _ _ _ _ Tryz.underlying46
  have hnews:∀ j u,(l.flatMap gA)[j]? = some u→(w.alloc (.cells #[] 141)).cell? (ad.add j)=some u:=by
   by_cases h0:n=0
   ·have hl:l=[]:=by have:=HL.out;cases l <;> simp_all
    subst hl;intro j u hj;simp at hj
   ·obtain ⟨b,o,x,e,hx,_⟩:=HF.out.get (k:=0) (by omega)
    cases e;exact Sl.cells (Sl.alloc HF.out _) (fun _=>rfl)
  have hone:∀ u∈l.flatMap gA,u.oneCell'=true:=by
   intro u hu;obtain ⟨y,_,hy⟩:=List.mem_flatMap.1 hu;simp only [gA,List.mem_cons,List.not_mem_nil,or_false] at hy
   rcases hy with rfl|rfl|rfl|rfl|rfl|rfl|rfl|rfl <;> rfl
  have HN:=aA hnews;have HO:=aA hone;clear hnews hone;go_enter Tryz.func158,Tryz.ntmps158;go_wp2_with (at_builtin;refine wpList_append_own _ rfl _ _ _ rfl w.heap.size 141 i0 _ 8 64 Tryz.underlying46 hi hz0 hz1 hz2 rfl (by decide) _ 0 [] rfl (xG w 141 8 0 #[] rfl (by decide)) ad n cap (l.flatMap gA) rfl (by rw [flat_len (c:=8) (fun _=>rfl),HL.out]) HN.out HO.out (by unfold maxLen;omega) (by omega) (by simp) ?_;intro v' w1 hown hgrow hnil;obtain ⟨o1,n1,rfl⟩:=uB (w:=w) eX hgrow (by intro k hk;cases hk;exact Nat.le_refl _));go_ret;exact ⟨_,rfl,by simpa using hown,eX⟩
theorem cloneJob_any (a:Option Addr) (n cap:Nat) (l:List Ch.Job) (w:World) (h:Sl w 2 jA l a n cap) (hn:n≤1000):
  Calls Tryz.prog 159 #[.slice a n cap] w fun e w'=>∃ v,e = .returned v∧w'.ownsRow w.heap.size 143 2 v n (l.flatMap jA)∧Ext w w':=by
 obtain ⟨i0,hi,hz0,hz1,hz2⟩:=info_parts fJ;have hb:=h.bound;have HF:=aA h;have HL:=aA h.len;clear h
 cases a with
 | none=>
  have h0:n=0:=by
   by_cases h0:n=0
   ·exact h0
   ·obtain ⟨_,_,_,e,_⟩:=HF.out.get (k:=0) (by omega);cases e
  subst h0
  have hl:l=[]:=by have:=HL.out;cases l <;> simp_all
  subst hl
  have hq:=fun (w:World)=>Lib.run_eql_slice_nil (P:=Tryz.prog) w
  go_enter Tryz.func159,Tryz.ntmps159;go_wp2;go_ret;exact ⟨_,rfl,World.ownsRow_nil _ _ _ _,eX⟩
 | some ad=>
  have hq:∀ w,(Go.binOp .eql 47 (.slice (some ad) n cap) (.slice none 0 0)).run Tryz.prog w = .ok (.bool false) w:=fun w=>Lib.run_eql_slice_nil w _ _ _ _ _ _ _ Tryz.underlying47
  have hnews:∀ j u,(l.flatMap jA)[j]? = some u→(w.alloc (.cells #[] 143)).cell? (ad.add j)=some u:=by
   by_cases h0:n=0
   ·have hl:l=[]:=by have:=HL.out;cases l <;> simp_all
    subst hl;intro j u hj;simp at hj
   ·obtain ⟨b,o,x,e,hx,_⟩:=HF.out.get (k:=0) (by omega)
    cases e;exact Sl.cells (Sl.alloc HF.out _) (fun _=>rfl)
  have hone:∀ u∈l.flatMap jA,u.oneCell'=true:=by
   intro u hu;obtain ⟨y,_,hy⟩:=List.mem_flatMap.1 hu;simp only [jA,List.mem_cons,List.not_mem_nil,or_false] at hy
   rcases hy with rfl|rfl <;> rfl
  have HN:=aA hnews;have HO:=aA hone;clear hnews hone;go_enter Tryz.func159,Tryz.ntmps159;go_wp2_with (at_builtin;refine wpList_append_own _ rfl _ _ _ rfl w.heap.size 143 i0 _ 2 16 Tryz.underlying47 hi hz0 hz1 hz2 rfl (by decide) _ 0 [] rfl (xG w 143 2 0 #[] rfl (by decide)) ad n cap (l.flatMap jA) rfl (by rw [flat_len (c:=2) (fun _=>rfl),HL.out]) HN.out HO.out (by unfold maxLen;omega) (by omega) (by simp) ?_;intro v' w1 hown hgrow hnil;obtain ⟨o1,n1,rfl⟩:=uB (w:=w) eX hgrow (by intro k hk;cases hk;exact Nat.le_refl _));go_ret;exact ⟨_,rfl,by simpa using hown,eX⟩
structure eD (w0 w:World) (last:Int) (l:List Ch.Stay) (js:List Ch.Job) (v1 v2:Value):Prop where
 stays:w.ownsRow w0.heap.size 141 8 v1 l.length (l.flatMap gA)
 jobs:w.ownsRow w0.heap.size 143 2 v2 js.length (js.flatMap jA)
 apart:∀ k,v1.ownBlock=some k→v2.ownBlock≠some k
theorem eD.ext {w0 w w':World} {last:Int} {l:List Ch.Stay} {js:List Ch.Job} {v1 v2:Value} (h:eD w0 w last l js v1 v2) (x:Ext w w'):eD w0 w' last l js v1 v2:=by
 obtain ⟨o,n,rfl⟩:=x;exact ⟨kD h.stays o n,kD h.jobs o n,h.apart⟩
theorem pA {w:World} {base e size:Nat} {v:Value} {n:Nat} {xs:List Value} (h:w.ownsRow base e size v n xs) {a:Addr} (u:Value) (hn:v.ownBlock≠some a.block):(w.setCell a u).ownsRow base e size v n xs:=by
 refine ⟨h.1,?_⟩
 rcases h.2 with h2|⟨g,cap,cur,rfl,hb,hg,hnc,hc,hs,ht⟩
 ·exact .inl h2
 ·refine .inr ⟨g,cap,cur,rfl,hb,?_,hnc,hc,hs,ht⟩
  rw [dB]
  ·exact hg
  ·rintro rfl;exact hn rfl
theorem iD {w:World} {base e size:Nat} {v:Value} {n:Nat} {xs:List Value} (h:w.ownsRow base e size v n xs) {k:Nat} (hk:v.ownBlock=some k):base≤k∧k<w.heap.size:=h.lt k hk
theorem copy_any (last:Int) (a1:Option Addr) (m1 c1:Nat) (a2:Option Addr) (m2 c2:Nat) (l:List Ch.Stay) (js:List Ch.Job) (w:World) (h:Sl w 8 gA l a1 m1 c1) (h2:Sl w 2 jA js a2 m2 c2) (hm1:m1≤1000) (hm2:m2≤1000):
  Calls Tryz.prog 96 #[rB last a1 m1 c1 a2 m2 c2] w fun e w'=>∃ v1 v2,e = .returned (.agg #[vi last,v1,v2])∧eD w w' last l js v1 v2∧Ext w w':=by
 have HF:=aA h;have HJ:=aA h2;have E1:=aA h.len;have E2:=aA h2.len;clear h h2;go_enter Tryz.func96,Tryz.ntmps96
 go_upto_region 1 with fail
 go_region_with (first
  | (go_at_call 158;refine (cloneStay_any a1 m1 c1 l _ (Sl.below HF.out (Ext.below eX)) hm1).mono ?_;rintro e w1 ⟨v1,rfl,hown1,o1,n1,rfl⟩;obtain ⟨b1,d1,rfl,-⟩:=Sl.of_owns (c:=8) (enc:=gA) hown1 (by decide) (fun _=>rfl))
  | (go_at_call 159;refine (cloneJob_any a2 m2 c2 js _ (Sl.below HJ.out (Ext.below eX)) hm2).mono ?_;rintro e w2 ⟨v2,rfl,hown2,o2,n2,rfl⟩;obtain ⟨b2,d2,rfl,-⟩:=Sl.of_owns (c:=2) (enc:=jA) hown2 (by decide) (fun _=>rfl)))
 all_goals
  generalize hW:World.plus _ _ _=wq;have k0:wq.cell? ⟨w.heap.size,0,none⟩=some (vi last):=cQ hW;have k1:wq.cell? ⟨w.heap.size,1,none⟩=some (.slice a1 m1 c1):=cQ hW;have k2:wq.cell? ⟨w.heap.size,2,none⟩=some (.slice a2 m2 c2):=cQ hW;have r0:wq.cell? ⟨w.heap.size+1,0,none⟩=some (.int .i64 0):=cQ hW;have r1:wq.cell? ⟨w.heap.size+1,1,none⟩=some (.slice none 0 0):=cQ hW;have r2:wq.cell? ⟨w.heap.size+1,2,none⟩=some (.slice none 0 0):=cQ hW
  have fz:∀ i,wq.frozen? ⟨w.heap.size+1,i,none⟩=false:=by intro i;rw [←hW];simp [go_sem]
  have hx:Ext w wq:=xQ hW;have z:=dA r0
  have hap:∀ k,(Value.slice b1 m1 d1).ownBlock=some k→(Value.slice b2 m2 d2).ownBlock≠some k:=by
   intro k hk1 hk2;have q1:=(iD hown1 hk1).2;have q2:=(iD hown2 hk2).1;omega
  have g1:∀ k,(Value.slice b1 m1 d1).ownBlock=some k→w.heap.size+2≤k:=by
   intro k hk1;have q1:=(iD hown1 hk1).1;simp at q1;omega
  have g2:∀ k,(Value.slice b2 m2 d2).ownBlock=some k→w.heap.size+2≤k:=by
   intro k hk1;have q1:=(iD hown2 hk1).1;simp at q1;omega
  have hs1:wq.ownsRow w.heap.size 141 8 (.slice b1 m1 d1) m1 (l.flatMap gA):=by
   rw [←hW];exact rA (owns_more hown1 _ _) (by first|(simp;done)|(simp;omega))
  have hs2:wq.ownsRow w.heap.size 143 2 (.slice b2 m2 d2) m2 (js.flatMap jA):=by
   rw [←hW,←rC _ _ n1 _ _];exact rA hown2 (by first|(simp;done)|(simp;omega))
  have HAP:=aA hap;have G1:=aA g1;have G2:=aA g2;have HS1:=aA hs1;have HS2:=aA hs2;have HX:=aA hx;clear hW hown1 hown2 hap g1 g2 hs1 hs2 hx;go_wp2;refine bodyPost_ret (v:=.agg #[vi last,.slice b1 m1 d1,.slice b2 m2 d2]) (by simp [results,Tryz.results96,go_sem, *]) rfl ⟨_,_,rfl,⟨?_,?_,HAP.out⟩,?_⟩
  ·rw [E1.out]
   refine pA (pA (pA (pA (pA HS1.out _ ?_) _ ?_) _ ?_) _ ?_) _ ?_ <;> (intro e;have:=G1.out _ e;(try dsimp only at this);omega)
  ·rw [E2.out]
   refine pA (pA (pA (pA (pA HS2.out _ ?_) _ ?_) _ ?_) _ ?_) _ ?_ <;> (intro e;have:=G2.out _ e;(try dsimp only at this);omega)
  ·refine Ext.setCell (Ext.setCell (Ext.setCell (Ext.setCell (Ext.setCell HX.out ?_ _) ?_ _) ?_ _) ?_ _) ?_ _ <;> (dsimp only;omega)
theorem wD (x a b c:Int) (w:World):Calls Tryz.prog 93 #[.agg #[vi x,vi a,vi b,vi c]] w fun e w'=>e = .returned (kB (Ch.carFault ⟨x,⟨a,b,c⟩⟩))∧Ext w w':=by
 go_enter Tryz.func93,Tryz.ntmps93;go_wp2_with (go_at_call 87;(with_reducible refine (lI _ _ _ _).mono ?_);rintro e w1 ⟨rfl,o1,n1,rfl⟩)
 all_goals
  go_ret;go_light;refine ⟨?_,eX⟩;simp only [Ch.carFault]
  first|(rw [if_pos (by omega)];rfl)|(rw [if_neg (by omega)];rfl)|(rw [if_neg (by omega)])
theorem rcarFault_f (x a b c:Int) (w:World):Calls Tryz.prog 99 #[.agg #[vi x,vi a,vi b,vi c]] w fun e w'=>e = .returned (vi (Ch.carFault ⟨x,⟨a,b,c⟩⟩))∧Ext w w':=by
 go_enter Tryz.func99,Tryz.ntmps99;go_wp2_with (go_at_call 37;(with_reducible refine (kH _ _ _ _).mono ?_);rintro e w1 ⟨rfl,o1,n1,rfl⟩)
 all_goals
  go_ret;go_light;refine ⟨?_,eX⟩;simp only [Ch.carFault]
  first|(rw [if_pos (by omega)];rfl)|(rw [if_neg (by omega)];rfl)|(rw [if_neg (by omega)])
theorem levels_step {last s:Ch.Size} {l:List Ch.Size} {k:Nat} (hs:l[k]? = some s) (h0:Ch.sizeFault s=0) (h1:Ch.fits s last=true):Ch.levelsFaultFrom last (l.drop k)=Ch.levelsFaultFrom last (l.drop (k+1)):=by
 have hk:k<l.length:=by
  by_cases h:k<l.length
  ·exact h
  ·rw [List.getElem?_eq_none (by omega)] at hs;cases hs
 rw [List.drop_eq_getElem_cons hk];rw [List.getElem?_eq_getElem hk] at hs;cases hs;simp [Ch.levelsFaultFrom,h0,h1]
theorem levels_size {last s:Ch.Size} {l:List Ch.Size} {k:Nat} (hs:l[k]? = some s) (h0:Ch.sizeFault s=1):Ch.levelsFaultFrom last (l.drop k)=1:=by
 have hk:k<l.length:=by
  by_cases h:k<l.length
  ·exact h
  ·rw [List.getElem?_eq_none (by omega)] at hs;cases hs
 rw [List.drop_eq_getElem_cons hk];rw [List.getElem?_eq_getElem hk] at hs;cases hs;simp [Ch.levelsFaultFrom,h0]
theorem levels_fits {last s:Ch.Size} {l:List Ch.Size} {k:Nat} (hs:l[k]? = some s) (h0:Ch.sizeFault s=0) (h1:Ch.fits s last=false):Ch.levelsFaultFrom last (l.drop k)=3:=by
 have hk:k<l.length:=by
  by_cases h:k<l.length
  ·exact h
  ·rw [List.getElem?_eq_none (by omega)] at hs;cases hs
 rw [List.drop_eq_getElem_cons hk];rw [List.getElem?_eq_getElem hk] at hs;cases hs;simp [Ch.levelsFaultFrom,h0,h1]
theorem size_bad {s:Ch.Size} (h:¬ Ch.sizeFault s=0):Ch.sizeFault s=1:=by
 unfold Ch.sizeFault at *
 split <;> simp_all
theorem check_any (a:Option Addr) (n cap:Nat) (l:List Ch.Size) (w:World) (h:Sl w 3 lB l a n cap):Calls Tryz.prog 47 #[.slice a n cap] w fun e w'=>e = .returned (kB (Ch.levelsFault l))∧Ext w w':=by
 have b1:=h.bound;have e1:=h.len
 by_cases hn:1≤n∧n≤4
 ·obtain ⟨hn1,hn2⟩:=hn
  have HF:=aA h
  have HL:Hid (Ch.levelsFault l=Ch.levelsFaultFrom (l.getLastD default) l):=by unfold Hid Ch.levelsFault;rw [if_neg (by omega)]
  have E1:=aA e1;clear h e1;obtain ⟨p,o0,x0,rfl,_,d0⟩:=HF.out.get (k:=n - 1) (by omega);have q0:=dA (at3 d0).1;clear d0;obtain ⟨last,hlast,dl⟩:=HF.out.get' (k:=n - 1) (by omega)
  have HLast:Hid (l.getLastD default=last):=by
   unfold Hid;rw [List.getLastD_eq_getLast?,List.getLast?_eq_getElem?,E1.out,hlast];rfl
  have dl:=at3 dl
  have i1:((n:Int) - 1).toNat=n - 1:=by omega
  have i2:(0:Int)≤(n:Int) - 1:=by omega
  have i3:(n:Int) - 1<n:=by omega
  clear hlast;go_enter Tryz.func47,Tryz.ntmps47;go_wp2
  go_loopw [17] (fun i wr=>∃ k:Nat,k≤n∧i = .int .i64 k∧Hid (Ch.levelsFaultFrom last l=Ch.levelsFaultFrom last (l.drop k))∧Ext w wr) (fun i _=>n - (intOf i).toNat)
  case atStart=>exact ⟨0,by omega,rfl,by simp [Hid],eX⟩
  case round=>
   obtain ⟨k,hk,rfl,HT,o,m,rfl⟩:=hrel
   by_cases hlt:k<n
   ·obtain ⟨s,hs,ds⟩:=HF.out.get' hlt
    have ds:=at3 ds;have HS:=aA hs;clear hs
    by_cases h0:Ch.sizeFault s=0
    ·have H0:=aA h0
     have he:kB (Ch.sizeFault ⟨s.long,s.high,s.heavy⟩) = .nilIface:=by show kB (Ch.sizeFault s)=_;rw [h0];rfl
     clear h0;cases h1:Ch.fits s last
     ·have H1:=aA h1
      have hf:Ch.fits ⟨s.long,s.high,s.heavy⟩ ⟨last.long,last.high,last.heavy⟩=false:=h1;clear h1;go_wp2_with (go_at_call 87;(with_reducible refine (lI _ _ _ _).mono ?_);rintro e w1 ⟨rfl,o1,n1,rfl⟩)
      (refine fA kR kR ?_;(repeat (first|go_big_quiet_step ((intro _;go_at_call 88;exact qC (fits_f _ _ _ _ _ _ _)))|quiet_step (fail)));refine wpQuiet_nil ?_;rintro _ ⟨oq,nq,rfl⟩)
      go_wp2;go_ret;refine ⟨?_,eX⟩;rw [HL.out,HLast.out,HT.out,levels_fits HS.out H0.out H1.out];rfl
     ·have H1:=aA h1
      have hf:Ch.fits ⟨s.long,s.high,s.heavy⟩ ⟨last.long,last.high,last.heavy⟩=true:=h1;clear h1;go_wp2_with (go_at_call 87;(with_reducible refine (lI _ _ _ _).mono ?_);rintro e w1 ⟨rfl,o1,n1,rfl⟩)
      (refine fA kR kR ?_;(repeat (first|go_big_quiet_step ((intro _;go_at_call 88;exact qC (fits_f _ _ _ _ _ _ _)))|quiet_step (fail)));refine wpQuiet_nil ?_;rintro _ ⟨oq,nq,rfl⟩)
      go_wp2;go_roundw
      case rel=>exact ⟨k+1,by omega,by go_num,by unfold Hid;rw [HT.out,levels_step HS.out H0.out H1.out],eX⟩
      case measure=>simp [intOf];omega
    ·have H0:=aA (size_bad h0)
     have he:kB (Ch.sizeFault ⟨s.long,s.high,s.heavy⟩) = .iface 92 (vi 1):=by show kB (Ch.sizeFault s)=_;rw [size_bad h0];rfl
     clear h0;go_wp2_with (go_at_call 87;(with_reducible refine (lI _ _ _ _).mono ?_);rintro e w1 ⟨rfl,o1,n1,rfl⟩);go_ret;refine ⟨?_,eX⟩;rw [HL.out,HLast.out,HT.out,levels_size HS.out H0.out];rfl
   ·go_wp2
    go_ret;refine ⟨?_,eX⟩;rw [HL.out,HLast.out,HT.out,List.drop_of_length_le (by have:=E1.out;omega)];rfl
 ·have hl:Ch.levelsFault l=2:=by unfold Ch.levelsFault;rw [if_pos (by omega)]
  have HL:=aA hl
  have h2:n<1∨4<n:=by omega
  clear h e1 hn hl
  rcases h2 with h2|h2 <;>
  ·go_enter Tryz.func47,Tryz.ntmps47
   go_wp2;go_ret;refine ⟨?_,eX⟩;rw [HL.out];rfl
theorem rlevels_any (a:Option Addr) (n cap:Nat) (l:List Ch.Size) (w:World) (h:Sl w 3 lB l a n cap):Calls Tryz.prog 7 #[.slice a n cap] w fun e w'=>e = .returned (vi (Ch.levelsFault l))∧Ext w w':=by
 have b1:=h.bound;have e1:=h.len
 by_cases hn:1≤n∧n≤4
 ·obtain ⟨hn1,hn2⟩:=hn
  have HF:=aA h
  have HL:Hid (Ch.levelsFault l=Ch.levelsFaultFrom (l.getLastD default) l):=by unfold Hid Ch.levelsFault;rw [if_neg (by omega)]
  have E1:=aA e1;clear h e1;obtain ⟨p,o0,x0,rfl,_,d0⟩:=HF.out.get (k:=n - 1) (by omega);have q0:=dA (at3 d0).1;clear d0;obtain ⟨last,hlast,dl⟩:=HF.out.get' (k:=n - 1) (by omega)
  have HLast:Hid (l.getLastD default=last):=by
   unfold Hid;rw [List.getLastD_eq_getLast?,List.getLast?_eq_getElem?,E1.out,hlast];rfl
  have dl:=at3 dl
  have i1:((n:Int) - 1).toNat=n - 1:=by omega
  have i2:(0:Int)≤(n:Int) - 1:=by omega
  have i3:(n:Int) - 1<n:=by omega
  clear hlast;go_enter Tryz.func7,Tryz.ntmps7;go_wp2
  go_loopw [3] (fun i wr=>∃ k:Nat,k≤n∧i = .int .i64 k∧Hid (Ch.levelsFaultFrom last l=Ch.levelsFaultFrom last (l.drop k))∧Ext w wr) (fun i _=>n - (intOf i).toNat)
  case atStart=>exact ⟨0,by omega,rfl,by simp [Hid],eX⟩
  case round=>
   obtain ⟨k,hk,rfl,HT,o,m,rfl⟩:=hrel
   by_cases hlt:k<n
   ·obtain ⟨s,hs,ds⟩:=HF.out.get' hlt
    have ds:=at3 ds;have HS:=aA hs;clear hs
    by_cases h0:Ch.sizeFault s=0
    ·have H0:=aA h0
     have he:Ch.sizeFault ⟨s.long,s.high,s.heavy⟩=0:=h0;clear h0;cases h1:Ch.fits s last
     ·have H1:=aA h1
      have hf:Ch.fits ⟨s.long,s.high,s.heavy⟩ ⟨last.long,last.high,last.heavy⟩=false:=h1;clear h1;go_wp2_with (go_at_call 37;(with_reducible refine (kH _ _ _ _).mono ?_);rintro e w1 ⟨rfl,o1,n1,rfl⟩)
      (refine fA kR kR ?_;(repeat (first|go_big_quiet_step ((intro _;go_at_call 38;exact qC (rfits_f _ _ _ _ _ _ _)))|quiet_step (fail)));refine wpQuiet_nil ?_;rintro _ ⟨oq,nq,rfl⟩)
      go_wp2;go_ret;refine ⟨?_,eX⟩;rw [HL.out,HLast.out,HT.out,levels_fits HS.out H0.out H1.out];rfl
     ·have H1:=aA h1
      have hf:Ch.fits ⟨s.long,s.high,s.heavy⟩ ⟨last.long,last.high,last.heavy⟩=true:=h1;clear h1;go_wp2_with (go_at_call 37;(with_reducible refine (kH _ _ _ _).mono ?_);rintro e w1 ⟨rfl,o1,n1,rfl⟩)
      (refine fA kR kR ?_;(repeat (first|go_big_quiet_step ((intro _;go_at_call 38;exact qC (rfits_f _ _ _ _ _ _ _)))|quiet_step (fail)));refine wpQuiet_nil ?_;rintro _ ⟨oq,nq,rfl⟩)
      go_wp2;go_roundw
      case rel=>exact ⟨k+1,by omega,by go_num,by unfold Hid;rw [HT.out,levels_step HS.out H0.out H1.out],eX⟩
      case measure=>simp [intOf];omega
    ·have H0:=aA (size_bad h0)
     have he:Ch.sizeFault ⟨s.long,s.high,s.heavy⟩=1:=size_bad h0;clear h0;go_wp2_with (go_at_call 37;(with_reducible refine (kH _ _ _ _).mono ?_);rintro e w1 ⟨rfl,o1,n1,rfl⟩);go_ret;refine ⟨?_,eX⟩;rw [HL.out,HLast.out,HT.out,levels_size HS.out H0.out];rfl
   ·go_wp2
    go_ret;refine ⟨?_,eX⟩;rw [HL.out,HLast.out,HT.out,List.drop_of_length_le (by have:=E1.out;omega)];rfl
 ·have hl:Ch.levelsFault l=2:=by unfold Ch.levelsFault;rw [if_pos (by omega)]
  have HL:=aA hl
  have h2:n<1∨4<n:=by omega
  clear h e1 hn hl
  rcases h2 with h2|h2 <;>
  ·go_enter Tryz.func7,Tryz.ntmps7
   go_wp2;go_ret;refine ⟨?_,eX⟩;rw [HL.out];rfl
theorem infoPlace:(Tryz.prog.info? 89).map (fun i=>(i.zero,i.size,i.bytes))=some (some (.agg #[.int .i64 0,.int .i64 0,.int .i64 0]),3,24):=by kernel_rfl
def dE (w:World) (l:List Ch.Place) (e:Ending) (w':World):Prop:=∃ v,e = .returned v∧w'.ownsRow w.heap.size 89 3 v l.length (l.flatMap zC)∧Ext w w'
theorem dE.sl {w:World} {l:List Ch.Place} {e:Ending} {w':World} (h:dE w l e w'):∃ a n c,e = .returned (.slice a n c)∧Sl w' 3 zC l a n c∧Ext w w':=by
 obtain ⟨v,rfl,ho,hx⟩:=h;obtain ⟨a,c,rfl,hs⟩:=Sl.of_owns ho (by decide) (fun x=>rfl);exact ⟨a,_,c,rfl,hs,hx⟩
theorem placesFrom_step (levels:Int) (k:Nat) (n:Int):Ch.placesFrom levels (k+1) n=Ch.placesOf levels n++Ch.placesFrom levels k (n+1):=rfl
def dD (w:World) (levels n:Int) (v:Value) (wr:World):Prop:=∃ L,1≤n∧n≤levels+1∧L.length≤4 * (n - 1).toNat∧L++Ch.placesFrom levels (levels+1 - n).toNat n=Ch.places levels ∧
 wr.ownsRow w.heap.size 89 3 v L.length (L.flatMap zC)∧Ext w wr
theorem dD.start (w:World) (levels:Int) (h1:1≤levels) (o:Array Obj) (m:Nat):dD w levels 1 (.slice none 0 0) (w.plus o m):=
 ⟨[],by omega,by omega,by simp,by simp [Ch.places],World.ownsRow_nil _ _ _ _,by simp⟩
theorem dD.start' (w:World) (levels:Int) (h1:1≤levels):dD w levels 1 (.slice none 0 0) w:=
 ⟨[],by omega,by omega,by simp,by simp [Ch.places],World.ownsRow_nil _ _ _ _,by simp⟩
theorem dD.step {w:World} {levels n:Int} {L:List Ch.Place} (v':Value) (wr':World) (hn:1≤n) (hl:n≤levels) (hL:L.length≤4 * (n - 1).toNat) (he:L++Ch.placesFrom levels (levels+1 - n).toNat n=Ch.places levels) (new:List Ch.Place)
  (hnew:new=Ch.placesOf levels n) (k:Nat) (hk:k=(L++new).length) (xs:List Value) (hxs:xs=(L++new).flatMap zC) (ho:wr'.ownsRow w.heap.size 89 3 v' k xs) (hx:Ext w wr'):dD w levels (n+1) v' wr':=by
 subst hk hxs
 have h4:new.length≤4:=by rw [hnew];unfold Ch.placesOf;split <;> simp
 refine ⟨L++new,by omega,by omega,?_,?_,ho,hx⟩
 ·rw [List.length_append];omega
 ·rw [←he,hnew,List.append_assoc,show (levels+1 - n).toNat=(levels+1 - (n+1)).toNat+1 by omega,placesFrom_step]
theorem oG (levels:Int) (w:World) (h1:1≤levels) (h2:levels≤4):Calls Tryz.prog 155 #[vi levels] w (dE w (Ch.places levels)):=by
 obtain ⟨i0,hi,hz0,hz1,hz2⟩:=info_parts infoPlace;go_enter Tryz.func155,Tryz.ntmps155;go_wp2
 go_loopw [3,4] (fun v n wr=>∃ k:Int,n = .int .i64 k∧dD w levels k v wr) (fun _ n _=>(levels+1 - intOf n).toNat)
 case atStart=>exact ⟨1,rfl,dD.start' w levels h1⟩
 case round=>
  obtain ⟨k,rfl,L,hk1,hk2,hL,he,hown,o,m,rfl⟩:=hrel;have HE:=aA he;clear he
  by_cases hkl:k≤levels
  ·by_cases heq:k=levels
   ·have HQ:=aA heq
    have B1:(k==levels)=true:=by simp [heq]
    clear heq;go_wp2
    (refine wp_loop_rounds 3 ?_;(repeat any_goals (rw [rounds_succ];go_wp2_with (at_builtin;refine wpList_append_lies _ rfl _ _ _ rfl w.heap.size 89 i0 _ 3 24 Tryz.underlying219 hi hz0 hz1 hz2 rfl (by decide) _ _ _ rfl (fB (by assumption) _) _ 2 2 [vi k,vi 0,vi 1,vi k,vi 0,vi 0] rfl rfl (World.news_of_block (sA _ _ _ (by simp))) (by simp [Value.oneCell']) (by decide) (by unfold maxLen;(try simp only [List.length_append,List.length_cons,List.length_nil]);omega) (by (try simp only [List.length_append,List.length_cons,List.length_nil]);omega) (by first|omega|(simp;done)|(simp;omega)) _ rfl ?_;intro gg cap w3 hown3 hgrow hat hlt;obtain ⟨o3,n3,rfl⟩:=uB (w:=w) eX hgrow (uA (by assumption))))))
    go_roundw
    case rel => 
     refine ⟨k+1,by go_num,dD.step _ _ hk1 hkl hL HE.out [⟨k,0,1⟩,⟨k,0,0⟩] (by have:=HQ.out;unfold Ch.placesOf;rw [if_neg (by omega)]) _ ?_ _ ?_ (by assumption) eX⟩
     ·simp
     ·simp [zC]
    case measure=>simp [intOf];omega
   ·have HQ:=aA heq
    have B1:(k==levels)=false:=by simp [heq]
    clear heq;go_wp2
    (refine wp_loop_rounds 3 ?_;(repeat any_goals (rw [rounds_succ];go_wp2_with (first|(at_builtin;refine wpList_append_lies _ rfl _ _ _ rfl w.heap.size 89 i0 _ 3 24 Tryz.underlying219 hi hz0 hz1 hz2 rfl (by decide) _ _ _ rfl (fB (by assumption) _) _ 2 2 [vi k,vi 0,vi 1,vi k,vi 0,vi 0] rfl rfl (World.news_of_block (sA _ _ _ (by simp))) (by simp [Value.oneCell']) (by decide) (by unfold maxLen;(try simp only [List.length_append,List.length_cons,List.length_nil]);omega) (by (try simp only [List.length_append,List.length_cons,List.length_nil]);omega) (by first|omega|(simp;done)|(simp;omega)) _ rfl ?_;intro gg cap w3 hown3 hgrow hat hlt;obtain ⟨o3,n3,rfl⟩:=uB (w:=w) eX hgrow (uA (by assumption)))|(at_builtin;refine wpList_append_lies _ rfl _ _ _ rfl w.heap.size 89 i0 _ 3 24 Tryz.underlying219 hi hz0 hz1 hz2 rfl (by decide) _ _ _ rfl (fB (by assumption) _) _ 2 2 [vi k,vi 1,vi 1,vi k,vi 1,vi 0] rfl rfl (World.news_of_block (sA _ _ _ (by simp))) (by simp [Value.oneCell']) (by decide) (by unfold maxLen;(try simp only [List.length_append,List.length_cons,List.length_nil]);omega) (by (try simp only [List.length_append,List.length_cons,List.length_nil]);omega) (by first|omega|(simp;done)|(simp;omega)) _ rfl ?_;intro gg cap w3 hown3 hgrow hat hlt;obtain ⟨o3,n3,rfl⟩:=uB (w:=w) eX hgrow (uA (by assumption)))))))
    go_roundw
    case rel => 
     refine ⟨k+1,by go_num,dD.step _ _ hk1 hkl hL HE.out [⟨k,0,1⟩,⟨k,0,0⟩,⟨k,1,1⟩,⟨k,1,0⟩] (by have:=HQ.out;unfold Ch.placesOf;rw [if_pos (by omega)]) _ ?_ _ ?_ (by assumption) eX⟩
     ·simp
     ·simp [zC]
    case measure=>simp [intOf];omega
  ·have hkk:k=levels+1:=by omega
   have HQ:=aA hkk;clear hkk;go_wp2;go_ret
   have hL:L=Ch.places levels:=by
    have h:=HE.out;rw [HQ.out] at h
    simpa [Ch.placesFrom] using h
   exact ⟨_,rfl,hL▸hown,eX⟩
theorem rplaces_any (levels:Int) (w:World) (h1:1≤levels) (h2:levels≤4):Calls Tryz.prog 162 #[vi levels] w (dE w (Ch.places levels)):=by
 obtain ⟨i0,hi,hz0,hz1,hz2⟩:=info_parts infoPlace;go_enter Tryz.func162,Tryz.ntmps162;go_wp2
 go_loopw [3,4] (fun v n wr=>∃ k:Int,n = .int .i64 k∧dD w levels k v wr) (fun _ n _=>(levels+1 - intOf n).toNat)
 case atStart=>exact ⟨1,rfl,dD.start' w levels h1⟩
 case round=>
  obtain ⟨k,rfl,L,hk1,hk2,hL,he,hown,o,m,rfl⟩:=hrel;have HE:=aA he;clear he
  by_cases hkl:k≤levels
  ·by_cases heq:levels≤k
   ·go_wp2
    (refine wp_loop_rounds 3 ?_;(repeat any_goals (rw [rounds_succ];go_wp2_with (first|(at_builtin;refine wpList_append_lies _ rfl _ _ _ rfl w.heap.size 89 i0 _ 3 24 Tryz.underlying219 hi hz0 hz1 hz2 rfl (by decide) _ _ _ rfl (fB (by assumption) _) _ 1 1 [vi k,vi 0,vi 1] rfl rfl (World.news_of_block (sA _ _ _ (by simp))) (by simp [Value.oneCell']) (by decide) (by unfold maxLen;(try simp only [List.length_append,List.length_cons,List.length_nil]);omega) (by (try simp only [List.length_append,List.length_cons,List.length_nil]);omega) (by first|omega|(simp;done)|(simp;omega)) _ rfl ?_;intro gg cap w3 hown3 hgrow hat hlt;obtain ⟨o3,n3,rfl⟩:=uB (w:=w) eX hgrow (uA (by assumption)))|(at_builtin;refine wpList_append_lies _ rfl _ _ _ rfl w.heap.size 89 i0 _ 3 24 Tryz.underlying219 hi hz0 hz1 hz2 rfl (by decide) _ _ _ rfl (fB (by assumption) _) _ 1 1 [vi k,vi 0,vi 0] rfl rfl (World.news_of_block (sA _ _ _ (by simp))) (by simp [Value.oneCell']) (by decide) (by unfold maxLen;(try simp only [List.length_append,List.length_cons,List.length_nil]);omega) (by (try simp only [List.length_append,List.length_cons,List.length_nil]);omega) (by first|omega|(simp;done)|(simp;omega)) _ rfl ?_;intro gg cap w3 hown3 hgrow hat hlt;obtain ⟨o3,n3,rfl⟩:=uB (w:=w) eX hgrow (uA (by assumption)))))))
    go_roundw
    case rel=>
     refine ⟨k+1,by go_num,dD.step _ _ hk1 hkl hL HE.out [⟨k,0,1⟩,⟨k,0,0⟩] (by unfold Ch.placesOf;rw [if_neg (by omega)]) _ ?_ _ ?_ (by assumption) eX⟩
     ·simp
     ·simp [zC]
    case measure=>simp [intOf];omega
   ·go_wp2
    (refine wp_loop_rounds 3 ?_;(repeat any_goals (rw [rounds_succ];go_wp2_with (first|(at_builtin;refine wpList_append_lies _ rfl _ _ _ rfl w.heap.size 89 i0 _ 3 24 Tryz.underlying219 hi hz0 hz1 hz2 rfl (by decide) _ _ _ rfl (fB (by assumption) _) _ 1 1 [vi k,vi 0,vi 1] rfl rfl (World.news_of_block (sA _ _ _ (by simp))) (by simp [Value.oneCell']) (by decide) (by unfold maxLen;(try simp only [List.length_append,List.length_cons,List.length_nil]);omega) (by (try simp only [List.length_append,List.length_cons,List.length_nil]);omega) (by first|omega|(simp;done)|(simp;omega)) _ rfl ?_;intro gg cap w3 hown3 hgrow hat hlt;obtain ⟨o3,n3,rfl⟩:=uB (w:=w) eX hgrow (uA (by assumption)))|(at_builtin;refine wpList_append_lies _ rfl _ _ _ rfl w.heap.size 89 i0 _ 3 24 Tryz.underlying219 hi hz0 hz1 hz2 rfl (by decide) _ _ _ rfl (fB (by assumption) _) _ 1 1 [vi k,vi 0,vi 0] rfl rfl (World.news_of_block (sA _ _ _ (by simp))) (by simp [Value.oneCell']) (by decide) (by unfold maxLen;(try simp only [List.length_append,List.length_cons,List.length_nil]);omega) (by (try simp only [List.length_append,List.length_cons,List.length_nil]);omega) (by first|omega|(simp;done)|(simp;omega)) _ rfl ?_;intro gg cap w3 hown3 hgrow hat hlt;obtain ⟨o3,n3,rfl⟩:=uB (w:=w) eX hgrow (uA (by assumption)))|(at_builtin;refine wpList_append_lies _ rfl _ _ _ rfl w.heap.size 89 i0 _ 3 24 Tryz.underlying219 hi hz0 hz1 hz2 rfl (by decide) _ _ _ rfl (fB (by assumption) _) _ 1 1 [vi k,vi 1,vi 1] rfl rfl (World.news_of_block (sA _ _ _ (by simp))) (by simp [Value.oneCell']) (by decide) (by unfold maxLen;(try simp only [List.length_append,List.length_cons,List.length_nil]);omega) (by (try simp only [List.length_append,List.length_cons,List.length_nil]);omega) (by first|omega|(simp;done)|(simp;omega)) _ rfl ?_;intro gg cap w3 hown3 hgrow hat hlt;obtain ⟨o3,n3,rfl⟩:=uB (w:=w) eX hgrow (uA (by assumption)))|(at_builtin;refine wpList_append_lies _ rfl _ _ _ rfl w.heap.size 89 i0 _ 3 24 Tryz.underlying219 hi hz0 hz1 hz2 rfl (by decide) _ _ _ rfl (fB (by assumption) _) _ 1 1 [vi k,vi 1,vi 0] rfl rfl (World.news_of_block (sA _ _ _ (by simp))) (by simp [Value.oneCell']) (by decide) (by unfold maxLen;(try simp only [List.length_append,List.length_cons,List.length_nil]);omega) (by (try simp only [List.length_append,List.length_cons,List.length_nil]);omega) (by first|omega|(simp;done)|(simp;omega)) _ rfl ?_;intro gg cap w3 hown3 hgrow hat hlt;obtain ⟨o3,n3,rfl⟩:=uB (w:=w) eX hgrow (uA (by assumption)))))))
    go_roundw
    case rel=>
     refine ⟨k+1,by go_num,dD.step _ _ hk1 hkl hL HE.out [⟨k,0,1⟩,⟨k,0,0⟩,⟨k,1,1⟩,⟨k,1,0⟩] (by unfold Ch.placesOf;rw [if_pos (by omega)]) _ ?_ _ ?_ (by assumption) eX⟩
     ·simp
     ·simp [zC]
    case measure=>simp [intOf];omega
  ·have hkk:k=levels+1:=by omega
   have HQ:=aA hkk;clear hkk;go_wp2;go_ret
   have hL:L=Ch.places levels:=by
    have h:=HE.out;rw [HQ.out] at h
    simpa [Ch.placesFrom] using h
   exact ⟨_,rfl,hL▸hown,eX⟩
