import Derived.Test.YtplomeacjbkgnabGreatDoorZ05
import Derived.WalkSpells
set_option linter.all false
set_option maxRecDepth 100000
set_option maxHeartbeats 16000000
namespace Go.Proofs.YtplomeacjbkgnabGreatDoor
open Go.RowKit Tryz Ch
theorem flat_at {α:Type} {enc:α->List Value} {c:Nat} (he:∀ x,(enc x).length=c):∀ {l:List α} {j:Nat} {u:Value},(l.flatMap enc)[j]? = some u->∃ i x r,l[i]? = some x/\(enc x)[r]? = some u/\j=i * c+r
 | [],j,u,h=>by simp at h
 | y :: l,j,u,h=>by
  simp only [List.flatMap_cons] at h
  by_cases hj:j<c
  ·rw [List.getElem?_append_left (by rw [he];exact hj)] at h
   exact ⟨0,y,j,rfl,h,sp⟩
  ·rw [List.getElem?_append_right (by rw [he];omega),he] at h
   obtain ⟨i,x,r,h1,h2,h3⟩:=flat_at he h;exact ⟨i+1,x,r,h1,h2,by rw [Nat.add_mul];omega⟩
theorem Sl.cells {α:Type} {w:World} {c:Nat} {enc:α->List Value} {l:List α} {b o n cap:Nat} (h:Sl w c enc l (some ⟨b,o,none⟩) n cap) (he:∀ x,(enc x).length=c):
  ∀ j u,(l.flatMap enc)[j]? = some u->w.cell? ((⟨b,o,none⟩:Addr).add j)=some u:=by
 intro j u hu;obtain ⟨i,x,r,h1,h2,rfl⟩:=flat_at he hu
 have hi:i<n:=by
  have:=h.len
  by_cases hi:i<l.length
  ·omega
  ·rw [List.getElem?_eq_none om] at h1;cases h1
 obtain ⟨x',hx',f⟩:=h.get' hi;obtain rfl:x'=x:=Option.some.inj (hx'.symm.trans h1);have:=f r u h2
 have e:(⟨b,o,none⟩:Addr).add (i * c+r)=⟨b,o+i * c+r,none⟩:=by
  unfold Addr.add
  split <;> simp_all <;> omega
 rw [e];exact this
theorem flat_len {α:Type} {enc:α->List Value} {c:Nat} (he:∀ x,(enc x).length=c) (l:List α):(l.flatMap enc).length=l.length * c:=by
 induction l with
 | nil=>simp
 | cons x l ih=>simp [ih,he,Nat.add_mul];omega
theorem infoStay:(prog.info? 141).map (fun i=>(i.zero,i.size,i.bytes))=some (some (.agg #[vi 0,vi 0,vi 0,vi 0,vi 0,vi 0,vi 0,vi 0]),8,64):=by kernel_rfl
theorem kO:(prog.info? 143).map (fun i=>(i.zero,i.size,i.bytes))=some (some (.agg #[vi 0,.bool false]),2,16):=by kernel_rfl
theorem cloneStay_any (a:Option Addr) (n cap:Nat) (l:List sA) (w:World) (h:Sl w 8 iA l a n cap) (hn:n<=1000):
  Calls prog 158 #[.slice a n cap] w fun e w'=>∃ v,e = .returned v/\w'.ownsRow w.heap.size 141 8 v n (l.flatMap iA)/\Ext w w':=by
 obtain ⟨i0,hi,hz0,hz1,hz2⟩:=info_parts infoStay;have hb:=h.bound;have HF:=aA h;have HL:=aA h.len;clear h
 cases a with
 | none=>
  have h0:n=0:=by
   by_cases h0:n=0
   ·exact h0
   ·obtain ⟨_,_,_,e,_⟩:=HF.out.get (k:=0) om;cases e
  subst h0
  have hl:l=[]:=by have:=HL.out;cases l <;> simp_all
  subst hl
  have hq:=fun (w:World)=>Lib.run_eql_slice_nil (P:=prog) w
  go_enter func158,ntmps158;go_wp2;go_ret;exact ⟨_,rfl,World.ownsRow_nil _ _ _ _,eX⟩
 | some ad=>
  have hq:∀ w,(Go.binOp .eql 46 (.slice (some ad) n cap) (.slice none 0 0)).run prog w = .ok (.bool false) w:=fun w=>Lib.run_eql_slice_nil w _ _ _ _ _ _ _ underlying46
  have hnews:∀ j u,(l.flatMap iA)[j]? = some u->(w.alloc (.cells #[] 141)).cell? (ad.add j)=some u:=by
   by_cases h0:n=0
   ·have hl:l=[]:=by have:=HL.out;cases l <;> simp_all
    subst hl;intro j u hj;simp at hj
   ·obtain ⟨b,o,x,e,hx,_⟩:=HF.out.get (k:=0) om
    cases e;exact Sl.cells (Sl.alloc HF.out _) (fun _=>rfl)
  have hone:∀ u∈l.flatMap iA,u.oneCell'=true:=by
   intro u hu;obtain ⟨y,_,hy⟩:=List.mem_flatMap.1 hu;simp only [iA,List.mem_cons,List.not_mem_nil,or_false] at hy
   rcases hy with rfl|rfl|rfl|rfl|rfl|rfl|rfl|rfl <;> rfl
  have HN:=aA hnews;have HO:=aA hone;clear hnews hone;go_enter func158,ntmps158;go_wp2_with (at_builtin;refine wpList_append_own _ rfl _ _ _ rfl w.heap.size 141 i0 _ 8 64 underlying46 hi hz0 hz1 hz2 rfl dc _ 0 [] rfl (iM w 141 8 0 #[] rfl dc) ad n cap (l.flatMap iA) rfl (by rw [flat_len (c:=8) (fun _=>rfl),HL.out]) HN.out HO.out (by unfold maxLen;omega) om sp ?_;intro v' w1 hown hgrow hnil;obtain ⟨o1,n1,rfl⟩:=vB (w:=w) eX hgrow (by intro k hk;cases hk;exact Nat.le_refl _));go_ret;exact ⟨_,rfl,by simpa using hown,eX⟩
theorem cloneJob_any (a:Option Addr) (n cap:Nat) (l:List Job) (w:World) (h:Sl w 2 jA l a n cap) (hn:n<=1000):
  Calls prog 159 #[.slice a n cap] w fun e w'=>∃ v,e = .returned v/\w'.ownsRow w.heap.size 143 2 v n (l.flatMap jA)/\Ext w w':=by
 obtain ⟨i0,hi,hz0,hz1,hz2⟩:=info_parts kO;have hb:=h.bound;have HF:=aA h;have HL:=aA h.len;clear h
 cases a with
 | none=>
  have h0:n=0:=by
   by_cases h0:n=0
   ·exact h0
   ·obtain ⟨_,_,_,e,_⟩:=HF.out.get (k:=0) om;cases e
  subst h0
  have hl:l=[]:=by have:=HL.out;cases l <;> simp_all
  subst hl
  have hq:=fun (w:World)=>Lib.run_eql_slice_nil (P:=prog) w
  go_enter func159,ntmps159;go_wp2;go_ret;exact ⟨_,rfl,World.ownsRow_nil _ _ _ _,eX⟩
 | some ad=>
  have hq:∀ w,(Go.binOp .eql 47 (.slice (some ad) n cap) (.slice none 0 0)).run prog w = .ok (.bool false) w:=fun w=>Lib.run_eql_slice_nil w _ _ _ _ _ _ _ underlying47
  have hnews:∀ j u,(l.flatMap jA)[j]? = some u->(w.alloc (.cells #[] 143)).cell? (ad.add j)=some u:=by
   by_cases h0:n=0
   ·have hl:l=[]:=by have:=HL.out;cases l <;> simp_all
    subst hl;intro j u hj;simp at hj
   ·obtain ⟨b,o,x,e,hx,_⟩:=HF.out.get (k:=0) om
    cases e;exact Sl.cells (Sl.alloc HF.out _) (fun _=>rfl)
  have hone:∀ u∈l.flatMap jA,u.oneCell'=true:=by
   intro u hu;obtain ⟨y,_,hy⟩:=List.mem_flatMap.1 hu;simp only [jA,List.mem_cons,List.not_mem_nil,or_false] at hy
   rcases hy with rfl|rfl <;> rfl
  have HN:=aA hnews;have HO:=aA hone;clear hnews hone;go_enter func159,ntmps159;go_wp2_with (at_builtin;refine wpList_append_own _ rfl _ _ _ rfl w.heap.size 143 i0 _ 2 16 underlying47 hi hz0 hz1 hz2 rfl dc _ 0 [] rfl (iM w 143 2 0 #[] rfl dc) ad n cap (l.flatMap jA) rfl (by rw [flat_len (c:=2) (fun _=>rfl),HL.out]) HN.out HO.out (by unfold maxLen;omega) om sp ?_;intro v' w1 hown hgrow hnil;obtain ⟨o1,n1,rfl⟩:=vB (w:=w) eX hgrow (by intro k hk;cases hk;exact Nat.le_refl _));go_ret;exact ⟨_,rfl,by simpa using hown,eX⟩
structure mF (w0 w:World) (last:Int) (l:List sA) (js:List Job) (v1 v2:Value):Prop where
 stays:w.ownsRow w0.heap.size 141 8 v1 l.length (l.flatMap iA)
 jobs:w.ownsRow w0.heap.size 143 2 v2 js.length (js.flatMap jA)
 apart:∀ k,v1.ownBlock=some k->v2.ownBlock≠some k
theorem mF.ext {w0 w w':World} {last:Int} {l:List sA} {js:List Job} {v1 v2:Value} (h:mF w0 w last l js v1 v2) (x:Ext w w'):mF w0 w' last l js v1 v2:=by
 obtain ⟨o,n,rfl⟩:=x;exact ⟨vF h.stays o n,vF h.jobs o n,h.apart⟩
theorem lA {w:World} {base e size:Nat} {v:Value} {n:Nat} {xs:List Value} (h:w.ownsRow base e size v n xs) {a:Addr} (u:Value) (hn:v.ownBlock≠some a.block):(w.setCell a u).ownsRow base e size v n xs:=by
 refine ⟨h.1,?_⟩
 rcases h.2 with h2|⟨g,cap,cur,rfl,hb,hg,hnc,hc,hs,ht⟩
 ·exact .inl h2
 ·refine .inr ⟨g,cap,cur,rfl,hb,?_,hnc,hc,hs,ht⟩
  rw [kB]
  ·exact hg
  ·rintro rfl;exact hn rfl
theorem rE {w:World} {base e size:Nat} {v:Value} {n:Nat} {xs:List Value} (h:w.ownsRow base e size v n xs) {k:Nat} (hk:v.ownBlock=some k):base<=k/\k<w.heap.size:=h.lt k hk
theorem copy_any (last:Int) (a1:Option Addr) (m1 c1:Nat) (a2:Option Addr) (m2 c2:Nat) (l:List sA) (js:List Job) (w:World) (h:Sl w 8 iA l a1 m1 c1) (h2:Sl w 2 jA js a2 m2 c2) (hm1:m1<=1000) (hm2:m2<=1000):
  Calls prog 96 #[lC last a1 m1 c1 a2 m2 c2] w fun e w'=>∃ v1 v2,e = .returned (.agg #[vi last,v1,v2])/\mF w w' last l js v1 v2/\Ext w w':=by
 have HF:=aA h;have HJ:=aA h2;have E1:=aA h.len;have E2:=aA h2.len;clear h h2;go_enter func96,ntmps96
 go_upto_region 1 with fail
 go_region_with (first
  | (go_at_call 158;refine (cloneStay_any a1 m1 c1 l _ (Sl.below HF.out (Ext.below eX)) hm1).mono ?_;rintro e w1 ⟨v1,rfl,hown1,o1,n1,rfl⟩;obtain ⟨b1,d1,rfl,-⟩:=Sl.of_owns (c:=8) (enc:=iA) hown1 dc (fun _=>rfl))
  | (go_at_call 159;refine (cloneJob_any a2 m2 c2 js _ (Sl.below HJ.out (Ext.below eX)) hm2).mono ?_;rintro e w2 ⟨v2,rfl,hown2,o2,n2,rfl⟩;obtain ⟨b2,d2,rfl,-⟩:=Sl.of_owns (c:=2) (enc:=jA) hown2 dc (fun _=>rfl)))
 all_goals
  generalize hW:World.plus _ _ _=wq;have k0:cI wq w.heap.size 0 last:=cQ hW;have k1:cV wq w.heap.size 1 (.slice a1 m1 c1):=cQ hW;have k2:cV wq w.heap.size 2 (.slice a2 m2 c2):=cQ hW;have r0:cV wq (w.heap.size+1) 0 (.int .i64 0):=cQ hW;have r1:cV wq (w.heap.size+1) 1 (.slice none 0 0):=cQ hW;have r2:cV wq (w.heap.size+1) 2 (.slice none 0 0):=cQ hW
  have fz:∀ i,wq.frozen? ⟨w.heap.size+1,i,none⟩=false:=by intro i;rw [<-hW];simp [go_sem]
  have hx:Ext w wq:=xQ hW;have z:=cA r0
  have hap:∀ k,(Value.slice b1 m1 d1).ownBlock=some k->(Value.slice b2 m2 d2).ownBlock≠some k:=by
   intro k hk1 hk2;have q1:=(rE hown1 hk1).2;have q2:=(rE hown2 hk2).1;omega
  have g1:∀ k,(Value.slice b1 m1 d1).ownBlock=some k->w.heap.size+2<=k:=by
   intro k hk1;have q1:=(rE hown1 hk1).1;simp at q1;omega
  have g2:∀ k,(Value.slice b2 m2 d2).ownBlock=some k->w.heap.size+2<=k:=by
   intro k hk1;have q1:=(rE hown2 hk1).1;simp at q1;omega
  have hs1:wq.ownsRow w.heap.size 141 8 (.slice b1 m1 d1) m1 (l.flatMap iA):=by
   rw [<-hW];exact mA (owns_more hown1 _ _) so
  have hs2:wq.ownsRow w.heap.size 143 2 (.slice b2 m2 d2) m2 (js.flatMap jA):=by
   rw [<-hW,<-lE _ _ n1 _ _];exact mA hown2 so
  have HAP:=aA hap;have G1:=aA g1;have G2:=aA g2;have HS1:=aA hs1;have HS2:=aA hs2;have HX:=aA hx;clear hW hown1 hown2 hap g1 g2 hs1 hs2 hx;go_wp2;refine bodyPost_ret (v:=.agg #[vi last,.slice b1 m1 d1,.slice b2 m2 d2]) (by simp [results,results96,go_sem, *]) rfl ⟨_,_,rfl,⟨?_,?_,HAP.out⟩,?_⟩
  ·rw [E1.out]
   refine lA (lA (lA (lA (lA HS1.out _ ?_) _ ?_) _ ?_) _ ?_) _ ?_ <;> (intro e;have:=G1.out _ e;(try dsimp only at this);omega)
  ·rw [E2.out]
   refine lA (lA (lA (lA (lA HS2.out _ ?_) _ ?_) _ ?_) _ ?_) _ ?_ <;> (intro e;have:=G2.out _ e;(try dsimp only at this);omega)
  ·refine Ext.setCell (Ext.setCell (Ext.setCell (Ext.setCell (Ext.setCell HX.out ?_ _) ?_ _) ?_ _) ?_ _) ?_ _ <;> (dsimp only;omega)
theorem qG (x a b c:Int) (w:World):Calls prog 93 #[.agg #[vi x,vi a,vi b,vi c]] w fun e w'=>e = .returned (aC (gC ⟨x,⟨a,b,c⟩⟩))/\Ext w w':=by
 go_enter func93,ntmps93;go_wp2_with (go_at_call 87;with_reducible refine mo (iN _ _ _ _) fun o1 n1=>?_)
 all_goals
  go_ret;go_light;refine ⟨?_,eX⟩;simp only [gC]
  first|(rw [if_pos om];rfl)|(rw [if_neg om];rfl)|(rw [if_neg om])
theorem rcarFault_f (x a b c:Int) (w:World):Calls prog 99 #[.agg #[vi x,vi a,vi b,vi c]] w fun e w'=>e = .returned (vi (gC ⟨x,⟨a,b,c⟩⟩))/\Ext w w':=by
 go_enter func99,ntmps99;go_wp2_with (go_at_call 37;with_reducible refine mo (pL _ _ _ _) fun o1 n1=>?_)
 all_goals
  go_ret;go_light;refine ⟨?_,eX⟩;simp only [gC]
  first|(rw [if_pos om];rfl)|(rw [if_neg om];rfl)|(rw [if_neg om])
theorem levels_step {last s:dD} {l:List dD} {k:Nat} (hs:l[k]? = some s) (h0:iC s=0) (h1:pM s last=true):uB last (l.drop k)=uB last (l.drop (k+1)):=by
 have hk:k<l.length:=by
  by_cases h:k<l.length
  ·exact h
  ·rw [List.getElem?_eq_none om] at hs;cases hs
 rw [List.drop_eq_getElem_cons hk];rw [List.getElem?_eq_getElem hk] at hs;cases hs;simp [uB,h0,h1]
theorem levels_size {last s:dD} {l:List dD} {k:Nat} (hs:l[k]? = some s) (h0:iC s=1):uB last (l.drop k)=1:=by
 have hk:k<l.length:=by
  by_cases h:k<l.length
  ·exact h
  ·rw [List.getElem?_eq_none om] at hs;cases hs
 rw [List.drop_eq_getElem_cons hk];rw [List.getElem?_eq_getElem hk] at hs;cases hs;simp [uB,h0]
theorem levels_fits {last s:dD} {l:List dD} {k:Nat} (hs:l[k]? = some s) (h0:iC s=0) (h1:pM s last=false):uB last (l.drop k)=3:=by
 have hk:k<l.length:=by
  by_cases h:k<l.length
  ·exact h
  ·rw [List.getElem?_eq_none om] at hs;cases hs
 rw [List.drop_eq_getElem_cons hk];rw [List.getElem?_eq_getElem hk] at hs;cases hs;simp [uB,h0,h1]
theorem size_bad {s:dD} (h:¬ iC s=0):iC s=1:=by
 unfold iC at *
 split <;> simp_all
theorem check_any (a:Option Addr) (n cap:Nat) (l:List dD) (w:World) (h:Sl w 3 yB l a n cap):Calls prog 47 #[.slice a n cap] w fun e w'=>e = .returned (aC (jB l))/\Ext w w':=by
 have b1:=h.bound;have e1:=h.len
 by_cases hn:1<=n/\n<=4
 ·obtain ⟨hn1,hn2⟩:=hn
  have HF:=aA h
  have HL:Hid (jB l=uB (l.getLastD default) l):=by unfold Hid jB;rw [if_neg om]
  have E1:=aA e1;clear h e1;obtain ⟨p,o0,x0,rfl,_,d0⟩:=HF.out.get (k:=n - 1) om;have q0:=cA (at3 d0).1;clear d0;obtain ⟨last,hlast,dl⟩:=HF.out.get' (k:=n - 1) om
  have HLast:Hid (l.getLastD default=last):=by
   unfold Hid;rw [List.getLastD_eq_getLast?,List.getLast?_eq_getElem?,E1.out,hlast];rfl
  have dl:=at3 dl
  have i1:((n:Int) - 1).toNat=n - 1:=om
  have i2:(0:Int)<=(n:Int) - 1:=om
  have i3:(n:Int) - 1<n:=om
  clear hlast;go_enter func47,ntmps47;go_wp2
  go_loopw [17] (fun i wr=>∃ k:Nat,k<=n/\i = .int .i64 k/\Hid (uB last l=uB last (l.drop k))/\Ext w wr) (fun i _=>n - (intOf i).toNat)
  case atStart=>exact ⟨0,om,rfl,by simp [Hid],eX⟩
  case round=>
   obtain ⟨k,hk,rfl,HT,o,m,rfl⟩:=hrel
   by_cases hlt:k<n
   ·obtain ⟨s,hs,ds⟩:=HF.out.get' hlt
    have ds:=at3 ds;have HS:=aA hs;clear hs
    by_cases h0:iC s=0
    ·have H0:=aA h0
     have he:aC (iC ⟨s.long,s.high,s.heavy⟩) = .nilIface:=by show aC (iC s)=_;rw [h0];rfl
     clear h0;cases h1:pM s last
     ·have H1:=aA h1
      have hf:pM ⟨s.long,s.high,s.heavy⟩ ⟨last.long,last.high,last.heavy⟩=false:=h1;clear h1;go_wp2_with (go_at_call 87;with_reducible refine mo (iN _ _ _ _) fun o1 n1=>?_)
      (refine rA kR kR ?_;(repeat (first|go_big_quiet_step ((intro _;go_at_call 88;exact qC (fits_f _ _ _ _ _ _ _)))|quiet_step (fail)));refine wpQuiet_nil ?_;rintro _ ⟨oq,nq,rfl⟩)
      go_wp2;go_ret;refine ⟨?_,eX⟩;rw [HL.out,HLast.out,HT.out,levels_fits HS.out H0.out H1.out];rfl
     ·have H1:=aA h1
      have hf:pM ⟨s.long,s.high,s.heavy⟩ ⟨last.long,last.high,last.heavy⟩=true:=h1;clear h1;go_wp2_with (go_at_call 87;with_reducible refine mo (iN _ _ _ _) fun o1 n1=>?_)
      (refine rA kR kR ?_;(repeat (first|go_big_quiet_step ((intro _;go_at_call 88;exact qC (fits_f _ _ _ _ _ _ _)))|quiet_step (fail)));refine wpQuiet_nil ?_;rintro _ ⟨oq,nq,rfl⟩)
      go_wp2;go_roundw
      case rel=>exact ⟨k+1,om,by go_num,by unfold Hid;rw [HT.out,levels_step HS.out H0.out H1.out],eX⟩
      case measure=>simp [intOf];omega
    ·have H0:=aA (size_bad h0)
     have he:aC (iC ⟨s.long,s.high,s.heavy⟩) = .iface 92 (vi 1):=by show aC (iC s)=_;rw [size_bad h0];rfl
     clear h0;go_wp2_with (go_at_call 87;with_reducible refine mo (iN _ _ _ _) fun o1 n1=>?_);go_ret;refine ⟨?_,eX⟩;rw [HL.out,HLast.out,HT.out,levels_size HS.out H0.out];rfl
   ·go_wp2
    go_ret;refine ⟨?_,eX⟩;rw [HL.out,HLast.out,HT.out,List.drop_of_length_le (by have:=E1.out;omega)];rfl
 ·have hl:jB l=2:=by unfold jB;rw [if_pos om]
  have HL:=aA hl
  have h2:n<1\/4<n:=om
  clear h e1 hn hl
  rcases h2 with h2|h2 <;>
  ·go_enter func47,ntmps47
   go_wp2;go_ret;refine ⟨?_,eX⟩;rw [HL.out];rfl
theorem rlevels_any (a:Option Addr) (n cap:Nat) (l:List dD) (w:World) (h:Sl w 3 yB l a n cap):Calls prog 7 #[.slice a n cap] w fun e w'=>e = .returned (vi (jB l))/\Ext w w':=by
 have b1:=h.bound;have e1:=h.len
 by_cases hn:1<=n/\n<=4
 ·obtain ⟨hn1,hn2⟩:=hn
  have HF:=aA h
  have HL:Hid (jB l=uB (l.getLastD default) l):=by unfold Hid jB;rw [if_neg om]
  have E1:=aA e1;clear h e1;obtain ⟨p,o0,x0,rfl,_,d0⟩:=HF.out.get (k:=n - 1) om;have q0:=cA (at3 d0).1;clear d0;obtain ⟨last,hlast,dl⟩:=HF.out.get' (k:=n - 1) om
  have HLast:Hid (l.getLastD default=last):=by
   unfold Hid;rw [List.getLastD_eq_getLast?,List.getLast?_eq_getElem?,E1.out,hlast];rfl
  have dl:=at3 dl
  have i1:((n:Int) - 1).toNat=n - 1:=om
  have i2:(0:Int)<=(n:Int) - 1:=om
  have i3:(n:Int) - 1<n:=om
  clear hlast;go_enter func7,ntmps7;go_wp2
  go_loopw [3] (fun i wr=>∃ k:Nat,k<=n/\i = .int .i64 k/\Hid (uB last l=uB last (l.drop k))/\Ext w wr) (fun i _=>n - (intOf i).toNat)
  case atStart=>exact ⟨0,om,rfl,by simp [Hid],eX⟩
  case round=>
   obtain ⟨k,hk,rfl,HT,o,m,rfl⟩:=hrel
   by_cases hlt:k<n
   ·obtain ⟨s,hs,ds⟩:=HF.out.get' hlt
    have ds:=at3 ds;have HS:=aA hs;clear hs
    by_cases h0:iC s=0
    ·have H0:=aA h0
     have he:iC ⟨s.long,s.high,s.heavy⟩=0:=h0;clear h0;cases h1:pM s last
     ·have H1:=aA h1
      have hf:pM ⟨s.long,s.high,s.heavy⟩ ⟨last.long,last.high,last.heavy⟩=false:=h1;clear h1;go_wp2_with (go_at_call 37;with_reducible refine mo (pL _ _ _ _) fun o1 n1=>?_)
      (refine rA kR kR ?_;(repeat (first|go_big_quiet_step ((intro _;go_at_call 38;exact qC (rfits_f _ _ _ _ _ _ _)))|quiet_step (fail)));refine wpQuiet_nil ?_;rintro _ ⟨oq,nq,rfl⟩)
      go_wp2;go_ret;refine ⟨?_,eX⟩;rw [HL.out,HLast.out,HT.out,levels_fits HS.out H0.out H1.out];rfl
     ·have H1:=aA h1
      have hf:pM ⟨s.long,s.high,s.heavy⟩ ⟨last.long,last.high,last.heavy⟩=true:=h1;clear h1;go_wp2_with (go_at_call 37;with_reducible refine mo (pL _ _ _ _) fun o1 n1=>?_)
      (refine rA kR kR ?_;(repeat (first|go_big_quiet_step ((intro _;go_at_call 38;exact qC (rfits_f _ _ _ _ _ _ _)))|quiet_step (fail)));refine wpQuiet_nil ?_;rintro _ ⟨oq,nq,rfl⟩)
      go_wp2;go_roundw
      case rel=>exact ⟨k+1,om,by go_num,by unfold Hid;rw [HT.out,levels_step HS.out H0.out H1.out],eX⟩
      case measure=>simp [intOf];omega
    ·have H0:=aA (size_bad h0)
     have he:iC ⟨s.long,s.high,s.heavy⟩=1:=size_bad h0;clear h0;go_wp2_with (go_at_call 37;with_reducible refine mo (pL _ _ _ _) fun o1 n1=>?_);go_ret;refine ⟨?_,eX⟩;rw [HL.out,HLast.out,HT.out,levels_size HS.out H0.out];rfl
   ·go_wp2
    go_ret;refine ⟨?_,eX⟩;rw [HL.out,HLast.out,HT.out,List.drop_of_length_le (by have:=E1.out;omega)];rfl
 ·have hl:jB l=2:=by unfold jB;rw [if_pos om]
  have HL:=aA hl
  have h2:n<1\/4<n:=om
  clear h e1 hn hl
  rcases h2 with h2|h2 <;>
  ·go_enter func7,ntmps7
   go_wp2;go_ret;refine ⟨?_,eX⟩;rw [HL.out];rfl
theorem infoPlace:(prog.info? 89).map (fun i=>(i.zero,i.size,i.bytes))=some (some (.agg #[.int .i64 0,.int .i64 0,.int .i64 0]),3,24):=by kernel_rfl
def yG (w:World) (l:List pB) (e:Ending) (w':World):Prop:=∃ v,e = .returned v/\w'.ownsRow w.heap.size 89 3 v l.length (l.flatMap xF)/\Ext w w'
theorem yG.sl {w:World} {l:List pB} {e:Ending} {w':World} (h:yG w l e w'):∃ a n c,e = .returned (.slice a n c)/\Sl w' 3 xF l a n c/\Ext w w':=by
 obtain ⟨v,rfl,ho,hx⟩:=h;obtain ⟨a,c,rfl,hs⟩:=Sl.of_owns ho dc (fun x=>rfl);exact ⟨a,_,c,rfl,hs,hx⟩
theorem placesFrom_step (levels:Int) (k:Nat) (n:Int):yH levels (k+1) n=xK levels n++yH levels k (n+1):=rfl
def lF (w:World) (levels n:Int) (v:Value) (wr:World):Prop:=∃ L,1<=n/\n<=levels+1/\L.length<=4 * (n - 1).toNat/\L++yH levels (levels+1 - n).toNat n=aE levels /\
 wr.ownsRow w.heap.size 89 3 v L.length (L.flatMap xF)/\Ext w wr
theorem lF.start (w:World) (levels:Int) (h1:1<=levels) (o:Array Obj) (m:Nat):lF w levels 1 (.slice none 0 0) (w.plus o m):=
 ⟨[],om,om,sp,by simp [aE],World.ownsRow_nil _ _ _ _,sp⟩
theorem lF.start' (w:World) (levels:Int) (h1:1<=levels):lF w levels 1 (.slice none 0 0) w:=
 ⟨[],om,om,sp,by simp [aE],World.ownsRow_nil _ _ _ _,sp⟩
theorem lF.step {w:World} {levels n:Int} {L:List pB} (v':Value) (wr':World) (hn:1<=n) (hl:n<=levels) (hL:L.length<=4 * (n - 1).toNat) (he:L++yH levels (levels+1 - n).toNat n=aE levels) (new:List pB)
  (hnew:new=xK levels n) (k:Nat) (hk:k=(L++new).length) (xs:List Value) (hxs:xs=(L++new).flatMap xF) (ho:wr'.ownsRow w.heap.size 89 3 v' k xs) (hx:Ext w wr'):lF w levels (n+1) v' wr':=by
 subst hk hxs
 have h4:new.length<=4:=by rw [hnew];unfold xK;split <;> simp
 refine ⟨L++new,om,om,?_,?_,ho,hx⟩
 ·rw [List.length_append];omega
 ·rw [<-he,hnew,List.append_assoc,show (levels+1 - n).toNat=(levels+1 - (n+1)).toNat+1 by omega,placesFrom_step]
theorem jK (levels:Int) (w:World) (h1:1<=levels) (h2:levels<=4):Calls prog 155 #[vi levels] w (yG w (aE levels)):=by
 obtain ⟨i0,hi,hz0,hz1,hz2⟩:=info_parts infoPlace;go_enter func155,ntmps155;go_wp2
 go_loopw [3,4] (fun v n wr=>∃ k:Int,n = .int .i64 k/\lF w levels k v wr) (fun _ n _=>(levels+1 - intOf n).toNat)
 case atStart=>exact ⟨1,rfl,lF.start' w levels h1⟩
 case round=>
  obtain ⟨k,rfl,L,hk1,hk2,hL,he,hown,o,m,rfl⟩:=hrel;have HE:=aA he;clear he
  by_cases hkl:k<=levels
  ·by_cases heq:k=levels
   ·have HQ:=aA heq
    have B1:(k==levels)=true:=by simp [heq]
    clear heq;go_wp2
    (refine wp_loop_rounds 3 ?_;(repeat any_goals (rw [rounds_succ];go_wp2_with (at_builtin;refine wpList_append_lies _ rfl _ _ _ rfl w.heap.size 89 i0 _ 3 24 underlying219 hi hz0 hz1 hz2 rfl dc _ _ _ rfl (iB (by assumption) _) _ 2 2 [vi k,vi 0,vi 1,vi k,vi 0,vi 0] rfl rfl (World.news_of_block (pA _ _ _ sp)) (by simp [Value.oneCell']) dc (by unfold maxLen;(try simp only [List.length_append,List.length_cons,List.length_nil]);omega) (by (try simp only [List.length_append,List.length_cons,List.length_nil]);omega) ov _ rfl ?_;intro gg cap w3 hown3 hgrow hat hlt;obtain ⟨o3,n3,rfl⟩:=vB (w:=w) eX hgrow (qA (by assumption))))))
    go_roundw
    case rel => 
     refine ⟨k+1,by go_num,lF.step _ _ hk1 hkl hL HE.out [⟨k,0,1⟩,⟨k,0,0⟩] (by have:=HQ.out;unfold xK;rw [if_neg om]) _ ?_ _ ?_ (by assumption) eX⟩
     ·simp
     ·simp [xF]
    case measure=>simp [intOf];omega
   ·have HQ:=aA heq
    have B1:(k==levels)=false:=by simp [heq]
    clear heq;go_wp2
    (refine wp_loop_rounds 3 ?_;(repeat any_goals (rw [rounds_succ];go_wp2_with (first|(at_builtin;refine wpList_append_lies _ rfl _ _ _ rfl w.heap.size 89 i0 _ 3 24 underlying219 hi hz0 hz1 hz2 rfl dc _ _ _ rfl (iB (by assumption) _) _ 2 2 [vi k,vi 0,vi 1,vi k,vi 0,vi 0] rfl rfl (World.news_of_block (pA _ _ _ sp)) (by simp [Value.oneCell']) dc (by unfold maxLen;(try simp only [List.length_append,List.length_cons,List.length_nil]);omega) (by (try simp only [List.length_append,List.length_cons,List.length_nil]);omega) ov _ rfl ?_;intro gg cap w3 hown3 hgrow hat hlt;obtain ⟨o3,n3,rfl⟩:=vB (w:=w) eX hgrow (qA (by assumption)))|(at_builtin;refine wpList_append_lies _ rfl _ _ _ rfl w.heap.size 89 i0 _ 3 24 underlying219 hi hz0 hz1 hz2 rfl dc _ _ _ rfl (iB (by assumption) _) _ 2 2 [vi k,vi 1,vi 1,vi k,vi 1,vi 0] rfl rfl (World.news_of_block (pA _ _ _ sp)) (by simp [Value.oneCell']) dc (by unfold maxLen;(try simp only [List.length_append,List.length_cons,List.length_nil]);omega) (by (try simp only [List.length_append,List.length_cons,List.length_nil]);omega) ov _ rfl ?_;intro gg cap w3 hown3 hgrow hat hlt;obtain ⟨o3,n3,rfl⟩:=vB (w:=w) eX hgrow (qA (by assumption)))))))
    go_roundw
    case rel => 
     refine ⟨k+1,by go_num,lF.step _ _ hk1 hkl hL HE.out [⟨k,0,1⟩,⟨k,0,0⟩,⟨k,1,1⟩,⟨k,1,0⟩] (by have:=HQ.out;unfold xK;rw [if_pos om]) _ ?_ _ ?_ (by assumption) eX⟩
     ·simp
     ·simp [xF]
    case measure=>simp [intOf];omega
  ·have hkk:k=levels+1:=om
   have HQ:=aA hkk;clear hkk;go_wp2;go_ret
   have hL:L=aE levels:=by
    have h:=HE.out;rw [HQ.out] at h
    simpa [yH] using h
   exact ⟨_,rfl,hL▸hown,eX⟩
theorem rplaces_any (levels:Int) (w:World) (h1:1<=levels) (h2:levels<=4):Calls prog 162 #[vi levels] w (yG w (aE levels)):=by
 obtain ⟨i0,hi,hz0,hz1,hz2⟩:=info_parts infoPlace;go_enter func162,ntmps162;go_wp2
 go_loopw [3,4] (fun v n wr=>∃ k:Int,n = .int .i64 k/\lF w levels k v wr) (fun _ n _=>(levels+1 - intOf n).toNat)
 case atStart=>exact ⟨1,rfl,lF.start' w levels h1⟩
 case round=>
  obtain ⟨k,rfl,L,hk1,hk2,hL,he,hown,o,m,rfl⟩:=hrel;have HE:=aA he;clear he
  by_cases hkl:k<=levels
  ·by_cases heq:levels<=k
   ·go_wp2
    (refine wp_loop_rounds 3 ?_;(repeat any_goals (rw [rounds_succ];go_wp2_with (first|(at_builtin;refine wpList_append_lies _ rfl _ _ _ rfl w.heap.size 89 i0 _ 3 24 underlying219 hi hz0 hz1 hz2 rfl dc _ _ _ rfl (iB (by assumption) _) _ 1 1 [vi k,vi 0,vi 1] rfl rfl (World.news_of_block (pA _ _ _ sp)) (by simp [Value.oneCell']) dc (by unfold maxLen;(try simp only [List.length_append,List.length_cons,List.length_nil]);omega) (by (try simp only [List.length_append,List.length_cons,List.length_nil]);omega) ov _ rfl ?_;intro gg cap w3 hown3 hgrow hat hlt;obtain ⟨o3,n3,rfl⟩:=vB (w:=w) eX hgrow (qA (by assumption)))|(at_builtin;refine wpList_append_lies _ rfl _ _ _ rfl w.heap.size 89 i0 _ 3 24 underlying219 hi hz0 hz1 hz2 rfl dc _ _ _ rfl (iB (by assumption) _) _ 1 1 [vi k,vi 0,vi 0] rfl rfl (World.news_of_block (pA _ _ _ sp)) (by simp [Value.oneCell']) dc (by unfold maxLen;(try simp only [List.length_append,List.length_cons,List.length_nil]);omega) (by (try simp only [List.length_append,List.length_cons,List.length_nil]);omega) ov _ rfl ?_;intro gg cap w3 hown3 hgrow hat hlt;obtain ⟨o3,n3,rfl⟩:=vB (w:=w) eX hgrow (qA (by assumption)))))))
    go_roundw
    case rel=>
     refine ⟨k+1,by go_num,lF.step _ _ hk1 hkl hL HE.out [⟨k,0,1⟩,⟨k,0,0⟩] (by unfold xK;rw [if_neg om]) _ ?_ _ ?_ (by assumption) eX⟩
     ·simp
     ·simp [xF]
    case measure=>simp [intOf];omega
   ·go_wp2
    (refine wp_loop_rounds 3 ?_;(repeat any_goals (rw [rounds_succ];go_wp2_with (first|(at_builtin;refine wpList_append_lies _ rfl _ _ _ rfl w.heap.size 89 i0 _ 3 24 underlying219 hi hz0 hz1 hz2 rfl dc _ _ _ rfl (iB (by assumption) _) _ 1 1 [vi k,vi 0,vi 1] rfl rfl (World.news_of_block (pA _ _ _ sp)) (by simp [Value.oneCell']) dc (by unfold maxLen;(try simp only [List.length_append,List.length_cons,List.length_nil]);omega) (by (try simp only [List.length_append,List.length_cons,List.length_nil]);omega) ov _ rfl ?_;intro gg cap w3 hown3 hgrow hat hlt;obtain ⟨o3,n3,rfl⟩:=vB (w:=w) eX hgrow (qA (by assumption)))|(at_builtin;refine wpList_append_lies _ rfl _ _ _ rfl w.heap.size 89 i0 _ 3 24 underlying219 hi hz0 hz1 hz2 rfl dc _ _ _ rfl (iB (by assumption) _) _ 1 1 [vi k,vi 0,vi 0] rfl rfl (World.news_of_block (pA _ _ _ sp)) (by simp [Value.oneCell']) dc (by unfold maxLen;(try simp only [List.length_append,List.length_cons,List.length_nil]);omega) (by (try simp only [List.length_append,List.length_cons,List.length_nil]);omega) ov _ rfl ?_;intro gg cap w3 hown3 hgrow hat hlt;obtain ⟨o3,n3,rfl⟩:=vB (w:=w) eX hgrow (qA (by assumption)))|(at_builtin;refine wpList_append_lies _ rfl _ _ _ rfl w.heap.size 89 i0 _ 3 24 underlying219 hi hz0 hz1 hz2 rfl dc _ _ _ rfl (iB (by assumption) _) _ 1 1 [vi k,vi 1,vi 1] rfl rfl (World.news_of_block (pA _ _ _ sp)) (by simp [Value.oneCell']) dc (by unfold maxLen;(try simp only [List.length_append,List.length_cons,List.length_nil]);omega) (by (try simp only [List.length_append,List.length_cons,List.length_nil]);omega) ov _ rfl ?_;intro gg cap w3 hown3 hgrow hat hlt;obtain ⟨o3,n3,rfl⟩:=vB (w:=w) eX hgrow (qA (by assumption)))|(at_builtin;refine wpList_append_lies _ rfl _ _ _ rfl w.heap.size 89 i0 _ 3 24 underlying219 hi hz0 hz1 hz2 rfl dc _ _ _ rfl (iB (by assumption) _) _ 1 1 [vi k,vi 1,vi 0] rfl rfl (World.news_of_block (pA _ _ _ sp)) (by simp [Value.oneCell']) dc (by unfold maxLen;(try simp only [List.length_append,List.length_cons,List.length_nil]);omega) (by (try simp only [List.length_append,List.length_cons,List.length_nil]);omega) ov _ rfl ?_;intro gg cap w3 hown3 hgrow hat hlt;obtain ⟨o3,n3,rfl⟩:=vB (w:=w) eX hgrow (qA (by assumption)))))))
    go_roundw
    case rel=>
     refine ⟨k+1,by go_num,lF.step _ _ hk1 hkl hL HE.out [⟨k,0,1⟩,⟨k,0,0⟩,⟨k,1,1⟩,⟨k,1,0⟩] (by unfold xK;rw [if_pos om]) _ ?_ _ ?_ (by assumption) eX⟩
     ·simp
     ·simp [xF]
    case measure=>simp [intOf];omega
  ·have hkk:k=levels+1:=om
   have HQ:=aA hkk;clear hkk;go_wp2;go_ret
   have hL:L=aE levels:=by
    have h:=HE.out;rw [HQ.out] at h
    simpa [yH] using h
   exact ⟨_,rfl,hL▸hown,eX⟩
