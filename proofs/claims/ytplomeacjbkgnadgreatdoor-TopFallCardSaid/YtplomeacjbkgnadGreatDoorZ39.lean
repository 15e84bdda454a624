import Derived.Test.YtplomeacjbkgnadGreatDoorZ38
set_option linter.all false
set_option maxRecDepth 100000
set_option maxHeartbeats 16000000
namespace Go.Proofs.YtplomeacjbkgnadGreatDoor
open Go.RowKit
theorem tick_now {Z:Nat→Prop} {pb mb db lb hb n:Nat} {x:Ch.Live.HD} {w:World} (hZ:∀ k,w.heap.size≤k→Z k) (h:HN Z pb mb db lb hb n x w) (hi:x.h.Inv') (he:x.e+1<4294967296) (hw:x.d.wait.length≤1000) (hT:Tab w):
  Calls Tryz.prog 14 #[.pointer (some ⟨hb,0,none⟩)] w fun r w'=>r = .returned (errV x.tick.2)∧Kept Z w w'∧HN Z pb mb db lb hb n x.tick.1 w':=by
 by_cases hg:x.h.goals=[]
 ·exact tick_turn hZ h hi he hw hT hg
 ·exact tick_goals hZ h hi he hw hT hg
theorem infoSizeC:(Tryz.prog.info? 32).map (fun i=>(i.zero,i.size,i.bytes))=some (some (.agg #[vi 0,vi 0,vi 0]),3,24):=by kernel_rfl
theorem cloneSize_any (a:Option Addr) (n cap:Nat) (l:List Ch.Size) (w:World) (h:Sl w 3 sizeCells l a n cap) (hn:n≤1000):
  Calls Tryz.prog 45 #[.slice a n cap] w fun e w'=>∃ v,e = .returned v∧w'.ownsRow w.heap.size 32 3 v n (l.flatMap sizeCells)∧Ext w w':=by
 obtain ⟨i0,hi,hz0,hz1,hz2⟩:=info_parts infoSizeC;have hb:=h.bound;have HF:=Lib.hid h;have HL:=Lib.hid h.len;clear h
 cases a with
 | none=>
  have h0:n=0:=by
   by_cases h0:n=0
   ·exact h0
   ·obtain ⟨_,_,_,e,_⟩:=HF.out.get (k:=0) (by omega);cases e
  subst h0
  have hl:l=[]:=by have:=HL.out;cases l <;> simp_all
  subst hl
  have hq:=fun (w:World)=>Lib.run_eql_slice_nil (P:=Tryz.prog) w
  go_enter Tryz.func45,Tryz.ntmps45;go_wp2;go_ret;exact ⟨_,rfl,World.ownsRow_nil _ _ _ _,(by simp (maxDischargeDepth:=60))⟩
 | some ad=>
  have hq:∀ w,(Go.binOp .eql 22 (.slice (some ad) n cap) (.slice none 0 0)).run Tryz.prog w = .ok (.bool false) w:=fun w=>Lib.run_eql_slice_nil w _ _ _ _ _ _ _ Tryz.underlying22
  have hnews:∀ j u,(l.flatMap sizeCells)[j]? = some u→(w.alloc (.cells #[] 32)).cell? (ad.add j)=some u:=by
   by_cases h0:n=0
   ·have hl:l=[]:=by have:=HL.out;cases l <;> simp_all
    subst hl;intro j u hj;simp at hj
   ·obtain ⟨b,o,x,e,hx,_⟩:=HF.out.get (k:=0) (by omega)
    cases e;exact Sl.cells (Sl.alloc HF.out _) (fun _=>rfl)
  have hone:∀ u∈l.flatMap sizeCells,u.oneCell'=true:=by
   intro u hu;obtain ⟨y,_,hy⟩:=List.mem_flatMap.1 hu;simp only [sizeCells,List.mem_cons,List.not_mem_nil,or_false] at hy
   rcases hy with rfl|rfl|rfl <;> rfl
  have HN:=Lib.hid hnews;have HO:=Lib.hid hone;clear hnews hone;go_enter Tryz.func45,Tryz.ntmps45;go_wp2_with (at_builtin;refine wpList_append_own _ rfl _ _ _ rfl w.heap.size 32 i0 _ 3 24 Tryz.underlying22 hi hz0 hz1 hz2 rfl (by decide) _ 0 [] rfl (owns_new w 32 3 0 #[] rfl (by decide)) ad n cap (l.flatMap sizeCells) rfl (by rw [flat_len (c:=3) (fun _=>rfl),HL.out]) HN.out HO.out (by unfold maxLen;omega) (by omega) (by simp) ?_;intro v' w1 hown hgrow hnil;obtain ⟨o1,n1,rfl⟩:=ext_grown (w:=w) (by simp (maxDischargeDepth:=60)) hgrow (by intro k hk;cases hk;exact Nat.le_refl _));go_ret;exact ⟨_,rfl,by simpa using hown,(by simp (maxDischargeDepth:=60))⟩
theorem infoGoalC:(Tryz.prog.info? 92).map (fun i=>(i.zero,i.size,i.bytes))=some (some (.agg #[vi 0,vi 0]),2,16):=by kernel_rfl
theorem cloneGoal_any (a:Option Addr) (n cap:Nat) (l:List Ch.Goal) (w:World) (h:Sl w 2 goalCells l a n cap) (hn:n≤1000):
  Calls Tryz.prog 46 #[.slice a n cap] w fun e w'=>∃ v,e = .returned v∧w'.ownsRow w.heap.size 92 2 v n (l.flatMap goalCells)∧Ext w w':=by
 obtain ⟨i0,hi,hz0,hz1,hz2⟩:=info_parts infoGoalC;have hb:=h.bound;have HF:=Lib.hid h;have HL:=Lib.hid h.len;clear h
 cases a with
 | none=>
  have h0:n=0:=by
   by_cases h0:n=0
   ·exact h0
   ·obtain ⟨_,_,_,e,_⟩:=HF.out.get (k:=0) (by omega);cases e
  subst h0
  have hl:l=[]:=by have:=HL.out;cases l <;> simp_all
  subst hl
  have hq:=fun (w:World)=>Lib.run_eql_slice_nil (P:=Tryz.prog) w
  go_enter Tryz.func46,Tryz.ntmps46;go_wp2;go_ret;exact ⟨_,rfl,World.ownsRow_nil _ _ _ _,(by simp (maxDischargeDepth:=60))⟩
 | some ad=>
  have hq:∀ w,(Go.binOp .eql 62 (.slice (some ad) n cap) (.slice none 0 0)).run Tryz.prog w = .ok (.bool false) w:=fun w=>Lib.run_eql_slice_nil w _ _ _ _ _ _ _ Tryz.underlying62
  have hnews:∀ j u,(l.flatMap goalCells)[j]? = some u→(w.alloc (.cells #[] 92)).cell? (ad.add j)=some u:=by
   by_cases h0:n=0
   ·have hl:l=[]:=by have:=HL.out;cases l <;> simp_all
    subst hl;intro j u hj;simp at hj
   ·obtain ⟨b,o,x,e,hx,_⟩:=HF.out.get (k:=0) (by omega)
    cases e;exact Sl.cells (Sl.alloc HF.out _) (fun _=>rfl)
  have hone:∀ u∈l.flatMap goalCells,u.oneCell'=true:=by
   intro u hu;obtain ⟨y,_,hy⟩:=List.mem_flatMap.1 hu;simp only [goalCells,List.mem_cons,List.not_mem_nil,or_false] at hy
   rcases hy with rfl|rfl <;> rfl
  have HN:=Lib.hid hnews;have HO:=Lib.hid hone;clear hnews hone;go_enter Tryz.func46,Tryz.ntmps46;go_wp2_with (at_builtin;refine wpList_append_own _ rfl _ _ _ rfl w.heap.size 92 i0 _ 2 16 Tryz.underlying62 hi hz0 hz1 hz2 rfl (by decide) _ 0 [] rfl (owns_new w 92 2 0 #[] rfl (by decide)) ad n cap (l.flatMap goalCells) rfl (by rw [flat_len (c:=2) (fun _=>rfl),HL.out]) HN.out HO.out (by unfold maxLen;omega) (by omega) (by simp) ?_;intro v' w1 hown hgrow hnil;obtain ⟨o1,n1,rfl⟩:=ext_grown (w:=w) (by simp (maxDischargeDepth:=60)) hgrow (by intro k hk;cases hk;exact Nat.le_refl _));go_ret;exact ⟨_,rfl,by simpa using hown,(by simp (maxDischargeDepth:=60))⟩
theorem book_new {Z:Nat→Prop} {db lb n:Nat} {lv:Int} {e:Nat} {b:Ch.Book} {d:Ch.Disk} {w:World} (h:LN Z db lb n lv e b d w) (m1:b.stays.length≤1000) (m2:b.jobs.length≤1000):
  Calls Tryz.prog 36 #[.pointer (some ⟨lb,0,none⟩)] w fun x w'=>∃ y1 d1 y2 d2,x = .returned (bookA b.last y1 b.stays.length d1 y2 b.jobs.length d2)∧Sl w' 8 stayCells b.stays y1 b.stays.length d1∧Sl w' 2 jobCells b.jobs y2 b.jobs.length d2∧Ext w w' ∧
   (∀ g o,y1=some ⟨g,o,none⟩→w.heap.size≤g)∧(∀ g o,y2=some ⟨g,o,none⟩→w.heap.size≤g):=by
 obtain ⟨F,v1,v2,h1,h2,h3,h4,h5,h6,h7,h8⟩:=h;obtain ⟨z1,c1,rfl,s1⟩:=Sl.of_owns (c:=8) (enc:=stayCells) h6 (by decide) (fun _=>rfl);obtain ⟨z2,c2,rfl,s2⟩:=Sl.of_owns (c:=2) (enc:=jobCells) h7 (by decide) (fun _=>rfl);refine (book_led b.stays b.jobs h5 s1 s2 m1 m2).mono ?_;rintro x w' ⟨v1,v2,rfl,ob,hx⟩;obtain ⟨y1,d1,rfl,t1⟩:=Sl.of_owns (c:=8) (enc:=stayCells) ob.stays (by decide) (fun _=>rfl);obtain ⟨y2,d2,rfl,t2⟩:=Sl.of_owns (c:=2) (enc:=jobCells) ob.jobs (by decide) (fun _=>rfl);exact ⟨y1,d1,y2,d2,rfl,t1,t2,hx,own_new ob.stays,own_new ob.jobs⟩
theorem hbook_now {Z:Nat→Prop} {pb mb db lb hb n:Nat} {x:Ch.Live.HD} {w:World} (h:HN Z pb mb db lb hb n x w) (m1:x.h.b.stays.length≤1000) (m2:x.h.b.jobs.length≤1000):
  Calls Tryz.prog 12 #[.pointer (some ⟨hb,0,none⟩)] w fun r w'=>∃ y1 d1 y2 d2,r = .returned (bookA x.h.b.last y1 x.h.b.stays.length d1 y2 x.h.b.jobs.length d2)∧Sl w' 8 stayCells x.h.b.stays y1 x.h.b.stays.length d1∧Sl w' 2 jobCells x.h.b.jobs y2 x.h.b.jobs.length d2∧Ext w w' ∧
   (∀ g o,y1=some ⟨g,o,none⟩→w.heap.size≤g)∧(∀ g o,y2=some ⟨g,o,none⟩→w.heap.size≤g):=by
 obtain ⟨Y,la,ln,lc,ga,gn,gc,hs,hz⟩:=h;obtain ⟨⟨sizes,p,⟨last,l,js⟩,goals⟩,e0,d⟩:=x;obtain ⟨c0,c1,c2,c3,cf⟩:=hs.cells;have hbl:=hs.lt;have HL:=Lib.hid hs.led
 dsimp only at HL m1 m2 ⊢
 clear hs hz c0 c1 c3 cf;go_enter Tryz.func12,Tryz.ntmps12;go_wp2_with (go_at_call 36;refine (book_new (HL.out.ext (by simp (maxDischargeDepth:=60))) m1 m2).mono ?_;rintro e w1 ⟨y1,d1,y2,d2,rfl,s1,s2,hx,n1,n2⟩;dsimp only at s1 s2 ⊢;have HX:Hid (Ext w w1):=Ext.trans (by simp (maxDischargeDepth:=60)) hx;have hx2:=hx;have S1:=Lib.hid s1;have S2:=Lib.hid s2;have N1:=Lib.hid n1;have N2:=Lib.hid n2;have r0:=xcell hx (show (World.alloc w _).cell? ⟨w.heap.size,0,none⟩=some (vi 0) by simp [go_sem]);have r1:=xcell hx (show (World.alloc w _).cell? ⟨w.heap.size,1,none⟩=some (.slice none 0 0) by simp [go_sem]);have r2:=xcell hx (show (World.alloc w _).cell? ⟨w.heap.size,2,none⟩=some (.slice none 0 0) by simp [go_sem]);have f0:=xfree hx (show w.heap.size<(World.alloc w _).heap.size by simp) (show (World.alloc w _).frozen? ⟨w.heap.size,0,none⟩=false by simp [go_sem]);have f1:=xfree hx (show w.heap.size<(World.alloc w _).heap.size by simp) (show (World.alloc w _).frozen? ⟨w.heap.size,1,none⟩=false by simp [go_sem]);have f2:=xfree hx (show w.heap.size<(World.alloc w _).heap.size by simp) (show (World.alloc w _).frozen? ⟨w.heap.size,2,none⟩=false by simp [go_sem]);clear s1 s2 hx n1 n2);obtain ⟨p0,p1,p2,px⟩:=three_cells (x:=vi last) (y:=.slice y1 l.length d1) (z:=.slice y2 js.length d2) HX.out (Nat.le_refl _) r0 r1 r2;have hk:Kept (Is w.heap.size) w1 _:=(((Kept.refl (Is w.heap.size) w1).put 0 (vi last)).put 1 (.slice y1 l.length d1)).put 2 (.slice y2 js.length d2);refine bodyPost_ret (v:=.agg #[vi last,.slice y1 l.length d1,.slice y2 js.length d2]) (by simp [results,Tryz.results12,go_sem,p0,p1,p2]) rfl ?_;refine ⟨y1,d1,y2,d2,rfl,Sl.kept S1.out hk (fun _ b o e=>?_),Sl.kept S2.out hk (fun _ b o e=>?_),px,fun g o e=>?_,fun g o e=>?_⟩
 ·have:=N1.out b o e;simp at this;omega
 ·have:=N2.out b o e;simp at this;omega
 ·have:=N1.out g o e;simp at this;omega
 ·have:=N2.out g o e;simp at this;omega
theorem hgoals_now {Z:Nat→Prop} {pb mb db lb hb n:Nat} {x:Ch.Live.HD} {w:World} (h:HN Z pb mb db lb hb n x w) (m1:x.h.goals.length≤1000):
  Calls Tryz.prog 20 #[.pointer (some ⟨hb,0,none⟩)] w fun r w'=>∃ a c,r = .returned (.slice a x.h.goals.length c)∧Sl w' 2 goalCells x.h.goals a x.h.goals.length c∧Ext w w':=by
 obtain ⟨Y,la,ln,lc,ga,gn,gc,hs,hz⟩:=h;obtain ⟨⟨sizes,p,⟨last,l,js⟩,goals⟩,e0,d⟩:=x;obtain ⟨c0,c1,c2,c3,cf⟩:=hs.cells;have hbl:=hs.lt;have hgn:=hs.go.len;have HG:=Lib.hid hs.go
 dsimp only at HG m1 hgn ⊢
 subst hgn;clear hs hz c0 c1 c2 cf;go_enter Tryz.func20,Tryz.ntmps20;go_wp2_with (go_at_call 46;(with_reducible refine (cloneGoal_any _ _ _ goals _ (Sl.below HG.out (Ext.below (by simp (maxDischargeDepth:=60)))) m1).mono ?_);rintro e w1 ⟨v,rfl,hown,hx⟩;obtain ⟨a,c,rfl,hs⟩:=Sl.of_owns (c:=2) (enc:=goalCells) hown (by decide) (fun _=>rfl);have HX:Hid (Ext w w1):=Ext.trans (by simp (maxDischargeDepth:=60)) hx;have HS:=Lib.hid hs;clear hown hs hx);go_ret;exact ⟨a,c,rfl,HS.out,HX.out⟩
end Go.Proofs.YtplomeacjbkgnadGreatDoor
