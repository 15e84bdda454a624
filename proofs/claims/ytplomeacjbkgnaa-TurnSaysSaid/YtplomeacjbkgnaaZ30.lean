import Derived.Test.YtplomeacjbkgnaaZ13
import Derived.Test.YtplomeacjbkgnaaZ29
set_option linter.all false
set_option maxRecDepth 100000
set_option maxHeartbeats 16000000
namespace Go.Proofs.Ytplomeacjbkgnaa
open Go.RowKit
theorem rdone_none (last jt:Int) (a1:Option Addr) (m1 c1:Nat) (a2:Option Addr) (m2 c2:Nat) (l:List Ch.Stay) (js:List Ch.Job) (w:World)
  (h:Sl w 8 stayCells l a1 m1 c1) (h2:Sl w 2 jobCells js a2 m2 c2) (hm1:m1≤100) (hm2:m2≤100):
  Calls Try.prog 74 #[bookA last a1 m1 c1 a2 m2 c2,.agg #[vi jt,.bool false],.bool false] w (NewBook w ⟨last,l.filter (fun s:Ch.Stay=>!(false&&s.ticket==jt)),js.filter (fun x:Ch.Job=>!jobOver jt false false x)⟩ (fun b=>b)):=by
 obtain ⟨i0,hi0,hz0,hz1,hz2⟩:=info_parts infoStay;obtain ⟨j0,hj0,hy0,hy1,hy2⟩:=info_parts infoJob;have b1:=h.bound;have b2:=h2.bound;have HF:=Lib.hid h;have HJ:=Lib.hid h2;have E1:=Lib.hid h.len;have E2:=Lib.hid h2.len;clear h h2;go_enter Try.func74,Try.ntmps74
 go_upto_region 2 with fail
 generalize hO:w.heap.size+1+1+1=O
 have hO3:w.heap.size+2<O:=by omega
 generalize hW:World.alloc _ _=w1
 have k0:w1.cell? ⟨w.heap.size,0,none⟩=some (vi last):=by rw [←hW];simp [go_sem]
 have k1:w1.cell? ⟨w.heap.size,1,none⟩=some (.slice a1 m1 c1):=by rw [←hW];simp [go_sem]
 have k2:w1.cell? ⟨w.heap.size,2,none⟩=some (.slice a2 m2 c2):=by rw [←hW];simp [go_sem]
 have q0:w1.cell? ⟨w.heap.size+1,0,none⟩=some (vi jt):=by rw [←hW];simp [go_sem]
 have q1:w1.cell? ⟨w.heap.size+1,1,none⟩=some (.bool false):=by rw [←hW];simp [go_sem]
 have kr:BookCell w1 (w.heap.size+1+1) (vi 0) (.slice none 0 0) (.slice none 0 0):=by
  rw [←hW];exact ⟨by simp [go_sem],by simp [go_sem],by simp [go_sem],by simp [go_sem]⟩
 have ko:BookCell w1 O (vi last) (.slice none 0 0) (.slice none 0 0):=by
  rw [←hW,←hO];exact ⟨by simp [go_sem],by simp [go_sem],by simp [go_sem],by simp [go_sem]⟩
 have hx:Ext w w1:=by rw [←hW];exact (by simp (maxDischargeDepth:=60))
 have HX:=Lib.hid hx;have hOw:=ko.lt;have K0:=Lib.hid k0;have K1:=Lib.hid k1;have K2:=Lib.hid k2;have Q0:=Lib.hid q0;have Q1:=Lib.hid q1;have KR:=Lib.hid kr
 have G0:Hid (Outing w1 O last [] [] (.slice none 0 0) (.slice none 0 0) w1):=⟨ko,Kept.refl _ _,World.ownsRow_nil _ _ _ _,World.ownsRow_nil _ _ _ _,by intro k hk;cases hk⟩
 clear hW hx hO k0 k1 k2 q0 q1 kr ko;go_wp2
 go_loopw [8] (fun i wr=>∃ (k:Nat) (dl:List Ch.Stay) (g1:Option Addr) (d1:Nat),k≤m1∧i = .int .i64 k∧Hid (dl=(l.take k).filter (fun s:Ch.Stay=>!(false&&s.ticket==jt)))∧Outing w1 O last dl [] (.slice g1 dl.length d1) (.slice none 0 0) wr) (fun i _=>m1 - (intOf i).toNat)
 case atStart=>exact ⟨0,[],none,0,by omega,rfl,by simp [Hid],G0.out⟩
 case round=>
  obtain ⟨k,dl,g1,d1,hk,rfl,HL,hgat⟩:=hrel;have GAT:=Lib.hid hgat
  have hdl:dl.length≤100:=by rw [HL.out];have:=List.length_filter_le (fun s:Ch.Stay=>!(false&&s.ticket==jt)) (l.take k);have:=List.length_take_le k l;omega
  clear hgat;have HXW:=Lib.hid (GAT.out.kept.widen HX.out (by omega));obtain ⟨o0,o1,o2,of⟩:=GAT.out.cell;have zo:=cell_lt o0;have kb0:=GAT.out.kept.cell K0.out (by omega);have kb1:=GAT.out.kept.cell K1.out (by omega);have kb2:=GAT.out.kept.cell K2.out (by omega);have q0:=GAT.out.kept.cell Q0.out (by omega);have q1:=GAT.out.kept.cell Q1.out (by omega);have zb:=cell_lt kb0;have zq:=cell_lt q0
  by_cases hlt:k<m1
  ·obtain ⟨b,q,s,rfl,hs,ds⟩:=(Sl.below HF.out HXW.out.below).get hlt
   have ds:=at8 ds;have hq:=cell_lt ds.1;obtain ⟨t,⟨ci,⟨cx,cy,cz⟩⟩,⟨h0,h1,h2⟩⟩:=s;dsimp only at ds
   have hkj:(k:Int)<(m1:Int):=by omega
   have HNX:Hid ((l.take (k+1)).filter (fun s:Ch.Stay=>!(false&&s.ticket==jt))=dl++[⟨t,⟨ci,⟨cx,cy,cz⟩⟩,⟨h0,h1,h2⟩⟩]):=by unfold Hid;rw [filter_take _ hs,HL.out];simp
   clear hs
   go_upto_region 5 with fail
   (refine wp_region_ext (by kernel_rfl) (by kernel_rfl) ?_;(repeat (first|go_big_quiet_step (fail)|quiet_step (fail)));refine wpQuiet_nil ?_;intro _ hw';obtain ⟨oq,nq,hw''⟩:=hw';subst hw'')
   go_upto_region 6 with fail
   generalize hW:World.plus _ _ _=wp
   have hxp:Ext wr wp:=by rw [←hW];exact (by simp (maxDischargeDepth:=60))
   have GP:=GAT.out.ext hxp;obtain ⟨p0,p1,p2,pf⟩:=GP.cell;have zp:=cell_lt p0;have kp1:=ext_cell hxp kb1;have e1':=ext_cell hxp ds.1;have e2':=ext_cell hxp ds.2.1;have e3':=ext_cell hxp ds.2.2.1;have e4':=ext_cell hxp ds.2.2.2.1;have e5':=ext_cell hxp ds.2.2.2.2.1;have e6':=ext_cell hxp ds.2.2.2.2.2.1;have e7':=ext_cell hxp ds.2.2.2.2.2.2.1;have e8':=ext_cell hxp ds.2.2.2.2.2.2.2;have zq':=cell_lt e1';have zb':=cell_lt kp1;have HGP:=Lib.hid GP;have hsz:=GP.kept.size;clear hW hxp GP o0 o1 o2 of zo kb0 kb1 kb2 q0 q1 zb zq ds hq
   go_region_law (first|(refine step_append_lies _ rfl _ _ _ rfl w1.heap.size 149 i0 _ 8 64 Try.underlying73 hi0 hz0 hz1 hz2 rfl (by decide) (.slice g1 dl.length d1) dl.length (dl.flatMap stayCells) rfl (owns_drew (owns_alloc HGP.out.stays _)) ⟨wp.heap.size,0,none⟩ 1 1 [vi t,vi ci,vi cx,vi cy,vi cz,vi h0,vi h1,vi h2] rfl rfl (news_drew wp #[vi t,vi ci,vi cx,vi cy,vi cz,vi h0,vi h1,vi h2] 149) (by simp [Value.oneCell']) (by decide) (by unfold maxLen;omega) (by omega) (by first|(simp;done)|(simp;omega)) _ rfl ?_;intro gg cap w5 hown5 hgrow hat hlt;obtain ⟨n0,n1,n2,nf⟩:=(HGP.out.cell.ext (w':=(wp.alloc (.cells #[vi t,vi ci,vi cx,vi cy,vi cz,vi h0,vi h1,vi h2] 149)).drew) (by simp (maxDischargeDepth:=60))).grown hgrow (HGP.out.far1 hOw);have zn:=cell_lt n0))
   all_goals
    have HG2:=Lib.hid (HGP.out.addStay ⟨t,⟨ci,⟨cx,cy,cz⟩⟩,⟨h0,h1,h2⟩⟩ (A:=(wp.alloc (.cells #[vi t,vi ci,vi cx,vi cy,vi cz,vi h0,vi h1,vi h2] 149)).drew) (by simp (maxDischargeDepth:=60)) hOw hown5 hgrow hat);clear hown5 hgrow hat;go_wp2;go_roundw
    case rel=>first|exact ⟨k+1,dl++[(⟨t,⟨ci,⟨cx,cy,cz⟩⟩,⟨h0,h1,h2⟩⟩:Ch.Stay)],some ⟨gg,0,none⟩,cap,by omega,by go_num,HNX.out.symm,by rw [List.length_append];exact HG2.out⟩|(repeat apply Exists.intro;refine ⟨?_,rfl⟩;exact ⟨k+1,dl++[(⟨t,⟨ci,⟨cx,cy,cz⟩⟩,⟨h0,h1,h2⟩⟩:Ch.Stay)],some ⟨gg,0,none⟩,cap,by omega,by go_num,HNX.out.symm,by rw [List.length_append];exact HG2.out⟩)
    case measure=>simp [intOf];omega
  ·have hkm:k=m1:=by omega
   subst hkm
   have HLL:Hid (dl=l.filter (fun s:Ch.Stay=>!(false&&s.ticket==jt))):=by unfold Hid;rw [HL.out,List.take_of_length_le (by have:=E1.out;omega)]
   go_wp2;have HG1:=GAT;clear GAT HXW o0 o1 o2 of zo kb0 kb1 kb2 q0 q1 zb zq
   go_loopw [9] (fun i wr=>∃ (n:Nat) (dj:List Ch.Job) (g2:Option Addr) (d2:Nat),n≤m2∧i = .int .i64 n∧Hid (dj=(js.take n).filter (fun x:Ch.Job=>!jobOver jt false false x))∧Outing w1 O last dl dj (.slice g1 dl.length d1) (.slice g2 dj.length d2) wr) (fun i _=>m2 - (intOf i).toNat)
   case atStart=>exact ⟨0,[],none,0,by omega,rfl,by simp [Hid],HG1.out⟩
   case round=>
    obtain ⟨n,dj,g2,d2,hn,rfl,HL,hgat⟩:=hrel;have GAT:=Lib.hid hgat
    have hdj:dj.length≤100:=by rw [HL.out];have:=List.length_filter_le (fun x:Ch.Job=>!jobOver jt false false x) (js.take n);have:=List.length_take_le n js;omega
    clear hgat;have HXW:=Lib.hid (GAT.out.kept.widen HX.out (by omega));obtain ⟨o0,o1,o2,of⟩:=GAT.out.cell;have zo:=cell_lt o0;have kb0:=GAT.out.kept.cell K0.out (by omega);have kb1:=GAT.out.kept.cell K1.out (by omega);have kb2:=GAT.out.kept.cell K2.out (by omega);have q0:=GAT.out.kept.cell Q0.out (by omega);have q1:=GAT.out.kept.cell Q1.out (by omega);have zb:=cell_lt kb0;have zq:=cell_lt q0
    by_cases hlt:n<m2
    ·obtain ⟨b,q,s,rfl,hs,ds⟩:=(Sl.below HJ.out HXW.out.below).get hlt
     have ds:=at2 ds;have hq:=cell_lt ds.1;obtain ⟨t,f⟩:=s;dsimp only at ds
     have hkj:(n:Int)<(m2:Int):=by omega
     by_cases hej:(⟨t,f⟩:Ch.Job)=⟨jt,false⟩
     ·have hq1:∀ w,(Go.binOp .neq 94 (.agg #[vi t,.bool f]) (.agg #[vi jt,.bool false])).run Try.prog w = .ok (.bool false) w:=fun w=>by rw [neqStruct w (eqJob w 9998 ⟨t,f⟩ ⟨jt,false⟩)];simp [hej]
      have hov:jobOver jt false false ⟨t,f⟩=true:=by unfold jobOver;rw [decide_eq_true hej];rfl
      clear hej
      have HNX:Hid ((js.take (n+1)).filter (fun x:Ch.Job=>!jobOver jt false false x)=dj):=by unfold Hid;rw [filter_take _ hs,HL.out,hov];simp
      clear hs hov;go_wp2;go_roundw
      case rel=>first|exact ⟨n+1,dj,g2,d2,by omega,by go_num,HNX.out.symm,GAT.out.ext (by simp (maxDischargeDepth:=60))⟩|(repeat apply Exists.intro;refine ⟨?_,rfl⟩;exact ⟨n+1,dj,g2,d2,by omega,by go_num,HNX.out.symm,GAT.out.ext (by simp (maxDischargeDepth:=60))⟩)
      case measure=>simp [intOf];omega
     ·have hq1:∀ w,(Go.binOp .neq 94 (.agg #[vi t,.bool f]) (.agg #[vi jt,.bool false])).run Try.prog w = .ok (.bool true) w:=fun w=>by rw [neqStruct w (eqJob w 9998 ⟨t,f⟩ ⟨jt,false⟩)];simp [hej]
      have hov:jobOver jt false false ⟨t,f⟩=false:=by unfold jobOver;rw [decide_eq_false hej];rfl
      clear hej
      have HNX:Hid ((js.take (n+1)).filter (fun x:Ch.Job=>!jobOver jt false false x)=dj++[⟨t,f⟩]):=by unfold Hid;rw [filter_take _ hs,HL.out,hov];simp
      clear hs hov
      go_upto_region 12 with fail
      generalize hW:World.alloc _ _=wp;generalize hP:wr.heap.size=PP at *
      have hxp:Ext wr wp:=by rw [←hW];exact (by simp (maxDischargeDepth:=60))
      have x0:wp.cell? ⟨PP,0,none⟩=some (vi t):=by rw [←hW,←hP];simp [go_sem]
      have x1:wp.cell? ⟨PP,1,none⟩=some (.bool f):=by rw [←hW,←hP];simp [go_sem]
      have GP:=GAT.out.ext hxp;obtain ⟨p0,p1,p2,pf⟩:=GP.cell;have zp:=cell_lt p0;have zx:=cell_lt x0;have HGP:=Lib.hid GP;have hsz:=GP.kept.size;clear hW hxp GP o0 o1 o2 of zo kb0 kb1 kb2 q0 q1 zb zq ds hq;go_wp2_with (at_builtin;refine wpList_append_lies _ rfl _ _ _ rfl w1.heap.size 94 j0 _ 2 16 Try.underlying74 hj0 hy0 hy1 hy2 rfl (by decide) (.slice g2 dj.length d2) dj.length (dj.flatMap jobCells) rfl (owns_alloc HGP.out.jobs _) ⟨wp.heap.size,0,none⟩ 1 1 [vi t,.bool f] rfl rfl (World.news_of_block (alloc_at _ _ _ (by simp))) (by simp [Value.oneCell']) (by decide) (by unfold maxLen;omega) (by omega) (by first|(simp;done)|(simp;omega)) _ rfl ?_;intro gg cap w5 hown5 hgrow hat hlt;obtain ⟨n0,n1,n2,nf⟩:=(HGP.out.cell.ext (w':=(wp.alloc (.cells #[vi t,.bool f] 94))) (by simp (maxDischargeDepth:=60))).grown hgrow (HGP.out.far2 hOw);have zn:=cell_lt n0;have HG2:=Lib.hid (HGP.out.addJob ⟨t,f⟩ (A:=(wp.alloc (.cells #[vi t,.bool f] 94))) (by simp (maxDischargeDepth:=60)) hOw hown5 hgrow hat);clear hown5 hgrow hat);go_roundw
      case rel=>first|exact ⟨n+1,dj++[(⟨t,f⟩:Ch.Job)],some ⟨gg,0,none⟩,cap,by omega,by go_num,HNX.out.symm,by rw [List.length_append];exact HG2.out⟩|(repeat apply Exists.intro;refine ⟨?_,rfl⟩;exact ⟨n+1,dj++[(⟨t,f⟩:Ch.Job)],some ⟨gg,0,none⟩,cap,by omega,by go_num,HNX.out.symm,by rw [List.length_append];exact HG2.out⟩)
      case measure=>simp [intOf];omega
    ·have hnm:n=m2:=by omega
     subst hnm
     have HLJ:Hid (dj=js.filter (fun x:Ch.Job=>!jobOver jt false false x)):=by unfold Hid;rw [HL.out,List.take_of_length_le (by have:=E2.out;omega)]
     have kr:=KR.out.same (GAT.out.kept.other KR.out.lt (by omega));obtain ⟨kr0,kr1,kr2,krf⟩:=kr;have zr:=cell_lt kr0;have kq:=BookCell.set ⟨kr0,kr1,kr2,krf⟩ (vi last) (.slice g1 dl.length d1) (.slice g2 dj.length d2);obtain ⟨p0,p1,p2,pf⟩:=kq;go_wp2;refine bodyPost_ret (v:=.agg #[vi last,.slice g1 dl.length d1,.slice g2 dj.length d2]) (by simp [results,Try.results74,go_sem,p0,p1,p2]) rfl ?_;unfold NewBook;dsimp only;rw [←HLL.out,←HLJ.out];have zx:=HX.out.below.size;refine ⟨_,_,rfl,⟨?_,?_,GAT.out.apart⟩,?_⟩
     ·refine owns_base (owns_set (owns_set (owns_set GAT.out.stays _ ?_) _ ?_) _ ?_) zx <;> (intro e;have:=owns_block GAT.out.stays _ e;(try dsimp only at this);omega)
     ·refine owns_base (owns_set (owns_set (owns_set GAT.out.jobs _ ?_) _ ?_) _ ?_) zx <;> (intro e;have:=owns_block GAT.out.jobs _ e;(try dsimp only at this);omega)
     ·have hxh:=HXW.out
      exact Ext.setCell (Ext.setCell (Ext.setCell hxh (by dsimp only;omega) _) (by dsimp only;omega) _) (by dsimp only;omega) _
theorem rdone_gone (last jt:Int) (a1:Option Addr) (m1 c1:Nat) (a2:Option Addr) (m2 c2:Nat) (l:List Ch.Stay) (js:List Ch.Job) (w:World)
  (h:Sl w 8 stayCells l a1 m1 c1) (h2:Sl w 2 jobCells js a2 m2 c2) (hm1:m1≤100) (hm2:m2≤100):
  Calls Try.prog 74 #[bookA last a1 m1 c1 a2 m2 c2,.agg #[vi jt,.bool false],.bool true] w (NewBook w ⟨last,l.filter (fun s:Ch.Stay=>!(true&&s.ticket==jt)),js.filter (fun x:Ch.Job=>!jobOver jt false true x)⟩ (fun b=>b)):=by
 obtain ⟨i0,hi0,hz0,hz1,hz2⟩:=info_parts infoStay;obtain ⟨j0,hj0,hy0,hy1,hy2⟩:=info_parts infoJob;have b1:=h.bound;have b2:=h2.bound;have HF:=Lib.hid h;have HJ:=Lib.hid h2;have E1:=Lib.hid h.len;have E2:=Lib.hid h2.len;clear h h2;go_enter Try.func74,Try.ntmps74
 go_upto_region 2 with fail
 generalize hO:w.heap.size+1+1+1=O
 have hO3:w.heap.size+2<O:=by omega
 generalize hW:World.alloc _ _=w1
 have k0:w1.cell? ⟨w.heap.size,0,none⟩=some (vi last):=by rw [←hW];simp [go_sem]
 have k1:w1.cell? ⟨w.heap.size,1,none⟩=some (.slice a1 m1 c1):=by rw [←hW];simp [go_sem]
 have k2:w1.cell? ⟨w.heap.size,2,none⟩=some (.slice a2 m2 c2):=by rw [←hW];simp [go_sem]
 have q0:w1.cell? ⟨w.heap.size+1,0,none⟩=some (vi jt):=by rw [←hW];simp [go_sem]
 have q1:w1.cell? ⟨w.heap.size+1,1,none⟩=some (.bool false):=by rw [←hW];simp [go_sem]
 have kr:BookCell w1 (w.heap.size+1+1) (vi 0) (.slice none 0 0) (.slice none 0 0):=by
  rw [←hW];exact ⟨by simp [go_sem],by simp [go_sem],by simp [go_sem],by simp [go_sem]⟩
 have ko:BookCell w1 O (vi last) (.slice none 0 0) (.slice none 0 0):=by
  rw [←hW,←hO];exact ⟨by simp [go_sem],by simp [go_sem],by simp [go_sem],by simp [go_sem]⟩
 have hx:Ext w w1:=by rw [←hW];exact (by simp (maxDischargeDepth:=60))
 have HX:=Lib.hid hx;have hOw:=ko.lt;have K0:=Lib.hid k0;have K1:=Lib.hid k1;have K2:=Lib.hid k2;have Q0:=Lib.hid q0;have Q1:=Lib.hid q1;have KR:=Lib.hid kr
 have G0:Hid (Outing w1 O last [] [] (.slice none 0 0) (.slice none 0 0) w1):=⟨ko,Kept.refl _ _,World.ownsRow_nil _ _ _ _,World.ownsRow_nil _ _ _ _,by intro k hk;cases hk⟩
 clear hW hx hO k0 k1 k2 q0 q1 kr ko;go_wp2
 go_loopw [8] (fun i wr=>∃ (k:Nat) (dl:List Ch.Stay) (g1:Option Addr) (d1:Nat),k≤m1∧i = .int .i64 k∧Hid (dl=(l.take k).filter (fun s:Ch.Stay=>!(true&&s.ticket==jt)))∧Outing w1 O last dl [] (.slice g1 dl.length d1) (.slice none 0 0) wr) (fun i _=>m1 - (intOf i).toNat)
 case atStart=>exact ⟨0,[],none,0,by omega,rfl,by simp [Hid],G0.out⟩
 case round=>
  obtain ⟨k,dl,g1,d1,hk,rfl,HL,hgat⟩:=hrel;have GAT:=Lib.hid hgat
  have hdl:dl.length≤100:=by rw [HL.out];have:=List.length_filter_le (fun s:Ch.Stay=>!(true&&s.ticket==jt)) (l.take k);have:=List.length_take_le k l;omega
  clear hgat;have HXW:=Lib.hid (GAT.out.kept.widen HX.out (by omega));obtain ⟨o0,o1,o2,of⟩:=GAT.out.cell;have zo:=cell_lt o0;have kb0:=GAT.out.kept.cell K0.out (by omega);have kb1:=GAT.out.kept.cell K1.out (by omega);have kb2:=GAT.out.kept.cell K2.out (by omega);have q0:=GAT.out.kept.cell Q0.out (by omega);have q1:=GAT.out.kept.cell Q1.out (by omega);have zb:=cell_lt kb0;have zq:=cell_lt q0
  by_cases hlt:k<m1
  ·obtain ⟨b,q,s,rfl,hs,ds⟩:=(Sl.below HF.out HXW.out.below).get hlt
   have ds:=at8 ds;have hq:=cell_lt ds.1;obtain ⟨t,⟨ci,⟨cx,cy,cz⟩⟩,⟨h0,h1,h2⟩⟩:=s;dsimp only at ds
   have hkj:(k:Int)<(m1:Int):=by omega
   cases ht:(t==jt)
   ·have HNX:Hid ((l.take (k+1)).filter (fun s:Ch.Stay=>!(true&&s.ticket==jt))=dl++[⟨t,⟨ci,⟨cx,cy,cz⟩⟩,⟨h0,h1,h2⟩⟩]):=by unfold Hid;rw [filter_take _ hs,HL.out];simp [ht]
    clear hs
    go_upto_region 5 with fail
    (refine wp_region_ext (by kernel_rfl) (by kernel_rfl) ?_;(repeat (first|go_big_quiet_step (fail)|quiet_step (fail)));refine wpQuiet_nil ?_;intro _ hw';obtain ⟨oq,nq,hw''⟩:=hw';subst hw'')
    go_upto_region 6 with fail
    generalize hW:World.plus _ _ _=wp
    have hxp:Ext wr wp:=by rw [←hW];exact (by simp (maxDischargeDepth:=60))
    have GP:=GAT.out.ext hxp;obtain ⟨p0,p1,p2,pf⟩:=GP.cell;have zp:=cell_lt p0;have kp1:=ext_cell hxp kb1;have e1':=ext_cell hxp ds.1;have e2':=ext_cell hxp ds.2.1;have e3':=ext_cell hxp ds.2.2.1;have e4':=ext_cell hxp ds.2.2.2.1;have e5':=ext_cell hxp ds.2.2.2.2.1;have e6':=ext_cell hxp ds.2.2.2.2.2.1;have e7':=ext_cell hxp ds.2.2.2.2.2.2.1;have e8':=ext_cell hxp ds.2.2.2.2.2.2.2;have zq':=cell_lt e1';have zb':=cell_lt kp1;have HGP:=Lib.hid GP;have hsz:=GP.kept.size;clear hW hxp GP o0 o1 o2 of zo kb0 kb1 kb2 q0 q1 zb zq ds hq
    go_region_law (first|(refine step_append_lies _ rfl _ _ _ rfl w1.heap.size 149 i0 _ 8 64 Try.underlying73 hi0 hz0 hz1 hz2 rfl (by decide) (.slice g1 dl.length d1) dl.length (dl.flatMap stayCells) rfl (owns_drew (owns_alloc HGP.out.stays _)) ⟨wp.heap.size,0,none⟩ 1 1 [vi t,vi ci,vi cx,vi cy,vi cz,vi h0,vi h1,vi h2] rfl rfl (news_drew wp #[vi t,vi ci,vi cx,vi cy,vi cz,vi h0,vi h1,vi h2] 149) (by simp [Value.oneCell']) (by decide) (by unfold maxLen;omega) (by omega) (by first|(simp;done)|(simp;omega)) _ rfl ?_;intro gg cap w5 hown5 hgrow hat hlt;obtain ⟨n0,n1,n2,nf⟩:=(HGP.out.cell.ext (w':=(wp.alloc (.cells #[vi t,vi ci,vi cx,vi cy,vi cz,vi h0,vi h1,vi h2] 149)).drew) (by simp (maxDischargeDepth:=60))).grown hgrow (HGP.out.far1 hOw);have zn:=cell_lt n0))
    all_goals
     have HG2:=Lib.hid (HGP.out.addStay ⟨t,⟨ci,⟨cx,cy,cz⟩⟩,⟨h0,h1,h2⟩⟩ (A:=(wp.alloc (.cells #[vi t,vi ci,vi cx,vi cy,vi cz,vi h0,vi h1,vi h2] 149)).drew) (by simp (maxDischargeDepth:=60)) hOw hown5 hgrow hat);clear hown5 hgrow hat;go_wp2;go_roundw
     case rel=>first|exact ⟨k+1,dl++[(⟨t,⟨ci,⟨cx,cy,cz⟩⟩,⟨h0,h1,h2⟩⟩:Ch.Stay)],some ⟨gg,0,none⟩,cap,by omega,by go_num,HNX.out.symm,by rw [List.length_append];exact HG2.out⟩|(repeat apply Exists.intro;refine ⟨?_,rfl⟩;exact ⟨k+1,dl++[(⟨t,⟨ci,⟨cx,cy,cz⟩⟩,⟨h0,h1,h2⟩⟩:Ch.Stay)],some ⟨gg,0,none⟩,cap,by omega,by go_num,HNX.out.symm,by rw [List.length_append];exact HG2.out⟩)
     case measure=>simp [intOf];omega
   ·have HNX:Hid ((l.take (k+1)).filter (fun s:Ch.Stay=>!(true&&s.ticket==jt))=dl):=by unfold Hid;rw [filter_take _ hs,HL.out];simp [ht]
    clear hs
    go_upto_region 5 with fail
    (refine wp_region_ext (by kernel_rfl) (by kernel_rfl) ?_;(repeat (first|go_big_quiet_step (fail)|quiet_step (fail)));refine wpQuiet_nil ?_;intro _ hw';obtain ⟨oq,nq,hw''⟩:=hw';subst hw'')
    go_wp2;go_roundw
    case rel=>first|exact ⟨k+1,dl,g1,d1,by omega,by go_num,HNX.out.symm,GAT.out.ext (by simp (maxDischargeDepth:=60))⟩|(repeat apply Exists.intro;refine ⟨?_,rfl⟩;exact ⟨k+1,dl,g1,d1,by omega,by go_num,HNX.out.symm,GAT.out.ext (by simp (maxDischargeDepth:=60))⟩)
    case measure=>simp [intOf];omega
  ·have hkm:k=m1:=by omega
   subst hkm
   have HLL:Hid (dl=l.filter (fun s:Ch.Stay=>!(true&&s.ticket==jt))):=by unfold Hid;rw [HL.out,List.take_of_length_le (by have:=E1.out;omega)]
   go_wp2;have HG1:=GAT;clear GAT HXW o0 o1 o2 of zo kb0 kb1 kb2 q0 q1 zb zq
   go_loopw [9] (fun i wr=>∃ (n:Nat) (dj:List Ch.Job) (g2:Option Addr) (d2:Nat),n≤m2∧i = .int .i64 n∧Hid (dj=(js.take n).filter (fun x:Ch.Job=>!jobOver jt false true x))∧Outing w1 O last dl dj (.slice g1 dl.length d1) (.slice g2 dj.length d2) wr) (fun i _=>m2 - (intOf i).toNat)
   case atStart=>exact ⟨0,[],none,0,by omega,rfl,by simp [Hid],HG1.out⟩
   case round=>
    obtain ⟨n,dj,g2,d2,hn,rfl,HL,hgat⟩:=hrel;have GAT:=Lib.hid hgat
    have hdj:dj.length≤100:=by rw [HL.out];have:=List.length_filter_le (fun x:Ch.Job=>!jobOver jt false true x) (js.take n);have:=List.length_take_le n js;omega
    clear hgat;have HXW:=Lib.hid (GAT.out.kept.widen HX.out (by omega));obtain ⟨o0,o1,o2,of⟩:=GAT.out.cell;have zo:=cell_lt o0;have kb0:=GAT.out.kept.cell K0.out (by omega);have kb1:=GAT.out.kept.cell K1.out (by omega);have kb2:=GAT.out.kept.cell K2.out (by omega);have q0:=GAT.out.kept.cell Q0.out (by omega);have q1:=GAT.out.kept.cell Q1.out (by omega);have zb:=cell_lt kb0;have zq:=cell_lt q0
    by_cases hlt:n<m2
    ·obtain ⟨b,q,s,rfl,hs,ds⟩:=(Sl.below HJ.out HXW.out.below).get hlt
     have ds:=at2 ds;have hq:=cell_lt ds.1;obtain ⟨t,f⟩:=s;dsimp only at ds
     have hkj:(n:Int)<(m2:Int):=by omega
     by_cases hej:(⟨t,f⟩:Ch.Job)=⟨jt,false⟩
     ·have hq1:∀ w,(Go.binOp .neq 94 (.agg #[vi t,.bool f]) (.agg #[vi jt,.bool false])).run Try.prog w = .ok (.bool false) w:=fun w=>by rw [neqStruct w (eqJob w 9998 ⟨t,f⟩ ⟨jt,false⟩)];simp [hej]
      have hov:jobOver jt false true ⟨t,f⟩=true:=by unfold jobOver;rw [decide_eq_true hej];rfl
      clear hej
      have HNX:Hid ((js.take (n+1)).filter (fun x:Ch.Job=>!jobOver jt false true x)=dj):=by unfold Hid;rw [filter_take _ hs,HL.out,hov];simp
      clear hs hov;go_wp2;go_roundw
      case rel=>first|exact ⟨n+1,dj,g2,d2,by omega,by go_num,HNX.out.symm,GAT.out.ext (by simp (maxDischargeDepth:=60))⟩|(repeat apply Exists.intro;refine ⟨?_,rfl⟩;exact ⟨n+1,dj,g2,d2,by omega,by go_num,HNX.out.symm,GAT.out.ext (by simp (maxDischargeDepth:=60))⟩)
      case measure=>simp [intOf];omega
     ·have hq1:∀ w,(Go.binOp .neq 94 (.agg #[vi t,.bool f]) (.agg #[vi jt,.bool false])).run Try.prog w = .ok (.bool true) w:=fun w=>by rw [neqStruct w (eqJob w 9998 ⟨t,f⟩ ⟨jt,false⟩)];simp [hej]
      have hov0:jobOver jt false true ⟨t,f⟩=(t==jt):=by unfold jobOver;rw [decide_eq_false hej];rfl
      clear hej
      cases ht:(t==jt)
      ·have hov:jobOver jt false true ⟨t,f⟩=false:=by rw [hov0];exact ht
       clear hov0
       have HNX:Hid ((js.take (n+1)).filter (fun x:Ch.Job=>!jobOver jt false true x)=dj++[⟨t,f⟩]):=by unfold Hid;rw [filter_take _ hs,HL.out,hov];simp
       clear hs hov
       go_upto_region 12 with fail
       generalize hW:World.alloc _ _=wp;generalize hP:wr.heap.size=PP at *
       have hxp:Ext wr wp:=by rw [←hW];exact (by simp (maxDischargeDepth:=60))
       have x0:wp.cell? ⟨PP,0,none⟩=some (vi t):=by rw [←hW,←hP];simp [go_sem]
       have x1:wp.cell? ⟨PP,1,none⟩=some (.bool f):=by rw [←hW,←hP];simp [go_sem]
       have GP:=GAT.out.ext hxp;obtain ⟨p0,p1,p2,pf⟩:=GP.cell;have zp:=cell_lt p0;have zx:=cell_lt x0;have HGP:=Lib.hid GP;have hsz:=GP.kept.size;clear hW hxp GP o0 o1 o2 of zo kb0 kb1 kb2 q0 q1 zb zq ds hq;go_wp2_with (at_builtin;refine wpList_append_lies _ rfl _ _ _ rfl w1.heap.size 94 j0 _ 2 16 Try.underlying74 hj0 hy0 hy1 hy2 rfl (by decide) (.slice g2 dj.length d2) dj.length (dj.flatMap jobCells) rfl (owns_alloc HGP.out.jobs _) ⟨wp.heap.size,0,none⟩ 1 1 [vi t,.bool f] rfl rfl (World.news_of_block (alloc_at _ _ _ (by simp))) (by simp [Value.oneCell']) (by decide) (by unfold maxLen;omega) (by omega) (by first|(simp;done)|(simp;omega)) _ rfl ?_;intro gg cap w5 hown5 hgrow hat hlt;obtain ⟨n0,n1,n2,nf⟩:=(HGP.out.cell.ext (w':=(wp.alloc (.cells #[vi t,.bool f] 94))) (by simp (maxDischargeDepth:=60))).grown hgrow (HGP.out.far2 hOw);have zn:=cell_lt n0;have HG2:=Lib.hid (HGP.out.addJob ⟨t,f⟩ (A:=(wp.alloc (.cells #[vi t,.bool f] 94))) (by simp (maxDischargeDepth:=60)) hOw hown5 hgrow hat);clear hown5 hgrow hat);go_roundw
       case rel=>first|exact ⟨n+1,dj++[(⟨t,f⟩:Ch.Job)],some ⟨gg,0,none⟩,cap,by omega,by go_num,HNX.out.symm,by rw [List.length_append];exact HG2.out⟩|(repeat apply Exists.intro;refine ⟨?_,rfl⟩;exact ⟨n+1,dj++[(⟨t,f⟩:Ch.Job)],some ⟨gg,0,none⟩,cap,by omega,by go_num,HNX.out.symm,by rw [List.length_append];exact HG2.out⟩)
       case measure=>simp [intOf];omega
      ·have hov:jobOver jt false true ⟨t,f⟩=true:=by rw [hov0];exact ht
       clear hov0
       have HNX:Hid ((js.take (n+1)).filter (fun x:Ch.Job=>!jobOver jt false true x)=dj):=by unfold Hid;rw [filter_take _ hs,HL.out,hov];simp
       clear hs hov;go_wp2;go_roundw
       case rel=>first|exact ⟨n+1,dj,g2,d2,by omega,by go_num,HNX.out.symm,GAT.out.ext (by simp (maxDischargeDepth:=60))⟩|(repeat apply Exists.intro;refine ⟨?_,rfl⟩;exact ⟨n+1,dj,g2,d2,by omega,by go_num,HNX.out.symm,GAT.out.ext (by simp (maxDischargeDepth:=60))⟩)
       case measure=>simp [intOf];omega
    ·have hnm:n=m2:=by omega
     subst hnm
     have HLJ:Hid (dj=js.filter (fun x:Ch.Job=>!jobOver jt false true x)):=by unfold Hid;rw [HL.out,List.take_of_length_le (by have:=E2.out;omega)]
     have kr:=KR.out.same (GAT.out.kept.other KR.out.lt (by omega));obtain ⟨kr0,kr1,kr2,krf⟩:=kr;have zr:=cell_lt kr0;have kq:=BookCell.set ⟨kr0,kr1,kr2,krf⟩ (vi last) (.slice g1 dl.length d1) (.slice g2 dj.length d2);obtain ⟨p0,p1,p2,pf⟩:=kq;go_wp2;refine bodyPost_ret (v:=.agg #[vi last,.slice g1 dl.length d1,.slice g2 dj.length d2]) (by simp [results,Try.results74,go_sem,p0,p1,p2]) rfl ?_;unfold NewBook;dsimp only;rw [←HLL.out,←HLJ.out];have zx:=HX.out.below.size;refine ⟨_,_,rfl,⟨?_,?_,GAT.out.apart⟩,?_⟩
     ·refine owns_base (owns_set (owns_set (owns_set GAT.out.stays _ ?_) _ ?_) _ ?_) zx <;> (intro e;have:=owns_block GAT.out.stays _ e;(try dsimp only at this);omega)
     ·refine owns_base (owns_set (owns_set (owns_set GAT.out.jobs _ ?_) _ ?_) _ ?_) zx <;> (intro e;have:=owns_block GAT.out.jobs _ e;(try dsimp only at this);omega)
     ·have hxh:=HXW.out
      exact Ext.setCell (Ext.setCell (Ext.setCell hxh (by dsimp only;omega) _) (by dsimp only;omega) _) (by dsimp only;omega) _
theorem rdone_fetch (gone:Bool) (last jt:Int) (a1:Option Addr) (m1 c1:Nat) (a2:Option Addr) (m2 c2:Nat) (l:List Ch.Stay) (js:List Ch.Job) (w:World)
  (h:Sl w 8 stayCells l a1 m1 c1) (h2:Sl w 2 jobCells js a2 m2 c2) (hm1:m1≤100) (hm2:m2≤100):
  Calls Try.prog 74 #[bookA last a1 m1 c1 a2 m2 c2,.agg #[vi jt,.bool true],.bool gone] w (NewBook w ⟨last,l.filter (fun s:Ch.Stay=>!(true&&s.ticket==jt)),js.filter (fun x:Ch.Job=>!jobOver jt true true x)⟩ (fun b=>b)):=by
 obtain ⟨i0,hi0,hz0,hz1,hz2⟩:=info_parts infoStay;obtain ⟨j0,hj0,hy0,hy1,hy2⟩:=info_parts infoJob;have b1:=h.bound;have b2:=h2.bound;have HF:=Lib.hid h;have HJ:=Lib.hid h2;have E1:=Lib.hid h.len;have E2:=Lib.hid h2.len;clear h h2;go_enter Try.func74,Try.ntmps74
 go_upto_region 2 with fail
 generalize hO:w.heap.size+1+1+1=O
 have hO3:w.heap.size+2<O:=by omega
 generalize hW:World.alloc _ _=w1
 have k0:w1.cell? ⟨w.heap.size,0,none⟩=some (vi last):=by rw [←hW];simp [go_sem]
 have k1:w1.cell? ⟨w.heap.size,1,none⟩=some (.slice a1 m1 c1):=by rw [←hW];simp [go_sem]
 have k2:w1.cell? ⟨w.heap.size,2,none⟩=some (.slice a2 m2 c2):=by rw [←hW];simp [go_sem]
 have q0:w1.cell? ⟨w.heap.size+1,0,none⟩=some (vi jt):=by rw [←hW];simp [go_sem]
 have q1:w1.cell? ⟨w.heap.size+1,1,none⟩=some (.bool true):=by rw [←hW];simp [go_sem]
 have kr:BookCell w1 (w.heap.size+1+1) (vi 0) (.slice none 0 0) (.slice none 0 0):=by
  rw [←hW];exact ⟨by simp [go_sem],by simp [go_sem],by simp [go_sem],by simp [go_sem]⟩
 have ko:BookCell w1 O (vi last) (.slice none 0 0) (.slice none 0 0):=by
  rw [←hW,←hO];exact ⟨by simp [go_sem],by simp [go_sem],by simp [go_sem],by simp [go_sem]⟩
 have hx:Ext w w1:=by rw [←hW];exact (by simp (maxDischargeDepth:=60))
 have HX:=Lib.hid hx;have hOw:=ko.lt;have K0:=Lib.hid k0;have K1:=Lib.hid k1;have K2:=Lib.hid k2;have Q0:=Lib.hid q0;have Q1:=Lib.hid q1;have KR:=Lib.hid kr
 have G0:Hid (Outing w1 O last [] [] (.slice none 0 0) (.slice none 0 0) w1):=⟨ko,Kept.refl _ _,World.ownsRow_nil _ _ _ _,World.ownsRow_nil _ _ _ _,by intro k hk;cases hk⟩
 clear hW hx hO k0 k1 k2 q0 q1 kr ko;go_wp2
 go_loopw [8] (fun i wr=>∃ (k:Nat) (dl:List Ch.Stay) (g1:Option Addr) (d1:Nat),k≤m1∧i = .int .i64 k∧Hid (dl=(l.take k).filter (fun s:Ch.Stay=>!(true&&s.ticket==jt)))∧Outing w1 O last dl [] (.slice g1 dl.length d1) (.slice none 0 0) wr) (fun i _=>m1 - (intOf i).toNat)
 case atStart=>exact ⟨0,[],none,0,by omega,rfl,by simp [Hid],G0.out⟩
 case round=>
  obtain ⟨k,dl,g1,d1,hk,rfl,HL,hgat⟩:=hrel;have GAT:=Lib.hid hgat
  have hdl:dl.length≤100:=by rw [HL.out];have:=List.length_filter_le (fun s:Ch.Stay=>!(true&&s.ticket==jt)) (l.take k);have:=List.length_take_le k l;omega
  clear hgat;have HXW:=Lib.hid (GAT.out.kept.widen HX.out (by omega));obtain ⟨o0,o1,o2,of⟩:=GAT.out.cell;have zo:=cell_lt o0;have kb0:=GAT.out.kept.cell K0.out (by omega);have kb1:=GAT.out.kept.cell K1.out (by omega);have kb2:=GAT.out.kept.cell K2.out (by omega);have q0:=GAT.out.kept.cell Q0.out (by omega);have q1:=GAT.out.kept.cell Q1.out (by omega);have zb:=cell_lt kb0;have zq:=cell_lt q0
  by_cases hlt:k<m1
  ·obtain ⟨b,q,s,rfl,hs,ds⟩:=(Sl.below HF.out HXW.out.below).get hlt
   have ds:=at8 ds;have hq:=cell_lt ds.1;obtain ⟨t,⟨ci,⟨cx,cy,cz⟩⟩,⟨h0,h1,h2⟩⟩:=s;dsimp only at ds
   have hkj:(k:Int)<(m1:Int):=by omega
   cases ht:(t==jt)
   ·have HNX:Hid ((l.take (k+1)).filter (fun s:Ch.Stay=>!(true&&s.ticket==jt))=dl++[⟨t,⟨ci,⟨cx,cy,cz⟩⟩,⟨h0,h1,h2⟩⟩]):=by unfold Hid;rw [filter_take _ hs,HL.out];simp [ht]
    clear hs
    go_upto_region 5 with fail
    (refine wp_region_ext (by kernel_rfl) (by kernel_rfl) ?_;(repeat (first|go_big_quiet_step (fail)|quiet_step (fail)));refine wpQuiet_nil ?_;intro _ hw';obtain ⟨oq,nq,hw''⟩:=hw';subst hw'')
    go_upto_region 6 with fail
    generalize hW:World.plus _ _ _=wp
    have hxp:Ext wr wp:=by rw [←hW];exact (by simp (maxDischargeDepth:=60))
    have GP:=GAT.out.ext hxp;obtain ⟨p0,p1,p2,pf⟩:=GP.cell;have zp:=cell_lt p0;have kp1:=ext_cell hxp kb1;have e1':=ext_cell hxp ds.1;have e2':=ext_cell hxp ds.2.1;have e3':=ext_cell hxp ds.2.2.1;have e4':=ext_cell hxp ds.2.2.2.1;have e5':=ext_cell hxp ds.2.2.2.2.1;have e6':=ext_cell hxp ds.2.2.2.2.2.1;have e7':=ext_cell hxp ds.2.2.2.2.2.2.1;have e8':=ext_cell hxp ds.2.2.2.2.2.2.2;have zq':=cell_lt e1';have zb':=cell_lt kp1;have HGP:=Lib.hid GP;have hsz:=GP.kept.size;clear hW hxp GP o0 o1 o2 of zo kb0 kb1 kb2 q0 q1 zb zq ds hq
    go_region_law (first|(refine step_append_lies _ rfl _ _ _ rfl w1.heap.size 149 i0 _ 8 64 Try.underlying73 hi0 hz0 hz1 hz2 rfl (by decide) (.slice g1 dl.length d1) dl.length (dl.flatMap stayCells) rfl (owns_drew (owns_alloc HGP.out.stays _)) ⟨wp.heap.size,0,none⟩ 1 1 [vi t,vi ci,vi cx,vi cy,vi cz,vi h0,vi h1,vi h2] rfl rfl (news_drew wp #[vi t,vi ci,vi cx,vi cy,vi cz,vi h0,vi h1,vi h2] 149) (by simp [Value.oneCell']) (by decide) (by unfold maxLen;omega) (by omega) (by first|(simp;done)|(simp;omega)) _ rfl ?_;intro gg cap w5 hown5 hgrow hat hlt;obtain ⟨n0,n1,n2,nf⟩:=(HGP.out.cell.ext (w':=(wp.alloc (.cells #[vi t,vi ci,vi cx,vi cy,vi cz,vi h0,vi h1,vi h2] 149)).drew) (by simp (maxDischargeDepth:=60))).grown hgrow (HGP.out.far1 hOw);have zn:=cell_lt n0))
    all_goals
     have HG2:=Lib.hid (HGP.out.addStay ⟨t,⟨ci,⟨cx,cy,cz⟩⟩,⟨h0,h1,h2⟩⟩ (A:=(wp.alloc (.cells #[vi t,vi ci,vi cx,vi cy,vi cz,vi h0,vi h1,vi h2] 149)).drew) (by simp (maxDischargeDepth:=60)) hOw hown5 hgrow hat);clear hown5 hgrow hat;go_wp2;go_roundw
     case rel=>first|exact ⟨k+1,dl++[(⟨t,⟨ci,⟨cx,cy,cz⟩⟩,⟨h0,h1,h2⟩⟩:Ch.Stay)],some ⟨gg,0,none⟩,cap,by omega,by go_num,HNX.out.symm,by rw [List.length_append];exact HG2.out⟩|(repeat apply Exists.intro;refine ⟨?_,rfl⟩;exact ⟨k+1,dl++[(⟨t,⟨ci,⟨cx,cy,cz⟩⟩,⟨h0,h1,h2⟩⟩:Ch.Stay)],some ⟨gg,0,none⟩,cap,by omega,by go_num,HNX.out.symm,by rw [List.length_append];exact HG2.out⟩)
     case measure=>simp [intOf];omega
   ·have HNX:Hid ((l.take (k+1)).filter (fun s:Ch.Stay=>!(true&&s.ticket==jt))=dl):=by unfold Hid;rw [filter_take _ hs,HL.out];simp [ht]
    clear hs
    go_upto_region 5 with fail
    (refine wp_region_ext (by kernel_rfl) (by kernel_rfl) ?_;(repeat (first|go_big_quiet_step (fail)|quiet_step (fail)));refine wpQuiet_nil ?_;intro _ hw';obtain ⟨oq,nq,hw''⟩:=hw';subst hw'')
    go_wp2;go_roundw
    case rel=>first|exact ⟨k+1,dl,g1,d1,by omega,by go_num,HNX.out.symm,GAT.out.ext (by simp (maxDischargeDepth:=60))⟩|(repeat apply Exists.intro;refine ⟨?_,rfl⟩;exact ⟨k+1,dl,g1,d1,by omega,by go_num,HNX.out.symm,GAT.out.ext (by simp (maxDischargeDepth:=60))⟩)
    case measure=>simp [intOf];omega
  ·have hkm:k=m1:=by omega
   subst hkm
   have HLL:Hid (dl=l.filter (fun s:Ch.Stay=>!(true&&s.ticket==jt))):=by unfold Hid;rw [HL.out,List.take_of_length_le (by have:=E1.out;omega)]
   go_wp2;have HG1:=GAT;clear GAT HXW o0 o1 o2 of zo kb0 kb1 kb2 q0 q1 zb zq
   go_loopw [9] (fun i wr=>∃ (n:Nat) (dj:List Ch.Job) (g2:Option Addr) (d2:Nat),n≤m2∧i = .int .i64 n∧Hid (dj=(js.take n).filter (fun x:Ch.Job=>!jobOver jt true true x))∧Outing w1 O last dl dj (.slice g1 dl.length d1) (.slice g2 dj.length d2) wr) (fun i _=>m2 - (intOf i).toNat)
   case atStart=>exact ⟨0,[],none,0,by omega,rfl,by simp [Hid],HG1.out⟩
   case round=>
    obtain ⟨n,dj,g2,d2,hn,rfl,HL,hgat⟩:=hrel;have GAT:=Lib.hid hgat
    have hdj:dj.length≤100:=by rw [HL.out];have:=List.length_filter_le (fun x:Ch.Job=>!jobOver jt true true x) (js.take n);have:=List.length_take_le n js;omega
    clear hgat;have HXW:=Lib.hid (GAT.out.kept.widen HX.out (by omega));obtain ⟨o0,o1,o2,of⟩:=GAT.out.cell;have zo:=cell_lt o0;have kb0:=GAT.out.kept.cell K0.out (by omega);have kb1:=GAT.out.kept.cell K1.out (by omega);have kb2:=GAT.out.kept.cell K2.out (by omega);have q0:=GAT.out.kept.cell Q0.out (by omega);have q1:=GAT.out.kept.cell Q1.out (by omega);have zb:=cell_lt kb0;have zq:=cell_lt q0
    by_cases hlt:n<m2
    ·obtain ⟨b,q,s,rfl,hs,ds⟩:=(Sl.below HJ.out HXW.out.below).get hlt
     have ds:=at2 ds;have hq:=cell_lt ds.1;obtain ⟨t,f⟩:=s;dsimp only at ds
     have hkj:(n:Int)<(m2:Int):=by omega
     by_cases hej:(⟨t,f⟩:Ch.Job)=⟨jt,true⟩
     ·have hq1:∀ w,(Go.binOp .neq 94 (.agg #[vi t,.bool f]) (.agg #[vi jt,.bool true])).run Try.prog w = .ok (.bool false) w:=fun w=>by rw [neqStruct w (eqJob w 9998 ⟨t,f⟩ ⟨jt,true⟩)];simp [hej]
      have hov:jobOver jt true true ⟨t,f⟩=true:=by unfold jobOver;rw [decide_eq_true hej];rfl
      clear hej
      have HNX:Hid ((js.take (n+1)).filter (fun x:Ch.Job=>!jobOver jt true true x)=dj):=by unfold Hid;rw [filter_take _ hs,HL.out,hov];simp
      clear hs hov;go_wp2;go_roundw
      case rel=>first|exact ⟨n+1,dj,g2,d2,by omega,by go_num,HNX.out.symm,GAT.out.ext (by simp (maxDischargeDepth:=60))⟩|(repeat apply Exists.intro;refine ⟨?_,rfl⟩;exact ⟨n+1,dj,g2,d2,by omega,by go_num,HNX.out.symm,GAT.out.ext (by simp (maxDischargeDepth:=60))⟩)
      case measure=>simp [intOf];omega
     ·have hq1:∀ w,(Go.binOp .neq 94 (.agg #[vi t,.bool f]) (.agg #[vi jt,.bool true])).run Try.prog w = .ok (.bool true) w:=fun w=>by rw [neqStruct w (eqJob w 9998 ⟨t,f⟩ ⟨jt,true⟩)];simp [hej]
      have hov0:jobOver jt true true ⟨t,f⟩=(t==jt):=by unfold jobOver;rw [decide_eq_false hej];rfl
      clear hej
      cases ht:(t==jt)
      ·have hov:jobOver jt true true ⟨t,f⟩=false:=by rw [hov0];exact ht
       clear hov0
       have HNX:Hid ((js.take (n+1)).filter (fun x:Ch.Job=>!jobOver jt true true x)=dj++[⟨t,f⟩]):=by unfold Hid;rw [filter_take _ hs,HL.out,hov];simp
       clear hs hov
       go_upto_region 12 with fail
       generalize hW:World.alloc _ _=wp;generalize hP:wr.heap.size=PP at *
       have hxp:Ext wr wp:=by rw [←hW];exact (by simp (maxDischargeDepth:=60))
       have x0:wp.cell? ⟨PP,0,none⟩=some (vi t):=by rw [←hW,←hP];simp [go_sem]
       have x1:wp.cell? ⟨PP,1,none⟩=some (.bool f):=by rw [←hW,←hP];simp [go_sem]
       have GP:=GAT.out.ext hxp;obtain ⟨p0,p1,p2,pf⟩:=GP.cell;have zp:=cell_lt p0;have zx:=cell_lt x0;have HGP:=Lib.hid GP;have hsz:=GP.kept.size;clear hW hxp GP o0 o1 o2 of zo kb0 kb1 kb2 q0 q1 zb zq ds hq;go_wp2_with (at_builtin;refine wpList_append_lies _ rfl _ _ _ rfl w1.heap.size 94 j0 _ 2 16 Try.underlying74 hj0 hy0 hy1 hy2 rfl (by decide) (.slice g2 dj.length d2) dj.length (dj.flatMap jobCells) rfl (owns_alloc HGP.out.jobs _) ⟨wp.heap.size,0,none⟩ 1 1 [vi t,.bool f] rfl rfl (World.news_of_block (alloc_at _ _ _ (by simp))) (by simp [Value.oneCell']) (by decide) (by unfold maxLen;omega) (by omega) (by first|(simp;done)|(simp;omega)) _ rfl ?_;intro gg cap w5 hown5 hgrow hat hlt;obtain ⟨n0,n1,n2,nf⟩:=(HGP.out.cell.ext (w':=(wp.alloc (.cells #[vi t,.bool f] 94))) (by simp (maxDischargeDepth:=60))).grown hgrow (HGP.out.far2 hOw);have zn:=cell_lt n0;have HG2:=Lib.hid (HGP.out.addJob ⟨t,f⟩ (A:=(wp.alloc (.cells #[vi t,.bool f] 94))) (by simp (maxDischargeDepth:=60)) hOw hown5 hgrow hat);clear hown5 hgrow hat);go_roundw
       case rel=>first|exact ⟨n+1,dj++[(⟨t,f⟩:Ch.Job)],some ⟨gg,0,none⟩,cap,by omega,by go_num,HNX.out.symm,by rw [List.length_append];exact HG2.out⟩|(repeat apply Exists.intro;refine ⟨?_,rfl⟩;exact ⟨n+1,dj++[(⟨t,f⟩:Ch.Job)],some ⟨gg,0,none⟩,cap,by omega,by go_num,HNX.out.symm,by rw [List.length_append];exact HG2.out⟩)
       case measure=>simp [intOf];omega
      ·have hov:jobOver jt true true ⟨t,f⟩=true:=by rw [hov0];exact ht
       clear hov0
       have HNX:Hid ((js.take (n+1)).filter (fun x:Ch.Job=>!jobOver jt true true x)=dj):=by unfold Hid;rw [filter_take _ hs,HL.out,hov];simp
       clear hs hov;go_wp2;go_roundw
       case rel=>first|exact ⟨n+1,dj,g2,d2,by omega,by go_num,HNX.out.symm,GAT.out.ext (by simp (maxDischargeDepth:=60))⟩|(repeat apply Exists.intro;refine ⟨?_,rfl⟩;exact ⟨n+1,dj,g2,d2,by omega,by go_num,HNX.out.symm,GAT.out.ext (by simp (maxDischargeDepth:=60))⟩)
       case measure=>simp [intOf];omega
    ·have hnm:n=m2:=by omega
     subst hnm
     have HLJ:Hid (dj=js.filter (fun x:Ch.Job=>!jobOver jt true true x)):=by unfold Hid;rw [HL.out,List.take_of_length_le (by have:=E2.out;omega)]
     have kr:=KR.out.same (GAT.out.kept.other KR.out.lt (by omega));obtain ⟨kr0,kr1,kr2,krf⟩:=kr;have zr:=cell_lt kr0;have kq:=BookCell.set ⟨kr0,kr1,kr2,krf⟩ (vi last) (.slice g1 dl.length d1) (.slice g2 dj.length d2);obtain ⟨p0,p1,p2,pf⟩:=kq;go_wp2;refine bodyPost_ret (v:=.agg #[vi last,.slice g1 dl.length d1,.slice g2 dj.length d2]) (by simp [results,Try.results74,go_sem,p0,p1,p2]) rfl ?_;unfold NewBook;dsimp only;rw [←HLL.out,←HLJ.out];have zx:=HX.out.below.size;refine ⟨_,_,rfl,⟨?_,?_,GAT.out.apart⟩,?_⟩
     ·refine owns_base (owns_set (owns_set (owns_set GAT.out.stays _ ?_) _ ?_) _ ?_) zx <;> (intro e;have:=owns_block GAT.out.stays _ e;(try dsimp only at this);omega)
     ·refine owns_base (owns_set (owns_set (owns_set GAT.out.jobs _ ?_) _ ?_) _ ?_) zx <;> (intro e;have:=owns_block GAT.out.jobs _ e;(try dsimp only at this);omega)
     ·have hxh:=HXW.out
      exact Ext.setCell (Ext.setCell (Ext.setCell hxh (by dsimp only;omega) _) (by dsimp only;omega) _) (by dsimp only;omega) _
theorem rdone_any (last jt:Int) (jf gone:Bool) (a1:Option Addr) (m1 c1:Nat) (a2:Option Addr) (m2 c2:Nat) (l:List Ch.Stay) (js:List Ch.Job) (w:World)
  (h:Sl w 8 stayCells l a1 m1 c1) (h2:Sl w 2 jobCells js a2 m2 c2) (hm1:m1≤100) (hm2:m2≤100):
  Calls Try.prog 74 #[bookA last a1 m1 c1 a2 m2 c2,.agg #[vi jt,.bool jf],.bool gone] w (NewBook w (Ch.doneWith ⟨last,l,js⟩ ⟨jt,jf⟩ gone) (fun b=>b)):=by
 have e:Ch.doneWith ⟨last,l,js⟩ ⟨jt,jf⟩ gone=⟨last,l.filter (fun s=>!((jf || gone)&&s.ticket==jt)),js.filter (fun x=>!jobOver jt jf (jf || gone) x)⟩:=by
  have h1:=Ch.done_stays ⟨last,l,js⟩ ⟨jt,jf⟩ gone;have h2:=Ch.done_jobs ⟨last,l,js⟩ ⟨jt,jf⟩ gone;have h3:=jobOver_kept ⟨jt,jf⟩ gone;dsimp only at h3;rw [h3,show Ch.doneWith ⟨last,l,js⟩ ⟨jt,jf⟩ gone=⟨last,(Ch.doneWith ⟨last,l,js⟩ ⟨jt,jf⟩ gone).stays,(Ch.doneWith ⟨last,l,js⟩ ⟨jt,jf⟩ gone).jobs⟩ from rfl,h1,h2];rfl
 rw [e];cases jf
 ·cases gone
  ·exact rdone_none last jt a1 m1 c1 a2 m2 c2 l js w h h2 hm1 hm2
  ·exact rdone_gone last jt a1 m1 c1 a2 m2 c2 l js w h h2 hm1 hm2
 ·exact rdone_fetch gone last jt a1 m1 c1 a2 m2 c2 l js w h h2 hm1 hm2
end Go.Proofs.Ytplomeacjbkgnaa
