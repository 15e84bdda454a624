import Derived.Test.YtplomeacjbkgnabGreatDoorZ30
set_option linter.all false
set_option maxRecDepth 100000
set_option maxHeartbeats 16000000
namespace Go.Proofs.YtplomeacjbkgnabGreatDoor
open Go.RowKit
section
variable {P:Program} (w:World)
def SrcAt (w:World) (sv:Value) (m size:Nat) (news:List Value):Prop:=
 news.length=m * size∧((m=0∧∃ c,sv = .slice none 0 c)∨∃ ad c,sv = .slice (some ad) m c∧∀ j u,news[j]? = some u→w.cell? (ad.add j)=some u)
theorem run_append_none (base:Nat) (t ty e:TypeId) (i:TypeInfo) (size:Nat) (ht:P.underlying t=some (.slice e)) (hi:P.info? e=some i)
  (v:Value) (n:Nat) (xs:List Value) (hown:w.ownsRow base e size v n xs) (c:Nat):
  (Builtin.append_ #[t,t] ty #[v,.slice none 0 c]).run P w = .ok v w:=by
 rcases hown.2 with ⟨rfl,rfl⟩|⟨g,cap,cur,rfl,hbg,hg,hnc,hcm,hcs,htake⟩
 ·simp [Builtin.append_,run_underlying ht,sizeOf,typeInfo,hi,Builtin.lenOf,Builtin.firstCells]
 ·simp [Builtin.append_,run_underlying ht,sizeOf,typeInfo,hi,Builtin.lenOf,Builtin.firstCells,storeCells,hnc]
theorem run_append_all (base:Nat) (t ty e:TypeId) (i:TypeInfo) (z:Value) (size bytes:Nat) (ht:P.underlying t=some (.slice e)) (hi:P.info? e=some i) (hz:i.zero=some z)
  (hsize:i.size=size) (hby:i.bytes=bytes) (hzs:z.cells.size=size) (hsz:0<size)
  (v:Value) (n:Nat) (xs:List Value) (hown:w.ownsRow base e size v n xs)
  (sv:Value) (m:Nat) (news:List Value) (hsrc:SrcAt w sv m size news) (h1:∀ u∈news,u.oneCell'=true)
  (h63:n+m≤maxLen) (hbytes:(n+m) * bytes≤140737488355328) (hbase:base≤w.heap.size):
  ∃ v' w',(Builtin.append_ #[t,t] ty #[v,sv]).run P w = .ok v' w'∧w'.ownsRow base e size v' (n+m) (xs++news)∧w.grownBy w' v.ownBlock ∧
   (v'.ownBlock=v.ownBlock∨v'.ownBlock=some w.heap.size):=by
 obtain ⟨hl,⟨rfl,c,rfl⟩|⟨ad,c,rfl,hc⟩⟩:=hsrc
 ·have hn:news=[]:=List.eq_nil_of_length_eq_zero (by simpa using hl)
  subst hn;refine ⟨v,w,run_append_none w base t ty e i size ht hi v n xs hown c,by simpa using hown,⟨rfl,rfl,rfl,Nat.le_refl _,fun _ _ _=>rfl⟩,Or.inl rfl⟩
 ·obtain ⟨v',w',hr,h2,h3,_,h5⟩:=run_append_own_at (P:=P) w base t ty e i z size bytes ht hi hz hsize hby hzs hsz v n xs hown ad m c news hl hc h1 h63 hbytes hbase
  exact ⟨v',w',hr,h2,h3,h5⟩
theorem wp_append_all {o:Oper} {a:Act} {K:Act→World→Prop} {Q:Exit→Act→World→Prop} (s x:Operand) (t:TypeId)
  (ho:o.op = .call { callee:=.builtin .append,args:=#[s,x],argTypes:=#[t,t] })
  (base:Nat) (e:TypeId) (i:TypeInfo) (z:Value) (size bytes:Nat) (ht:P.underlying t=some (.slice e)) (hi:P.info? e=some i) (hz:i.zero=some z)
  (hsize:i.size=size) (hby:i.bytes=bytes) (hzs:z.cells.size=size) (hsz:0<size)
  (v:Value) (n:Nat) (xs:List Value) (hs:a.eval s=v) (hown:w.ownsRow base e size v n xs)
  (sv:Value) (m:Nat) (news:List Value) (hx:a.eval x=sv) (hsrc:SrcAt w sv m size news) (h1:∀ u∈news,u.oneCell'=true)
  (h63:n+m≤maxLen) (hbytes:(n+m) * bytes≤140737488355328) (hbase:base≤w.heap.size)
  (h:∀ v' w',w'.ownsRow base e size v' (n+m) (xs++news)→w.grownBy w' v.ownBlock→(v'.ownBlock=v.ownBlock∨v'.ownBlock=some w.heap.size)→K (a.put o.dst v') w'):o.wp P a w K Q:=by
 obtain ⟨v',w',hr,h2,h3,h4⟩:=run_append_all (P:=P) w base t o.type e i z size bytes ht hi hz hsize hby hzs hsz v n xs hown sv m news hsrc h1 h63 hbytes hbase;unfold Oper.wp execOp;simp only [ho,resolve,invoke,builtin,Sem.run_bind,Sem.run_pure,Result.andThen_ok,List.map_toArray,List.map_cons,List.map_nil,hs,hx,hr];exact h v' w' h2 h3 h4
theorem pD {ops:Array Oper} {o:Oper} {a:Act} {K:Act→World→Prop} {Q:Exit→Act→World→Prop} {E:Prop} (hgd:o.guard=none) (s x:Operand) (t:TypeId)
  (ho:o.op = .call { callee:=.builtin .append,args:=#[s,x],argTypes:=#[t,t] })
  (base:Nat) (e:TypeId) (i:TypeInfo) (z:Value) (size bytes:Nat) (ht:P.underlying t=some (.slice e)) (hi:P.info? e=some i) (hz:i.zero=some z)
  (hsize:i.size=size) (hby:i.bytes=bytes) (hzs:z.cells.size=size) (hsz:0<size)
  (v:Value) (n:Nat) (xs:List Value) (hs:a.eval s=v) (hown:w.ownsRow base e size v n xs)
  (sv:Value) (m:Nat) (news:List Value) (hx:a.eval x=sv) (hsrc:SrcAt w sv m size news) (h1:∀ u∈news,u.oneCell'=true)
  (h63:n+m≤maxLen) (hbytes:(n+m) * bytes≤140737488355328) (hbase:base≤w.heap.size)
  (h:∀ v' w',w'.ownsRow base e size v' (n+m) (xs++news)→w.grownBy w' v.ownBlock→(v'.ownBlock=v.ownBlock∨v'.ownBlock=some w.heap.size)→K (a.put o.dst v') w'):
  if Region.wanted o (yielded ops a.tmps)=true then Oper.wp P o a w K Q else E:=by
 have hw:Region.wanted o (yielded ops a.tmps)=true:=by simp [Region.wanted,hgd]
 rw [if_pos hw];exact wp_append_all w s x t ho base e i z size bytes ht hi hz hsize hby hzs hsz v n xs hs hown sv m news hx hsrc h1 h63 hbytes hbase h
end
theorem SrcAt.of {α:Type} {w:World} {c:Nat} {enc:α→List Value} {l:List α} {a:Option Addr} {n cap:Nat} (h:Sl w c enc l a n cap) (he:∀ x,(enc x).length=c):SrcAt w (.slice a n cap) n c (l.flatMap enc):=by
 have hn:=h.len;refine ⟨by rw [flat_len he,hn],?_⟩
 cases a with
 | none=>
  refine Or.inl ⟨?_,cap,?_⟩
  ·by_cases h0:n=0
   ·exact h0
   ·obtain ⟨_,_,_,e,_⟩:=h.get (k:=0) (by omega);cases e
  ·have h0:n=0:=by
    by_cases h0:n=0
    ·exact h0
    ·obtain ⟨_,_,_,e,_⟩:=h.get (k:=0) (by omega);cases e
   rw [h0]
 | some ad=>
  refine Or.inr ⟨ad,cap,rfl,?_⟩
  by_cases h0:n=0
  ·have hl:l=[]:=by cases l <;> simp_all
   subst hl;intro j u hj;simp at hj
  ·obtain ⟨b,o,x,e,hx,_⟩:=h.get (k:=0) (by omega)
   cases e;exact Sl.cells h he
theorem SrcAt.ext {w w':World} {sv:Value} {m size:Nat} {news:List Value} (h:SrcAt w sv m size news) (x:Ext w w') (hlt:∀ k,sv.ownBlock=some k→k<w.heap.size):SrcAt w' sv m size news:=by
 obtain ⟨hl,⟨rfl,c,rfl⟩|⟨ad,c,rfl,hc⟩⟩:=h
 ·exact ⟨hl,Or.inl ⟨rfl,c,rfl⟩⟩
 ·obtain ⟨o,n,rfl⟩:=x
  exact ⟨hl,Or.inr ⟨ad,c,rfl,fun j u hj=>by rw [yA _ _ _ _ _ _ (by have:=hlt ad.block rfl;unfold Addr.add;split <;> simpa using this)];exact hc j u hj⟩⟩
theorem put3r {w a:World} {R:Nat} {x y z x' y' z':Value} (hx:Ext w a) (hR:w.heap.size≤R) (c0:a.cell? ⟨R,0,none⟩=some x') (c1:a.cell? ⟨R,1,none⟩=some y') (c2:a.cell? ⟨R,2,none⟩=some z'):
  (((a.setCell ⟨R,0,none⟩ x).setCell ⟨R,1,none⟩ y).setCell ⟨R,2,none⟩ z).cell? ⟨R,0,none⟩=some x∧(((a.setCell ⟨R,0,none⟩ x).setCell ⟨R,1,none⟩ y).setCell ⟨R,2,none⟩ z).cell? ⟨R,1,none⟩=some y ∧
  (((a.setCell ⟨R,0,none⟩ x).setCell ⟨R,1,none⟩ y).setCell ⟨R,2,none⟩ z).cell? ⟨R,2,none⟩=some z∧Ext w (((a.setCell ⟨R,0,none⟩ x).setCell ⟨R,1,none⟩ y).setCell ⟨R,2,none⟩ z):=by
 have n01:(⟨R,0,none⟩:Addr)≠⟨R,1,none⟩:=by intro e;cases e
 have n02:(⟨R,0,none⟩:Addr)≠⟨R,2,none⟩:=by intro e;cases e
 have n12:(⟨R,1,none⟩:Addr)≠⟨R,2,none⟩:=by intro e;cases e
 refine ⟨?_,?_,?_,?_⟩
 ·rw [World.cell?_setCell_other (h:=n02.symm),World.cell?_setCell_other (h:=n01.symm),World.cell?_setCell_same (h:=c0)]
 ·rw [World.cell?_setCell_other (h:=n12.symm),World.cell?_setCell_same (h:=(show (a.setCell ⟨R,0,none⟩ x).cell? ⟨R,1,none⟩=some y' by rw [World.cell?_setCell_other (h:=n01)];exact c1))]
 ·rw [World.cell?_setCell_same (h:=(show ((a.setCell ⟨R,0,none⟩ x).setCell ⟨R,1,none⟩ y).cell? ⟨R,2,none⟩=some z' by rw [World.cell?_setCell_other (h:=n12),World.cell?_setCell_other (h:=n02)];exact c2))]
 ·exact Ext.of_below (xD (S:=fun i=>w.heap.size≤i) (Ext.refl w).below (Nat.le_refl _) ((((mA.of_ext hx).setCell (Or.inl hR) _).setCell (Or.inl hR) _).setCell (Or.inl hR) _) (fun _ h=>h))
def RWant (w:World) (r:Except Int Ch.Book) (a1:Option Addr) (m1 c1:Nat) (e:Ending) (w':World):Prop:=
 match r with
 | .error f=>e = .returned (.tuple #[rB 0 none 0 0 none 0 0,vi f])∧Ext w w'
 | .ok x=>∃ v2,e = .returned (.tuple #[.agg #[vi x.last,.slice a1 m1 c1,v2],vi 0])∧w'.ownsRow w.heap.size 143 2 v2 x.jobs.length (x.jobs.flatMap jA)∧Ext w w'
theorem grown_none {a b:World} (h:a.grownBy b (Value.ownBlock (.slice none 0 0))):Ext a b:=by
 refine Ext.of_below ⟨h.os,h.tape,h.output,h.size,fun k hk=>h.block k hk (by simp [Value.ownBlock])⟩
theorem rwant_any (last t:Int) (a1:Option Addr) (m1 c1:Nat) (a2:Option Addr) (m2 c2:Nat) (l:List Ch.Stay) (js:List Ch.Job) (w:World)
  (h:Sl w 8 gA l a1 m1 c1) (h2:Sl w 2 jA js a2 m2 c2) (hm2:m2≤100):
  Calls Tryz.prog 55 #[rB last a1 m1 c1 a2 m2 c2,vi t] w (RWant w (Ch.want ⟨last,l,js⟩ t) a1 m1 c1):=by
 obtain ⟨j0,hj0,hy0,hy1,hy2⟩:=info_parts fJ;have b1:=h.bound;have b2:=h2.bound;have HF:=aA h;have HJ:=aA h2;have E1:=aA h.len;have E2:=aA h2.len;clear h h2;go_enter Tryz.func55,Tryz.ntmps55
 go_upto_region 1 with fail
 generalize hW:World.alloc _ _=w0;have k0:w0.cell? ⟨w.heap.size,0,none⟩=some (vi last):=cQ hW;have k1:w0.cell? ⟨w.heap.size,1,none⟩=some (.slice a1 m1 c1):=cQ hW;have k2:w0.cell? ⟨w.heap.size,2,none⟩=some (.slice a2 m2 c2):=cQ hW;have r0:w0.cell? ⟨w.heap.size+1,0,none⟩=some (vi 0):=cQ hW;have r1:w0.cell? ⟨w.heap.size+1,1,none⟩=some (.slice none 0 0):=cQ hW;have r2:w0.cell? ⟨w.heap.size+1,2,none⟩=some (.slice none 0 0):=cQ hW
 have fz:∀ i,w0.frozen? ⟨w.heap.size+1,i,none⟩=false:=by intro i;rw [←hW];simp [go_sem]
 have hx:Ext w w0:=xQ hW;have HX:=aA hx;have FZ:=aA fz;have z0:=dA k0;have hR0:=dA r0;have HS:=aA (Sl.below HF.out hx.below);have HK:=aA (Sl.below HJ.out hx.below);clear hW hx fz;go_wp2
 go_loopw [6,7] (fun fv i wr=>∃ k:Nat,k≤m1∧i = .int .i64 k∧fv = .bool ((l.take k).any (fun s:Ch.Stay=>s.ticket==t))∧Ext w0 wr) (fun _ i _=>m1 - (intOf i).toNat)
 case atStart=>exact ⟨0,by omega,rfl,rfl,eX⟩
 case round=>
  obtain ⟨k,hk,rfl,rfl,o,m,rfl⟩:=hrel
  by_cases hlt:k<m1
  ·obtain ⟨b,q,s,rfl,hs,ds⟩:=HS.out.get hlt
   have ds:=at8 ds;obtain ⟨xt,⟨xi,⟨xx,xy,xz⟩⟩,⟨x0,x1,x2⟩⟩:=s;dsimp only at ds;have hq0:=dA ds.1;have HXX:=aA hs
   have hkj:(k:Int)<(m1:Int):=by omega
   generalize hFK:(l.take k).any (fun s:Ch.Stay=>s.ticket==t)=FK;have HFK:=aA hFK;clear hs hFK;cases FK
   ·cases hte:(xt==t)
    ·have hst:(l.take (k+1)).any (fun s:Ch.Stay=>s.ticket==t)=false:=by rw [any_takeF _ HXX.out,HFK.out];simp [hte]
     have HST:=aA hst;clear hst;go_wp2;go_roundw
     case rel=>first|exact ⟨k+1,by omega,by go_num,congrArg Value.bool HST.out.symm,eX⟩|(repeat apply Exists.intro;refine ⟨?_,rfl⟩;exact ⟨k+1,by omega,by go_num,congrArg Value.bool HST.out.symm,eX⟩)
     case measure=>simp [intOf];omega
    ·have hst:(l.take (k+1)).any (fun s:Ch.Stay=>s.ticket==t)=true:=by rw [any_takeF _ HXX.out,HFK.out];simp [hte]
     have HST:=aA hst;clear hst;go_wp2;go_roundw
     case rel=>first|exact ⟨k+1,by omega,by go_num,congrArg Value.bool HST.out.symm,eX⟩|(repeat apply Exists.intro;refine ⟨?_,rfl⟩;exact ⟨k+1,by omega,by go_num,congrArg Value.bool HST.out.symm,eX⟩)
     case measure=>simp [intOf];omega
   ·have hst:(l.take (k+1)).any (fun s:Ch.Stay=>s.ticket==t)=true:=by rw [any_takeF _ HXX.out,HFK.out];simp
    have HST:=aA hst;clear hst;go_wp2;go_roundw
    case rel=>first|exact ⟨k+1,by omega,by go_num,congrArg Value.bool HST.out.symm,eX⟩|(repeat apply Exists.intro;refine ⟨?_,rfl⟩;exact ⟨k+1,by omega,by go_num,congrArg Value.bool HST.out.symm,eX⟩)
    case measure=>simp [intOf];omega
  ·have hall:(l.take k).any (fun s:Ch.Stay=>s.ticket==t)=l.any (fun s:Ch.Stay=>s.ticket==t):=by rw [List.take_of_length_le (by have:=E1.out;omega)]
   rw [hall];clear hall;cases hF:l.any (fun s:Ch.Stay=>s.ticket==t)
   ·have HW:Hid (Ch.want ⟨last,l,js⟩ t = .error 5):=by
     unfold Hid Ch.want Ch.Book.find;rw [if_pos];simp only [Option.isNone_iff_eq_none,List.find?_eq_none];intro x hx;have:=List.any_eq_false.1 hF x hx
     simpa using this
    clear hF;have y0:=kA (w:=w0) (w':=w0.plus o m) eX hR0 (FZ.out 0);have y1:=kA (w:=w0) (w':=w0.plus o m) eX hR0 (FZ.out 1);have y2:=kA (w:=w0) (w':=w0.plus o m) eX hR0 (FZ.out 2);have t0:=eA (w:=w0) (w':=w0.plus o m) eX r0;have t1:=eA (w:=w0) (w':=w0.plus o m) eX r1;have t2:=eA (w:=w0) (w':=w0.plus o m) eX r2;go_wp2;obtain ⟨p0,p1,p2,px⟩:=put3r (w:=w) (R:=w.heap.size+1) (x:=vi 0) (y:=.slice none 0 0) (z:=.slice none 0 0) (HX.out.trans (c:=w0.plus o m) eX) (by omega) t0 t1 t2;refine bodyPost_ret (v:=.tuple #[rB 0 none 0 0 none 0 0,vi 5]) (by simp [results,Tryz.results55,go_sem,p0,p1,p2]) rfl ?_;unfold RWant;rw [HW.out];exact ⟨rfl,px⟩
   ·have HFD:Hid ((({ last:=last,stays:=l,jobs:=js }:Ch.Book).find t).isNone=false):=by
     unfold Hid Ch.Book.find;obtain ⟨x,hx,hp⟩:=List.any_eq_true.1 hF
     cases hf:l.find? (fun s=>s.ticket==t) with
     | none=>rw [List.find?_eq_none] at hf;exact absurd hp (hf x hx)
     | some y=>rfl
    clear hF
    go_upto_region 9 with fail
    generalize hW:World.alloc _ _=wj;generalize hD:w0.heap.size+o.size=D;have hxj:Ext w0 wj:=xQ hW;have d0:wj.cell? ⟨D,0,none⟩=some (vi t):=cR hW hD;have d1:wj.cell? ⟨D,1,none⟩=some (.bool true):=cR hW hD;have kj0:=eA hxj k0;have kj1:=eA hxj k1;have kj2:=eA hxj k2;have zj0:=dA kj0;have zd:=dA d0;have zrj:=dA (eA hxj r0);have HXJ:=aA hxj;have HKJ:=aA (Sl.below HK.out hxj.below)
    have hD1:¬ D=w.heap.size+1:=by omega
    have hD2:¬ w.heap.size+1=D:=by omega
    clear hW hD hxj k0 k1 k2;go_wp2
    go_loopw [9] (fun i wr=>∃ n:Nat,n≤m2∧i = .int .i64 n∧Hid ((js.take n).any (fun x:Ch.Job=>decide (x=⟨t,true⟩))=false)∧Ext wj wr) (fun i _=>m2 - (intOf i).toNat)
    case atStart=>exact ⟨0,by omega,rfl,rfl,eX⟩
    case round=>
     obtain ⟨n,hn,rfl,HN,o',m',rfl⟩:=hrel
     by_cases hln:n<m2
     ·obtain ⟨b,q,s,rfl,hs,ds⟩:=HKJ.out.get hln
      have ds:=at2 ds;obtain ⟨jt,jf⟩:=s;dsimp only at ds;have hq0:=dA ds.1;have HXX:=aA hs
      have hnj:(n:Int)<(m2:Int):=by omega
      clear hs
      by_cases hxe:(⟨jt,jf⟩:Ch.Job)=⟨t,true⟩
      ·have hq:∀ w,(Go.binOp .eql 143 (.agg #[vi jt,.bool jf]) (.agg #[vi t,.bool true])).run Tryz.prog w = .ok (.bool true) w:=fun w=>by rw [aG w (eqJob w 9998 ⟨jt,jf⟩ ⟨t,true⟩)];simp [hxe]
       have HW:Hid (Ch.want ⟨last,l,js⟩ t = .error 6):=by
        unfold Hid Ch.want;rw [if_neg (by rw [HFD.out];simp),if_pos];rw [List.contains_iff_mem];rw [←hxe];exact List.mem_of_getElem? HXX.out
       clear hxe
       go_upto_region 12 with fail
       (refine fA kR kR ?_;(repeat (first|go_big_quiet_step (fail)|quiet_step (fail)));refine wpQuiet_nil ?_;rintro _ ⟨oq,nq,rfl⟩)
       go_upto_region 13 with fail
       have y0:=kA (w:=w0) (w':=wj.plus (o'++oq) nq) (HXJ.out.trans eX) hR0 (FZ.out 0);have y1:=kA (w:=w0) (w':=wj.plus (o'++oq) nq) (HXJ.out.trans eX) hR0 (FZ.out 1);have y2:=kA (w:=w0) (w':=wj.plus (o'++oq) nq) (HXJ.out.trans eX) hR0 (FZ.out 2);have t0:=eA (w:=w0) (w':=wj.plus (o'++oq) nq) (HXJ.out.trans eX) r0;have t1:=eA (w:=w0) (w':=wj.plus (o'++oq) nq) (HXJ.out.trans eX) r1;have t2:=eA (w:=w0) (w':=wj.plus (o'++oq) nq) (HXJ.out.trans eX) r2;go_wp2;obtain ⟨p0,p1,p2,px⟩:=put3r (w:=w) (R:=w.heap.size+1) (x:=vi 0) (y:=.slice none 0 0) (z:=.slice none 0 0) (HX.out.trans (c:=wj.plus (o'++oq) nq) (HXJ.out.trans eX)) (by omega) t0 t1 t2;refine bodyPost_ret (v:=.tuple #[rB 0 none 0 0 none 0 0,vi 6]) (by simp [results,Tryz.results55,go_sem,p0,p1,p2]) rfl ?_;unfold RWant;rw [HW.out];exact ⟨rfl,px⟩
      ·have hq:∀ w,(Go.binOp .eql 143 (.agg #[vi jt,.bool jf]) (.agg #[vi t,.bool true])).run Tryz.prog w = .ok (.bool false) w:=fun w=>by rw [aG w (eqJob w 9998 ⟨jt,jf⟩ ⟨t,true⟩)];simp [hxe]
       have HST:Hid ((js.take (n+1)).any (fun x:Ch.Job=>decide (x=⟨t,true⟩))=false):=by unfold Hid;rw [any_takeF _ HXX.out,HN.out,decide_eq_false hxe];rfl
       clear hxe
       go_upto_region 12 with fail
       (refine fA kR kR ?_;(repeat (first|go_big_quiet_step (fail)|quiet_step (fail)));refine wpQuiet_nil ?_;rintro _ ⟨oq,nq,rfl⟩)
       go_wp2;go_roundw
       case rel=>first|exact ⟨n+1,by omega,by go_num,HST,eX⟩|(repeat apply Exists.intro;refine ⟨?_,rfl⟩;exact ⟨n+1,by omega,by go_num,HST,eX⟩)
       case measure=>simp [intOf];omega
     ·have hnc:Hid (js.contains ⟨t,true⟩=false):=by
       have e:=HN.out;rw [List.take_of_length_le (by have:=E2.out;omega),List.any_eq_false] at e;unfold Hid;rw [←Bool.not_eq_true,List.contains_iff_mem];intro hm;exact e _ hm (by simp)
      by_cases h8:m2=8
      ·have h8i:((m2:Int)==8)=true:=by simp;omega
       have HW:Hid (Ch.want ⟨last,l,js⟩ t = .error 8):=by
        unfold Hid Ch.want;rw [if_neg (by rw [HFD.out];simp),if_neg (by rw [hnc.out];simp),if_pos (by dsimp only;rw [E2.out];exact h8)]
       clear h8;have y0:=kA (w:=w0) (w':=wj.plus o' m') (HXJ.out.trans eX) hR0 (FZ.out 0);have y1:=kA (w:=w0) (w':=wj.plus o' m') (HXJ.out.trans eX) hR0 (FZ.out 1);have y2:=kA (w:=w0) (w':=wj.plus o' m') (HXJ.out.trans eX) hR0 (FZ.out 2);have t0:=eA (w:=w0) (w':=wj.plus o' m') (HXJ.out.trans eX) r0;have t1:=eA (w:=w0) (w':=wj.plus o' m') (HXJ.out.trans eX) r1;have t2:=eA (w:=w0) (w':=wj.plus o' m') (HXJ.out.trans eX) r2;go_wp2;obtain ⟨p0,p1,p2,px⟩:=put3r (w:=w) (R:=w.heap.size+1) (x:=vi 0) (y:=.slice none 0 0) (z:=.slice none 0 0) (HX.out.trans (c:=wj.plus o' m') (HXJ.out.trans eX)) (by omega) t0 t1 t2;refine bodyPost_ret (v:=.tuple #[rB 0 none 0 0 none 0 0,vi 8]) (by simp [results,Tryz.results55,go_sem,p0,p1,p2]) rfl ?_;unfold RWant;rw [HW.out];exact ⟨rfl,px⟩
      ·have h8i:((m2:Int)==8)=false:=by simp;omega
       have HW:Hid (Ch.want ⟨last,l,js⟩ t = .ok ⟨last,l,js++[⟨t,true⟩]⟩):=by
        unfold Hid Ch.want;rw [if_neg (by rw [HFD.out];simp),if_neg (by rw [hnc.out];simp),if_neg (by dsimp only;rw [E2.out];exact h8)]
       clear h8
       go_upto_region 16 with fail
       generalize hW:World.plus _ _ _=wz;have hxz:Ext wj wz:=xQ hW;clear hW;have kz0:=eA hxz kj0;have kz1:=eA hxz kj1;have kz2:=eA hxz kj2;have dz0:=eA hxz d0;have dz1:=eA hxz d1;have zz:=dA kz0;have zdz:=dA dz0;have y0:=kA (w:=w0) (HXJ.out.trans hxz) hR0 (FZ.out 0);have y1:=kA (w:=w0) (HXJ.out.trans hxz) hR0 (FZ.out 1);have y2:=kA (w:=w0) (HXJ.out.trans hxz) hR0 (FZ.out 2);have t0:=eA (w:=w0) (HXJ.out.trans hxz) r0;have t1:=eA (w:=w0) (HXJ.out.trans hxz) r1;have t2:=eA (w:=w0) (HXJ.out.trans hxz) r2;have zR:=dA t0;have HXZ:=aA (HXJ.out.trans hxz);have HKZ:=aA (Sl.below HKJ.out hxz.below);clear hxz kj0 kj1 kj2 d0 d1 zj0 zd HKJ;have HKJ:=HKZ;clear HKZ
       go_region_held3 (fun w'=>w'.cell? ⟨w.heap.size,0,none⟩=some (vi last)∧w'.cell? ⟨w.heap.size,1,none⟩=some (.slice a1 m1 c1)∧w'.cell? ⟨w.heap.size,2,none⟩=some (.slice a2 m2 c2)∧w'.cell? ⟨D,0,none⟩=some (vi t)∧w'.cell? ⟨D,1,none⟩=some (.bool true))
        (first|go_keep|((try dsimp only);(repeat' apply And.intro) <;> (simp (disch:=(first|assumption|(simp;done)|(simp;omega))) [yA,go_sem, *];done)))
        (first
         | (refine pD _ rfl _ _ _ rfl wz.heap.size 143 j0 _ 2 16 Tryz.underlying47 hj0 hy0 hy1 hy2 rfl (by decide) (.slice none 0 0) 0 [] rfl (World.ownsRow_nil _ _ _ _) (.slice a2 m2 c2) m2 (js.flatMap jA) rfl (SrcAt.of (Sl.below HKJ.out (Ext.below eX)) (fun _=>rfl)) (by intro u hu;obtain ⟨y,_,hy⟩:=List.mem_flatMap.1 hu;simp only [jA,List.mem_cons,List.not_mem_nil,or_false] at hy;rcases hy with rfl|rfl <;> rfl) (by unfold maxLen;omega) (by omega) (by first|(simp;done)|(simp;omega)) ?_;intro v1 w5 hown1 hgrow1 hat1;obtain ⟨o3,n3,rfl⟩:=grown_none hgrow1)
         | (refine pD _ rfl _ _ _ rfl wz.heap.size 143 j0 _ 2 16 Tryz.underlying47 hj0 hy0 hy1 hy2 rfl (by decide) v1 (0+m2) ([]++js.flatMap jA) rfl (by first|exact hown1|exact mD hown1 eX) _ 1 [vi t,.bool true] rfl ⟨rfl,Or.inr ⟨_,1,rfl,by first|exact World.news_of_block (sA _ _ _ (by simp))|exact World.news_of_block ((bB _ _ _ _ (by simp)).trans (sA _ _ _ (by simp)))⟩⟩ (by simp [Value.oneCell']) (by unfold maxLen;omega) (by omega) (by first|(simp;done)|(simp;omega)) ?_;intro v2 w6 hown2 hgrow2 hat2;obtain ⟨o4,n4,rfl⟩:=uB (w:=wz) eX hgrow2 (uA hown1);rw [Nat.zero_add,List.nil_append,show js.flatMap jA++[vi t,.bool true]=(js++[(⟨t,true⟩:Ch.Job)]).flatMap jA by simp [jA]] at hown2;obtain ⟨x2,e2,rfl,sl2⟩:=Sl.of_owns (c:=2) (enc:=jA) hown2 (by decide) (fun _=>rfl)))
       all_goals
        have hR2:=uA hown2
        have zx:w.heap.size≤wz.heap.size:=by omega
        obtain ⟨p0,p1,p2,px⟩:=put3r (w:=w) (a:=wz.plus o4 n4) (R:=w.heap.size+1) (x:=vi last) (y:=.slice a1 m1 c1) (z:=.slice x2 (m2+1) e2) ((HX.out.trans HXZ.out).trans eX) (by omega) (eA (w:=wz) eX t0) (eA (w:=wz) eX t1) (eA (w:=wz) eX t2);go_wp2;refine bodyPost_ret (v:=.tuple #[.agg #[vi last,.slice a1 m1 c1,.slice x2 (m2+1) e2],vi 0]) (by simp [results,Tryz.results55,go_sem,p0,p1,p2]) rfl ?_;unfold RWant;rw [HW.out];refine ⟨_,rfl,?_,px⟩;dsimp only;rw [show (js++[(⟨t,true⟩:Ch.Job)]).length=m2+1 by rw [List.length_append,E2.out];rfl]
        refine rA (pA (pA (pA hown2 _ ?_) _ ?_) _ ?_) zx <;> (intro e;have:=hR2 _ e;(try dsimp only at this);omega)
