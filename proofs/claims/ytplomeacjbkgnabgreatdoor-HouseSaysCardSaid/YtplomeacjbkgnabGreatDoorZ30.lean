import Derived.Test.YtplomeacjbkgnabGreatDoorZ25
import Derived.HandedShaped
import Derived.Stop.LaidErr
import Derived.LaidMore
set_option linter.all false
set_option maxRecDepth 100000
set_option maxHeartbeats 16000000
namespace Go.Proofs.YtplomeacjbkgnabGreatDoor
open Go.RowKit
abbrev sensedA (s:Ch.Sensed):Value:=.agg #[vi s.height,vi s.ext,.bool s.door,vi s.people,vi s.lift,vi s.bay,.bool s.here,.bool s.toLeft,.bool s.toRight]
theorem w64_wrap (n:Int):Ch.w64 n=wrap64 n:=by
 unfold Ch.w64 wrap64;simp
theorem may_any (c:Int) (s:Ch.Sensed) (w:World):
  Calls Tryz.prog 67 #[.int .u8 c,sensedA s] w fun e w'=>e = .returned (.bool (Ch.may c s))∧Ext w w':=by
 obtain ⟨height,ext,door,people,lift,bay,here,tl,tr⟩:=s;go_enter Tryz.func67,Tryz.ntmps67;go_wp2
 all_goals
  go_ret;go_light;refine ⟨?_,eX⟩
  first|(simp_all [Ch.may,Ch.mayStretch,Ch.level,Ch.shut,w64_wrap];done)|(refine congrArg (fun b=>Ending.returned (.bool b)) ?_;simp only [beq_iff_eq] at *;subst_vars;simp [Ch.may,Ch.mayStretch,Ch.level,w64_wrap];grind)
theorem rmay_any (c:Int) (s:Ch.Sensed) (w:World) (h0:-9223372036854775808≤s.ext) (h1:s.ext≤9223372036854775807):
  Calls Tryz.prog 70 #[.int .u8 c,sensedA s] w fun e w'=>e = .returned (.bool (Ch.may c s))∧Ext w w':=by
 obtain ⟨height,ext,door,people,lift,bay,here,tl,tr⟩:=s;have H0:=aA h0;have H1:=aA h1;clear h0 h1;go_enter Tryz.func70,Tryz.ntmps70;go_wp2
 all_goals
  go_ret;go_light;refine ⟨?_,eX⟩;refine congrArg (fun b=>Ending.returned (.bool b)) ?_
  first|(simp_all [Ch.may,Ch.mayStretch,Ch.level,Ch.shut];done)|(simp only [beq_iff_eq] at *;subst_vars;have h0:=H0.out;have h1:=H1.out;clear H0 H1;first|(simp [Ch.may,Ch.mayStretch,Ch.level,Ch.w64];done)|(simp [Ch.may,Ch.mayStretch,Ch.level,Ch.w64];grind))
theorem may_f (c h x p l b:Int) (d e f g:Bool) (w:World):
  Calls Tryz.prog 67 #[.int .u8 c,.agg #[vi h,vi x,.bool d,vi p,vi l,vi b,.bool e,.bool f,.bool g]] w fun e' w'=>e' = .returned (.bool (Ch.may c ⟨h,x,d,p,l,b,e,f,g⟩))∧Ext w w':=may_any c ⟨h,x,d,p,l,b,e,f,g⟩ w
theorem rmay_f (c h x p l b:Int) (d e f g:Bool) (w:World) (h0:-9223372036854775808≤x) (h1:x≤9223372036854775807):
  Calls Tryz.prog 70 #[.int .u8 c,.agg #[vi h,vi x,.bool d,vi p,vi l,vi b,.bool e,.bool f,.bool g]] w fun e' w'=>e' = .returned (.bool (Ch.may c ⟨h,x,d,p,l,b,e,f,g⟩))∧Ext w w':=rmay_any c ⟨h,x,d,p,l,b,e,f,g⟩ w h0 h1
abbrev nextV (x:Int×Bool):Value:=.tuple #[.int .u8 x.1,.bool x.2]
theorem next_any (g:Ch.Goal) (s:Ch.Sensed) (w:World):
  Calls Tryz.prog 66 #[goalA g,sensedA s] w fun e w'=>e = .returned (nextV (Ch.nextOf g s))∧Ext w w':=by
 obtain ⟨height,ext,door,people,lift,bay,here,tl,tr⟩:=s;obtain ⟨kind,n⟩:=g;go_enter Tryz.func66,Tryz.ntmps66;go_wp2
 all_goals
  go_ret2
  refine ⟨?_,eX⟩
  first|(simp_all [Ch.nextOf,Ch.toward,Ch.once];done)|(simp_all [Ch.nextOf,Ch.toward,Ch.once];omega)|(simp only [beq_iff_eq] at *;subst_vars;simp [Ch.nextOf,Ch.toward,Ch.once];grind)
theorem rnext_any (g:Ch.Goal) (s:Ch.Sensed) (w:World):
  Calls Tryz.prog 69 #[goalA g,sensedA s] w fun e w'=>e = .returned (nextV (Ch.nextOf g s))∧Ext w w':=by
 obtain ⟨height,ext,door,people,lift,bay,here,tl,tr⟩:=s;obtain ⟨kind,n⟩:=g;go_enter Tryz.func69,Tryz.ntmps69;go_wp2
 all_goals
  go_ret2
  refine ⟨?_,eX⟩
  first|(simp_all [Ch.nextOf,Ch.toward,Ch.once];done)|(simp_all [Ch.nextOf,Ch.toward,Ch.once];omega)|(simp only [beq_iff_eq] at *;subst_vars;simp [Ch.nextOf,Ch.toward,Ch.once];grind)
theorem next_f (k n h x p l b:Int) (d e f g:Bool) (w:World):
  Calls Tryz.prog 66 #[.agg #[vi k,vi n],.agg #[vi h,vi x,.bool d,vi p,vi l,vi b,.bool e,.bool f,.bool g]] w fun e' w'=>e' = .returned (nextV (Ch.nextOf ⟨k,n⟩ ⟨h,x,d,p,l,b,e,f,g⟩))∧Ext w w':=next_any ⟨k,n⟩ ⟨h,x,d,p,l,b,e,f,g⟩ w
theorem rnext_f (k n h x p l b:Int) (d e f g:Bool) (w:World):
  Calls Tryz.prog 69 #[.agg #[vi k,vi n],.agg #[vi h,vi x,.bool d,vi p,vi l,vi b,.bool e,.bool f,.bool g]] w fun e' w'=>e' = .returned (nextV (Ch.nextOf ⟨k,n⟩ ⟨h,x,d,p,l,b,e,f,g⟩))∧Ext w w':=rnext_any ⟨k,n⟩ ⟨h,x,d,p,l,b,e,f,g⟩ w
theorem any_takeF {α:Type} {l:List α} {k:Nat} {x:α} (p:α→Bool) (h:l[k]? = some x):(l.take (k+1)).any p=((l.take k).any p || p x):=by
 rw [List.take_add_one,h,List.any_append];simp
theorem cJ (F:Int) (x a b c:Int) (w:World) (hf:Hid (Ch.carFault ⟨x,⟨a,b,c⟩⟩=F)):Calls Tryz.prog 99 #[.agg #[vi x,vi a,vi b,vi c]] w fun e w'=>e = .returned (vi F)∧Ext w w':=by
 have:=rcarFault_f x a b c w;rw [hf.out] at this;exact this
theorem sameBook_yes (last:Int) (a1:Option Addr) (n1 c1:Nat) (a2:Option Addr) (n2 c2:Nat) (b1:Option Addr) (d1:Nat) (b2:Option Addr) (d2:Nat) (l:List Ch.Stay) (js:List Ch.Job) (w:World)
  (h1:Sl w 8 gA l a1 n1 c1) (h2:Sl w 2 jA js a2 n2 c2) (h3:Sl w 8 gA l b1 n1 d1) (h4:Sl w 2 jA js b2 n2 d2):
  Calls Tryz.prog 27 #[rB last a1 n1 c1 a2 n2 c2,rB last b1 n1 d1 b2 n2 d2] w fun e w'=>e = .returned (.bool true)∧Ext w w':=by
 have q1:=h1.bound;have q2:=h2.bound;have q3:=h3.bound;have q4:=h4.bound;have F1:=aA h1;have F2:=aA h2;have F3:=aA h3;have F4:=aA h4;clear h1 h2 h3 h4;go_enter Tryz.func27,Tryz.ntmps27
 go_upto_region 3 with fail
 generalize hW:World.alloc _ _=w0;have k0:w0.cell? ⟨w.heap.size,0,none⟩=some (vi last):=cQ hW;have k1:w0.cell? ⟨w.heap.size,1,none⟩=some (.slice a1 n1 c1):=cQ hW;have k2:w0.cell? ⟨w.heap.size,2,none⟩=some (.slice a2 n2 c2):=cQ hW;have m0:w0.cell? ⟨w.heap.size+1,0,none⟩=some (vi last):=cQ hW;have m1:w0.cell? ⟨w.heap.size+1,1,none⟩=some (.slice b1 n1 d1):=cQ hW;have m2:w0.cell? ⟨w.heap.size+1,2,none⟩=some (.slice b2 n2 d2):=cQ hW;have hx:Ext w w0:=xQ hW;have HX:=aA hx;have G1:=aA (Sl.below F1.out hx.below);have G2:=aA (Sl.below F2.out hx.below);have G3:=aA (Sl.below F3.out hx.below);have G4:=aA (Sl.below F4.out hx.below);have z1:=dA k0;have z2:=dA m0;clear hW hx F1 F2 F3 F4;go_wp2
 go_loopw [5] (fun i wr=>∃ k:Nat,k≤n1∧i = .int .i64 k∧Ext w0 wr) (fun i _=>n1 - (intOf i).toNat)
 case atStart=>exact ⟨0,by omega,rfl,eX⟩
 case round=>
  obtain ⟨k,hk,rfl,o,m,rfl⟩:=hrel
  by_cases hlt:k<n1
  ·obtain ⟨p1,o1,u1,rfl,x1,g1⟩:=G1.out.get hlt
   obtain ⟨p2,o2,u2,rfl,x2,g2⟩:=G3.out.get hlt;obtain rfl:u1=u2:=Option.some.inj (x1.symm.trans x2);have d1:=at8 g1;have d2:=at8 g2;have y1:=dA d1.1;have y2:=dA d2.1;obtain ⟨t,⟨ci,⟨cx,cy,cz⟩⟩,⟨h0,h1,h2⟩⟩:=u1;dsimp only at d1 d2
   have hq:∀ w,(Go.binOp .neq 141 (.agg #[vi t,vi ci,vi cx,vi cy,vi cz,vi h0,vi h1,vi h2]) (.agg #[vi t,vi ci,vi cx,vi cy,vi cz,vi h0,vi h1,vi h2])).run Tryz.prog w = .ok (.bool false) w:=fun w=>by
    rw [gF w (eqStay w 9996 ⟨t,⟨ci,⟨cx,cy,cz⟩⟩,⟨h0,h1,h2⟩⟩ ⟨t,⟨ci,⟨cx,cy,cz⟩⟩,⟨h0,h1,h2⟩⟩)];simp
   have hkj:(k:Int)<(n1:Int):=by omega
   clear g1 g2 x1 x2
   go_upto_region 6 with fail
   (refine fA kR kR ?_;(repeat (first|go_big_quiet_step (fail)|quiet_step (fail)));refine wpQuiet_nil ?_;rintro _ ⟨oq,nq,rfl⟩)
   go_wp2;go_roundw
   case rel=>exact ⟨k+1,by omega,by go_num,eX⟩
   case measure=>simp [intOf];omega
  ·have hkn:k=n1:=by omega
   subst hkn;go_wp2
   go_loopw [6] (fun i wr=>∃ k:Nat,k≤n2∧i = .int .i64 k∧Ext w0 wr) (fun i _=>n2 - (intOf i).toNat)
   case atStart=>exact ⟨0,by omega,rfl,eX⟩
   case round=>
    obtain ⟨j,hj,rfl,o',m',rfl⟩:=hrel
    by_cases hlt:j<n2
    ·obtain ⟨p1,o1,u1,rfl,x1,g1⟩:=G2.out.get hlt
     obtain ⟨p2,o2,u2,rfl,x2,g2⟩:=G4.out.get hlt;obtain rfl:u1=u2:=Option.some.inj (x1.symm.trans x2);have d1:=at2 g1;have d2:=at2 g2;have y1:=dA d1.1;have y2:=dA d2.1;obtain ⟨t,f⟩:=u1;dsimp only at d1 d2
     have hq:∀ w,(Go.binOp .neq 143 (.agg #[vi t,.bool f]) (.agg #[vi t,.bool f])).run Tryz.prog w = .ok (.bool false) w:=fun w=>by
      rw [gF w (eqJob w 9998 ⟨t,f⟩ ⟨t,f⟩)];simp
     have hkj:(j:Int)<(n2:Int):=by omega
     clear g1 g2 x1 x2
     go_upto_region 11 with fail
     (refine fA kR kR ?_;(repeat (first|go_big_quiet_step (fail)|quiet_step (fail)));refine wpQuiet_nil ?_;rintro _ ⟨oq,nq,rfl⟩)
     go_wp2;go_roundw
     case rel=>exact ⟨j+1,by omega,by go_num,eX⟩
     case measure=>simp [intOf];omega
    ·have hjn:j=n2:=by omega
     subst hjn;go_wp2;go_ret;exact ⟨rfl,HX.out.trans eX⟩
theorem sameGoals_any (a1 a2:Option Addr) (n1 c1 n2 c2:Nat) (l1 l2:List Ch.Goal) (w:World) (h1:Sl w 2 eB l1 a1 n1 c1) (h2:Sl w 2 eB l2 a2 n2 c2):
  Calls Tryz.prog 24 #[.slice a1 n1 c1,.slice a2 n2 c2] w fun e w'=>e = .returned (.bool (decide (l1=l2)))∧Ext w w':=by
 have e1:=h1.len;have e2:=h2.len;have b1:=h1.bound;have b2:=h2.bound
 by_cases hn:n1=n2
 ·subst hn
  have E1:=aA e1;have E2:=aA e2;have F1:=aA h1;have F2:=aA h2;clear e1 e2 h1 h2;go_enter Tryz.func24,Tryz.ntmps24;go_wp2
  go_loopw [5] (fun i wr=>∃ k:Nat,k≤n1∧i = .int .i64 k∧Hid (l1.take k=l2.take k)∧Ext w wr) (fun i _=>n1 - (intOf i).toNat)
  case atStart=>exact ⟨0,by omega,rfl,by simp [Hid],by simp⟩
  case round=>
   obtain ⟨k,hk,rfl,HT,o,m,rfl⟩:=hrel
   by_cases hlt:k<n1
   ·obtain ⟨p1,o1,u1,rfl,x1,g1⟩:=F1.out.get hlt
    obtain ⟨p2,o2,u2,rfl,x2,g2⟩:=F2.out.get hlt;have X1:=aA x1;have X2:=aA x2;have d1:=at2 g1;have d2:=at2 g2;have q1:=dA d1.1;have q2:=dA d2.1;clear g1 g2 x1 x2
    by_cases hu:u1=u2
    ·have HU:=aA hu
     have hq:∀ w,(Go.binOp .neq 135 (goalA u1) (goalA u2)).run Tryz.prog w = .ok (.bool false) w:=fun w=>by rw [gF w (eqGoal w 9998 u1 u2)];simp [hu]
     clear hu;go_wp2
     (refine fA kR kR ?_;(repeat (first|go_big_quiet_step (fail)|quiet_step (fail)));refine wpQuiet_nil ?_;rintro _ ⟨oq,nq,rfl⟩)
     go_wp2;go_roundw
     case rel=>exact ⟨k+1,by omega,by go_num,by show List.take _ _=List.take _ _;rw [List.take_add_one,List.take_add_one,X1.out,X2.out,HT.out,HU.out],by simp⟩
     case measure=>simp [intOf];omega
    ·have HU:=aA hu
     have hq:∀ w,(Go.binOp .neq 135 (goalA u1) (goalA u2)).run Tryz.prog w = .ok (.bool true) w:=fun w=>by rw [gF w (eqGoal w 9998 u1 u2)];simp [hu]
     clear hu;go_wp2
     (refine fA kR kR ?_;(repeat (first|go_big_quiet_step (fail)|quiet_step (fail)));refine wpQuiet_nil ?_;rintro _ ⟨oq,nq,rfl⟩)
     go_wp2;go_ret;refine ⟨?_,by simp⟩
     have:l1≠l2:=fun h=>HU.out (by have a:=X1.out;have b:=X2.out;rw [h] at a;exact Option.some.inj (a.symm.trans b))
     simp [this]
   ·go_wp2
    go_ret
    have:l1=l2:=by (have h:=HT.out;rw [List.take_of_length_le (by have:=E1.out;omega),List.take_of_length_le (by have:=E2.out;omega)] at h;exact h)
    exact ⟨by simp [this],by simp⟩
 ·have hne:l1≠l2:=fun h=>hn (by rw [←e1,←e2,h])
  clear h1 h2 e1 e2;go_enter Tryz.func24,Tryz.ntmps24;go_wp2;go_ret;exact ⟨by simp [hne],by simp⟩
theorem sameGoals_yes (a1 a2:Option Addr) (n1 c1 n2 c2:Nat) (l1 l2:List Ch.Goal) (w:World) (h1:Sl w 2 eB l1 a1 n1 c1) (h2:Sl w 2 eB l2 a2 n2 c2) (e:l1=l2):
  Calls Tryz.prog 24 #[.slice a1 n1 c1,.slice a2 n2 c2] w fun e w'=>e = .returned (.bool true)∧Ext w w':=by
 have:=sameGoals_any a1 a2 n1 c1 n2 c2 l1 l2 w h1 h2
 simpa [e] using this
def ToldN (w:World) (n:Nat) (m:Int) (e:Ending) (w':World):Prop:=∃ b,e = .returned (.bool b)∧(b=true→(n:Int)≤m)∧Ext w w'
theorem lightActs_len (m:Int) (a:Option Addr) (n cap:Nat) (l:List RAct) (w:World) (h:Sl w 12 ractCells l a n cap) (hg:∀ x∈l,x.Good):
  Calls Tryz.prog 6 #[.slice a n cap,vi m] w (ToldN w n m):=by
 by_cases hm:(n:Int)≤m
 ·refine (lightActs_any m a n cap l w h hg).mono ?_
  rintro e w' ⟨b,rfl,hx⟩;exact ⟨b,rfl,fun _=>hm,hx⟩
 ·have hm':m<(n:Int):=by omega
  clear h hg hm;go_enter Tryz.func6,Tryz.ntmps6;go_wp2;go_ret;exact ⟨false,rfl,(fun h=>by cases h),eX⟩
variable {H:Type} {enc:TypeId×Value→H} {w:World}
theorem rd_book {cs:List Value} (h:Rd enc Tryz.prog w 49 cs):∃ last a1 n1 c1 a2 n2 c2 l js,cs=[vi last,.slice a1 n1 c1,.slice a2 n2 c2]∧Sl w 8 gA l a1 n1 c1∧Sl w 2 jA js a2 n2 c2∧I64 last∧(∀ s∈l,I64Y s)∧∀ j∈js,I64J j:=by
 obtain ⟨hl,hf⟩:=nG [(3,0,1),(46,1,1),(47,2,1)] 3 kR kR kR h;obtain ⟨last,h0,g0⟩:=eH Tryz.underlying3 (hf (3,0,1) (by simp));obtain ⟨l,a1,n1,c1,h1,s1,g1⟩:=rd_list (c:=8) gA I64Y (by decide) (fun _=>rfl) Tryz.underlying46 kR (fun ecs h=>rd_stay h) (hf (46,1,1) (by simp));obtain ⟨js,a2,n2,c2,h2,s2,g2⟩:=rd_list (c:=2) jA I64J (by decide) (fun _=>rfl) Tryz.underlying47 kR (fun ecs h=>rd_job h) (hf (47,2,1) (by simp));refine ⟨last,a1,n1,c1,a2,n2,c2,l,js,?_,s1,s2,g0,g1,g2⟩
 match cs,hl with
 | [x0,x1,x2],_=>simp at h0 h1 h2;simp [h0,h1,h2]
end Go.Proofs.YtplomeacjbkgnabGreatDoor
namespace Go.Proofs.YtplomeacjbkgnabGreatDoor
open Go.ChangeShapes Go.WideShapes Go.ChangeAt Go.RowKit
variable {H:Type} {enc:TypeId×Value→H} {w:World}
def RAct.Whole (w:World) (x:RAct):Prop:=x.Good∧∃ ls js,Sl w 8 gA ls x.a1 x.n1 x.c1∧Sl w 2 jA js x.a2 x.n2 x.c2
theorem rd_actB {cs:List Value} (h:Rd enc Tryz.prog w 59 cs):∃ x:RAct,cs=ractCells x∧x.Whole w:=by
 obtain ⟨hl,hf⟩:=nG [(9,0,1),(3,1,1),(3,2,1),(56,3,4),(9,7,1),(57,8,1),(49,9,3)] 12 kR kR kR h;obtain ⟨kd,h0,g0⟩:=rd_string kR (hf (9,0,1) (by simp));obtain ⟨a,h1,g1⟩:=eH Tryz.underlying3 (hf (3,1,1) (by simp));obtain ⟨b,h2,g2⟩:=eH Tryz.underlying3 (hf (3,2,1) (by simp));obtain ⟨c,h3,g3⟩:=rd_car (hf (56,3,4) (by simp));obtain ⟨s,h4,g4⟩:=rd_string kR (hf (9,7,1) (by simp));obtain ⟨k,h5,g5,g5'⟩:=rd_u64 kR (hf (57,8,1) (by simp));obtain ⟨last,a1,n1,c1,a2,n2,c2,l,js,h6,s1,s2,g6,_,_⟩:=rd_book (hf (49,9,3) (by simp));refine ⟨⟨kd,a,b,c,s,k,last,a1,n1,c1,a2,n2,c2⟩,?_,⟨g0,g4,g1,g2,g3,g6,g5,g5',s1.bound,s2.bound⟩,l,js,s1,s2⟩
 match cs,hl with
 | [x0,x1,x2,x3,x4,x5,x6,x7,x8,x9,x10,x11],_=>simp [carCells] at h0 h1 h2 h3 h4 h5 h6;simp [ractCells,h0,h1,h2,h3,h4,h5,h6]
theorem wholes_good {l:List RAct} (h:∀ x∈l,RAct.Whole w x):∀ x∈l,x.Good:=fun x hx=>(h x hx).1
end Go.Proofs.YtplomeacjbkgnabGreatDoor
namespace Go.Proofs.YtplomeacjbkgnabGreatDoor
open Go.ChangeShapes Go.WideShapes Go.ChangeAt Go.RowKit
theorem handed_laid_shaped {H:Type} {enc:TypeId×Value→H} {a:Assume} {C:Checked} {os:Os} {f:FuncId} {fn:Func} {s:ChangeSpec} {conds:List PathCond} {apart fresh handsOn again:Bool} {X:World→Array Value→Prop}
  (hX:∀ (w w':World) (args:Array Value),w.heap=w'.heap→X w args→X w' args)
  (own:ownKnob C.prog.godebug=none) (started:os.Started) (noInit:C.prog.inits.idxOf? f=none) (hfn:C.prog.funcs[f]? = some fn)
  (witness:∃ (w:World) (tape:Tape) (i:Input),w.os=os∧(w.forCall tape i).Shaped C.prog∧i.vars=[]∧Input.okWide C.prog (w.forCall tape i) .any w.heap.size f i ∧
   ((s.pre enc C.prog fn conds apart (w.forCall tape i).memory i.args∧X (w.forCall tape i).memory i.args)∧sizedMet enc C.prog fn (OpenSpec.ofChange s) apart (w.forCall tape i).memory i.args)∧a.holds C.prog (lone (Frame.enter C.prog f i.args .normal) [] (w.forCall tape i)))
  (contract:∀ (W:World) (base:Nat) (args:Array Value) (ds gs:List (DataW H)) (before:List MemPlace),
   (∀ (j:Nat) t v,fn.params[j]? = some t→args[j]? = some v→Value.okWide C.prog W .any base t v) →
   DataW.Whole enc C.prog fn.params.toList s.vars apart W args.toList ds gs before →
   (DataW.weightsEach C.prog (fn.params.toList++s.plain.varTypes C.prog) (ds++gs)).all (·≤reachBytes)=true→X W args→W.ShapedOpen C.prog →
   Calls C.prog f args W fun e W'=>∃ v,e = .returned v∧s.post enc C.prog fn apart fresh handsOn again W args v W'):
  ReturnsInHanded a C os f .any (fun w args=>(s.pre enc C.prog fn conds apart w args∧X w args)∧sizedMet enc C.prog fn (OpenSpec.ofChange s) apart w args) (s.post enc C.prog fn apart fresh handsOn again):=by
 refine returnsInHanded_of_calls own started noInit witness fun w tape i _ hshape _ hok hpre _=>?_
 obtain ⟨_,_,_,g,hg,_,_,_,_,hval⟩:=hok;obtain rfl:g=fn:=Option.some.inj (hg.symm.trans hfn);obtain ⟨⟨⟨ds,gs,before,hw,_⟩,hx⟩,hz⟩:=hpre;refine (contract (w.forCall tape i) w.heap.size i.args ds gs before hval (DataW.Whole.of_heap (by rfl) hw) (hz.weights hw) (hX _ _ _ (by rfl) hx) hshape).mono ?_;rintro e W' ⟨v,rfl,hp⟩;exact ChangeSpec.post_blind hp
def starN:String:=String.ofList (Char.ofNat 42 :: String.toList "errors.errorString")
theorem star_rows:∀ t,t=starN→((List.range Tryz.prog.types.size).all fun u=>Tryz.prog.typeName? 3 u != some t || u==279)=true:=by
 intro t ht;subst ht;kernel_rfl
theorem rowErr (s:String) (hs:s=starN) (u:TypeId) (h:Tryz.prog.typeName? 3 u=some s):u=279:=
 typeName_ptr_named (nm := "errors.errorString") (star_rows _ (by decide)) kR (by decide) u (by rw [h,hs];exact congrArg some (by decide))
theorem tab_of {w:World} {name:String} (hg:Tryz.prog.globalNamed name=some 0) (h:Lib.TabIs Tryz.prog w name .u64 Lib.pow10Tab):Tab w:=by
 unfold Lib.TabIs World.var? at h;rw [hg] at h;simp only [Option.bind_some] at h
 split at h
 ·rename_i cs t fr hb
  cases h;exact ⟨t,fr,hb⟩
 ·cases h
theorem cell_of_var {w:World} {name:String} {g:Nat} {tp:TypeId} {p:Value} (hg:Tryz.prog.globalNamed name=some g) (h:w.var? Tryz.prog name=some #[.iface tp p]):w.cell? ⟨g,0,none⟩=some (.iface tp p):=by
 have h0:=World.var?_cell hg h 0
 simpa using h0
theorem libs_of {w:World} {n0 n1 n2 n3 n4 n5:String} {d0 d1 d2 d3 d4 d5:DataW Unit} {s4 s5:String} {x4 x5:List UInt8} {r:List (String×DataW Unit)}
  (h:laidMet Tryz.prog ((n0,d0) :: (n1,d1) :: (n2,d2) :: (n3,d3) :: (n4,d4) :: (n5,d5) :: r) w) (hs:w.ShapedOpen Tryz.prog)
  (e2:d2=Lib.tabData .u64 Lib.pow10Tab) (e4:d4 = .iface s4 (.ptr (.agg [.lit (.string x4)]))) (q4:s4=starN) (e5:d5 = .iface s5 (.ptr (.agg [.lit (.string x5)]))) (q5:s5=starN)
  (g2:Tryz.prog.globalNamed n2=some 0) (g4:Tryz.prog.globalNamed n4=some 2) (g5:Tryz.prog.globalNamed n5=some 1):Libs w:=by
 subst e2 e4 e5;have h2:=h.tail.tail;obtain ⟨_,_,hv4,-,-,-⟩:=laid_sentinel h2.tail.tail g4 kR (Tryz.underlying29) (rowErr _ q4) Tryz.underlying279 Tryz.underlying281 rfl rfl Tryz.underlying9 kR kR;obtain ⟨_,_,hv5,-,-,-⟩:=laid_sentinel h2.tail.tail.tail g5 kR (Tryz.underlying29) (rowErr _ q5) Tryz.underlying279 Tryz.underlying281 rfl rfl Tryz.underlying9 kR kR;exact ⟨tab_of g2 (Lib.tabIs_of_head g2 (t:=264) (e:=57) (n:=20) kR kR kR kR kR h2),Tryz.laysM146.s1_3 w hs,⟨_,_,cell_of_var g5 hv5⟩,⟨_,_,cell_of_var g4 hv4⟩⟩
