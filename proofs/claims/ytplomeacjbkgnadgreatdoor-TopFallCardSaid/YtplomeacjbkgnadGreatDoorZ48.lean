import Derived.Test.YtplomeacjbkgnadGreatDoorZ45
import Derived.Test.YtplomeacjbkgnadGreatDoorZ46
import Derived.Test.YtplomeacjbkgnadGreatDoorZ47
import Derived.HandedShaped
import Derived.Stop.LaidErr
import Derived.LaidMore
set_option linter.all false
set_option maxRecDepth 100000
set_option maxHeartbeats 16000000
namespace Go.Proofs.YtplomeacjbkgnadGreatDoor
open Go.RowKit
theorem and_small (x:Int) (m:Nat) (hm:m<4611686018427387904):0≤bits BinOp.and IntKind.i64 x (m:Int)∧bits BinOp.and IntKind.i64 x (m:Int)≤(m:Int):=by
 have h2:(BitVec.ofInt 64 (m:Int)).toNat=m:=by
  rw [BitVec.ofInt_natCast,BitVec.toNat_ofNat];exact Nat.mod_eq_of_lt (by omega)
 show 0≤IntKind.i64.wrap ((BitVec.ofInt 64 x &&& BitVec.ofInt 64 (m:Int)).toNat:Int)∧IntKind.i64.wrap ((BitVec.ofInt 64 x &&& BitVec.ofInt 64 (m:Int)).toNat:Int)≤(m:Int);rw [BitVec.toNat_and,h2,IntKind.wrap_i64];have h3:=Nat.and_le_right (n:=(BitVec.ofInt 64 x).toNat) (m:=m);omega
theorem hl_len {α:Type} {w:World} {c:Nat} {enc:α→List Value} {l:List α} {a:Option Addr} {n cap:Nat} (h:Sl w c enc l a n cap):l.length=n:=h.len
end Go.Proofs.YtplomeacjbkgnadGreatDoor
namespace Go.Proofs.YtplomeacjbkgnadGreatDoor
open Go.ChangeShapes Go.WideShapes Go.ChangeAt Go.RowKit
variable {H:Type} {enc:TypeId×Value→H} {w:World}
def RAct.Whole (w:World) (x:RAct):Prop:=x.Good∧∃ ls js,Sl w 8 stayCells ls x.a1 x.n1 x.c1∧Sl w 2 jobCells js x.a2 x.n2 x.c2
theorem rd_actB {cs:List Value} (h:Rd enc Tryz.prog w 41 cs):∃ x:RAct,cs=ractCells x∧x.Whole w:=by
 obtain ⟨hl,hf⟩:=rd_struct [(9,0,1),(3,1,1),(3,2,1),(34,3,4),(9,7,1),(35,8,1),(39,9,3)] 12 (by kernel_rfl) (by kernel_rfl) (by kernel_rfl) h;obtain ⟨kd,h0,g0⟩:=rd_string (by kernel_rfl) (hf (9,0,1) (by simp));obtain ⟨a,h1,g1⟩:=rd_int Tryz.underlying3 (hf (3,1,1) (by simp));obtain ⟨b,h2,g2⟩:=rd_int Tryz.underlying3 (hf (3,2,1) (by simp));obtain ⟨c,h3,g3⟩:=rd_car (hf (34,3,4) (by simp));obtain ⟨s,h4,g4⟩:=rd_string (by kernel_rfl) (hf (9,7,1) (by simp));obtain ⟨k,h5,g5,g5'⟩:=rd_u64 (by kernel_rfl) (hf (35,8,1) (by simp));obtain ⟨last,a1,n1,c1,a2,n2,c2,l,js,h6,s1,s2,g6,_,_⟩:=rd_book (hf (39,9,3) (by simp));refine ⟨⟨kd,a,b,c,s,k,last,a1,n1,c1,a2,n2,c2⟩,?_,⟨g0,g4,g1,g2,g3,g6,g5,g5',s1.bound,s2.bound⟩,l,js,s1,s2⟩
 match cs,hl with
 | [x0,x1,x2,x3,x4,x5,x6,x7,x8,x9,x10,x11],_=>simp [carCells] at h0 h1 h2 h3 h4 h5 h6;simp [ractCells,h0,h1,h2,h3,h4,h5,h6]
theorem wholes_good {l:List RAct} (h:∀ x∈l,RAct.Whole w x):∀ x∈l,x.Good:=fun x hx=>(h x hx).1
end Go.Proofs.YtplomeacjbkgnadGreatDoor
namespace Go.Proofs.YtplomeacjbkgnadGreatDoor
open Go.ChangeShapes Go.WideShapes Go.ChangeAt Go.RowKit
theorem handed_laid_shaped {H:Type} {enc:TypeId×Value→H} {a:Assume} {C:Checked} {os:Os} {f:FuncId} {fn:Func} {s:ChangeSpec} {conds:List PathCond} {apart fresh handsOn again:Bool} {X:World→Array Value→Prop}
  (hX:∀ (w w':World) (args:Array Value),w.heap=w'.heap→X w args→X w' args)
  (own:ownKnob C.prog.godebug=none) (started:os.Started) (noInit:C.prog.inits.idxOf? f=none) (hfn:C.prog.funcs[f]? = some fn)
  (witness:∃ (w:World) (tape:Tape) (i:Input),w.os=os∧(w.forCall tape i).Shaped C.prog∧i.vars=[]∧Input.okWide C.prog (w.forCall tape i) .any w.heap.size f i ∧
   ((s.pre enc C.prog fn conds apart (w.forCall tape i).memory i.args∧X (w.forCall tape i).memory i.args)∧sizedMet enc C.prog fn (OpenSpec.ofChange s) apart (w.forCall tape i).memory i.args)∧a.holds C.prog (lone (Frame.enter C.prog f i.args .normal) [] (w.forCall tape i)))
  (contract:∀ (W:World) (base:Nat) (args:Array Value) (ds gs:List (DataW H)) (before:List MemPlace),
   (∀ (j:Nat) t v,fn.params[j]? = some t→args[j]? = some v→Value.okWide C.prog W .any base t v) →
   DataW.Whole enc C.prog fn.params.toList s.vars apart W args.toList ds gs before →
   (DataW.weightsEach C.prog (fn.params.toList++s.plain.varTypes C.prog) (ds++gs)).all (·≤reachBytes)=true→X W args→W.ShapedOpen C.prog →
   Calls C.prog f args W fun e W'=>∃ v,e = .returned v∧s.post enc C.prog fn apart fresh handsOn again W args v W'):
  ReturnsInHanded a C os f .any (fun w args=>(s.pre enc C.prog fn conds apart w args∧X w args)∧sizedMet enc C.prog fn (OpenSpec.ofChange s) apart w args) (s.post enc C.prog fn apart fresh handsOn again):=by
 refine returnsInHanded_of_calls own started noInit witness fun w tape i _ hshape _ hok hpre _=>?_
 obtain ⟨_,_,_,g,hg,_,_,_,_,hval⟩:=hok;obtain rfl:g=fn:=Option.some.inj (hg.symm.trans hfn);obtain ⟨⟨⟨ds,gs,before,hw,_⟩,hx⟩,hz⟩:=hpre;refine (contract (w.forCall tape i) w.heap.size i.args ds gs before hval (DataW.Whole.of_heap (by rfl) hw) (hz.weights hw) (hX _ _ _ (by rfl) hx) hshape).mono ?_;rintro e W' ⟨v,rfl,hp⟩;exact ChangeSpec.post_blind hp
def starN:String:=String.ofList (Char.ofNat 42 :: String.toList "errors.errorString")
theorem star_rows:∀ t,t=starN→((List.range Tryz.prog.types.size).all fun u=>Tryz.prog.typeName? 3 u != some t || u==225)=true:=by
 intro t ht;subst ht;kernel_rfl
theorem rowErr (s:String) (hs:s=starN) (u:TypeId) (h:Tryz.prog.typeName? 3 u=some s):u=225:=
 typeName_ptr_named (nm := "errors.errorString") (star_rows _ (by decide)) (by kernel_rfl) (by decide) u (by rw [h,hs];exact congrArg some (by decide))
theorem tab_of {w:World} {name:String} (hg:Tryz.prog.globalNamed name=some 2) (h:Lib.TabIs Tryz.prog w name .u64 Lib.pow10Tab):Tab w:=by
 unfold Lib.TabIs World.var? at h;rw [hg] at h;simp only [Option.bind_some] at h
 split at h
 ·rename_i cs t fr hb
  cases h;exact ⟨t,fr,hb⟩
 ·cases h
theorem cell_of_var {w:World} {name:String} {g:Nat} {tp:TypeId} {p:Value} (hg:Tryz.prog.globalNamed name=some g) (h:w.var? Tryz.prog name=some #[.iface tp p]):w.cell? ⟨g,0,none⟩=some (.iface tp p):=by
 have h0:=World.var?_cell hg h 0
 simpa using h0
theorem libs_of {w:World} {n0 n1 n2 n3 n4 n5:String} {d0 d1 d2 d3 d4 d5:DataW Unit} {s4 s5:String} {x4 x5:List UInt8} {r:List (String×DataW Unit)}
  (h:laidMet Tryz.prog ((n0,d0) :: (n1,d1) :: (n2,d2) :: (n3,d3) :: (n4,d4) :: (n5,d5) :: r) w) (hs:w.ShapedOpen Tryz.prog)
  (e2:d2=Lib.tabData .u64 Lib.pow10Tab) (e4:d4 = .iface s4 (.ptr (.agg [.lit (.string x4)]))) (q4:s4=starN) (e5:d5 = .iface s5 (.ptr (.agg [.lit (.string x5)]))) (q5:s5=starN)
  (g2:Tryz.prog.globalNamed n2=some 2) (g4:Tryz.prog.globalNamed n4=some 1) (g5:Tryz.prog.globalNamed n5=some 0):Libs w:=by
 subst e2 e4 e5;have h2:=h.tail.tail;obtain ⟨_,_,hv4,-,-,-⟩:=laid_sentinel h2.tail.tail g4 (by kernel_rfl) (Tryz.underlying51) (rowErr _ q4) Tryz.underlying225 Tryz.underlying227 rfl rfl Tryz.underlying9 (by kernel_rfl) (by kernel_rfl);obtain ⟨_,_,hv5,-,-,-⟩:=laid_sentinel h2.tail.tail.tail g5 (by kernel_rfl) (Tryz.underlying51) (rowErr _ q5) Tryz.underlying225 Tryz.underlying227 rfl rfl Tryz.underlying9 (by kernel_rfl) (by kernel_rfl);exact ⟨tab_of g2 (Lib.tabIs_of_head g2 (t:=219) (e:=35) (n:=20) (by kernel_rfl) (by kernel_rfl) (by kernel_rfl) (by kernel_rfl) (by kernel_rfl) h2),Tryz.laysM146.s1_3 w hs,⟨_,_,cell_of_var g5 hv5⟩,⟨_,_,cell_of_var g4 hv4⟩⟩
end Go.Proofs.YtplomeacjbkgnadGreatDoor
