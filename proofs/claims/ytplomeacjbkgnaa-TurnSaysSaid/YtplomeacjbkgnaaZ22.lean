import Derived.Test.YtplomeacjbkgnaaZ21
set_option linter.all false
set_option maxRecDepth 100000
set_option maxHeartbeats 16000000
namespace Go.Proofs.Ytplomeacjbkgnaa
open Go.RowKit
theorem has_val {pb mb:Nat} {p:Ch.Plant} {w:World} (h:PlantAt w pb mb p) (hp:p.WF) (id:Int) (b:Bool) (hv:Hid (p.has id=b)):
  Calls Try.prog 82 #[.pointer (some ⟨pb,0,none⟩),vi id] w fun r w'=>r = .returned (.bool b)∧Ext w w':=by
 have:=has_any h hp id;rw [hv.out] at this;exact this
theorem owns_nilG (w:World) (base:Nat) (e:TypeId) (c:Nat):w.ownsRow base e c (.slice none 0 0) 0 []:=⟨by simp,Or.inl ⟨rfl,rfl⟩⟩
theorem owns_newA {w:World} {base A:Nat} (e c n:Nat) (cs:Array Value) (h:cs.size=n * c) (hn:n≤maxLen) (hA:A=w.heap.size) (hb:base≤A):(w.alloc (.cells cs e)).ownsRow base e c (.slice (some ⟨A,0,none⟩) n n) n cs.toList:=by
 subst hA;exact owns_base (owns_new w e c n cs h hn) hb
def NewGoals2 (w:World) (l:List Ch.Goal) (o g:Bool) (e:Ending) (w':World):Prop:=∃ v,e = .returned (.tuple #[v,.bool o,.bool g])∧w'.ownsRow w.heap.size 36 2 v l.length (l.flatMap goalCells)∧Ext w w'
def NewGoals1 (w:World) (l:List Ch.Goal) (o:Bool) (e:Ending) (w':World):Prop:=∃ v,e = .returned (.tuple #[v,.bool o])∧w'.ownsRow w.heap.size 36 2 v l.length (l.flatMap goalCells)∧Ext w w'
theorem store_any (xt xi x1 x2 x3 u1 u2 u3:Int) (last:Int) (a1:Option Addr) (m1 c1:Nat) (a2:Option Addr) (m2 c2:Nat) (lv:Int) (pb mb:Nat) (hh ee:Int) (dd:Bool) (pe li ba:Int) (f0 f1 f2:Bool) (p:Ch.Plant) (w:World)
  (hp:PlantAt w pb mb p) (hwf:p.WF) (hba:Hid (p.bay=ba)):
  Calls Try.prog 154 #[turnV last a1 m1 c1 a2 m2 c2 lv pb hh ee dd pe li ba f0 f1 f2,.agg #[vi xt,vi xi,vi x1,vi x2,vi x3,vi u1,vi u2,vi u3]] w (NewGoals2 w (Ch.storeOf p ⟨xt,⟨xi,⟨x1,x2,x3⟩⟩,⟨u1,u2,u3⟩⟩).1 (Ch.storeOf p ⟨xt,⟨xi,⟨x1,x2,x3⟩⟩,⟨u1,u2,u3⟩⟩).2.isSome ((Ch.storeOf p ⟨xt,⟨xi,⟨x1,x2,x3⟩⟩,⟨u1,u2,u3⟩⟩).2.getD false)):=by
 have HP:=Lib.hid hp;clear hp
 have hmf:∀ (fn:Fn) (first cap:Array Value) (w:World),(Instr.makeFunc fn first cap).run Try.prog w = .ok (.func fn first cap) w:=fun _ _ _ _=>rfl
 obtain ⟨sv,HSV⟩:∃ sv,Hid (p.slots ⟨u1,u2,u3⟩=sv):=⟨_,rfl⟩
 obtain ⟨hb,HHB⟩:∃ hb,Hid (p.has xi=hb):=⟨_,rfl⟩
 have HST:Hid (Ch.storeOf p ⟨xt,⟨xi,⟨x1,x2,x3⟩⟩,⟨u1,u2,u3⟩⟩=if sv=xi then ([],some false) else if ba=xi then (Ch.takeIn,none) else if hb then ([],none) else ([],some true)):=by
  unfold Hid;rw [←HSV.out,←HHB.out,←hba.out];rfl
 go_enter Try.func154,Try.ntmps154
 go_upto_region 1 with fail
 generalize hW:World.alloc _ _=w0
 have t0:w0.cell? ⟨w.heap.size,0,none⟩=some (vi last):=by rw [←hW];simp [go_sem]
 have t1:w0.cell? ⟨w.heap.size,1,none⟩=some (.slice a1 m1 c1):=by rw [←hW];simp [go_sem]
 have t2:w0.cell? ⟨w.heap.size,2,none⟩=some (.slice a2 m2 c2):=by rw [←hW];simp [go_sem]
 have t3:w0.cell? ⟨w.heap.size,3,none⟩=some (vi lv):=by rw [←hW];simp [go_sem]
 have t4:w0.cell? ⟨w.heap.size,4,none⟩=some (.pointer (some ⟨pb,0,none⟩)):=by rw [←hW];simp [go_sem]
 have t5:w0.cell? ⟨w.heap.size,5,none⟩=some (vi hh):=by rw [←hW];simp [go_sem]
 have t6:w0.cell? ⟨w.heap.size,6,none⟩=some (vi ee):=by rw [←hW];simp [go_sem]
 have t7:w0.cell? ⟨w.heap.size,7,none⟩=some (.bool dd):=by rw [←hW];simp [go_sem]
 have t8:w0.cell? ⟨w.heap.size,8,none⟩=some (vi pe):=by rw [←hW];simp [go_sem]
 have t9:w0.cell? ⟨w.heap.size,9,none⟩=some (vi li):=by rw [←hW];simp [go_sem]
 have t10:w0.cell? ⟨w.heap.size,10,none⟩=some (vi ba):=by rw [←hW];simp [go_sem]
 have t11:w0.cell? ⟨w.heap.size,11,none⟩=some (.bool f0):=by rw [←hW];simp [go_sem]
 have t12:w0.cell? ⟨w.heap.size,12,none⟩=some (.bool f1):=by rw [←hW];simp [go_sem]
 have t13:w0.cell? ⟨w.heap.size,13,none⟩=some (.bool f2):=by rw [←hW];simp [go_sem]
 have xx0:w0.cell? ⟨w.heap.size+1,0,none⟩=some (vi xt):=by rw [←hW];simp [go_sem]
 have xx1:w0.cell? ⟨w.heap.size+1,1,none⟩=some (vi xi):=by rw [←hW];simp [go_sem]
 have xx2:w0.cell? ⟨w.heap.size+1,2,none⟩=some (vi x1):=by rw [←hW];simp [go_sem]
 have xx3:w0.cell? ⟨w.heap.size+1,3,none⟩=some (vi x2):=by rw [←hW];simp [go_sem]
 have xx4:w0.cell? ⟨w.heap.size+1,4,none⟩=some (vi x3):=by rw [←hW];simp [go_sem]
 have xx5:w0.cell? ⟨w.heap.size+1,5,none⟩=some (vi u1):=by rw [←hW];simp [go_sem]
 have xx6:w0.cell? ⟨w.heap.size+1,6,none⟩=some (vi u2):=by rw [←hW];simp [go_sem]
 have xx7:w0.cell? ⟨w.heap.size+1,7,none⟩=some (vi u3):=by rw [←hW];simp [go_sem]
 have hx:Ext w w0:=by rw [←hW];exact (by simp (maxDischargeDepth:=60))
 have HP1:=Lib.hid (HP.out.ext hx);have HX:=Lib.hid hx;have z1:=cell_lt t0;have z2:=cell_lt xx0;clear hW hx HP
 by_cases hs:sv=xi
 ·subst hs
  (refine wp_region_ext (by kernel_rfl) (by kernel_rfl) ?_;(repeat (first|go_big_quiet_step ((intro _;go_at_call 127;exact ext_callG (at_val (HP1.out.ext (by simp (maxDischargeDepth:=60))) _ _ _ sv HSV) (by rintro w' ⟨o',n',rfl⟩;exact ⟨_,n',by first|(simp only [plus_plus];rfl)|(simp only [plus_plus,Array.append_assoc];rfl)|rfl⟩)))|quiet_step ((intro _;go_at_call 127;exact ext_callG (at_val (HP1.out.ext (by simp (maxDischargeDepth:=60))) _ _ _ sv HSV) (by rintro w' ⟨o',n',rfl⟩;exact ⟨_,n',by first|(simp only [plus_plus];rfl)|(simp only [plus_plus,Array.append_assoc];rfl)|rfl⟩)))));refine wpQuiet_nil ?_;intro _ hw';obtain ⟨oq,nq,hw''⟩:=hw';subst hw'')
  go_wp2
  go_ret3
  rw [HST.out];simp only [if_true,Option.isSome,Option.getD];exact ⟨_,rfl,owns_nilG _ _ _ _,HX.out.trans (by simp (maxDischargeDepth:=60))⟩
 ·(refine wp_region_ext (by kernel_rfl) (by kernel_rfl) ?_;(repeat (first|go_big_quiet_step ((intro _;go_at_call 127;exact ext_callG (at_val (HP1.out.ext (by simp (maxDischargeDepth:=60))) _ _ _ sv HSV) (by rintro w' ⟨o',n',rfl⟩;exact ⟨_,n',by first|(simp only [plus_plus];rfl)|(simp only [plus_plus,Array.append_assoc];rfl)|rfl⟩)))|quiet_step ((intro _;go_at_call 127;exact ext_callG (at_val (HP1.out.ext (by simp (maxDischargeDepth:=60))) _ _ _ sv HSV) (by rintro w' ⟨o',n',rfl⟩;exact ⟨_,n',by first|(simp only [plus_plus];rfl)|(simp only [plus_plus,Array.append_assoc];rfl)|rfl⟩)))));refine wpQuiet_nil ?_;intro _ hw';obtain ⟨oq,nq,hw''⟩:=hw';subst hw'')
  by_cases hb':ba=xi
  ·subst hb'
   go_wp2_with (go_at_call 14;(with_reducible refine (takeIn_any _).mono ?_);rintro e wv ⟨v1,rfl,hown,hxv⟩)
   go_ret3
   rw [HST.out];simp only [hs,if_false,if_true,Option.isSome,Option.getD];exact ⟨v1,rfl,owns_base hown (HX.out.trans (by simp (maxDischargeDepth:=60))).below.size,(HX.out.trans (by simp (maxDischargeDepth:=60))).trans hxv⟩
  ·cases hb
   ·go_wp2_with (go_at_call 82;(with_reducible refine (has_val (HP1.out.ext (by simp (maxDischargeDepth:=60))) hwf _ false HHB).mono ?_);rintro e w1 ⟨rfl,o1,n1,rfl⟩)
    go_ret3
    rw [HST.out];simp only [hs,hb',if_false,Bool.false_eq_true,Option.isSome,Option.getD];exact ⟨_,rfl,owns_nilG _ _ _ _,HX.out.trans (by simp (maxDischargeDepth:=60))⟩
   ·go_wp2_with (go_at_call 82;(with_reducible refine (has_val (HP1.out.ext (by simp (maxDischargeDepth:=60))) hwf _ true HHB).mono ?_);rintro e w1 ⟨rfl,o1,n1,rfl⟩)
    go_ret3
    rw [HST.out];simp only [hs,hb',if_false,if_true,Option.isSome,Option.getD];exact ⟨_,rfl,owns_nilG _ _ _ _,HX.out.trans (by simp (maxDischargeDepth:=60))⟩
theorem where_val {pb mb:Nat} {p:Ch.Plant} {w:World} (h:PlantAt w pb mb p) (hp:p.WF) (id q1 q2 q3:Int) (qb:Bool) (hv:Hid (whereV (p.where_ id) = .tuple #[.agg #[vi q1,vi q2,vi q3],.bool qb])):
  Calls Try.prog 80 #[.pointer (some ⟨pb,0,none⟩),vi id] w fun e w'=>e = .returned (.tuple #[.agg #[vi q1,vi q2,vi q3],.bool qb])∧Ext w w':=by
 have:=where_any h hp id;rw [hv.out] at this;exact this
theorem fetch_any_t (xt xi x1 x2 x3 u1 u2 u3:Int) (last:Int) (a1:Option Addr) (m1 c1:Nat) (a2:Option Addr) (m2 c2:Nat) (lv:Int) (pb mb:Nat) (hh ee:Int) (dd:Bool) (pe li ba:Int) (f0 f1 f2:Bool) (p:Ch.Plant) (w:World)
  (hp:PlantAt w pb mb p) (hwf:p.WF) (hba:Hid (p.bay=ba)) (hdd:Hid (p.door=dd)) (h4:p.levels≤4):
  Calls Try.prog 153 #[turnV last a1 m1 c1 a2 m2 c2 lv pb hh ee dd pe li ba f0 f1 f2,.agg #[vi xt,vi xi,vi x1,vi x2,vi x3,vi u1,vi u2,vi u3]] w (NewGoals1 w (Ch.fetchOf p ⟨xt,⟨xi,⟨x1,x2,x3⟩⟩,⟨u1,u2,u3⟩⟩).1 (Ch.fetchOf p ⟨xt,⟨xi,⟨x1,x2,x3⟩⟩,⟨u1,u2,u3⟩⟩).2):=by
 have HP:=Lib.hid hp;clear hp
 obtain ⟨hb,HHB⟩:∃ hb,Hid (p.has xi=hb):=⟨_,rfl⟩
 have HST:Hid (Ch.fetchOf p ⟨xt,⟨xi,⟨x1,x2,x3⟩⟩,⟨u1,u2,u3⟩⟩=if ba=xi∨hb=false then ([],true) else if ba≠0∧dd=true then ([],false) else if ba≠0 then (Ch.welcome,false) else if dd=true then ([⟨5,0⟩],false) else match p.where_ xi with
   | some y=>if y.depth=1∧p.slots (Ch.front y)≠0 then (Ch.fetch (Ch.front y),false) else (Ch.fetch y,false)
   | none=>([],false)):=by
  unfold Hid;rw [←HHB.out,←hba.out,←hdd.out];rfl
 go_enter Try.func153,Try.ntmps153
 go_upto_region 1 with fail
 generalize hW:World.alloc _ _=w0
 have t0:w0.cell? ⟨w.heap.size,0,none⟩=some (vi last):=by rw [←hW];simp [go_sem]
 have t1:w0.cell? ⟨w.heap.size,1,none⟩=some (.slice a1 m1 c1):=by rw [←hW];simp [go_sem]
 have t2:w0.cell? ⟨w.heap.size,2,none⟩=some (.slice a2 m2 c2):=by rw [←hW];simp [go_sem]
 have t3:w0.cell? ⟨w.heap.size,3,none⟩=some (vi lv):=by rw [←hW];simp [go_sem]
 have t4:w0.cell? ⟨w.heap.size,4,none⟩=some (.pointer (some ⟨pb,0,none⟩)):=by rw [←hW];simp [go_sem]
 have t5:w0.cell? ⟨w.heap.size,5,none⟩=some (vi hh):=by rw [←hW];simp [go_sem]
 have t6:w0.cell? ⟨w.heap.size,6,none⟩=some (vi ee):=by rw [←hW];simp [go_sem]
 have t7:w0.cell? ⟨w.heap.size,7,none⟩=some (.bool dd):=by rw [←hW];simp [go_sem]
 have t8:w0.cell? ⟨w.heap.size,8,none⟩=some (vi pe):=by rw [←hW];simp [go_sem]
 have t9:w0.cell? ⟨w.heap.size,9,none⟩=some (vi li):=by rw [←hW];simp [go_sem]
 have t10:w0.cell? ⟨w.heap.size,10,none⟩=some (vi ba):=by rw [←hW];simp [go_sem]
 have t11:w0.cell? ⟨w.heap.size,11,none⟩=some (.bool f0):=by rw [←hW];simp [go_sem]
 have t12:w0.cell? ⟨w.heap.size,12,none⟩=some (.bool f1):=by rw [←hW];simp [go_sem]
 have t13:w0.cell? ⟨w.heap.size,13,none⟩=some (.bool f2):=by rw [←hW];simp [go_sem]
 have xx0:w0.cell? ⟨w.heap.size+1,0,none⟩=some (vi xt):=by rw [←hW];simp [go_sem]
 have xx1:w0.cell? ⟨w.heap.size+1,1,none⟩=some (vi xi):=by rw [←hW];simp [go_sem]
 have xx2:w0.cell? ⟨w.heap.size+1,2,none⟩=some (vi x1):=by rw [←hW];simp [go_sem]
 have xx3:w0.cell? ⟨w.heap.size+1,3,none⟩=some (vi x2):=by rw [←hW];simp [go_sem]
 have xx4:w0.cell? ⟨w.heap.size+1,4,none⟩=some (vi x3):=by rw [←hW];simp [go_sem]
 have xx5:w0.cell? ⟨w.heap.size+1,5,none⟩=some (vi u1):=by rw [←hW];simp [go_sem]
 have xx6:w0.cell? ⟨w.heap.size+1,6,none⟩=some (vi u2):=by rw [←hW];simp [go_sem]
 have xx7:w0.cell? ⟨w.heap.size+1,7,none⟩=some (vi u3):=by rw [←hW];simp [go_sem]
 have hx:Ext w w0:=by rw [←hW];exact (by simp (maxDischargeDepth:=60))
 have HP1:=Lib.hid (HP.out.ext hx);have HX:=Lib.hid hx;have z1:=cell_lt t0;have z2:=cell_lt xx0;clear hW hx HP
 by_cases hi:ba=xi
 ·subst hi
  obtain ⟨q1,q2,q3,qb,HWV⟩:∃ q1 q2 q3 qb,Hid (whereV (p.where_ ba) = .tuple #[.agg #[vi q1,vi q2,vi q3],.bool qb]):=⟨_,_,_,_,rfl⟩
  go_wp2_with (go_at_call 80;(with_reducible refine (where_val (HP1.out.ext (by simp (maxDischargeDepth:=60))) hwf _ _ _ _ _ HWV).mono ?_);rintro e w1 ⟨rfl,o1,n1,rfl⟩)
  go_ret2
  have HE:_=_:=HST.out;simp only [true_or,or_true,false_or,or_false,if_true,if_false,ne_eq,not_true_eq_false,not_false_eq_true,and_true,true_and,false_and,and_false,Bool.true_eq_false,Bool.false_eq_true] at HE;rw [HE];exact ⟨_,rfl,owns_nilG _ _ _ _,HX.out.trans (by simp (maxDischargeDepth:=60))⟩
 ·cases hb
  ·obtain ⟨q1,q2,q3,qb,HWV⟩:∃ q1 q2 q3 qb,Hid (whereV (p.where_ xi) = .tuple #[.agg #[vi q1,vi q2,vi q3],.bool qb]):=⟨_,_,_,_,rfl⟩
   go_wp2_with (first|(go_at_call 80;(with_reducible refine (where_val (HP1.out.ext (by simp (maxDischargeDepth:=60))) hwf _ _ _ _ _ HWV).mono ?_);rintro e w1 ⟨rfl,o1,n1,rfl⟩)|(go_at_call 82;(with_reducible refine (has_val (HP1.out.ext (by simp (maxDischargeDepth:=60))) hwf _ false HHB).mono ?_);rintro e w1 ⟨rfl,o1,n1,rfl⟩))
   go_ret2
   have HE:_=_:=HST.out;simp only [hi,true_or,or_true,false_or,or_false,if_true,if_false,ne_eq,not_true_eq_false,not_false_eq_true,and_true,true_and,false_and,and_false,Bool.true_eq_false,Bool.false_eq_true] at HE;rw [HE];exact ⟨_,rfl,owns_nilG _ _ _ _,HX.out.trans (by simp (maxDischargeDepth:=60))⟩
  ·by_cases h0:ba=0
   ·subst h0
    cases dd
    ·cases hw:p.where_ xi with
     | none=>
      have HWV:Hid (whereV (p.where_ xi) = .tuple #[.agg #[vi 0,vi 0,vi 0],.bool false]):=by unfold Hid;rw [hw];rfl
      have HW:=Lib.hid hw;clear hw
      go_upto_region 10 with (first|(go_at_call 80;(with_reducible refine (where_val (HP1.out.ext (by simp (maxDischargeDepth:=60))) hwf _ _ _ _ _ HWV).mono ?_);rintro e w1 ⟨rfl,o1,n1,rfl⟩)|(go_at_call 82;(with_reducible refine (has_val (HP1.out.ext (by simp (maxDischargeDepth:=60))) hwf _ true HHB).mono ?_);rintro e w1 ⟨rfl,o1,n1,rfl⟩))
      (refine wp_region_ext (by kernel_rfl) (by kernel_rfl) ?_;(repeat (first|go_big_quiet_step (fail)|quiet_step (fail)));refine wpQuiet_nil ?_;intro _ hw';obtain ⟨oq,nq,hw''⟩:=hw';subst hw'')
      go_wp2
      go_ret2
      have HE:_=_:=HST.out;simp only [hi,HW.out,true_or,or_true,false_or,or_false,if_true,if_false,ne_eq,not_true_eq_false,not_false_eq_true,and_true,true_and,false_and,and_false,Bool.true_eq_false,Bool.false_eq_true] at HE;rw [HE];exact ⟨_,rfl,owns_nilG _ _ _ _,HX.out.trans (by simp (maxDischargeDepth:=60))⟩
     | some y=>
      obtain ⟨y1,y2,y3⟩:=y
      have HWV:Hid (whereV (p.where_ xi) = .tuple #[.agg #[vi y1,vi y2,vi y3],.bool true]):=by unfold Hid;rw [hw];rfl
      have HW:=Lib.hid hw;have hpf:=Ch.placeFault_iff.1 (Ch.where_ok hw);obtain ⟨g1,g2,g3,g4,g5,g6⟩:=hpf;dsimp only at g1 g2 g3 g4 g5 g6
      have g7:y1≤4:=by omega
      clear hw g2
      go_upto_region 10 with (first|(go_at_call 80;(with_reducible refine (where_val (HP1.out.ext (by simp (maxDischargeDepth:=60))) hwf _ _ _ _ _ HWV).mono ?_);rintro e w1 ⟨rfl,o1,n1,rfl⟩)|(go_at_call 82;(with_reducible refine (has_val (HP1.out.ext (by simp (maxDischargeDepth:=60))) hwf _ true HHB).mono ?_);rintro e w1 ⟨rfl,o1,n1,rfl⟩))
      by_cases hy:y3=1
      ·subst hy
       obtain ⟨sv,HSV⟩:∃ sv,Hid (p.slots ⟨y1,y2,0⟩=sv):=⟨_,rfl⟩
       by_cases hz:sv=0
       ·subst hz
        (refine wp_region_ext (by kernel_rfl) (by kernel_rfl) ?_;(repeat (first|go_big_quiet_step ((first|(intro _;go_at_call 40;exact ext_callG (front_fT _ _ _ _) (by rintro w' ⟨o',n',rfl⟩;exact ⟨_,n',by first|(simp only [plus_plus];rfl)|(simp only [plus_plus,Array.append_assoc];rfl)|rfl⟩))|(intro _;go_at_call 127;exact ext_callG (at_val (HP1.out.ext (by simp (maxDischargeDepth:=60))) _ _ _ 0 HSV) (by rintro w' ⟨o',n',rfl⟩;exact ⟨_,n',by first|(simp only [plus_plus];rfl)|(simp only [plus_plus,Array.append_assoc];rfl)|rfl⟩))))|quiet_step ((first|(intro _;go_at_call 40;exact ext_callG (front_fT _ _ _ _) (by rintro w' ⟨o',n',rfl⟩;exact ⟨_,n',by first|(simp only [plus_plus];rfl)|(simp only [plus_plus,Array.append_assoc];rfl)|rfl⟩))|(intro _;go_at_call 127;exact ext_callG (at_val (HP1.out.ext (by simp (maxDischargeDepth:=60))) _ _ _ 0 HSV) (by rintro w' ⟨o',n',rfl⟩;exact ⟨_,n',by first|(simp only [plus_plus];rfl)|(simp only [plus_plus,Array.append_assoc];rfl)|rfl⟩))))));refine wpQuiet_nil ?_;intro _ hw';obtain ⟨oq,nq,hw''⟩:=hw';subst hw'')
        go_wp2_with (go_at_call 21;(with_reducible refine (fetch_fT _ _ _ _ (by first|omega|decide) (by first|omega|decide) (by omega) (by omega)).mono ?_);rintro e wv ⟨v1,rfl,hown,hxv⟩)
        go_ret2
        have HE:_=_:=HST.out;simp only [hi,HW.out,Ch.front,HSV.out,true_or,or_true,false_or,or_false,if_true,if_false,ne_eq,not_true_eq_false,not_false_eq_true,and_true,true_and,false_and,and_false,Bool.true_eq_false,Bool.false_eq_true] at HE;rw [HE];exact ⟨v1,rfl,owns_base hown (HX.out.trans (by simp (maxDischargeDepth:=60))).below.size,(HX.out.trans (by simp (maxDischargeDepth:=60))).trans hxv⟩
       ·(refine wp_region_ext (by kernel_rfl) (by kernel_rfl) ?_;(repeat (first|go_big_quiet_step ((first|(intro _;go_at_call 40;exact ext_callG (front_fT _ _ _ _) (by rintro w' ⟨o',n',rfl⟩;exact ⟨_,n',by first|(simp only [plus_plus];rfl)|(simp only [plus_plus,Array.append_assoc];rfl)|rfl⟩))|(intro _;go_at_call 127;exact ext_callG (at_val (HP1.out.ext (by simp (maxDischargeDepth:=60))) _ _ _ sv HSV) (by rintro w' ⟨o',n',rfl⟩;exact ⟨_,n',by first|(simp only [plus_plus];rfl)|(simp only [plus_plus,Array.append_assoc];rfl)|rfl⟩))))|quiet_step ((first|(intro _;go_at_call 40;exact ext_callG (front_fT _ _ _ _) (by rintro w' ⟨o',n',rfl⟩;exact ⟨_,n',by first|(simp only [plus_plus];rfl)|(simp only [plus_plus,Array.append_assoc];rfl)|rfl⟩))|(intro _;go_at_call 127;exact ext_callG (at_val (HP1.out.ext (by simp (maxDischargeDepth:=60))) _ _ _ sv HSV) (by rintro w' ⟨o',n',rfl⟩;exact ⟨_,n',by first|(simp only [plus_plus];rfl)|(simp only [plus_plus,Array.append_assoc];rfl)|rfl⟩))))));refine wpQuiet_nil ?_;intro _ hw';obtain ⟨oq,nq,hw''⟩:=hw';subst hw'')
        go_wp2_with (first|(go_at_call 40;(with_reducible refine (front_fT _ _ _ _).mono ?_);rintro e w1 ⟨rfl,o1,n1,rfl⟩)|(go_at_call 21;(with_reducible refine (fetch_fT _ _ _ _ (by first|omega|decide) (by first|omega|decide) (by omega) (by omega)).mono ?_);rintro e wv ⟨v1,rfl,hown,hxv⟩))
        go_ret2
        have HE:_=_:=HST.out;simp only [hi,HW.out,Ch.front,HSV.out,hz,true_or,or_true,false_or,or_false,if_true,if_false,ne_eq,not_true_eq_false,not_false_eq_true,and_true,true_and,false_and,and_false,Bool.true_eq_false,Bool.false_eq_true] at HE;rw [HE];exact ⟨v1,rfl,owns_base hown (HX.out.trans (by simp (maxDischargeDepth:=60))).below.size,(HX.out.trans (by simp (maxDischargeDepth:=60))).trans hxv⟩
      ·(refine wp_region_ext (by kernel_rfl) (by kernel_rfl) ?_;(repeat (first|go_big_quiet_step (fail)|quiet_step (fail)));refine wpQuiet_nil ?_;intro _ hw';obtain ⟨oq,nq,hw''⟩:=hw';subst hw'')
       go_wp2_with (go_at_call 21;(with_reducible refine (fetch_fT _ _ _ _ (by first|omega|decide) (by first|omega|decide) (by omega) (by omega)).mono ?_);rintro e wv ⟨v1,rfl,hown,hxv⟩)
       go_ret2
       have HE:_=_:=HST.out;simp only [hi,HW.out,hy,true_or,or_true,false_or,or_false,if_true,if_false,ne_eq,not_true_eq_false,not_false_eq_true,and_true,true_and,false_and,and_false,Bool.true_eq_false,Bool.false_eq_true] at HE;rw [HE];exact ⟨v1,rfl,owns_base hown (HX.out.trans (by simp (maxDischargeDepth:=60))).below.size,(HX.out.trans (by simp (maxDischargeDepth:=60))).trans hxv⟩
    ·obtain ⟨q1,q2,q3,qb,HWV⟩:∃ q1 q2 q3 qb,Hid (whereV (p.where_ xi) = .tuple #[.agg #[vi q1,vi q2,vi q3],.bool qb]):=⟨_,_,_,_,rfl⟩
     go_wp2_with (first|(go_at_call 80;(with_reducible refine (where_val (HP1.out.ext (by simp (maxDischargeDepth:=60))) hwf _ _ _ _ _ HWV).mono ?_);rintro e w1 ⟨rfl,o1,n1,rfl⟩)|(go_at_call 82;(with_reducible refine (has_val (HP1.out.ext (by simp (maxDischargeDepth:=60))) hwf _ true HHB).mono ?_);rintro e w1 ⟨rfl,o1,n1,rfl⟩))
     go_ret2
     have HE:_=_:=HST.out;simp only [hi,true_or,or_true,false_or,or_false,if_true,if_false,ne_eq,not_true_eq_false,not_false_eq_true,and_true,true_and,false_and,and_false,Bool.true_eq_false,Bool.false_eq_true] at HE;rw [HE];exact ⟨_,rfl,owns_newA 36 2 1 #[vi 5,vi 0] rfl (by unfold maxLen;omega) (by simp) (by have:=HX.out.below.size;omega),HX.out.trans (by simp (maxDischargeDepth:=60))⟩
   ·obtain ⟨q1,q2,q3,qb,HWV⟩:∃ q1 q2 q3 qb,Hid (whereV (p.where_ xi) = .tuple #[.agg #[vi q1,vi q2,vi q3],.bool qb]):=⟨_,_,_,_,rfl⟩
    cases dd
    ·go_wp2_with (first|(go_at_call 80;(with_reducible refine (where_val (HP1.out.ext (by simp (maxDischargeDepth:=60))) hwf _ _ _ _ _ HWV).mono ?_);rintro e w1 ⟨rfl,o1,n1,rfl⟩)|(go_at_call 82;(with_reducible refine (has_val (HP1.out.ext (by simp (maxDischargeDepth:=60))) hwf _ true HHB).mono ?_);rintro e w1 ⟨rfl,o1,n1,rfl⟩)|(go_at_call 18;(with_reducible refine (welcome_any _).mono ?_);rintro e wv ⟨v1,rfl,hown,hxv⟩))
     go_ret2
     have HE:_=_:=HST.out;simp only [hi,h0,true_or,or_true,false_or,or_false,if_true,if_false,ne_eq,not_true_eq_false,not_false_eq_true,and_true,true_and,false_and,and_false,Bool.true_eq_false,Bool.false_eq_true] at HE;rw [HE];exact ⟨v1,rfl,owns_base hown (HX.out.trans (by simp (maxDischargeDepth:=60))).below.size,(HX.out.trans (by simp (maxDischargeDepth:=60))).trans hxv⟩
    ·go_wp2_with (first|(go_at_call 80;(with_reducible refine (where_val (HP1.out.ext (by simp (maxDischargeDepth:=60))) hwf _ _ _ _ _ HWV).mono ?_);rintro e w1 ⟨rfl,o1,n1,rfl⟩)|(go_at_call 82;(with_reducible refine (has_val (HP1.out.ext (by simp (maxDischargeDepth:=60))) hwf _ true HHB).mono ?_);rintro e w1 ⟨rfl,o1,n1,rfl⟩))
     go_ret2
     have HE:_=_:=HST.out;simp only [hi,h0,true_or,or_true,false_or,or_false,if_true,if_false,ne_eq,not_true_eq_false,not_false_eq_true,and_true,true_and,false_and,and_false,Bool.true_eq_false,Bool.false_eq_true] at HE;rw [HE];exact ⟨_,rfl,owns_nilG _ _ _ _,HX.out.trans (by simp (maxDischargeDepth:=60))⟩
end Go.Proofs.Ytplomeacjbkgnaa
