import Derived.Test.YtplomeacjbkgnabGreatDoorZ25
import Derived.Test.YtplomeacjbkgnabGreatDoorZ18
set_option linter.all false
set_option maxRecDepth 100000
set_option maxHeartbeats 16000000
namespace Go.Proofs.YtplomeacjbkgnabGreatDoor
open Go.RowKit Tryz Ch
theorem dN {pb mb:Nat} {p:dA} {w:World} (h:yA w pb mb p) (hp:p.WF) (id:Int) (b:Bool) (hv:Hid (p.has id=b)):
  Calls prog 82 #[.pointer (some ⟨pb,0,none⟩),vi id] w fun r w'=>r = .returned (.bool b)/\Ext w w':=by
 have:=has_any h hp id;rw [hv.out] at this;exact this
theorem fD (w:World) (base:Nat) (e:TypeId) (c:Nat):w.ownsRow base e c (.slice none 0 0) 0 []:=⟨sp,Or.inl ⟨rfl,rfl⟩⟩
theorem owns_newA {w:World} {base A:Nat} (e c n:Nat) (cs:Array Value) (h:cs.size=n * c) (hn:n<=maxLen) (hA:A=w.heap.size) (hb:base<=A):(w.alloc (.cells cs e)).ownsRow base e c (.slice (some ⟨A,0,none⟩) n n) n cs.toList:=by
 subst hA;exact mA (iM w e c n cs h hn) hb
def NewGoals2 (w:World) (l:List aG) (o g:Bool) (e:Ending) (w':World):Prop:=∃ v,e = .returned (.tuple #[v,.bool o,.bool g])/\w'.ownsRow w.heap.size 135 2 v l.length (l.flatMap jC)/\Ext w w'
def NewGoals1 (w:World) (l:List aG) (o:Bool) (e:Ending) (w':World):Prop:=∃ v,e = .returned (.tuple #[v,.bool o])/\w'.ownsRow w.heap.size 135 2 v l.length (l.flatMap jC)/\Ext w w'
theorem store_any (xt xi x1 x2 x3 u1 u2 u3:Int) (last:Int) (a1:Option Addr) (m1 c1:Nat) (a2:Option Addr) (m2 c2:Nat) (lv:Int) (pb mb:Nat) (hh ee:Int) (dd:Bool) (pe li ba:Int) (f0 f1 f2:Bool) (p:dA) (w:World)
  (hp:yA w pb mb p) (hwf:p.WF) (hba:Hid (p.bay=ba)):
  Calls prog 170 #[turnV last a1 m1 c1 a2 m2 c2 lv pb hh ee dd pe li ba f0 f1 f2,.agg #[vi xt,vi xi,vi x1,vi x2,vi x3,vi u1,vi u2,vi u3]] w (NewGoals2 w (qH p ⟨xt,⟨xi,⟨x1,x2,x3⟩⟩,⟨u1,u2,u3⟩⟩).1 (qH p ⟨xt,⟨xi,⟨x1,x2,x3⟩⟩,⟨u1,u2,u3⟩⟩).2.isSome ((qH p ⟨xt,⟨xi,⟨x1,x2,x3⟩⟩,⟨u1,u2,u3⟩⟩).2.getD false)):=by
 have HP:=aA hp;clear hp
 have hmf:∀ (fn:Fn) (first cap:Array Value) (w:World),(Instr.makeFunc fn first cap).run prog w = .ok (.func fn first cap) w:=fun _ _ _ _=>rfl
 obtain ⟨sv,HSV⟩:∃ sv,Hid (p.slots ⟨u1,u2,u3⟩=sv):=⟨_,rfl⟩
 obtain ⟨hb,HHB⟩:∃ hb,Hid (p.has xi=hb):=⟨_,rfl⟩
 have HST:Hid (qH p ⟨xt,⟨xi,⟨x1,x2,x3⟩⟩,⟨u1,u2,u3⟩⟩=if sv=xi then ([],some false) else if ba=xi then (aO,none) else if hb then ([],none) else ([],some true)):=by
  unfold Hid;rw [<-HSV.out,<-HHB.out,<-hba.out];rfl
 go_enter func170,ntmps170
 go_upto_region 1 with fail
 generalize hW:World.alloc _ _=w0;have t0:cI w0 w.heap.size 0 last:=cQ hW;have t1:cV w0 w.heap.size 1 (.slice a1 m1 c1):=cQ hW;have t2:cV w0 w.heap.size 2 (.slice a2 m2 c2):=cQ hW;have t3:cI w0 w.heap.size 3 lv:=cQ hW;have t4:cV w0 w.heap.size 4 (.pointer (some ⟨pb,0,none⟩)):=cQ hW;have t5:cI w0 w.heap.size 5 hh:=cQ hW;have t6:cI w0 w.heap.size 6 ee:=cQ hW;have t7:cV w0 w.heap.size 7 (.bool dd):=cQ hW;have t8:cI w0 w.heap.size 8 pe:=cQ hW;have t9:cI w0 w.heap.size 9 li:=cQ hW;have t10:cI w0 w.heap.size 10 ba:=cQ hW;have t11:cV w0 w.heap.size 11 (.bool f0):=cQ hW;have t12:cV w0 w.heap.size 12 (.bool f1):=cQ hW;have t13:cV w0 w.heap.size 13 (.bool f2):=cQ hW;have xx0:cI w0 (w.heap.size+1) 0 xt:=cQ hW;have xx1:cI w0 (w.heap.size+1) 1 xi:=cQ hW;have xx2:cI w0 (w.heap.size+1) 2 x1:=cQ hW;have xx3:cI w0 (w.heap.size+1) 3 x2:=cQ hW;have xx4:cI w0 (w.heap.size+1) 4 x3:=cQ hW;have xx5:cI w0 (w.heap.size+1) 5 u1:=cQ hW;have xx6:cI w0 (w.heap.size+1) 6 u2:=cQ hW;have xx7:cI w0 (w.heap.size+1) 7 u3:=cQ hW;have hx:Ext w w0:=xQ hW;have HP1:=aA (HP.out.ext hx);have HX:=aA hx;have z1:=cA t0;have z2:=cA xx0;clear hW hx HP
 by_cases hs:sv=xi
 ·subst hs
  (refine rA kR kR ?_;(repeat (first|go_big_quiet_step ((intro _;go_at_call 35;exact qC (tF (HP1.out.ext eX) _ _ _ sv HSV)))|quiet_step (fail)));refine wpQuiet_nil ?_;rintro _ ⟨oq,nq,rfl⟩)
  go_wp2
  go_ret3
  rw [HST.out];simp only [if_true,Option.isSome,Option.getD];exact ⟨_,rfl,fD _ _ _ _,HX.out.trans eX⟩
 ·(refine rA kR kR ?_;(repeat (first|go_big_quiet_step ((intro _;go_at_call 35;exact qC (tF (HP1.out.ext eX) _ _ _ sv HSV)))|quiet_step (fail)));refine wpQuiet_nil ?_;rintro _ ⟨oq,nq,rfl⟩)
  by_cases hb':ba=xi
  ·subst hb'
   go_wp2_with (go_at_call 194;(with_reducible refine (takeIn_any _).mono ?_);rintro e wv ⟨v1,rfl,hown,hxv⟩)
   go_ret3
   rw [HST.out];simp only [hs,if_false,if_true,Option.isSome,Option.getD];exact ⟨v1,rfl,mA hown (HX.out.trans eX).below.size,(HX.out.trans eX).trans hxv⟩
  ·cases hb
   ·go_wp2_with (go_at_call 82;with_reducible refine mo (dN (HP1.out.ext eX) hwf _ false HHB) fun o1 n1=>?_)
    go_ret3
    rw [HST.out];simp only [hs,hb',if_false,Bool.false_eq_true,Option.isSome,Option.getD];exact ⟨_,rfl,fD _ _ _ _,HX.out.trans eX⟩
   ·go_wp2_with (go_at_call 82;with_reducible refine mo (dN (HP1.out.ext eX) hwf _ true HHB) fun o1 n1=>?_)
    go_ret3
    rw [HST.out];simp only [hs,hb',if_false,if_true,Option.isSome,Option.getD];exact ⟨_,rfl,fD _ _ _ _,HX.out.trans eX⟩
theorem cK {pb mb:Nat} {p:dA} {w:World} (h:yA w pb mb p) (hp:p.WF) (id q1 q2 q3:Int) (qb:Bool) (hv:Hid (qI (p.where_ id) = .tuple #[.agg #[vi q1,vi q2,vi q3],.bool qb])):
  Calls prog 193 #[.pointer (some ⟨pb,0,none⟩),vi id] w fun e w'=>e = .returned (.tuple #[.agg #[vi q1,vi q2,vi q3],.bool qb])/\Ext w w':=by
 have:=where_any h hp id;rw [hv.out] at this;exact this
theorem fetch_any_t (xt xi x1 x2 x3 u1 u2 u3:Int) (last:Int) (a1:Option Addr) (m1 c1:Nat) (a2:Option Addr) (m2 c2:Nat) (lv:Int) (pb mb:Nat) (hh ee:Int) (dd:Bool) (pe li ba:Int) (f0 f1 f2:Bool) (p:dA) (w:World)
  (hp:yA w pb mb p) (hwf:p.WF) (hba:Hid (p.bay=ba)) (hdd:Hid (p.door=dd)) (h4:p.levels<=4):
  Calls prog 169 #[turnV last a1 m1 c1 a2 m2 c2 lv pb hh ee dd pe li ba f0 f1 f2,.agg #[vi xt,vi xi,vi x1,vi x2,vi x3,vi u1,vi u2,vi u3]] w (NewGoals1 w (tG p ⟨xt,⟨xi,⟨x1,x2,x3⟩⟩,⟨u1,u2,u3⟩⟩).1 (tG p ⟨xt,⟨xi,⟨x1,x2,x3⟩⟩,⟨u1,u2,u3⟩⟩).2):=by
 have HP:=aA hp;clear hp
 obtain ⟨hb,HHB⟩:∃ hb,Hid (p.has xi=hb):=⟨_,rfl⟩
 have HST:Hid (tG p ⟨xt,⟨xi,⟨x1,x2,x3⟩⟩,⟨u1,u2,u3⟩⟩=if ba=xi\/hb=false then ([],true) else if ba≠0/\dd=true then ([],false) else if ba≠0 then (rG,false) else if dd=true then ([⟨5,0⟩],false) else match p.where_ xi with
   | some y=>if y.depth=1/\p.slots (aH y)≠0 then (fetch (aH y),false) else (fetch y,false)
   | none=>([],false)):=by
  unfold Hid;rw [<-HHB.out,<-hba.out,<-hdd.out];rfl
 go_enter func169,ntmps169
 go_upto_region 1 with fail
 generalize hW:World.alloc _ _=w0;have t0:cI w0 w.heap.size 0 last:=cQ hW;have t1:cV w0 w.heap.size 1 (.slice a1 m1 c1):=cQ hW;have t2:cV w0 w.heap.size 2 (.slice a2 m2 c2):=cQ hW;have t3:cI w0 w.heap.size 3 lv:=cQ hW;have t4:cV w0 w.heap.size 4 (.pointer (some ⟨pb,0,none⟩)):=cQ hW;have t5:cI w0 w.heap.size 5 hh:=cQ hW;have t6:cI w0 w.heap.size 6 ee:=cQ hW;have t7:cV w0 w.heap.size 7 (.bool dd):=cQ hW;have t8:cI w0 w.heap.size 8 pe:=cQ hW;have t9:cI w0 w.heap.size 9 li:=cQ hW;have t10:cI w0 w.heap.size 10 ba:=cQ hW;have t11:cV w0 w.heap.size 11 (.bool f0):=cQ hW;have t12:cV w0 w.heap.size 12 (.bool f1):=cQ hW;have t13:cV w0 w.heap.size 13 (.bool f2):=cQ hW;have xx0:cI w0 (w.heap.size+1) 0 xt:=cQ hW;have xx1:cI w0 (w.heap.size+1) 1 xi:=cQ hW;have xx2:cI w0 (w.heap.size+1) 2 x1:=cQ hW;have xx3:cI w0 (w.heap.size+1) 3 x2:=cQ hW;have xx4:cI w0 (w.heap.size+1) 4 x3:=cQ hW;have xx5:cI w0 (w.heap.size+1) 5 u1:=cQ hW;have xx6:cI w0 (w.heap.size+1) 6 u2:=cQ hW;have xx7:cI w0 (w.heap.size+1) 7 u3:=cQ hW;have hx:Ext w w0:=xQ hW;have HP1:=aA (HP.out.ext hx);have HX:=aA hx;have z1:=cA t0;have z2:=cA xx0;clear hW hx HP
 by_cases hi:ba=xi
 ·subst hi
  obtain ⟨q1,q2,q3,qb,HWV⟩:∃ q1 q2 q3 qb,Hid (qI (p.where_ ba) = .tuple #[.agg #[vi q1,vi q2,vi q3],.bool qb]):=⟨_,_,_,_,rfl⟩
  go_wp2_with (go_at_call 193;with_reducible refine mo (cK (HP1.out.ext eX) hwf _ _ _ _ _ HWV) fun o1 n1=>?_)
  go_ret2
  have HE:_=_:=HST.out;simp only [true_or,or_true,false_or,or_false,if_true,if_false,ne_eq,not_true_eq_false,not_false_eq_true,and_true,true_and,false_and,and_false,Bool.true_eq_false,Bool.false_eq_true] at HE;rw [HE];exact ⟨_,rfl,fD _ _ _ _,HX.out.trans eX⟩
 ·cases hb
  ·obtain ⟨q1,q2,q3,qb,HWV⟩:∃ q1 q2 q3 qb,Hid (qI (p.where_ xi) = .tuple #[.agg #[vi q1,vi q2,vi q3],.bool qb]):=⟨_,_,_,_,rfl⟩
   go_wp2_with (first|(go_at_call 193;with_reducible refine mo (cK (HP1.out.ext eX) hwf _ _ _ _ _ HWV) fun o1 n1=>?_)|(go_at_call 82;with_reducible refine mo (dN (HP1.out.ext eX) hwf _ false HHB) fun o1 n1=>?_))
   go_ret2
   have HE:_=_:=HST.out;simp only [hi,true_or,or_true,false_or,or_false,if_true,if_false,ne_eq,not_true_eq_false,not_false_eq_true,and_true,true_and,false_and,and_false,Bool.true_eq_false,Bool.false_eq_true] at HE;rw [HE];exact ⟨_,rfl,fD _ _ _ _,HX.out.trans eX⟩
  ·by_cases h0:ba=0
   ·subst h0
    cases dd
    ·cases hw:p.where_ xi with
     | none=>
      have HWV:Hid (qI (p.where_ xi) = .tuple #[.agg #[vi 0,vi 0,vi 0],.bool false]):=by unfold Hid;rw [hw];rfl
      have HW:=aA hw;clear hw
      go_upto_region 10 with (first|(go_at_call 193;with_reducible refine mo (cK (HP1.out.ext eX) hwf _ _ _ _ _ HWV) fun o1 n1=>?_)|(go_at_call 82;with_reducible refine mo (dN (HP1.out.ext eX) hwf _ true HHB) fun o1 n1=>?_))
      (refine qF ?_;rintro _ ⟨oq,nq,rfl⟩)
      go_wp2
      go_ret2
      have HE:_=_:=HST.out;simp only [hi,HW.out,true_or,or_true,false_or,or_false,if_true,if_false,ne_eq,not_true_eq_false,not_false_eq_true,and_true,true_and,false_and,and_false,Bool.true_eq_false,Bool.false_eq_true] at HE;rw [HE];exact ⟨_,rfl,fD _ _ _ _,HX.out.trans eX⟩
     | some y=>
      obtain ⟨y1,y2,y3⟩:=y
      have HWV:Hid (qI (p.where_ xi) = .tuple #[.agg #[vi y1,vi y2,vi y3],.bool true]):=by unfold Hid;rw [hw];rfl
      have HW:=aA hw;have hpf:=uC.1 (where_ok hw);obtain ⟨g1,g2,g3,g4,g5,g6⟩:=hpf;dsimp only at g1 g2 g3 g4 g5 g6
      have g7:y1<=4:=om
      clear hw g2
      go_upto_region 10 with (first|(go_at_call 193;with_reducible refine mo (cK (HP1.out.ext eX) hwf _ _ _ _ _ HWV) fun o1 n1=>?_)|(go_at_call 82;with_reducible refine mo (dN (HP1.out.ext eX) hwf _ true HHB) fun o1 n1=>?_))
      by_cases hy:y3=1
      ·subst hy
       obtain ⟨sv,HSV⟩:∃ sv,Hid (p.slots ⟨y1,y2,0⟩=sv):=⟨_,rfl⟩
       by_cases hz:sv=0
       ·subst hz
        (refine rA kR kR ?_;(repeat (first|go_big_quiet_step ((first|(intro _;go_at_call 156;exact qC (lG _ _ _ _))|(intro _;go_at_call 35;exact qC (tF (HP1.out.ext eX) _ _ _ 0 HSV))))|quiet_step (fail)));refine wpQuiet_nil ?_;rintro _ ⟨oq,nq,rfl⟩)
        go_wp2_with (go_at_call 116;(with_reducible refine (rM _ _ _ _ (by first|omega|decide) (by first|omega|decide) om om).mono ?_);rintro e wv ⟨v1,rfl,hown,hxv⟩)
        go_ret2
        have HE:_=_:=HST.out;simp only [hi,HW.out,aH,HSV.out,true_or,or_true,false_or,or_false,if_true,if_false,ne_eq,not_true_eq_false,not_false_eq_true,and_true,true_and,false_and,and_false,Bool.true_eq_false,Bool.false_eq_true] at HE;rw [HE];exact ⟨v1,rfl,mA hown (HX.out.trans eX).below.size,(HX.out.trans eX).trans hxv⟩
       ·(refine rA kR kR ?_;(repeat (first|go_big_quiet_step ((first|(intro _;go_at_call 156;exact qC (lG _ _ _ _))|(intro _;go_at_call 35;exact qC (tF (HP1.out.ext eX) _ _ _ sv HSV))))|quiet_step (fail)));refine wpQuiet_nil ?_;rintro _ ⟨oq,nq,rfl⟩)
        go_wp2_with (first|(go_at_call 156;with_reducible refine mo (lG _ _ _ _) fun o1 n1=>?_)|(go_at_call 116;(with_reducible refine (rM _ _ _ _ (by first|omega|decide) (by first|omega|decide) om om).mono ?_);rintro e wv ⟨v1,rfl,hown,hxv⟩))
        go_ret2
        have HE:_=_:=HST.out;simp only [hi,HW.out,aH,HSV.out,hz,true_or,or_true,false_or,or_false,if_true,if_false,ne_eq,not_true_eq_false,not_false_eq_true,and_true,true_and,false_and,and_false,Bool.true_eq_false,Bool.false_eq_true] at HE;rw [HE];exact ⟨v1,rfl,mA hown (HX.out.trans eX).below.size,(HX.out.trans eX).trans hxv⟩
      ·(refine qF ?_;rintro _ ⟨oq,nq,rfl⟩)
       go_wp2_with (go_at_call 116;(with_reducible refine (rM _ _ _ _ (by first|omega|decide) (by first|omega|decide) om om).mono ?_);rintro e wv ⟨v1,rfl,hown,hxv⟩)
       go_ret2
       have HE:_=_:=HST.out;simp only [hi,HW.out,hy,true_or,or_true,false_or,or_false,if_true,if_false,ne_eq,not_true_eq_false,not_false_eq_true,and_true,true_and,false_and,and_false,Bool.true_eq_false,Bool.false_eq_true] at HE;rw [HE];exact ⟨v1,rfl,mA hown (HX.out.trans eX).below.size,(HX.out.trans eX).trans hxv⟩
    ·obtain ⟨q1,q2,q3,qb,HWV⟩:∃ q1 q2 q3 qb,Hid (qI (p.where_ xi) = .tuple #[.agg #[vi q1,vi q2,vi q3],.bool qb]):=⟨_,_,_,_,rfl⟩
     go_wp2_with (first|(go_at_call 193;with_reducible refine mo (cK (HP1.out.ext eX) hwf _ _ _ _ _ HWV) fun o1 n1=>?_)|(go_at_call 82;with_reducible refine mo (dN (HP1.out.ext eX) hwf _ true HHB) fun o1 n1=>?_))
     go_ret2
     have HE:_=_:=HST.out;simp only [hi,true_or,or_true,false_or,or_false,if_true,if_false,ne_eq,not_true_eq_false,not_false_eq_true,and_true,true_and,false_and,and_false,Bool.true_eq_false,Bool.false_eq_true] at HE;rw [HE];exact ⟨_,rfl,owns_newA 135 2 1 #[vi 5,vi 0] rfl (by unfold maxLen;omega) sp (by have:=HX.out.below.size;omega),HX.out.trans eX⟩
   ·obtain ⟨q1,q2,q3,qb,HWV⟩:∃ q1 q2 q3 qb,Hid (qI (p.where_ xi) = .tuple #[.agg #[vi q1,vi q2,vi q3],.bool qb]):=⟨_,_,_,_,rfl⟩
    cases dd
    ·go_wp2_with (first|(go_at_call 193;with_reducible refine mo (cK (HP1.out.ext eX) hwf _ _ _ _ _ HWV) fun o1 n1=>?_)|(go_at_call 82;with_reducible refine mo (dN (HP1.out.ext eX) hwf _ true HHB) fun o1 n1=>?_)|(go_at_call 118;(with_reducible refine (welcome_any _).mono ?_);rintro e wv ⟨v1,rfl,hown,hxv⟩))
     go_ret2
     have HE:_=_:=HST.out;simp only [hi,h0,true_or,or_true,false_or,or_false,if_true,if_false,ne_eq,not_true_eq_false,not_false_eq_true,and_true,true_and,false_and,and_false,Bool.true_eq_false,Bool.false_eq_true] at HE;rw [HE];exact ⟨v1,rfl,mA hown (HX.out.trans eX).below.size,(HX.out.trans eX).trans hxv⟩
    ·go_wp2_with (first|(go_at_call 193;with_reducible refine mo (cK (HP1.out.ext eX) hwf _ _ _ _ _ HWV) fun o1 n1=>?_)|(go_at_call 82;with_reducible refine mo (dN (HP1.out.ext eX) hwf _ true HHB) fun o1 n1=>?_))
     go_ret2
     have HE:_=_:=HST.out;simp only [hi,h0,true_or,or_true,false_or,or_false,if_true,if_false,ne_eq,not_true_eq_false,not_false_eq_true,and_true,true_and,false_and,and_false,Bool.true_eq_false,Bool.false_eq_true] at HE;rw [HE];exact ⟨_,rfl,fD _ _ _ _,HX.out.trans eX⟩
def xI (w:World) (l:List aG) (o:Option gB) (e:Ending) (w':World):Prop:=
 ∃ v v1 v2,e = .returned (.tuple #[v,.agg #[vi (o.getD ⟨0,[],[]⟩).last,v1,v2],.bool o.isSome])/\w'.ownsRow w.heap.size 135 2 v l.length (l.flatMap jC) /\
  mF w w' (o.getD ⟨0,[],[]⟩).last (o.getD ⟨0,[],[]⟩).stays (o.getD ⟨0,[],[]⟩).jobs v1 v2/\Ext w w'
theorem mC (w w':World):mF w w' 0 [] [] (.slice none 0 0) (.slice none 0 0):=⟨fD _ _ _ _,fD _ _ _ _,fun k h=>by cases h⟩
theorem dC {W:World} {R base t size n:Nat} {v x y z:Value} {xs:List Value} (h:W.ownsRow base t size v n xs) (hn:R<base):(((W.setCell ⟨R,0,none⟩ x).setCell ⟨R,1,none⟩ y).setCell ⟨R,2,none⟩ z).ownsRow base t size v n xs:=by
 have hne:v.ownBlock≠some R:=fun e=>by have:=qA h R e;omega
 exact lA (lA (lA h _ hne) _ hne) _ hne
theorem mF.put3 {w0 W:World} {R:Nat} {last:Int} {l:List sA} {js:List Job} {v1 v2 x y z:Value} (h:mF w0 W last l js v1 v2) (hn:R<w0.heap.size):mF w0 (((W.setCell ⟨R,0,none⟩ x).setCell ⟨R,1,none⟩ y).setCell ⟨R,2,none⟩ z) last l js v1 v2:=
 ⟨dC h.stays hn,dC h.jobs hn,h.apart⟩
theorem mF.weak {w0 w1 W:World} {last:Int} {l:List sA} {js:List Job} {v1 v2:Value} (h:mF w1 W last l js v1 v2) (hn:w0.heap.size<=w1.heap.size):mF w0 W last l js v1 v2:=
 ⟨mA h.stays hn,mA h.jobs hn,h.apart⟩
theorem dE {w a:World} {R:Nat} {x y z x' y' z':Value} (hx:Ext w a) (hR:w.heap.size<=R) (c0:a.cell? ⟨R,0,none⟩=some x') (c1:a.cell? ⟨R,1,none⟩=some y') (c2:a.cell? ⟨R,2,none⟩=some z'):
  (((a.setCell ⟨R,0,none⟩ x).setCell ⟨R,1,none⟩ y).setCell ⟨R,2,none⟩ z).cell? ⟨R,0,none⟩=some x/\(((a.setCell ⟨R,0,none⟩ x).setCell ⟨R,1,none⟩ y).setCell ⟨R,2,none⟩ z).cell? ⟨R,1,none⟩=some y /\
  (((a.setCell ⟨R,0,none⟩ x).setCell ⟨R,1,none⟩ y).setCell ⟨R,2,none⟩ z).cell? ⟨R,2,none⟩=some z/\Ext w (((a.setCell ⟨R,0,none⟩ x).setCell ⟨R,1,none⟩ y).setCell ⟨R,2,none⟩ z):=put3w hx hR c0 c1 c2
theorem done_val (B:gB) (last jt:Int) (jf gone:Bool) (a1:Option Addr) (m1 c1:Nat) (a2:Option Addr) (m2 c2:Nat) (l:List sA) (js:List Job) (w:World)
  (h:Sl w 8 iA l a1 m1 c1) (h2:Sl w 2 jA js a2 m2 c2) (hm1:m1<=100) (hm2:m2<=100) (hv:Hid (yC ⟨last,l,js⟩ ⟨jt,jf⟩ gone=B)):
  Calls prog 171 #[lC last a1 m1 c1 a2 m2 c2,.agg #[vi jt,.bool jf],.bool gone] w (fH w B (fun b=>b)):=by
 have:=done_any last jt jf gone a1 m1 c1 a2 m2 c2 l js w h h2 hm1 hm2;rw [hv.out] at this;exact this
theorem fetch_val (gl:List aG) (ov:Bool) (xt xi x1 x2 x3 u1 u2 u3:Int) (last:Int) (a1:Option Addr) (m1 c1:Nat) (a2:Option Addr) (m2 c2:Nat) (lv:Int) (pb mb:Nat) (hh ee:Int) (dd:Bool) (pe li ba:Int) (f0 f1 f2:Bool) (p:dA) (w:World)
  (hp:yA w pb mb p) (hwf:p.WF) (hba:Hid (p.bay=ba)) (hdd:Hid (p.door=dd)) (h4:p.levels<=4) (hv:Hid (tG p ⟨xt,⟨xi,⟨x1,x2,x3⟩⟩,⟨u1,u2,u3⟩⟩=(gl,ov))):
  Calls prog 169 #[turnV last a1 m1 c1 a2 m2 c2 lv pb hh ee dd pe li ba f0 f1 f2,.agg #[vi xt,vi xi,vi x1,vi x2,vi x3,vi u1,vi u2,vi u3]] w (NewGoals1 w gl ov):=by
 have:=fetch_any_t xt xi x1 x2 x3 u1 u2 u3 last a1 m1 c1 a2 m2 c2 lv pb mb hh ee dd pe li ba f0 f1 f2 p w hp hwf hba hdd h4;rw [hv.out] at this;exact this
theorem store_val (gl:List aG) (og:Option Bool) (o g:Bool) (xt xi x1 x2 x3 u1 u2 u3:Int) (last:Int) (a1:Option Addr) (m1 c1:Nat) (a2:Option Addr) (m2 c2:Nat) (lv:Int) (pb mb:Nat) (hh ee:Int) (dd:Bool) (pe li ba:Int) (f0 f1 f2:Bool) (p:dA) (w:World)
  (hp:yA w pb mb p) (hwf:p.WF) (hba:Hid (p.bay=ba)) (hv:Hid (qH p ⟨xt,⟨xi,⟨x1,x2,x3⟩⟩,⟨u1,u2,u3⟩⟩=(gl,og))) (h1:Hid (og.isSome=o)) (h2:Hid (og.getD false=g)):
  Calls prog 170 #[turnV last a1 m1 c1 a2 m2 c2 lv pb hh ee dd pe li ba f0 f1 f2,.agg #[vi xt,vi xi,vi x1,vi x2,vi x3,vi u1,vi u2,vi u3]] w (NewGoals2 w gl o g):=by
 have:=store_any xt xi x1 x2 x3 u1 u2 u3 last a1 m1 c1 a2 m2 c2 lv pb mb hh ee dd pe li ba f0 f1 f2 p w hp hwf hba;rw [hv.out] at this;dsimp only at this;rw [h1.out,h2.out] at this;exact this
theorem job_any (jt:Int) (jf:Bool) (last:Int) (a1:Option Addr) (m1 c1:Nat) (a2:Option Addr) (m2 c2:Nat) (lv:Int) (pb mb:Nat) (hh ee:Int) (dd:Bool) (pe li ba:Int) (f0 f1 f2:Bool) (l:List sA) (js:List Job) (p:dA) (w:World)
    (h:Sl w 8 iA l a1 m1 c1)
    (h2:Sl w 2 jA js a2 m2 c2) (hp:yA w pb mb p) (hwf:p.WF) (hj:Hid (∃ s∈l,s.ticket=jt)) (hba:Hid (p.bay=ba)) (hdd:Hid (p.door=dd)) (h4:p.levels<=4) (hm1:m1<=100) (hm2:m2<=100):
    Calls prog 117 #[turnV last a1 m1 c1 a2 m2 c2 lv pb hh ee dd pe li ba f0 f1 f2,.agg #[vi jt,.bool jf]] w (xI w (gE ⟨last,l,js⟩ p ⟨jt,jf⟩).1 (gE ⟨last,l,js⟩ p ⟨jt,jf⟩).2):=by
  have b1:=h.bound;have HF:=aA h;have HJ:=aA h2;have HP:=aA hp;have E1:=aA h.len;clear h h2 hp;obtain ⟨si,⟨yt,⟨yi,⟨y1,y2,y3⟩⟩,⟨v1,v2,v3⟩⟩,hsi,hsl,hst,htt⟩:=stay_at (last:=last) (js:=js) hj.out
  have hsm:si<m1:=by
    have:=E1.out;obtain ⟨h1,_⟩:=List.getElem?_eq_some_iff.1 hsl;omega
  have HI:Hid (cC (fun s:sA=>s.ticket==jt) l=(si:Int)):=hsi;have HST:=aA hst;obtain ⟨b',q',s',rfl,hs',ds⟩:=HF.out.get hsm;rw [hsl] at hs';cases hs';have ds:=at8 ds;have hq2:=cA ds.1
  have hs0:(0:Int)<=(si:Int):=om
  have hs1:(si:Int)<(m1:Int):=om
  have hs2:(si:Int)<=(c1:Int):=om
  clear hsl hst hsi htt;go_enter func117,ntmps117
  go_upto_region 1 with fail
  generalize hW:World.alloc _ _=w0;have t0:cI w0 w.heap.size 0 last:=cQ hW;have t1:cV w0 w.heap.size 1 (.slice (some ⟨b',q',none⟩) m1 c1):=cQ hW;have t2:cV w0 w.heap.size 2 (.slice a2 m2 c2):=cQ hW;have t3:cI w0 w.heap.size 3 lv:=cQ hW;have t4:cV w0 w.heap.size 4 (.pointer (some ⟨pb,0,none⟩)):=cQ hW;have t5:cI w0 w.heap.size 5 hh:=cQ hW;have t6:cI w0 w.heap.size 6 ee:=cQ hW;have t7:cV w0 w.heap.size 7 (.bool dd):=cQ hW;have t8:cI w0 w.heap.size 8 pe:=cQ hW;have t9:cI w0 w.heap.size 9 li:=cQ hW;have t10:cI w0 w.heap.size 10 ba:=cQ hW;have t11:cV w0 w.heap.size 11 (.bool f0):=cQ hW;have t12:cV w0 w.heap.size 12 (.bool f1):=cQ hW;have t13:cV w0 w.heap.size 13 (.bool f2):=cQ hW;have jj0:cI w0 (w.heap.size+1) 0 jt:=cQ hW;have jj1:cV w0 (w.heap.size+1) 1 (.bool jf):=cQ hW;have rr0:w0.cell? ⟨w.heap.size+1+1,0,none⟩=some (vi 0):=cQ hW;have rr1:w0.cell? ⟨w.heap.size+1+1,1,none⟩=some (.slice none 0 0):=cQ hW;have rr2:w0.cell? ⟨w.heap.size+1+1,2,none⟩=some (.slice none 0 0):=cQ hW
  have fz:∀ i,w0.frozen? ⟨w.heap.size+1+1,i,none⟩=false:=by intro i;rw [<-hW];simp [go_sem]
  have hx:Ext w w0:=xQ hW;have e0:=gA hx ds.1;have e1:=gA hx ds.2.1;have e2:=gA hx ds.2.2.1;have e3:=gA hx ds.2.2.2.1;have e4:=gA hx ds.2.2.2.2.1;have e5:=gA hx ds.2.2.2.2.2.1;have e6:=gA hx ds.2.2.2.2.2.2.1;have e7:=gA hx ds.2.2.2.2.2.2.2;have HS:=aA (Sl.below HF.out hx.below);have HK:=aA (Sl.below HJ.out hx.below);have HP1:=aA (HP.out.ext hx);have HX:=aA hx;have FZ:=aA fz;have z1:=cA t0;have z2:=cA rr0;have z3:=cA jj0;have z4:=cA e0;clear hW hx HF HJ HP ds hq2 fz
  go_region_held3 (fun w'=>w'.cell? ⟨w.heap.size,0,none⟩=some (vi last)/\w'.cell? ⟨w.heap.size,1,none⟩=some (.slice (some ⟨b',q',none⟩) m1 c1)/\w'.cell? ⟨w.heap.size,2,none⟩=some (.slice a2 m2 c2)/\w'.cell? ⟨w.heap.size+1,0,none⟩=some (vi jt)/\w'.cell? ⟨b',q'+si * 8,none⟩=some (vi yt)/\w'.cell? ⟨b',q'+si * 8+1,none⟩=some (vi yi)/\w'.cell? ⟨b',q'+si * 8+2,none⟩=some (vi y1)/\w'.cell? ⟨b',q'+si * 8+3,none⟩=some (vi y2)/\w'.cell? ⟨b',q'+si * 8+4,none⟩=some (vi y3)/\w'.cell? ⟨b',q'+si * 8+5,none⟩=some (vi v1)/\w'.cell? ⟨b',q'+si * 8+6,none⟩=some (vi v2)/\w'.cell? ⟨b',q'+si * 8+7,none⟩=some (vi v3)) (first|((try dsimp only);(repeat' apply And.intro) <;> exact xC (w:=w0))) (first|(go_at_call 102;with_reducible refine mo (find_stay (si:Int) _ _ _ _ _ _ _ _ l _ (Sl.below HS.out (Ext.below eX)) HI) fun o1 n1=>?_))
  all_goals
    first
    | (generalize hW:World.setCell _ _ _=w2
       obtain ⟨yy0,yy1,yy2,yy3,yy4,yy5,yy6,yy7,hx2⟩:=rJ (w:=w0) hW eX (Nat.le_refl _) (by rw [dB _ _ _ _ sp];exact pA _ _ _ rfl) rfl
       clear hW)
    | (generalize hW:World.alloc _ _=w2
       generalize hA:w0.heap.size+_=A
       have hx2:Ext w0 w2:=xQ hW
       have yy0:cI w2 A 0 yt:=cR hW hA
       have yy1:cI w2 A 1 yi:=cR hW hA
       have yy2:cI w2 A 2 y1:=cR hW hA
       have yy3:cI w2 A 3 y2:=cR hW hA
       have yy4:cI w2 A 4 y3:=cR hW hA
       have yy5:cI w2 A 5 v1:=cR hW hA
       have yy6:cI w2 A 6 v2:=cR hW hA
       have yy7:cI w2 A 7 v3:=cR hW hA
       clear hW hA)
    obtain ⟨r0',r1',r2',r3',r4',r5',r6',r7',r8',r9',r10',r11'⟩:=iF hx2 t0 t1 t2 t3 t4 t5 t6 t7 t8 t9 t10 t11;obtain ⟨r12',r13',rj0,rj1,q0,q1,q2⟩:=xe7 hx2 t12 t13 jj0 jj1 rr0 rr1 rr2
    have fz2:∀ i,w2.frozen? ⟨w.heap.size+1+1,i,none⟩=false:=fun i=>kA hx2 (cA rr0) (FZ.out i)
    have FZ2:=aA fz2;have HX2:=aA (HX.out.trans hx2);have HS2:=aA (Sl.below HS.out hx2.below);have HK2:=aA (Sl.below HK.out hx2.below);have HP2:=aA (HP1.out.ext hx2);have sa1:=cA r0';have sa2:=cA q0;have sa3:=cA rj0;have sa4:=cA yy0;clear hx2 fz2 FZ HS HK HP1 HX t0 t1 t2 t3 t4 t5 t6 t7 t8 t9 t10 t11 t12 t13 jj0 jj1 rr0 rr1 rr2 z1 z2 z3 z4 e0 e1 e2 e3 e4 e5 e6 e7;cases jf
    · obtain ⟨⟨gl,og⟩,HFO⟩:∃ r,Hid (qH p ⟨yt,⟨yi,⟨y1,y2,y3⟩⟩,⟨v1,v2,v3⟩⟩=r):=⟨_,rfl⟩
      rcases og with _|g
      · have HO1:Hid ((none:Option Bool).isSome=false):=rfl
        have HO2:Hid ((none:Option Bool).getD false=false):=rfl
        go_upto_region 6 with (go_at_call 170;(with_reducible refine (store_val gl none false false yt yi y1 y2 y3 v1 v2 v3 _ _ _ _ _ _ _ _ pb mb _ _ _ _ _ _ _ _ _ p _ (HP2.out.ext eX) hwf hba HFO HO1 HO2).mono ?_);rintro e w3 ⟨vv,rfl,hown,hxv⟩)
        have hx3:Ext w2 w3:=Ext.trans eX hxv;obtain ⟨k0,k1,k2,l0,l1,p0,p1,p2⟩:=xe8 hx3 r0' r1' r2' rj0 rj1 q0 q1 q2;have fy0:=kA hx3 (cA q0) (FZ2.out 0);have fy1:=kA hx3 (cA q0) (FZ2.out 1);have fy2:=kA hx3 (cA q0) (FZ2.out 2);have s1:=cA k0;have s2:=cA l0;have s3:=cA p0;go_wp2;obtain ⟨o0,o1,o2,ox⟩:=dE (w:=w) (x:=vi 0) (y:=.slice none 0 0) (z:=.slice none 0 0) (HX2.out.trans hx3) (show w.heap.size<=w.heap.size+1+1 by omega) p0 p1 p2;refine bodyPost_ret (v:=.tuple #[vv,.agg #[vi 0,.slice none 0 0,.slice none 0 0],.bool false]) (by simp [results,results117,go_sem,o0,o1,o2]) rfl ?_
        have HE:gE ⟨last,l,js⟩ p ⟨jt,false⟩=(gl,none):=by
          unfold gE;rw [HST.out,if_neg sp,HFO.out]
        rw [HE];exact ⟨vv,_,_,rfl,mA (dC hown om) HX2.out.below.size,mC _ _,ox⟩
      · have HO1:Hid ((some g).isSome=true):=rfl
        have HO2:Hid ((some g).getD false=g):=rfl
        go_upto_region 6 with (go_at_call 170;(with_reducible refine (store_val gl (some g) true g yt yi y1 y2 y3 v1 v2 v3 _ _ _ _ _ _ _ _ pb mb _ _ _ _ _ _ _ _ _ p _ (HP2.out.ext eX) hwf hba HFO HO1 HO2).mono ?_);rintro e w3 ⟨vv,rfl,hown,hxv⟩)
        have hx3:Ext w2 w3:=Ext.trans eX hxv;obtain ⟨k0,k1,k2,l0,l1,p0,p1,p2⟩:=xe8 hx3 r0' r1' r2' rj0 rj1 q0 q1 q2;have fy0:=kA hx3 (cA q0) (FZ2.out 0);have fy1:=kA hx3 (cA q0) (FZ2.out 1);have fy2:=kA hx3 (cA q0) (FZ2.out 2);have s1:=cA k0;have s2:=cA l0;have s3:=cA p0
        obtain ⟨⟨dl,dss,djs⟩,HDN⟩:∃ x,Hid (yC ⟨last,l,js⟩ ⟨jt,false⟩ g=x):=⟨_,rfl⟩
        go_wp2_with (go_at_call 171;(with_reducible refine (done_val ⟨dl,dss,djs⟩ last jt false g _ _ _ _ _ _ l js _ (Sl.below HS2.out (Ext.trans hx3 eX).below) (Sl.below HK2.out (Ext.trans hx3 eX).below) hm1 hm2 HDN).mono ?_);rintro e w4' ⟨d1,d2,rfl,hob,hxd⟩;obtain ⟨g1,i1,rfl,-⟩:=Sl.of_owns (c:=8) (enc:=iA) hob.stays dc (fun _=>rfl);obtain ⟨g2,i2,rfl,-⟩:=Sl.of_owns (c:=2) (enc:=jA) hob.jobs dc (fun _=>rfl);have hx4:Ext w3 w4':=Ext.trans eX hxd;have fq0:=kA hx4 s3 fy0;have fq1:=kA hx4 s3 fy1;have fq2:=kA hx4 s3 fy2;obtain ⟨pq0,pq1,pq2⟩:=xe3 hx4 p0 p1 p2);go_wp2;obtain ⟨o0,o1,o2,ox⟩:=dE (w:=w) (x:=vi dl) (y:=.slice g1 dss.length i1) (z:=.slice g2 djs.length i2) ((HX2.out.trans hx3).trans hx4) (show w.heap.size<=w.heap.size+1+1 by omega) (gA hx4 p0) (gA hx4 p1) (gA hx4 p2);refine bodyPost_ret (v:=.tuple #[.slice none 0 0,.agg #[vi dl,.slice g1 dss.length i1,.slice g2 djs.length i2],.bool true]) (by simp [results,results117,go_sem,o0,o1,o2]) rfl ?_
        have HE:gE ⟨last,l,js⟩ p ⟨jt,false⟩=([],some ⟨dl,dss,djs⟩):=by
          unfold gE;rw [HST.out,if_neg sp,HFO.out];exact congrArg (fun x=>(([]:List aG),some x)) HDN.out
        rw [HE];exact ⟨_,_,_,rfl,fD _ _ _ _,(hob.put3 (by first|exact s3|(have:=s3;simp;omega))).weak (by first|exact (HX2.out.trans hx3).below.size|(have:=(HX2.out.trans hx3).below.size;simp;omega)),ox⟩
    · obtain ⟨⟨gl,ov⟩,HFO⟩:∃ r,Hid (tG p ⟨yt,⟨yi,⟨y1,y2,y3⟩⟩,⟨v1,v2,v3⟩⟩=r):=⟨_,rfl⟩
      cases ov
      · go_upto_region 6 with (go_at_call 169;(with_reducible refine (fetch_val gl false yt yi y1 y2 y3 v1 v2 v3 _ _ _ _ _ _ _ _ pb mb _ _ _ _ _ _ _ _ _ p _ (HP2.out.ext eX) hwf hba hdd h4 HFO).mono ?_);rintro e w3 ⟨vv,rfl,hown,hxv⟩)
        have hx3:Ext w2 w3:=Ext.trans eX hxv;obtain ⟨k0,k1,k2,l0,l1,p0,p1,p2⟩:=xe8 hx3 r0' r1' r2' rj0 rj1 q0 q1 q2;have fy0:=kA hx3 (cA q0) (FZ2.out 0);have fy1:=kA hx3 (cA q0) (FZ2.out 1);have fy2:=kA hx3 (cA q0) (FZ2.out 2);have s1:=cA k0;have s2:=cA l0;have s3:=cA p0;go_wp2;obtain ⟨o0,o1,o2,ox⟩:=dE (w:=w) (x:=vi 0) (y:=.slice none 0 0) (z:=.slice none 0 0) (HX2.out.trans hx3) (show w.heap.size<=w.heap.size+1+1 by omega) p0 p1 p2;refine bodyPost_ret (v:=.tuple #[vv,.agg #[vi 0,.slice none 0 0,.slice none 0 0],.bool false]) (by simp [results,results117,go_sem,o0,o1,o2]) rfl ?_
        have HE:gE ⟨last,l,js⟩ p ⟨jt,true⟩=(gl,none):=by
          unfold gE;rw [HST.out,if_pos rfl,HFO.out,if_neg sp]
        rw [HE];exact ⟨vv,_,_,rfl,mA (dC hown om) HX2.out.below.size,mC _ _,ox⟩
      · go_upto_region 6 with (go_at_call 169;(with_reducible refine (fetch_val gl true yt yi y1 y2 y3 v1 v2 v3 _ _ _ _ _ _ _ _ pb mb _ _ _ _ _ _ _ _ _ p _ (HP2.out.ext eX) hwf hba hdd h4 HFO).mono ?_);rintro e w3 ⟨vv,rfl,hown,hxv⟩)
        have hx3:Ext w2 w3:=Ext.trans eX hxv;obtain ⟨k0,k1,k2,l0,l1,p0,p1,p2⟩:=xe8 hx3 r0' r1' r2' rj0 rj1 q0 q1 q2;have fy0:=kA hx3 (cA q0) (FZ2.out 0);have fy1:=kA hx3 (cA q0) (FZ2.out 1);have fy2:=kA hx3 (cA q0) (FZ2.out 2);have s1:=cA k0;have s2:=cA l0;have s3:=cA p0
        obtain ⟨⟨dl,dss,djs⟩,HDN⟩:∃ x,Hid (yC ⟨last,l,js⟩ ⟨jt,true⟩ false=x):=⟨_,rfl⟩
        go_wp2_with (go_at_call 171;(with_reducible refine (done_val ⟨dl,dss,djs⟩ last jt true false _ _ _ _ _ _ l js _ (Sl.below HS2.out (Ext.trans hx3 eX).below) (Sl.below HK2.out (Ext.trans hx3 eX).below) hm1 hm2 HDN).mono ?_);rintro e w4' ⟨d1,d2,rfl,hob,hxd⟩;obtain ⟨g1,i1,rfl,-⟩:=Sl.of_owns (c:=8) (enc:=iA) hob.stays dc (fun _=>rfl);obtain ⟨g2,i2,rfl,-⟩:=Sl.of_owns (c:=2) (enc:=jA) hob.jobs dc (fun _=>rfl);have hx4:Ext w3 w4':=Ext.trans eX hxd;have fq0:=kA hx4 s3 fy0;have fq1:=kA hx4 s3 fy1;have fq2:=kA hx4 s3 fy2;obtain ⟨pq0,pq1,pq2⟩:=xe3 hx4 p0 p1 p2);go_wp2;obtain ⟨o0,o1,o2,ox⟩:=dE (w:=w) (x:=vi dl) (y:=.slice g1 dss.length i1) (z:=.slice g2 djs.length i2) ((HX2.out.trans hx3).trans hx4) (show w.heap.size<=w.heap.size+1+1 by omega) (gA hx4 p0) (gA hx4 p1) (gA hx4 p2);refine bodyPost_ret (v:=.tuple #[.slice none 0 0,.agg #[vi dl,.slice g1 dss.length i1,.slice g2 djs.length i2],.bool true]) (by simp [results,results117,go_sem,o0,o1,o2]) rfl ?_
        have HE:gE ⟨last,l,js⟩ p ⟨jt,true⟩=([],some ⟨dl,dss,djs⟩):=by
          unfold gE;rw [HST.out,if_pos rfl,HFO.out,if_pos rfl];exact congrArg (fun x=>(([]:List aG),some x)) HDN.out
        rw [HE];exact ⟨_,_,_,rfl,fD _ _ _ _,(hob.put3 (by first|exact s3|(have:=s3;simp;omega))).weak (by first|exact (HX2.out.trans hx3).below.size|(have:=(HX2.out.trans hx3).below.size;simp;omega)),ox⟩
