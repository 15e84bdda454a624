import Derived.Test.YtplomeacjbkgnaaZ15
set_option linter.all false
set_option maxRecDepth 100000
set_option maxHeartbeats 16000000
namespace Ch
def Plant.tick1 (p:Plant) (c:Int):Plant:=if may c p.sense then p.step c else p
def runGoals:Nat→Plant→List Goal→Plant×Bool
 | 0,p,l=>(p,l.isEmpty)
 | _+1,p,[]=>(p,true)
 | n+1,p,g :: r=>if (nextOf g p.sense).2 then runGoals n p r else runGoals n (p.tick1 (nextOf g p.sense).1) (g :: r)
theorem run_done {n:Nat} {p:Plant} {g:Goal} {r:List Goal} (h:(nextOf g p.sense).2=true):runGoals (n+1) p (g :: r)=runGoals n p r:=by
 simp only [runGoals,h,if_true]
structure Plant.Safe (p:Plant):Prop where
 wf:p.WF
 hh:p.hurt=false
 at_:p.ext≠0→0<p.height∧p.height % 3=0
 free:p.ext≠0→p.lift≠0→p.full p.ext=false
 door:p.door=true→p.height=0
 folk:0<p.people→p.door=true
theorem Plant.Safe.new {n:Int} (h1:1≤n) (h2:n≤4):(Plant.new n).Safe:=
 ⟨Plant.WF.new h1 h2,rfl,fun h=>absurd rfl h,fun h=>absurd rfl h,fun _=>rfl,fun _=>rfl⟩
theorem full_set {p:Plant} {x:Place} {a e:Int} {q:Plant} (hq:q.height=p.height) (hs:q.slots=setSlot p.slots x a) (hx:p.place e=some x):q.full e=(a != 0):=by
 unfold Plant.full
 have:q.place e=some x:=by rw [←hx];unfold Plant.place;rw [hq]
 rw [this,hs];simp [setSlot]
theorem Plant.Safe.act {p:Plant} (h:p.Safe) (c:Int) (hm:may c p.sense=true):(p.act c).Safe:=by
 have hw:=h.wf.act c;have hs:=may_safe h.wf h.hh c hm;obtain ⟨wf,hh,ha,hf,hd,hp⟩:=h;have p1:=wf.pe1;have e1:=wf.ex1;have e2:=wf.ex2
 refine ⟨hw,hs,?_,?_,?_,?_⟩ <;> clear hw hs
 all_goals
  unfold may at hm;unfold Plant.act
  by_cases c1:c=45
  ·subst c1;first|exact ha|exact hf|exact hd|exact hp
  rw [if_neg c1] at hm
  by_cases c2:c=117∨c=100
  ·rw [if_pos c2] at hm
   simp only [Bool.and_eq_true,beq_iff_eq] at hm;obtain ⟨m1,m2⟩:=hm;rw [shut_sense] at m2;have m1:p.ext=0:=m1
   have hr:∀ n,(p.rise n).ext=0∧(p.rise n).door=false∧(p.rise n).people=0:=fun n=>⟨m1,m2.1,m2.2⟩
   rcases c2 with rfl|rfl
   ·rw [if_pos rfl]
    have:=hr 1
    first|(intro q;exact absurd this.1 q)|(intro q;rw [this.2.1] at q;cases q)|(intro q;rw [this.2.2] at q;omega)
   ·rw [if_neg (by decide),if_pos rfl]
    have:=hr (-1)
    first|(intro q;exact absurd this.1 q)|(intro q;rw [this.2.1] at q;cases q)|(intro q;rw [this.2.2] at q;omega)
  rw [if_neg c2] at hm;rw [if_neg (by omega),if_neg (by omega)]
  have hst:∀ (n:Int) (f:Bool),(n=1∨n=-1)→f=p.full (p.ext+n)→mayStretch p.sense (w64 (p.ext+n)) f=true →
    ((p.stretch n).ext≠0→0<(p.stretch n).height∧(p.stretch n).height % 3=0)∧((p.stretch n).ext≠0→(p.stretch n).lift≠0→(p.stretch n).full (p.stretch n).ext=false) ∧
    ((p.stretch n).door=true→(p.stretch n).height=0)∧(0<(p.stretch n).people→(p.stretch n).door=true):=by
   intro n f hn hff hmm;rw [w64_small (by omega) (by omega)] at hmm;unfold mayStretch at hmm;unfold Plant.stretch
   by_cases hb:p.ext+n < -2∨2<p.ext+n
   ·rw [if_pos hb];exact ⟨ha,hf,hd,hp⟩
   ·rw [if_neg hb] at hmm ⊢
    simp only [Bool.or_eq_true,beq_iff_eq,Bool.and_eq_true,Bool.not_eq_true',Bool.and_eq_false_iff] at hmm;refine ⟨?_,?_,hd,hp⟩
    ·intro q
     rcases hmm with h0|⟨hl,_⟩
     ·exact absurd h0 q
     ·rw [level_sense] at hl;exact hl
    ·intro q ql
     rcases hmm with h0|⟨hl,hx⟩
     ·exact absurd h0 q
     ·rcases hx with hx|hx
      ·simp [Plant.sense] at hx;exact absurd hx ql
      ·rw [hff] at hx;exact hx
  by_cases c4:c=108
  ·subst c4
   rw [if_pos rfl] at hm;rw [if_pos rfl];have:=hst (-1) _ (Or.inr rfl) rfl hm
   first|exact this.1|exact this.2.1|exact this.2.2.1|exact this.2.2.2
  rw [if_neg c4] at hm ⊢
  by_cases c5:c=114
  ·subst c5
   rw [if_pos rfl] at hm;rw [if_pos rfl];have:=hst 1 _ (Or.inl rfl) rfl hm
   first|exact this.1|exact this.2.1|exact this.2.2.1|exact this.2.2.2
  rw [if_neg c5] at hm ⊢
  by_cases c6:c=103
  ·subst c6
   rw [if_pos rfl];unfold Plant.grab
   split
   ·first|exact ha|exact hf|exact hd|exact hp
   ·rename_i x hx
    split
    ·first
     | exact ha
     | exact hd
     | exact hp
     | (intro q ql;exact full_set (p:=p) (x:=x) (a:=0) (e:=p.ext) rfl rfl hx)
    ·first|exact ha|exact hf|exact hd|exact hp
  rw [if_neg c6] at hm ⊢
  by_cases c7:c=112
  ·subst c7
   rw [if_pos rfl];unfold Plant.put
   split
   ·first|exact ha|exact hf|exact hd|exact hp
   ·rename_i x hx
    split
    ·first
     | exact ha
     | exact hd
     | exact hp
     | (intro q ql;exact absurd rfl ql)
    ·first|exact ha|exact hf|exact hd|exact hp
  rw [if_neg c7] at hm ⊢
  by_cases c8:c=111
  ·subst c8
   rw [if_pos rfl] at hm;rw [if_pos rfl];simp only [Bool.and_eq_true,beq_iff_eq,Plant.sense] at hm
   first|exact ha|exact hf|exact (fun _=>hm.1)|exact (fun _=>rfl)
  rw [if_neg c8] at hm ⊢
  by_cases c9:c=99
  ·subst c9
   rw [if_pos rfl] at hm;rw [if_pos rfl];simp only [beq_iff_eq,Plant.sense] at hm
   first|exact ha|exact hf|(intro q;cases q;done)|(intro q;have q:0<p.people:=q;omega)
  rw [if_neg c9] at hm ⊢
  have hpass:∀ i,p.height=0→p.ext=0→((p.pass i).ext≠0→0<(p.pass i).height∧(p.pass i).height % 3=0)∧((p.pass i).ext≠0→(p.pass i).lift≠0→(p.pass i).full (p.pass i).ext=false) ∧
    ((p.pass i).door=true→(p.pass i).height=0)∧(0<(p.pass i).people→(p.pass i).door=true):=fun i h0 x0=>by
   unfold Plant.pass;dsimp only;rw [if_neg (by omega)]
   split
   ·split
    ·exact ⟨ha,fun q=>absurd x0 q,hd,hp⟩
    ·exact ⟨ha,fun q=>absurd x0 q,hd,hp⟩
   ·split
    ·exact ⟨ha,fun q=>absurd x0 q,hd,hp⟩
    ·exact ⟨ha,fun q=>absurd x0 q,hd,hp⟩
  by_cases c10:c=110
  ·subst c10
   rw [if_pos rfl] at hm;rw [if_pos rfl];simp only [Bool.and_eq_true,beq_iff_eq] at hm;have:=hpass true hm.1.1.1.1 hm.1.1.1.2
   first|exact this.1|exact this.2.1|exact this.2.2.1|exact this.2.2.2
  rw [if_neg c10] at hm ⊢
  by_cases c11:c=120
  ·subst c11
   rw [if_pos rfl] at hm;rw [if_pos rfl];simp only [Bool.and_eq_true,beq_iff_eq] at hm;have:=hpass false hm.1.1.1.1 hm.1.1.1.2
   first|exact this.1|exact this.2.1|exact this.2.2.1|exact this.2.2.2
  rw [if_neg c11]
  first|exact ha|exact hf|exact hd|exact hp
theorem Plant.Safe.step {p:Plant} (h:p.Safe) (c:Int) (hm:may c p.sense=true):(p.step c).Safe:=by
 unfold Plant.step
 split
 ·refine ⟨?_,h.hh,h.at_,h.free,h.door,h.folk⟩
  have:=h.wf.step c;unfold Plant.step at this;rw [if_pos (by assumption)] at this;exact this
 ·exact h.act c hm
theorem Plant.Safe.outside {p:Plant} (h:p.Safe) (a:Act) (hk:a.kind≠kStep):(p.outside a).Safe:=by
 have hw:=h.wf.outside a;obtain ⟨wf,hh,ha,hf,hd,hp⟩:=h;have pe:=wf.pe1;unfold Plant.outside at *;rw [if_neg hk] at *
 split
 ·rw [if_pos (by assumption)] at hw
  unfold Plant.walk at *
  split
  ·exact ⟨wf,hh,ha,hf,hd,hp⟩
  ·rename_i h1
   rw [if_neg h1] at hw
   split
   ·exact ⟨wf,hh,ha,hf,hd,hp⟩
   ·rename_i h2
    rw [if_neg h2] at hw;exact ⟨hw,hh,ha,hf,hd,fun _=>by simpa using h2⟩
 ·rw [if_neg (by assumption)] at hw
  split
  ·rw [if_pos (by assumption)] at hw
   unfold Plant.arrive at *
   split
   ·exact ⟨wf,hh,ha,hf,hd,hp⟩
   ·rename_i h1
    rw [if_neg h1] at hw
    split
    ·exact ⟨wf,hh,ha,hf,hd,hp⟩
    ·rename_i h2
     rw [if_neg h2] at hw
     split
     ·exact ⟨wf,hh,ha,hf,hd,hp⟩
     ·rename_i h3
      rw [if_neg h3] at hw;exact ⟨hw,hh,ha,hf,hd,hp⟩
  ·rw [if_neg (by assumption)] at hw
   split
   ·rw [if_pos (by assumption)] at hw
    unfold Plant.leave at *
    split
    ·exact ⟨wf,hh,ha,hf,hd,hp⟩
    ·rename_i h1
     rw [if_neg h1] at hw;exact ⟨hw,hh,ha,hf,hd,hp⟩
   ·rw [if_neg (by assumption)] at hw
    split
    ·rw [if_pos (by assumption)] at hw
     unfold Plant.setStall at *
     split
     ·exact ⟨wf,hh,ha,hf,hd,hp⟩
     ·rename_i h1
      rw [if_neg h1] at hw;exact ⟨hw,hh,ha,hf,hd,hp⟩
    ·exact ⟨wf,hh,ha,hf,hd,hp⟩
def Runs (k:Nat) (p:Plant) (l:List Goal) (q:Plant) (r:List Goal):Prop:=∀ n,runGoals (n+k) p l=runGoals n q r
theorem Runs.refl (p:Plant) (l:List Goal):Runs 0 p l p l:=fun _=>rfl
theorem Runs.trans {a b:Nat} {p q s:Plant} {l m r:List Goal} (h:Runs a p l q m) (h':Runs b q m s r):Runs (b+a) p l s r:=fun n=>by
 rw [←Nat.add_assoc,h (n+b),h' n]
theorem Runs.done {p:Plant} {g:Goal} {r:List Goal} (h:(nextOf g p.sense).2=true):Runs 1 p (g :: r) p r:=fun _=>run_done h
structure Plant.Calm (p:Plant):Prop where
 wf:p.WF
 hh:p.hurt=false
 ex:p.ext=0
 dr:p.door=false
 pe:p.people=0
 st:p.stall=0
structure Plant.Still (p:Plant):Prop where
 wf:p.WF
 hh:p.hurt=false
 st:p.stall=0
theorem place_of {p:Plant} {x:Place} (hx:placeFault x p.levels=0) (hh:p.height=x.level * 3):p.place (extOf x)=some x:=by
 rw [placeFault_iff] at hx;obtain ⟨a,b,c⟩:=x;dsimp only at *
 have e:extOf ⟨a,b,c⟩≠0∧-2≤extOf ⟨a,b,c⟩∧extOf ⟨a,b,c⟩≤2∧((extOf ⟨a,b,c⟩<0∧b=0∧-extOf ⟨a,b,c⟩ - 1=c)∨(¬ extOf ⟨a,b,c⟩<0∧b=1∧extOf ⟨a,b,c⟩ - 1=c)):=by
  unfold extOf;dsimp only
  split <;> omega
 unfold Plant.place;rw [if_neg (by omega),hh]
 rcases e.2.2.2 with ⟨h1,h2,h3⟩|⟨h1,h2,h3⟩
 ·rw [if_pos h1,h3,h2]
  simp
 ·rw [if_neg h1,h3,h2]
  simp
theorem full_of {p:Plant} {x:Place} (hx:placeFault x p.levels=0) (hh:p.height=x.level * 3):p.full (extOf x)=(p.slots x != 0):=by
 unfold Plant.full;rw [place_of hx hh]
theorem front_ok {x:Place} {n:Int} (hx:placeFault x n=0):placeFault (front x) n=0:=by
 rw [placeFault_iff] at *;unfold front;dsimp only;omega
theorem ext_half {x:Place} {n:Int} (hx:placeFault x n=0) (h:extOf x=-2∨extOf x=2):extOf x / 2=extOf (front x)∧x.depth=1:=by
 rw [placeFault_iff] at hx;unfold extOf front at *;dsimp only
 split at h <;> (simp_all;try omega)
theorem setSlot_get (f:Place→Int) (x:Place) (a:Int):setSlot f x a x=a:=by simp [setSlot]
theorem setSlot_other (f:Place→Int) {x y:Place} (a:Int) (h:y≠x):setSlot f x a y=f y:=by simp [setSlot,h]
theorem front_ne {x:Place} (h:x.depth=1):front x≠x:=by
 intro e
 have:(front x).depth=x.depth:=by rw [e]
 unfold front at this;dsimp only at this;omega
theorem act_grab {q:Plant} {x:Place} (h:q.place q.ext=some x) (hl:q.lift=0) (hs:q.slots x≠0):q.act 103={ q with lift:=q.slots x,slots:=setSlot q.slots x 0 }:=by
 show q.grab=_;unfold Plant.grab;rw [h];dsimp only;rw [if_pos ⟨hl,hs⟩]
theorem act_put {q:Plant} {x:Place} (h:q.place q.ext=some x) (hl:q.lift≠0) (hs:q.slots x=0):q.act 112={ q with slots:=setSlot q.slots x q.lift,lift:=0 }:=by
 show q.put=_;unfold Plant.put;rw [h];dsimp only;rw [if_pos ⟨hl,hs⟩]
/-! ### a calm machine -/
end Ch
namespace Go.Proofs.Ytplomeacjbkgnaa
open Go.RowKit Go.MapKept
abbrev vb (n:Int):Value:=.int .u8 n
theorem byteMapType:Try.prog.underlying 190=some (.map 5 3):=by kernel_rfl
theorem byte_set (w:World) (o o':Obj):({ w.alloc o with heap:=(w.alloc o).heap.setIfInBounds w.heap.size o' }:World)=w.alloc o':=by
 show ({ w with heap:=(w.heap.push o).setIfInBounds w.heap.size o' }:World)={ w with heap:=w.heap.push o' }
 congr 1
 apply Array.ext_getElem?;intro i
 by_cases h:i=w.heap.size
 ·subst h;simp
 ·rw [Array.getElem?_setIfInBounds_ne (fun e=>h e.symm)]
  simp [Array.getElem?_push,h]
theorem byte_key (e:Bool) (k:Int) (w:World):(Instr.checkKey e 10000 5 (vb k)).run Try.prog w = .ok () w:=by kernel_rfl
theorem byte_insert (w:World) (es:Array MapEntry) (clock:Nat) (k v:Int) (h:Instr.findNow (.int .u8) (vb k) es.toList 0=some none):
  (Instr.mapUpdate 190 (.map (some w.heap.size)) (vb k) (vi v)).run Try.prog (w.alloc (.map es clock)) = .ok () (w.alloc (.map (es.push { key:=vb k,val:=vi v,born:=clock }) (clock+1))):=by
 have hb:(w.alloc (.map es clock)).heap[w.heap.size]? = some (.map es clock):=heap_alloc_new w _
 have hk:Try.prog.underlying 5=some (.int .u8):=by kernel_rfl
 have hc:(Instr.checkKey false 10000 5 (vb k)).run Try.prog (w.alloc (.map es clock)) = .ok () (w.alloc (.map es clock)):=byte_key _ _ _;have hf:(Instr.findKey 5 (vb k) es.toList).run Try.prog (w.alloc (.map es clock)) = .ok none (w.alloc (.map es clock)):=run_findKey hk h;simp [Instr.mapUpdate,run_underlying byteMapType,MapKept.run_getObj_map hb,hc,hf,run_setObj_map _ hb,Result.andThen];exact byte_set w _ _
theorem byte_look (w:World) (es:Array MapEntry) (clock:Nat) (k v:Int) (i:Nat) (h:Instr.findNow (.int .u8) (vb k) es.toList 0=some (some (i,vi v))):
  (Instr.lookup 190 (.map (some w.heap.size)) (vb k) false).run Try.prog (w.alloc (.map es clock)) = .ok (vi v) (w.alloc (.map es clock)):=by
 have hb:(w.alloc (.map es clock)).heap[w.heap.size]? = some (.map es clock):=heap_alloc_new w _
 have hk:Try.prog.underlying 5=some (.int .u8):=by kernel_rfl
 have hc:∀ b,(Instr.checkKey b 10000 5 (vb k)).run Try.prog (w.alloc (.map es clock)) = .ok () (w.alloc (.map es clock)):=fun b=>byte_key _ _ _
 have hf:(Instr.findKey 5 (vb k) es.toList).run Try.prog (w.alloc (.map es clock)) = .ok (some (i,vi v)) (w.alloc (.map es clock)):=run_findKey hk h;simp [Instr.lookup,run_underlying byteMapType,MapKept.run_getObj_map hb,hc,hf,Result.andThen]
abbrev twoMap (k1 v1 k2 v2:Int):Obj:=.map #[{ key:=vb k1,val:=vi v1,born:=0 },{ key:=vb k2,val:=vi v2,born:=1 }] 2
theorem byte_one (w:World) (k1 v1:Int):(Instr.mapUpdate 190 (.map (some w.heap.size)) (vb k1) (vi v1)).run Try.prog (w.alloc (.map #[] 0)) = .ok () (w.alloc (.map #[{ key:=vb k1,val:=vi v1,born:=0 }] 1)):=
 byte_insert w #[] 0 k1 v1 rfl
theorem byte_two (w:World) (k1 v1 k2 v2:Int) (h:(k2==k1)=false):(Instr.mapUpdate 190 (.map (some w.heap.size)) (vb k2) (vi v2)).run Try.prog (w.alloc (.map #[{ key:=vb k1,val:=vi v1,born:=0 }] 1)) = .ok () (w.alloc (twoMap k1 v1 k2 v2)):=
 byte_insert w #[{ key:=vb k1,val:=vi v1,born:=0 }] 1 k2 v2 (by simp [Instr.findNow,Instr.sameNow,h])
theorem byte_get1 (w:World) (k1 v1 k2 v2:Int):(Instr.lookup 190 (.map (some w.heap.size)) (vb k1) false).run Try.prog (w.alloc (twoMap k1 v1 k2 v2)) = .ok (vi v1) (w.alloc (twoMap k1 v1 k2 v2)):=
 byte_look w _ 2 k1 v1 0 (by simp [Instr.findNow,Instr.sameNow])
theorem byte_get2 (w:World) (k1 v1 k2 v2:Int) (h:(k2==k1)=false):(Instr.lookup 190 (.map (some w.heap.size)) (vb k2) false).run Try.prog (w.alloc (twoMap k1 v1 k2 v2)) = .ok (vi v2) (w.alloc (twoMap k1 v1 k2 v2)):=
 byte_look w _ 2 k2 v2 1 (by simp [Instr.findNow,Instr.sameNow,h])
theorem step_117 {pb mb:Nat} {p:Ch.Plant} {w:World} (h:PlantAt w pb mb p) (hp:p.WF) (hs:decide (0<p.stall)=false):
  Calls Try.prog 115 #[.pointer (some ⟨pb,0,none⟩),vb 117] w (Did pb mb w (p.rise 1) (.tuple #[])):=by
 obtain ⟨c0,c1,c2,c3,c4,c5,c6,c7,c8,c9⟩:=h.cells;have hb:=cell_lt c1;have HP:=Lib.hid h;have fz:=block_free h.blk;clear h;have m0:=@run_makeMap Try.prog
 have m1:=fun w=>byte_one w 117 1
 have m2:=fun w=>byte_two w 117 1 100 (-1) rfl
 have m3:=fun w=>byte_get1 w 117 1 100 (-1)
 have m4:=fun w=>byte_get2 w 117 1 100 (-1) rfl
 go_enter Try.func115,Try.ntmps115;go_wp2_with (go_at_call 144;(with_reducible refine (rise_any (HP.out.ext (by simp (maxDischargeDepth:=60))) hp 1 (Or.inl rfl)).mono ?_);rintro e w1 ⟨rfl,hq,hk⟩)
 go_end0
 exact ⟨rfl,hq,(Kept.of_ext (by simp (maxDischargeDepth:=60))).trans hk⟩
theorem step_100 {pb mb:Nat} {p:Ch.Plant} {w:World} (h:PlantAt w pb mb p) (hp:p.WF) (hs:decide (0<p.stall)=false):
  Calls Try.prog 115 #[.pointer (some ⟨pb,0,none⟩),vb 100] w (Did pb mb w (p.rise (-1)) (.tuple #[])):=by
 obtain ⟨c0,c1,c2,c3,c4,c5,c6,c7,c8,c9⟩:=h.cells;have hb:=cell_lt c1;have HP:=Lib.hid h;have fz:=block_free h.blk;clear h;have m0:=@run_makeMap Try.prog
 have m1:=fun w=>byte_one w 117 1
 have m2:=fun w=>byte_two w 117 1 100 (-1) rfl
 have m3:=fun w=>byte_get1 w 117 1 100 (-1)
 have m4:=fun w=>byte_get2 w 117 1 100 (-1) rfl
 go_enter Try.func115,Try.ntmps115;go_wp2_with (go_at_call 144;(with_reducible refine (rise_any (HP.out.ext (by simp (maxDischargeDepth:=60))) hp (-1) (Or.inr rfl)).mono ?_);rintro e w1 ⟨rfl,hq,hk⟩)
 go_end0
 exact ⟨rfl,hq,(Kept.of_ext (by simp (maxDischargeDepth:=60))).trans hk⟩
theorem step_108 {pb mb:Nat} {p:Ch.Plant} {w:World} (h:PlantAt w pb mb p) (hp:p.WF) (hs:decide (0<p.stall)=false):
  Calls Try.prog 115 #[.pointer (some ⟨pb,0,none⟩),vb 108] w (Did pb mb w (p.stretch (-1)) (.tuple #[])):=by
 obtain ⟨c0,c1,c2,c3,c4,c5,c6,c7,c8,c9⟩:=h.cells;have hb:=cell_lt c1;have HP:=Lib.hid h;have fz:=block_free h.blk;clear h;have m0:=@run_makeMap Try.prog
 have m1:=fun w=>byte_one w 108 (-1)
 have m2:=fun w=>byte_two w 108 (-1) 114 1 rfl
 have m3:=fun w=>byte_get1 w 108 (-1) 114 1
 have m4:=fun w=>byte_get2 w 108 (-1) 114 1 rfl
 go_enter Try.func115,Try.ntmps115;go_wp2_with (go_at_call 145;(with_reducible refine (stretch_any (HP.out.ext (by simp (maxDischargeDepth:=60))) hp (-1) (Or.inr rfl)).mono ?_);rintro e w1 ⟨rfl,hq,hk⟩)
 go_end0
 exact ⟨rfl,hq,(Kept.of_ext (by simp (maxDischargeDepth:=60))).trans hk⟩
theorem step_114 {pb mb:Nat} {p:Ch.Plant} {w:World} (h:PlantAt w pb mb p) (hp:p.WF) (hs:decide (0<p.stall)=false):
  Calls Try.prog 115 #[.pointer (some ⟨pb,0,none⟩),vb 114] w (Did pb mb w (p.stretch 1) (.tuple #[])):=by
 obtain ⟨c0,c1,c2,c3,c4,c5,c6,c7,c8,c9⟩:=h.cells;have hb:=cell_lt c1;have HP:=Lib.hid h;have fz:=block_free h.blk;clear h;have m0:=@run_makeMap Try.prog
 have m1:=fun w=>byte_one w 108 (-1)
 have m2:=fun w=>byte_two w 108 (-1) 114 1 rfl
 have m3:=fun w=>byte_get1 w 108 (-1) 114 1
 have m4:=fun w=>byte_get2 w 108 (-1) 114 1 rfl
 go_enter Try.func115,Try.ntmps115;go_wp2_with (go_at_call 145;(with_reducible refine (stretch_any (HP.out.ext (by simp (maxDischargeDepth:=60))) hp 1 (Or.inl rfl)).mono ?_);rintro e w1 ⟨rfl,hq,hk⟩)
 go_end0
 exact ⟨rfl,hq,(Kept.of_ext (by simp (maxDischargeDepth:=60))).trans hk⟩
theorem step_103 {pb mb:Nat} {p:Ch.Plant} {w:World} (h:PlantAt w pb mb p) (hp:p.WF) (hs:decide (0<p.stall)=false):
  Calls Try.prog 115 #[.pointer (some ⟨pb,0,none⟩),vb 103] w (Did pb mb w (p.grab) (.tuple #[])):=by
 obtain ⟨c0,c1,c2,c3,c4,c5,c6,c7,c8,c9⟩:=h.cells;have hb:=cell_lt c1;have HP:=Lib.hid h;have fz:=block_free h.blk;clear h;go_enter Try.func115,Try.ntmps115;go_wp2_with (go_at_call 146;(with_reducible refine (grab_any (HP.out.ext (by simp (maxDischargeDepth:=60))) hp).mono ?_);rintro e w1 ⟨rfl,hq,hk⟩)
 go_end0
 exact ⟨rfl,hq,(Kept.of_ext (by simp (maxDischargeDepth:=60))).trans hk⟩
theorem step_112 {pb mb:Nat} {p:Ch.Plant} {w:World} (h:PlantAt w pb mb p) (hp:p.WF) (hs:decide (0<p.stall)=false):
  Calls Try.prog 115 #[.pointer (some ⟨pb,0,none⟩),vb 112] w (Did pb mb w (p.put) (.tuple #[])):=by
 obtain ⟨c0,c1,c2,c3,c4,c5,c6,c7,c8,c9⟩:=h.cells;have hb:=cell_lt c1;have HP:=Lib.hid h;have fz:=block_free h.blk;clear h;go_enter Try.func115,Try.ntmps115;go_wp2_with (go_at_call 147;(with_reducible refine (put_any (HP.out.ext (by simp (maxDischargeDepth:=60))) hp).mono ?_);rintro e w1 ⟨rfl,hq,hk⟩)
 go_end0
 exact ⟨rfl,hq,(Kept.of_ext (by simp (maxDischargeDepth:=60))).trans hk⟩
theorem step_111 {pb mb:Nat} {p:Ch.Plant} {w:World} (h:PlantAt w pb mb p) (hp:p.WF) (hs:decide (0<p.stall)=false):
  Calls Try.prog 115 #[.pointer (some ⟨pb,0,none⟩),vb 111] w (Did pb mb w (p.swing true) (.tuple #[])):=by
 obtain ⟨c0,c1,c2,c3,c4,c5,c6,c7,c8,c9⟩:=h.cells;have hb:=cell_lt c1;have HP:=Lib.hid h;have fz:=block_free h.blk;clear h;go_enter Try.func115,Try.ntmps115;go_wp2_with (go_at_call 148;(with_reducible refine (swing_any (HP.out.ext (by simp (maxDischargeDepth:=60))) true).mono ?_);rintro e w1 ⟨rfl,hq,hk⟩)
 go_end0
 exact ⟨rfl,hq,(Kept.of_ext (by simp (maxDischargeDepth:=60))).trans hk⟩
theorem step_99 {pb mb:Nat} {p:Ch.Plant} {w:World} (h:PlantAt w pb mb p) (hp:p.WF) (hs:decide (0<p.stall)=false):
  Calls Try.prog 115 #[.pointer (some ⟨pb,0,none⟩),vb 99] w (Did pb mb w (p.swing false) (.tuple #[])):=by
 obtain ⟨c0,c1,c2,c3,c4,c5,c6,c7,c8,c9⟩:=h.cells;have hb:=cell_lt c1;have HP:=Lib.hid h;have fz:=block_free h.blk;clear h;go_enter Try.func115,Try.ntmps115;go_wp2_with (go_at_call 148;(with_reducible refine (swing_any (HP.out.ext (by simp (maxDischargeDepth:=60))) false).mono ?_);rintro e w1 ⟨rfl,hq,hk⟩)
 go_end0
 exact ⟨rfl,hq,(Kept.of_ext (by simp (maxDischargeDepth:=60))).trans hk⟩
theorem step_110 {pb mb:Nat} {p:Ch.Plant} {w:World} (h:PlantAt w pb mb p) (hp:p.WF) (hs:decide (0<p.stall)=false):
  Calls Try.prog 115 #[.pointer (some ⟨pb,0,none⟩),vb 110] w (Did pb mb w (p.pass true) (.tuple #[])):=by
 obtain ⟨c0,c1,c2,c3,c4,c5,c6,c7,c8,c9⟩:=h.cells;have hb:=cell_lt c1;have HP:=Lib.hid h;have fz:=block_free h.blk;clear h;go_enter Try.func115,Try.ntmps115;go_wp2_with (go_at_call 149;(with_reducible refine (pass_any (HP.out.ext (by simp (maxDischargeDepth:=60))) true).mono ?_);rintro e w1 ⟨rfl,hq,hk⟩)
 go_end0
 exact ⟨rfl,hq,(Kept.of_ext (by simp (maxDischargeDepth:=60))).trans hk⟩
theorem step_120 {pb mb:Nat} {p:Ch.Plant} {w:World} (h:PlantAt w pb mb p) (hp:p.WF) (hs:decide (0<p.stall)=false):
  Calls Try.prog 115 #[.pointer (some ⟨pb,0,none⟩),vb 120] w (Did pb mb w (p.pass false) (.tuple #[])):=by
 obtain ⟨c0,c1,c2,c3,c4,c5,c6,c7,c8,c9⟩:=h.cells;have hb:=cell_lt c1;have HP:=Lib.hid h;have fz:=block_free h.blk;clear h;go_enter Try.func115,Try.ntmps115;go_wp2_with (go_at_call 149;(with_reducible refine (pass_any (HP.out.ext (by simp (maxDischargeDepth:=60))) false).mono ?_);rintro e w1 ⟨rfl,hq,hk⟩)
 go_end0
 exact ⟨rfl,hq,(Kept.of_ext (by simp (maxDischargeDepth:=60))).trans hk⟩
theorem step_none {pb mb:Nat} {p:Ch.Plant} {w:World} (h:PlantAt w pb mb p) (hs:decide (0<p.stall)=false) (c:Int) (h117:(c==117)=false) (h100:(c==100)=false) (h108:(c==108)=false) (h114:(c==114)=false) (h103:(c==103)=false) (h112:(c==112)=false) (h111:(c==111)=false) (h99:(c==99)=false) (h110:(c==110)=false) (h120:(c==120)=false):
  Calls Try.prog 115 #[.pointer (some ⟨pb,0,none⟩),vb c] w (Did pb mb w p (.tuple #[])):=by
 obtain ⟨c0,c1,c2,c3,c4,c5,c6,c7,c8,c9⟩:=h.cells;have hb:=cell_lt c1;have HP:=Lib.hid h;have fz:=block_free h.blk;clear h;go_enter Try.func115,Try.ntmps115;go_wp2
 all_goals
  go_end0
  exact ⟨rfl,HP.out,Kept.refl _ _⟩
theorem step_rest {pb mb:Nat} {p:Ch.Plant} {w:World} (h:PlantAt w pb mb p):
  Calls Try.prog 115 #[.pointer (some ⟨pb,0,none⟩),vb 45] w (Did pb mb w p (.tuple #[])):=by
 obtain ⟨c0,c1,c2,c3,c4,c5,c6,c7,c8,c9⟩:=h.cells;have hb:=cell_lt c1;have HP:=Lib.hid h;have fz:=block_free h.blk;clear h;go_enter Try.func115,Try.ntmps115;go_wp2
 all_goals
  go_end0
  exact ⟨rfl,HP.out,Kept.refl _ _⟩
theorem step_stalled {pb mb:Nat} {p:Ch.Plant} {w:World} (h:PlantAt w pb mb p) (hp:p.WF) (c:Int) (hs:0<p.stall) (hc:(c==45)=false):
  Calls Try.prog 115 #[.pointer (some ⟨pb,0,none⟩),vb c] w (Did pb mb w { p with stall:=p.stall - 1 } (.tuple #[])):=by
 have hc':(c != 45)=true:=by simpa using hc
 have h2:=hp.st2;have i1:IntKind.i64.wrap (p.stall - 1)=p.stall - 1:=IntWalk.i64_in _ (by omega);obtain ⟨c0,c1,c2,c3,c4,c5,c6,c7,c8,c9⟩:=h.cells;have hb:=cell_lt c1;have HP:=Lib.hid h;have fz:=block_free h.blk;clear h;go_enter Try.func115,Try.ntmps115;go_wp2;refine bodyPost_ret (results_none rfl _ _ _) rfl ?_;exact ⟨rfl,HP.out.set 8 _ (by simp) rfl,(Kept.refl _ _).setCell (Or.inl (Or.inl rfl)) _⟩
theorem step_any {pb mb:Nat} {p:Ch.Plant} {w:World} (h:PlantAt w pb mb p) (hp:p.WF) (c:Int):
  Calls Try.prog 115 #[.pointer (some ⟨pb,0,none⟩),vb c] w (Did pb mb w (p.step c) (.tuple #[])):=by
 by_cases h45:c=45
 ·subst h45
  have:p.step 45=p:=by unfold Ch.Plant.step;rw [if_neg (by simp)];rfl
  rw [this];exact step_rest h
 by_cases hs:0<p.stall
 ·have:p.step c={ p with stall:=p.stall - 1 }:=by unfold Ch.Plant.step;rw [if_pos ⟨hs,h45⟩]
  rw [this];exact step_stalled h hp c hs (by simpa using h45)
 have hd:decide (0<p.stall)=false:=by simpa using hs
 have:p.step c=p.act c:=by unfold Ch.Plant.step;rw [if_neg (by omega)]
 rw [this]
 by_cases h117:c=117
 ·subst h117;exact step_117 h hp hd
 by_cases h100:c=100
 ·subst h100;exact step_100 h hp hd
 by_cases h108:c=108
 ·subst h108;exact step_108 h hp hd
 by_cases h114:c=114
 ·subst h114;exact step_114 h hp hd
 by_cases h103:c=103
 ·subst h103;exact step_103 h hp hd
 by_cases h112:c=112
 ·subst h112;exact step_112 h hp hd
 by_cases h111:c=111
 ·subst h111;exact step_111 h hp hd
 by_cases h99:c=99
 ·subst h99;exact step_99 h hp hd
 by_cases h110:c=110
 ·subst h110;exact step_110 h hp hd
 by_cases h120:c=120
 ·subst h120;exact step_120 h hp hd
 have:p.act c=p:=by
  unfold Ch.Plant.act;rw [if_neg h117,if_neg h100,if_neg h108,if_neg h114,if_neg h103,if_neg h112,if_neg h111,if_neg h99,if_neg h110,if_neg h120]
 rw [this];exact step_none h hd c (by simpa using h117) (by simpa using h100) (by simpa using h108) (by simpa using h114) (by simpa using h103) (by simpa using h112) (by simpa using h111) (by simpa using h99) (by simpa using h110) (by simpa using h120)
end Go.Proofs.Ytplomeacjbkgnaa
