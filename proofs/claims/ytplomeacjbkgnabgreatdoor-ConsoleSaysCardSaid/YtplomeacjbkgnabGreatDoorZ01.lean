import Derived.Test.YtplomeacjbkgnabGreatDoorChecked
import Derived.Handy
import Derived.BigQuiet
import Derived.Lib.Hide
import Derived.WalkSmall
set_option linter.all false
set_option maxRecDepth 100000
set_option maxHeartbeats 16000000
namespace Ch
structure dD where
 long:Int
 high:Int
 heavy:Int
 deriving DecidableEq,Inhabited
structure Car where
 id:Int
 size:dD
 deriving DecidableEq,Inhabited
structure pB where
 level:Int
 side:Int
 depth:Int
 deriving DecidableEq,Inhabited
structure uM where
 height:Int
 ext:Int
 door:Bool
 people:Int
 lift:Int
 bay:Int
 here:Bool
 toLeft:Bool
 toRight:Bool
 deriving DecidableEq,Inhabited
structure aG where
 kind:Int
 n:Int
 deriving DecidableEq,Inhabited
structure sA where
 ticket:Int
 car:Car
 home:pB
 deriving DecidableEq,Inhabited
structure Job where
 ticket:Int
 fetch:Bool
 deriving DecidableEq,Inhabited
structure gB where
 last:Int
 stays:List sA
 jobs:List Job
 deriving DecidableEq,Inhabited
def iC (s:dD):Int:=
 if s.long<1\/99<s.long\/s.high<1\/99<s.high\/s.heavy<1\/99<s.heavy then 1 else 0
def gC (c:Car):Int:=if c.id<1\/999<c.id then 1 else iC c.size
def pM (s room:dD):Bool:=decide (s.long<=room.long)&&decide (s.high<=room.high)&&decide (s.heavy<=room.heavy)
def uB (last:dD):List dD->Int
 | []=>0
 | s :: l=>if iC s≠0 then iC s else if pM s last=false then 3 else uB last l
def jB (l:List dD):Int:=
 if l.length<1\/4<l.length then 2 else uB (l.getLastD default) l
def uA (p:pB) (levels:Int):Int:=
 if p.level<1\/levels<p.level\/p.side<0\/1<p.side\/p.depth<0\/1<p.depth then 1 else 0
def wH (levels:Int):pB:=⟨levels,1,0⟩
def xK (levels n:Int):List pB:=
 if n<levels then [⟨n,0,1⟩,⟨n,0,0⟩,⟨n,1,1⟩,⟨n,1,0⟩] else [⟨n,0,1⟩,⟨n,0,0⟩]
def yH (levels:Int):Nat->Int->List pB
 | 0,_=>[]
 | k+1,n=>xK levels n++yH levels k (n+1)
def aE (levels:Int):List pB:=yH levels levels.toNat 1
def extOf (p:pB):Int:=if p.side=0 then -1 - p.depth else 1+p.depth
def aH (p:pB):pB:={ p with depth:=0 }
structure dA where
 levels:Int
 height:Int
 ext:Int
 door:Bool
 people:Int
 lift:Int
 bay:Int
 slots:pB->Int
 stall:Int
 hurt:Bool
instance:Inhabited dA:=⟨⟨0,0,0,false,0,0,0,fun _=>0,0,false⟩⟩
def dA.new (levels:Int):dA:=⟨levels,0,0,true,0,0,0,fun _=>0,0,false⟩
def dA.place (p:dA) (ext:Int):Option pB:=
 if p.height % 3≠0\/p.height=0\/ext=0\/ext < -2\/2<ext then none
 else if ext<0 then some ⟨p.height / 3,0,-ext - 1⟩ else some ⟨p.height / 3,1,ext - 1⟩
def dA.full (p:dA) (ext:Int):Bool:=
 match p.place ext with
 | none=>false
 | some x=>p.slots x != 0
def dA.sense (p:dA):uM:=
 ⟨p.height,p.ext,p.door,p.people,p.lift,p.bay,p.full p.ext,p.full (p.ext - 1),p.full (p.ext+1)⟩
def dA.openB (p:dA):Bool:=p.door || decide (0<p.people)
def sD (f:pB->Int) (x:pB) (v:Int):pB->Int:=fun y=>if y=x then v else f y
def oJ (n hi:Int):Int:=min (max n 0) hi
def dA.rise (p:dA) (n:Int):dA:=
 { p with hurt:=p.hurt || p.ext != 0 || p.openB,height:=oJ (p.height+n) (p.levels * 3) }
def dA.stretch (p:dA) (n:Int):dA:=
 if p.ext+n < -2\/2<p.ext+n then p
 else { p with hurt:=p.hurt || (p.ext+n != 0&&(p.place (p.ext+n)).isNone) || (p.lift != 0&&p.full (p.ext+n)),ext:=p.ext+n }
def dA.grab (p:dA):dA:=
 match p.place p.ext with
 | none=>p
 | some x=>if p.lift=0/\p.slots x≠0 then { p with lift:=p.slots x,slots:=sD p.slots x 0 } else p
def dA.put (p:dA):dA:=
 match p.place p.ext with
 | none=>p
 | some x=>if p.lift≠0/\p.slots x=0 then { p with slots:=sD p.slots x p.lift,lift:=0 } else p
def dA.swing (p:dA) (o:Bool):dA:=
 { p with hurt:=p.hurt || (o&&(p.height != 0 || p.ext != 0)) || (!o&&decide (0<p.people)),door:=o }
def dA.pass (p:dA) (i:Bool):dA:=
 let h:=p.hurt || p.openB
 if p.height≠0\/p.ext≠0 then { p with hurt:=h }
 else if i then (if p.lift=0 then { p with hurt:=h,lift:=p.bay,bay:=0 } else { p with hurt:=h })
 else (if p.bay=0 then { p with hurt:=h,bay:=p.lift,lift:=0 } else { p with hurt:=h })
def dA.act (p:dA) (c:Int):dA:=
 if c=117 then p.rise 1
 else if c=100 then p.rise (-1)
 else if c=108 then p.stretch (-1)
 else if c=114 then p.stretch 1
 else if c=103 then p.grab
 else if c=112 then p.put
 else if c=111 then p.swing true
 else if c=99 then p.swing false
 else if c=110 then p.pass true
 else if c=120 then p.pass false
 else p
def dA.step (p:dA) (c:Int):dA:=
 if 0<p.stall/\c≠45 then { p with stall:=p.stall - 1 } else p.act c
def dA.walk (p:dA) (n:Int):dA×Int:=
 if n < -9\/9<n then (p,1)
 else if p.door=false then (p,7)
 else ({ p with people:=oJ (p.people+n) 9 },0)
def dG (levels:Int):List pB:=
 (List.range levels.toNat).flatMap fun (k:Nat)=>[⟨k+1,0,0⟩,⟨k+1,0,1⟩,⟨k+1,1,0⟩,⟨k+1,1,1⟩]
def dA.where_ (p:dA) (id:Int):Option pB:=
 if id=0 then none else (dG p.levels).find? fun x=>p.slots x==id
def dA.has (p:dA) (id:Int):Bool:=
 (id != 0&&(dG p.levels).any fun x=>p.slots x==id) || p.lift==id || p.bay==id
def dA.arrive (p:dA) (id:Int):dA×Int:=
 if id<1\/999<id then (p,1)
 else if p.door=false\/p.bay≠0 then (p,7)
 else if p.has id then (p,6)
 else ({ p with bay:=id },0)
def dA.leave (p:dA):dA×Int×Int:=
 if p.door=false\/p.bay=0 then (p,0,7) else ({ p with bay:=0 },p.bay,0)
def dA.setStall (p:dA) (n:Int):dA×Int:=
 if n<0\/5<n then (p,1) else ({ p with stall:=n },0)
def level (s:uM):Bool:=decide (0<s.height)&&s.height % 3==0
def shut (s:uM):Bool:=!s.door&&s.people==0
def iJ (s:uM) (to:Int) (full:Bool):Bool:=
 if to < -2\/2<to then false else to==0 || (level s&&!(s.lift != 0&&full))
def w64 (n:Int):Int:=(n+9223372036854775808) % 18446744073709551616 - 9223372036854775808
def may (c:Int) (s:uM):Bool:=
 if c=45 then true
 else if c=117\/c=100 then s.ext==0&&shut s
 else if c=108 then iJ s (w64 (s.ext - 1)) s.toLeft
 else if c=114 then iJ s (w64 (s.ext+1)) s.toRight
 else if c=103 then level s&&s.ext != 0&&s.lift==0&&s.here
 else if c=112 then level s&&s.ext != 0&&s.lift != 0&&!s.here
 else if c=111 then s.height==0&&s.ext==0
 else if c=99 then s.people==0
 else if c=110 then s.height==0&&s.ext==0&&shut s&&s.lift==0&&s.bay != 0
 else if c=120 then s.height==0&&s.ext==0&&shut s&&s.lift != 0&&s.bay==0
 else false
def toward (from_ to:Int) (more less:Int):Int×Bool:=
 if from_<to then (more,false) else if to<from_ then (less,false) else (45,true)
def once (so:Bool) (c:Int):Int×Bool:=if so then (45,true) else (c,false)
def pG (g:aG) (s:uM):Int×Bool:=
 if g.kind=1 then toward s.height g.n 117 100
 else if g.kind=2 then toward s.ext g.n 114 108
 else if g.kind=3 then once (s.lift != 0) 103
 else if g.kind=4 then once (s.lift==0) 112
 else if g.kind=5 then once (!s.door) 99
 else if g.kind=6 then once s.door 111
 else if g.kind=7 then once (s.lift != 0) 110
 else if g.kind=8 then once (s.lift==0) 120
 else (45,true)
def yJ (height:Int):List aG:=[⟨2,0⟩,⟨5,0⟩,⟨1,height⟩]
def lD (p:pB) (kind:Int):List aG:=yJ (p.level * 3)++[⟨2,extOf p⟩,⟨kind,0⟩,⟨2,0⟩]
def fetch (p:pB):List aG:=lD p 3
def vN (p:pB):List aG:=lD p 4
def aO:List aG:=yJ 0++[⟨7,0⟩]
def dF:List aG:=yJ 0++[⟨8,0⟩,⟨6,0⟩]
def rG:List aG:=yJ 0++[⟨6,0⟩]
def cC {α:Type} (p:α->Bool) (l:List α):Int:=
 match l.findIdx? p with
 | none=>-1
 | some i=>i
def qE (levels last:Int) (before:List sA) (s:sA):Int:=
 if gC s.car≠0 then gC s.car
 else if uA s.home levels≠0 then uA s.home levels
 else if s.ticket<1\/last<s.ticket then 1
 else if ¬ s.home∈aE levels\/(∃ x∈before.getLast?,s.ticket<=x.ticket) then 3
 else if before.any (fun x=>x.home==s.home || x.car.id==s.car.id) then 3
 else 0
def sC (levels last:Int):List sA->List sA->Int
 | _,[]=>0
 | before,s :: l=>if qE levels last before s≠0 then qE levels last before s else sC levels last (before++[s]) l
def vD (stays:List sA):List Job->List Job->Int
 | _,[]=>0
 | before,j :: l=>if (stays.any fun s=>s.ticket==j.ticket)=false\/j∈before then 3 else vD stays (before++[j]) l
def fC (b:gB) (levels:Int):Int:=
 if b.last<0\/999999<b.last then 1
 else if 16<b.stays.length\/8<b.jobs.length then 2
 else if sC levels b.last [] b.stays≠0 then sC levels b.last [] b.stays
 else vD b.stays [] b.jobs
def gB.find (b:gB) (ticket:Int):Option sA:=b.stays.find? fun s=>s.ticket==ticket
def gB.of (b:gB) (id:Int):Option sA:=b.stays.find? fun s=>s.car.id==id
def hasHome (b:gB) (p:pB):Bool:=b.stays.any fun s=>s.home==p
def waits (b:gB) (p:pB):Bool:=
 b.stays.any fun s=>s.home != p&&aH s.home==p&&b.jobs.contains ⟨s.ticket,false⟩
def pick (b:gB) (levels:List dD) (c:Car):Option pB:=
 (aE levels.length).find? fun p=>pM c.size (levels.getD (p.level - 1).toNat default)&&!hasHome b p&&!hasHome b (aH p)&&!waits b p
def park (b:gB) (levels:List dD) (c:Car):Except Int (gB×Int):=
 if gC c≠0 then .error (gC c)
 else if (b.of c.id).isSome then .error 6
 else match pick b levels c with
  | none=>.error 8
  | some p=>
   if b.last=999999\/b.jobs.length=8 then .error 8
   else .ok (⟨b.last+1,b.stays++[⟨b.last+1,c,p⟩],b.jobs++[⟨b.last+1,false⟩]⟩,b.last+1)
def want (b:gB) (ticket:Int):Except Int gB:=
 if (b.find ticket).isNone then .error 5
 else if b.jobs.contains ⟨ticket,true⟩ then .error 6
 else if b.jobs.length=8 then .error 8
 else .ok { b with jobs:=b.jobs++[⟨ticket,true⟩] }
def yC (b:gB) (j:Job) (gone:Bool):gB:=
 { b with
  jobs:=b.jobs.filter fun x=>!(x==j || ((j.fetch || gone)&&x.ticket==j.ticket)),
  stays:=if j.fetch || gone then b.stays.filter fun s=>!(s.ticket==j.ticket) else b.stays }
end Ch
namespace Go.Proofs.YtplomeacjbkgnabGreatDoor
open Go.ChangeShapes Go.WideShapes Go.ChangeAt Go.RowKit Tryz
open Ch hiding pick
theorem aA {p:Prop} (h:p):RowKit.Hid p:=Lib.hid h
theorem bA {α:Type}:(∀ (l:List α) (i:Nat) (a:α),l.toArray.setIfInBounds i a=(l.set i a).toArray)∧(∀ (a b:α) (l:List α),(a::l).set 0 b=b::l)∧∀ (a b:α) (l:List α) (n:Nat),(a::l).set (n+1) b=a::l.set n b:=⟨fun _ _ _=>List.setIfInBounds_toArray ..,fun _ _ _=>rfl,fun _ _ _ _=>rfl⟩
theorem _root_.om {p:Prop} (h:p:=by omega):p:=h
theorem _root_.dc {p:Prop} (h:p:=by decide):p:=h
theorem _root_.sp {p:Prop} (h:p:=by simp):p:=h
theorem _root_.so {p:Prop} (h:p:=by first|(simp;done)|(simp;omega)):p:=h
theorem _root_.ov {p:Prop} (h:p:=by first|omega|(simp;done)|(simp;omega)):p:=h
abbrev vi (n:Int):Value:=.int .i64 n
@[simp,go_sem] abbrev cV (w:World) (a i:Nat) (v:Value):Prop:=w.cell? ⟨a,i,none⟩=some v
@[simp,go_sem] abbrev cI (w:World) (a i:Nat) (n:Int):Prop:=w.cell? ⟨a,i,none⟩=some (vi n)
def yB (s:dD):List Value:=[vi s.long,vi s.high,vi s.heavy]
def xF (p:pB):List Value:=[vi p.level,vi p.side,vi p.depth]
def jC (g:aG):List Value:=[vi g.kind,vi g.n]
def iA (s:sA):List Value:=[vi s.ticket,vi s.car.id,vi s.car.size.long,vi s.car.size.high,vi s.car.size.heavy,vi s.home.level,vi s.home.side,vi s.home.depth]
def jA (j:Job):List Value:=[vi j.ticket,.bool j.fetch]
def jG (n:Int):List Value:=[vi n]
def bC (s:ByteArray):List Value:=[.string s]
theorem cA {w:World} {b o:Nat} {v:Value} (h:w.cell? ⟨b,o,none⟩=some v):b<w.heap.size:=by
 by_cases hb:b<w.heap.size
 ·exact hb
 ·simp [World.cell?,Array.getElem?_eq_none (Nat.le_of_not_lt hb)] at h
@[go_sem] theorem nlt1 {a b c:Nat} (h:a<b):a<b+c:=om
@[go_sem] theorem nlt2 {a b c d:Nat} (h:a<b):a<b+c+d:=om
@[go_sem] theorem nlt3 {a b c d e:Nat} (h:a<b):a<b+c+d+e:=om
@[go_sem] theorem nlt4 {a b c d e f:Nat} (h:a<b):a<b+c+d+e+f:=om
@[go_sem] theorem nlt_self1 {a c:Nat} (h:0<c):a<a+c:=om
@[go_sem] theorem nlt_one2 {a d:Nat}:a<a+1+d:=om
@[go_sem] theorem nlt_one3 {a d e:Nat}:a<a+1+d+e:=om
def _root_.Go.World.plus (w:World) (o:Array Obj) (n:Nat):World:={ w with heap:=w.heap++o,drawn:=n }
section
variable (w:World) (o:Array Obj) (n:Nat)
@[simp,go_sem] theorem plus_size:(w.plus o n).heap.size=w.heap.size+o.size:=by simp [World.plus]
theorem dB (k:Nat) (h:k<w.heap.size):(w.plus o n).heap[k]? = w.heap[k]?:=by
 simp only [World.plus];rw [Array.getElem?_append_left h]
@[simp,go_sem] theorem cB (b i:Nat) (s:Option Nat) (h:b<w.heap.size):(w.plus o n).cell? ⟨b,i,s⟩=w.cell? ⟨b,i,s⟩:=by
 simp only [World.cell?,dB w o n b h]
@[simp,go_sem] theorem bN (b i:Nat) (s:Option Nat) (h:b<w.heap.size):(w.plus o n).frozen? ⟨b,i,s⟩=w.frozen? ⟨b,i,s⟩:=by
 simp only [World.frozen?,dB w o n b h]
@[simp,go_sem] theorem lE (o':Array Obj) (n':Nat):(w.plus o n).plus o' n'=w.plus (o++o') n':=by
 simp [World.plus]
@[simp,go_sem] theorem plus_drew:(w.plus o n).drew=w.plus o (n+1):=rfl
@[simp,go_sem] theorem plus_drewN (m:Nat):(w.plus o n).drewN m=w.plus o (n+m):=rfl
@[simp,go_sem] theorem plus_tape:(w.plus o n).tape=w.tape:=rfl
theorem plus_refl:w.plus #[] w.drawn=w:=by simp [World.plus]
theorem pA (b:Obj) (k:Nat) (h:k=w.heap.size):(w.alloc b).heap[k]? = some b:=by subst h;exact heap_alloc_new w b
theorem alloc_plus (b:Obj):w.alloc b=w.plus #[b] w.drawn:=by
 show ({ w with heap:=w.heap.push b }:World)=_;simp [World.plus]
end
def Ext (w w':World):Prop:=∃ o n,w'=w.plus o n
theorem Ext.out {w w':World} (h:Ext w w'):∃ o n,w'=w.plus o n:=h
@[simp] theorem Ext.refl (w:World):Ext w w:=⟨#[],w.drawn,(plus_refl w).symm⟩
@[simp] theorem Ext.plus {w w':World} (h:Ext w w') (o:Array Obj) (n:Nat):Ext w (w'.plus o n):=by
 obtain ⟨o1,n1,rfl⟩:=h;exact ⟨_,_,lE ..⟩
@[simp] theorem Ext.alloc {w w':World} (h:Ext w w') (b:Obj):Ext w (w'.alloc b):=by
 rw [alloc_plus];exact h.plus _ _
@[simp] theorem Ext.drew {w w':World} (h:Ext w w'):Ext w w'.drew:=by
 obtain ⟨o1,n1,rfl⟩:=h;exact ⟨_,_,plus_drew ..⟩
@[simp] theorem Ext.drewN {w w':World} (h:Ext w w') (n:Nat):Ext w (w'.drewN n):=by
 obtain ⟨o1,n1,rfl⟩:=h;exact ⟨_,_,plus_drewN ..⟩
theorem Ext.trans {a b c:World} (h:Ext a b) (h':Ext b c):Ext a c:=by
 obtain ⟨o1,n1,rfl⟩:=h';exact h.plus _ _
theorem Ext.below {w w':World} (h:Ext w w'):Below w.heap.size w w':=by
 obtain ⟨o,n,rfl⟩:=h;exact ⟨rfl,rfl,rfl,sp,fun k hk=>dB w o n k hk⟩
theorem Ext.of_below {w w':World} (h:Below w.heap.size w w'):Ext w w':=by
 refine ⟨w'.heap.extract w.heap.size w'.heap.size,w'.drawn,?_⟩
 have hh:w'.heap=w.heap++w'.heap.extract w.heap.size w'.heap.size:=by
  apply Array.ext_getElem?;intro k
  by_cases hk:k<w.heap.size
  ·rw [h.block k hk,Array.getElem?_append_left hk]
  ·rw [Array.getElem?_append_right om]
   by_cases hk2:k<w'.heap.size
   ·simp only [Array.getElem?_extract]
    rw [if_pos om]
    congr 1;omega
   ·rw [Array.getElem?_eq_none om,Array.getElem?_eq_none so]
 have e1:=h.os;have e2:=h.tape;have e3:=h.output;cases w';simp only [World.plus] at *;subst e1 e2 e3
 congr 1
@[simp] theorem Ext.setCell {w w':World} (h:Ext w w') {a:Addr} (ha:w.heap.size<=a.block) (v:Value):Ext w (w'.setCell a v):=
 Ext.of_below (h.below.setCell ha v)
@[go_sem] theorem all_two {p:World->Prop} (f:Array Obj->Nat->World):(∀ (w':World) (x:Array Obj) (n:Nat),w'=f x n->p w')↔∀ x n,p (f x n):=
 ⟨fun h x n=>h _ x n rfl,fun h _ x n e=>e▸h x n⟩
theorem rA {P:Program} {id:Nat} {Q:Exit->Act->World->Prop} {a:Act} {w:World} {l:List Oper} (hm:P.follows .mixedOrders=true) (hB:Region.lexB .any l.toArray=true)
  (h:wpQuiet P l.toArray (fun w'=>∃ o n,w'=w.plus o n) (fun a'=>∀ w',(∃ o n,w'=w.plus o n)->Q .normal a' w') l a):(Code.region id l.toArray true).wp P Q a w:=
 wp_region_quiet (C:=fun w'=>∃ o n,w'=w.plus o n) hm hB ⟨#[],w.drawn+1,by simp [World.plus]⟩ (by simpa using h)
theorem qM {P:Program} {ops:Array Oper} {C:World->Prop} {K K':Act->Prop} (h:∀ a,K a->K' a):∀ (l:List Oper) (a:Act),wpQuiet P ops C K l a->wpQuiet P ops C K' l a
 | [],a,x=>h a x
 | o::r,a,x=>by
  unfold wpQuiet at *;split at x
  ·rename_i e;rw [if_pos e];exact Oper.quiet_mono (qM h r) x
  ·rename_i e;rw [if_neg e];exact qM h r _ x
theorem qF {P:Program} {id:Nat} {Q:Exit->Act->World->Prop} {a a':Act} {w:World} {l:List Oper} (k:∀ w',(∃ o n,w'=w.plus o n)->Q .normal a' w')
  (h:wpQuiet P l.toArray (fun w'=>∃ o n,w'=w.plus o n) (fun x=>x=a') l a:=by (repeat (first|go_big_quiet_step (fail)|quiet_step (fail)));exact wpQuiet_nil rfl) (hm:P.follows .mixedOrders=true:=by kernel_rfl) (hB:Region.lexB .any l.toArray=true:=by kernel_rfl):(Code.region id l.toArray true).wp P Q a w:=
 rA hm hB (qM (fun _ e=>e ▸ k) _ _ h)
@[simp] theorem vF {w:World} {base:Nat} {e:TypeId} {size:Nat} {v:Value} {n:Nat} {xs:List Value} (h:w.ownsRow base e size v n xs) (o:Array Obj) (m:Nat):(w.plus o m).ownsRow base e size v n xs:=by
 refine ⟨h.1,?_⟩
 rcases h.2 with h2|⟨g,cap,cur,hv,hb,hg,hn,hc,hs,ht⟩
 ·exact .inl h2
 ·refine .inr ⟨g,cap,cur,hv,hb,?_,hn,hc,hs,ht⟩
  have hlt:g<w.heap.size:=by
   rcases Nat.lt_or_ge g w.heap.size with hlt|hge
   ·exact hlt
   ·rw [Array.getElem?_eq_none hge] at hg;cases hg
  rw [dB w o m g hlt,hg]
@[simp] theorem iB {w:World} {base:Nat} {e:TypeId} {size:Nat} {v:Value} {n:Nat} {xs:List Value} (h:w.ownsRow base e size v n xs) (b:Obj):(w.alloc b).ownsRow base e size v n xs:=by
 rw [alloc_plus];exact vF h _ _
@[simp] theorem mI {w:World} {base:Nat} {e:TypeId} {size:Nat} {v:Value} {n:Nat} {xs:List Value} (h:w.ownsRow base e size v n xs):w.drew.ownsRow base e size v n xs:=h
theorem owns_more {w:World} {base:Nat} {e:TypeId} {size:Nat} {v:Value} {n:Nat} {xs:List Value} {o:Array Obj} {m:Nat} (h:(w.plus o m).ownsRow base e size v n xs) (o':Array Obj) (m':Nat):(w.plus (o++o') m').ownsRow base e size v n xs:=by
 rw [<-lE w o m o' m'];exact vF h _ _
theorem iM (w:World) (e c n:Nat) (cs:Array Value) (h:cs.size=n * c) (hn:n<=maxLen):(w.alloc (.cells cs e)).ownsRow w.heap.size e c (.slice (some ⟨w.heap.size,0,none⟩) n n) n cs.toList:=
 ⟨by simpa using h,.inr ⟨_,n,cs,rfl,Nat.le_refl _,(MapKept.heap_alloc w _).1,Nat.le_refl _,hn,h,by rw [List.take_of_length_le (by simp [h])]⟩⟩
theorem mA {w:World} {base base':Nat} {e:TypeId} {size:Nat} {v:Value} {n:Nat} {xs:List Value} (h:w.ownsRow base e size v n xs) (hb:base'<=base):w.ownsRow base' e size v n xs:=by
 refine ⟨h.1,?_⟩
 rcases h.2 with h2|⟨g,cap,cur,hv,hb',r⟩
 ·exact .inl h2
 ·exact .inr ⟨g,cap,cur,hv,om,r⟩
theorem qA {w:World} {base:Nat} {e:TypeId} {size:Nat} {v:Value} {n:Nat} {xs:List Value} (h:w.ownsRow base e size v n xs):∀ k,v.ownBlock=some k->base<=k:=by
 intro k hk
 rcases h.2 with ⟨rfl,_⟩|⟨g,cap,cur,rfl,hb,_⟩
 ·cases hk
 ·cases hk;exact hb
theorem vB {w a w':World} {row:Option Nat} (h:Ext w a) (hg:a.grownBy w' row) (hr:∀ k,row=some k->w.heap.size<=k):Ext w w':=by
 have hb:=h.below;exact Ext.of_below (hb.grown hg hb.size hr)
theorem ext_callG {P:Program} {g:FuncId} {args:Array Value} {W:World} {F:Array Obj->Nat->World} {v:Value}
  (h:Calls P g args W fun e w'=>e = .returned v/\Ext W w') (hf:∀ w',Ext W w'->∃ o n,w'=F o n):Calls P g args W fun e w''=>e = .returned v/\∃ o n,w''=F o n:=
 h.mono fun _ _ ⟨he,hm⟩=>⟨he,hf _ hm⟩
def Sl {α:Type} (w:World) (c:Nat) (enc:α->List Value) (l:List α) (a:Option Addr) (n cap:Nat):Prop:=
 l.length=n/\n<=cap/\cap<=maxLen/\(0<n->∃ b o,a=some ⟨b,o,none⟩/\∀ i x,l[i]? = some x->∀ j y,(enc x)[j]? = some y->w.cell? ⟨b,o+i * c+j,none⟩=some y)
theorem Sl.nil {α:Type} (w:World) (c:Nat) (enc:α->List Value):Sl w c enc [] none 0 0:=⟨rfl,Nat.le_refl _,Nat.zero_le _,fun h=>absurd h om⟩
theorem Sl.len {α:Type} {w:World} {c:Nat} {enc:α->List Value} {l:List α} {a:Option Addr} {n cap:Nat} (h:Sl w c enc l a n cap):l.length=n:=h.1
theorem Sl.bound {α:Type} {w:World} {c:Nat} {enc:α->List Value} {l:List α} {a:Option Addr} {n cap:Nat} (h:Sl w c enc l a n cap):n<=cap/\cap<=9223372036854775807:=⟨h.2.1,h.2.2.1⟩
theorem Sl.keep {α:Type} {w w':World} {c:Nat} {enc:α->List Value} {l:List α} {a:Option Addr} {n cap:Nat} (h:Sl w c enc l a n cap)
  (hk:∀ p:Addr,(w.cell? p).isSome->w'.cell? p=w.cell? p):Sl w' c enc l a n cap:=
 ⟨h.1,h.2.1,h.2.2.1,fun hn=>let ⟨b,o,e,f⟩:=h.2.2.2 hn;⟨b,o,e,fun i x hx j y hy=>by have:=f i x hx j y hy;rw [hk _ (by rw [this];rfl)];exact this⟩⟩
theorem Sl.below {α:Type} {w w':World} {c:Nat} {enc:α->List Value} {l:List α} {a:Option Addr} {n cap:Nat} (h:Sl w c enc l a n cap) (hb:Below w.heap.size w w'):Sl w' c enc l a n cap:=
 h.keep fun p hp=>by
  obtain ⟨b,o,s⟩:=p
  have hlt:b<w.heap.size:=by
   by_cases hb:b<w.heap.size
   ·exact hb
   ·simp [World.cell?,Array.getElem?_eq_none (Nat.le_of_not_lt hb)] at hp
  exact hb.cell hlt
@[simp] theorem Sl.ext {α:Type} {w:World} {c:Nat} {enc:α->List Value} {l:List α} {a:Option Addr} {n cap:Nat} (h:Sl w c enc l a n cap) (o:Array Obj) (m:Nat):Sl (w.plus o m) c enc l a n cap:=
 h.below (Ext.below ⟨o,m,rfl⟩)
@[simp] theorem Sl.alloc {α:Type} {w:World} {c:Nat} {enc:α->List Value} {l:List α} {a:Option Addr} {n cap:Nat} (h:Sl w c enc l a n cap) (b:Obj):Sl (w.alloc b) c enc l a n cap:=
 h.below (Ext.below sp)
@[simp] theorem Sl.drew {α:Type} {w:World} {c:Nat} {enc:α->List Value} {l:List α} {a:Option Addr} {n cap:Nat} (h:Sl w c enc l a n cap):Sl w.drew c enc l a n cap:=
 h.below (Ext.below sp)
theorem Sl.more {α:Type} {w:World} {c:Nat} {enc:α->List Value} {l:List α} {a:Option Addr} {n cap:Nat} {o:Array Obj} {m:Nat} (h:Sl (w.plus o m) c enc l a n cap) (o':Array Obj) (m':Nat):Sl (w.plus (o++o') m') c enc l a n cap:=by
 rw [<-lE w o m o' m'];exact Sl.ext h _ _
theorem Sl.pre {α:Type} {w:World} {c:Nat} {enc:α->List Value} {l:List α} {a:Option Addr} {n cap:Nat} {o o':Array Obj} {m m':Nat} (h:Sl (w.plus o m) c enc l a n cap) (e:∃ r,o'=o++r):Sl (w.plus o' m') c enc l a n cap:=by
 obtain ⟨r,rfl⟩:=e;exact Sl.more h _ _
theorem Sl.get {α:Type} {w:World} {c:Nat} {enc:α->List Value} {l:List α} {a:Option Addr} {n cap:Nat} (h:Sl w c enc l a n cap) {k:Nat} (hk:k<n):
  ∃ b o x,a=some ⟨b,o,none⟩/\l[k]? = some x/\∀ j y,(enc x)[j]? = some y->w.cell? ⟨b,o+k * c+j,none⟩=some y:=by
 obtain ⟨b,o,e,f⟩:=h.2.2.2 om;have hl:=h.1;exact ⟨b,o,l[k]'om,e,sp,fun j y hy=>f k _ sp j y hy⟩
theorem Sl.get' {α:Type} {w:World} {c:Nat} {enc:α->List Value} {l:List α} {b o:Nat} {n cap:Nat} (h:Sl w c enc l (some ⟨b,o,none⟩) n cap) {k:Nat} (hk:k<n):
  ∃ x,l[k]? = some x/\∀ j y,(enc x)[j]? = some y->w.cell? ⟨b,o+k * c+j,none⟩=some y:=by
 obtain ⟨b',o',x,e,hx,f⟩:=h.get hk;simp only [Option.some.injEq,Addr.mk.injEq,and_true] at e;obtain ⟨rfl,rfl⟩:=e;exact ⟨x,hx,f⟩
theorem at2 {w:World} {b p:Nat} {x0 x1:Value} (h:∀ j y,([x0,x1]:List Value)[j]? = some y->w.cell? ⟨b,p+j,none⟩=some y):
  w.cell? ⟨b,p,none⟩=some x0/\w.cell? ⟨b,p+1,none⟩=some x1:=⟨h 0 _ rfl,h 1 _ rfl⟩
theorem at1 {w:World} {b p:Nat} {x0:Value} (h:∀ j y,([x0]:List Value)[j]? = some y->w.cell? ⟨b,p+j,none⟩=some y):
  w.cell? ⟨b,p,none⟩=some x0:=h 0 _ rfl
theorem at3 {w:World} {b p:Nat} {x0 x1 x2:Value} (h:∀ j y,([x0,x1,x2]:List Value)[j]? = some y->w.cell? ⟨b,p+j,none⟩=some y):
  w.cell? ⟨b,p,none⟩=some x0/\w.cell? ⟨b,p+1,none⟩=some x1/\w.cell? ⟨b,p+2,none⟩=some x2:=⟨h 0 _ rfl,h 1 _ rfl,h 2 _ rfl⟩
theorem at8 {w:World} {b p:Nat} {x0 x1 x2 x3 x4 x5 x6 x7:Value} (h:∀ j y,([x0,x1,x2,x3,x4,x5,x6,x7]:List Value)[j]? = some y->w.cell? ⟨b,p+j,none⟩=some y):
  w.cell? ⟨b,p,none⟩=some x0/\w.cell? ⟨b,p+1,none⟩=some x1/\w.cell? ⟨b,p+2,none⟩=some x2/\w.cell? ⟨b,p+3,none⟩=some x3 /\
  w.cell? ⟨b,p+4,none⟩=some x4/\w.cell? ⟨b,p+5,none⟩=some x5/\w.cell? ⟨b,p+6,none⟩=some x6/\w.cell? ⟨b,p+7,none⟩=some x7:=
 ⟨h 0 _ rfl,h 1 _ rfl,h 2 _ rfl,h 3 _ rfl,h 4 _ rfl,h 5 _ rfl,h 6 _ rfl,h 7 _ rfl⟩
theorem Sl.of_owns {α:Type} {w:World} {c:Nat} {enc:α->List Value} {l:List α} {base e n:Nat} {v:Value} (h:w.ownsRow base e c v n (l.flatMap enc)) (hc:0<c) (he:∀ x,(enc x).length=c):
  ∃ a cap,v = .slice a n cap/\Sl w c enc l a n cap:=by
 have key:∀ l:List α,(l.flatMap enc).length=l.length * c:=by
  intro l
  induction l with
  | nil=>simp
  | cons x l ih=>simp [ih,he,Nat.add_mul];omega
 have hlen:l.length=n:=by
  have h1:=h.1;rw [key] at h1;exact Nat.eq_of_mul_eq_mul_right hc h1
 have pick:∀ (l:List α) (i:Nat) (x:α),l[i]? = some x->∀ j y,(enc x)[j]? = some y->(l.flatMap enc)[i * c+j]? = some y:=by
  intro l
  induction l with
  | nil=>intro i x hx;simp at hx
  | cons z l ih=>
   intro i x hx j y hy
   cases i with
   | zero=>
    simp at hx;subst hx
    have hj:j<(enc z).length:=by
     by_cases h:j<(enc z).length
     ·exact h
     ·rw [List.getElem?_eq_none om] at hy;cases hy
    simp only [List.flatMap_cons,Nat.zero_mul,Nat.zero_add];rw [List.getElem?_append_left hj];exact hy
   | succ i=>
    simp at hx;simp only [List.flatMap_cons];rw [List.getElem?_append_right (by rw [he,Nat.add_mul];omega),he];have:=ih i x hx j y hy;rw [show (i+1) * c+j - c=i * c+j by rw [Nat.add_mul];omega];exact this
 rcases h.2 with ⟨rfl,h0⟩|⟨g,cap,cur,rfl,_,hg,hn,hcap,_,_⟩
 ·subst h0
  exact ⟨none,0,rfl,hlen,Nat.le_refl _,Nat.zero_le _,fun h=>absurd h om⟩
 ·refine ⟨_,cap,rfl,hlen,hn,hcap,fun _=>⟨g,0,rfl,fun i x hx j y hy=>?_⟩⟩
  have hy':=pick l i x hx j y hy
  have hlt:i * c+j<n * c:=by
   have:=h.1
   by_cases hh:i * c+j<(l.flatMap enc).length
   ·omega
   ·rw [List.getElem?_eq_none om] at hy';cases hy'
  rw [show 0+i * c+j=i * c+j by omega];exact (World.ownsRow.cellAt h _ hlt).trans hy'
def nI (d:Nat) (xs ys:Array Value):List (Bool×TypeId×Nat)->Sem Bool
 | []=>pure true
 | f :: fs=>
  if f.1=true then do
   let a <-part f.2.1 xs f.2.2
   let b <-part f.2.1 ys f.2.2
   let r <-Op.equalIn d f.2.1 a b
   if (!r)=true then pure false else nI d xs ys fs
  else nI d xs ys fs
theorem eqFields_shape (d:Nat) (xs ys:Array Value):∀ fs:List Field,Op.eqFields d xs ys fs=nI d xs ys (fs.map fun f=>(f.name != "_",f.type,f.offset))
 | []=>rfl
 | f :: fs=>by
  simp only [Op.eqFields,nI,List.map_cons,eqFields_shape d xs ys fs]
  by_cases h:f.name = "_" <;> simp [h]
theorem eqShape_cons {P:Program} (w:World) {d:Nat} {xs ys:Array Value} {t:TypeId} {o:Nat} {fs:List (Bool×TypeId×Nat)} {a b:Value} {r s:Bool}
  (hx:(part t xs o).run P w = .ok a w) (hy:(part t ys o).run P w = .ok b w) (he:(Op.equalIn d t a b).run P w = .ok r w) (ih:(nI d xs ys fs).run P w = .ok s w):
  (nI d xs ys ((true,t,o) :: fs)).run P w = .ok (r&&s) w:=by
 cases r <;> simp [nI,hx,hy,he,ih,Result.andThen]
theorem eqStruct {P:Program} (w:World) {d:Nat} {t:TypeId} {xs ys:Array Value} {r:Bool} (fs:List (Bool×TypeId×Nat)) (ht:P.underlying t=some (.struct (P.fieldsOf t))) (hp:P.stoodInHeld t=false)
  (hf:(P.fieldsOf t).toList.map (fun f=>(f.name != "_",f.type,f.offset))=fs) (h:(nI d xs ys fs).run P w = .ok r w):
  (Op.equalIn (d+1) t (.agg xs) (.agg ys)).run P w = .ok r w:=by
 rw [run_equalIn_struct w d t xs ys ht hp,eqFields_shape,hf,h]
theorem eqShape_nil {P:Program} (w:World) {d:Nat} {xs ys:Array Value}:(nI d xs ys []).run P w = .ok true w:=rfl
theorem neqStruct {P:Program} (w:World) {t:TypeId} {xs ys:Array Value} {r:Bool} (h:(Op.equalIn 10000 t (.agg xs) (.agg ys)).run P w = .ok r w):
  (Go.binOp .neq t (.agg xs) (.agg ys)).run P w = .ok (.bool (!r)) w:=by rw [run_neq_struct,h];rfl
theorem mJ {P:Program} (w:World) {t:TypeId} {xs ys:Array Value} {r:Bool} (h:(Op.equalIn 10000 t (.agg xs) (.agg ys)).run P w = .ok r w):
  (Go.binOp .eql t (.agg xs) (.agg ys)).run P w = .ok (.bool r) w:=by rw [run_eql_struct,h];rfl
theorem eqShapeI {P:Program} {w:World} {d:Nat} {xs ys:Array Value} {t:TypeId} {o:Nat} {fs:List (Bool×TypeId×Nat)} {a b:Int} {s:Bool} {k':IntKind} (h:P.underlying t=some (.int k'))
  (hx:(part t xs o).run P w = .ok (.int .i64 a) w) (hy:(part t ys o).run P w = .ok (.int .i64 b) w) (ih:(nI (d+1) xs ys fs).run P w = .ok s w):
  (nI (d+1) xs ys ((true,t,o) :: fs)).run P w = .ok (a==b&&s) w:=eqShape_cons w hx hy (run_equalIn_int w d t .i64 k' a b h) ih
theorem eqShapeB {P:Program} {w:World} {d:Nat} {xs ys:Array Value} {t:TypeId} {o:Nat} {fs:List (Bool×TypeId×Nat)} {a b:Bool} {s:Bool} (h:P.underlying t=some .bool)
  (hx:(part t xs o).run P w = .ok (.bool a) w) (hy:(part t ys o).run P w = .ok (.bool b) w) (ih:(nI (d+1) xs ys fs).run P w = .ok s w):
  (nI (d+1) xs ys ((true,t,o) :: fs)).run P w = .ok (a==b&&s) w:=eqShape_cons w hx hy (run_equalIn_bool' w d t a b h) ih
abbrev goalA (g:aG):Value:=.agg #[vi g.kind,vi g.n]
abbrev sizeA (s:dD):Value:=.agg #[vi s.long,vi s.high,vi s.heavy]
abbrev pD (p:pB):Value:=.agg #[vi p.level,vi p.side,vi p.depth]
abbrev stayA (s:sA):Value:=.agg #[vi s.ticket,vi s.car.id,vi s.car.size.long,vi s.car.size.high,vi s.car.size.heavy,vi s.home.level,vi s.home.side,vi s.home.depth]
abbrev jobA (j:Job):Value:=.agg #[vi j.ticket,.bool j.fetch]
theorem fN (w:World) (d:Nat) (a b:pB):(Op.equalIn (d+2) 89 (pD a) (pD b)).run prog w = .ok (decide (a=b)) w:=by
 rw [eqStruct (r:=a.level==b.level&&(a.side==b.side&&(a.depth==b.depth&&true))) w [(true,3,0),(true,3,1),(true,3,2)] (by kernel_rfl) (by kernel_rfl) (by kernel_rfl) (eqShapeI underlying3 (by kernel_rfl) (by kernel_rfl) (eqShapeI underlying3 (by kernel_rfl) (by kernel_rfl) (eqShapeI underlying3 (by kernel_rfl) (by kernel_rfl) (eqShape_nil w))))];obtain ⟨a0,a1,a2⟩:=a;obtain ⟨b0,b1,b2⟩:=b;congr 1;rw [Bool.eq_iff_iff];simp
theorem eqJob (w:World) (d:Nat) (a b:Job):(Op.equalIn (d+2) 143 (jobA a) (jobA b)).run prog w = .ok (decide (a=b)) w:=by
 rw [eqStruct (r:=a.ticket==b.ticket&&(a.fetch==b.fetch&&true)) w [(true,3,0),(true,4,1)] (by kernel_rfl) (by kernel_rfl) (by kernel_rfl) (eqShapeI underlying3 (by kernel_rfl) (by kernel_rfl) (eqShapeB underlying4 (by kernel_rfl) (by kernel_rfl) (eqShape_nil w)))];obtain ⟨a0,a1⟩:=a;obtain ⟨b0,b1⟩:=b;congr 1;rw [Bool.eq_iff_iff];simp
theorem trodAll_below {H:Type} {enc:TypeId×Value->H} {P:Program} (hl:laidOutB P=true) {W W':World} (hb:Below W.heap.size W W'):
  ∀ {ts:List TypeId} {vs:List Value} {ds:List (DataW H)} {ps:List MemPlace},(∀ t∈ts,P.readableRec t=true/\t<P.types.size) ->
  DataW.TrodAll enc P W 0 (fun _=>true) true ts vs ds ps->(∀ x∈ps,x.block<W.heap.size) ->
  DataW.TrodAll enc P W' 0 (fun b=>decide (b<W.heap.size)) true ts vs ds ps
 | [],vs,ds,ps,_,h,_=>by
  obtain ⟨rfl,rfl,rfl⟩:=trodAll_nil h;exact trodAll_mk0
 | t :: ts,vs,ds,ps,hr,h,hlt=>by
  obtain ⟨v,vs,d,ds,p,p',rfl,rfl,rfl,h0,r0⟩:=trodAll_cons h
  exact trodAll_cons_mk (Below.trod hl (hr t sp).1 (hr t sp).2 h0 hb (fun x hx=>hlt x (by simp [hx])))
   (trodAll_below hl hb (fun t ht=>hr t (by simp [ht])) r0 (fun x hx=>hlt x (by simp [hx])))
theorem law_contract {H:Type} {enc:TypeId×Value->H} {P:Program} {f:FuncId} {fn:Func} {s:ChangeSpec} {tb:TypeId} (hl:laidOutB P=true) (hb:P.underlying tb=some .bool)
  (hres:fn.resultTypes=#[tb]) (hvars:s.vars=[])
  (hfn:∀ ds:List (DataW H),ds.length=fn.params.size->s.fn H (ds++[])={ results:=[.lit (.bool true)],args:=ds })
  (hread:(fn.params.toList.all fun t=>P.readableRec t&&decide (t<P.types.size))=true)
  {W:World} {args:Array Value} {ds gs:List (DataW H)} {before:List MemPlace}
  (hW:DataW.Whole enc P fn.params.toList s.vars false W args.toList ds gs before)
  (walk:Calls P f args W fun e W'=>e = .returned (.bool true)/\Ext W W'):
  Calls P f args W fun e W'=>∃ v,e = .returned v/\s.post enc P fn false true false false W args v W':=by
 refine walk.mono fun e W' ⟨he,hx⟩=>?_
 subst he;have hg:=hx.below;have hW':=hW;obtain ⟨p,q,hA,hV,rfl,hfz,hnd⟩:=hW;rw [hvars] at hV;obtain ⟨rfl,rfl⟩:=trodVars_none hV
 have hlen:ds.length=fn.params.size:=by
  have:=hA;clear hW' hfz hnd walk hV hg hx
  have key:∀ (ts:List TypeId) (vs:List Value) (ds:List (DataW H)) (ps:List MemPlace),DataW.TrodAll enc P W 0 (fun _=>true) true ts vs ds ps->ds.length=ts.length:=by
   intro ts
   induction ts with
   | nil=>intro vs ds ps h;obtain ⟨rfl,rfl,rfl⟩:=trodAll_nil h;rfl
   | cons t ts ih=>intro vs ds ps h;obtain ⟨v,vs,d,ds,p,p',rfl,rfl,rfl,h0,r0⟩:=trodAll_cons h;simp [ih _ _ _ r0]
  simpa using key _ _ _ _ this
 simp only [List.append_nil] at hW';refine ⟨_,rfl,ds,[],p,[],p,[],hW',?_,?_,?_,hg.frame _,fun h=>by cases h⟩
 ·rw [hfn ds hlen,hres]
  exact trodAll_cons_mk (shut_bool hb _) trodAll_mk0
 ·rw [hfn ds hlen]
  exact trodAll_below hl hg (fun t ht=>by simpa using List.all_eq_true.1 hread t ht) hA (fun x hx=>by simpa using hW'.lt x hx)
 ·rw [hvars,hfn ds hlen];rfl
theorem own:ownKnob prog.godebug=none:=by kernel_rfl
theorem laidOut:laidOutB prog=true:=by kernel_rfl
theorem eX {w w':World} (h:Ext w w':=by simp (maxDischargeDepth:=60)):Ext w w':=h
theorem mo {P:Program} {g:FuncId} {args:Array Value} {w:World} {v:Value} {R:Ending->World->Prop} (h:Calls P g args w fun e w'=>e = .returned v/\Ext w w') (k:∀ o n,R (.returned v) (w.plus o n)):Calls P g args w R:=h.mono fun _ _ ⟨a,o,n,b⟩=>a ▸ b ▸ k o n
theorem cQ {w w1:World} {a:Addr} {v:Value} (hW:w=w1) (h:w.cell? a=some v:=by simp [go_sem]):w1.cell? a=some v:=hW▸h
theorem xQ {u w w1:World} (hW:w=w1) (h:Ext u w:=by simp (maxDischargeDepth:=60)):Ext u w1:=hW▸h
theorem cR {w w1:World} {s a i:Nat} {v:Value} (hW:w=w1) (hA:s=a) (h:w.cell? ⟨s,i,none⟩=some v:=by simp [go_sem]):w1.cell? ⟨a,i,none⟩=some v:=hA▸hW▸h
theorem kR {α:Sort _} {a b:α} (h:a=b:=by kernel_rfl):a=b:=h
theorem qC {P:Program} {g:FuncId} {args:Array Value} {W:World} {F:Array Obj->Nat->World} {v:Value}
  (h:Calls P g args W fun e w'=>e = .returned v/\Ext W w') (hf:∀ w',Ext W w'->∃ o n,w'=F o n:=by rintro w' ⟨o',n',rfl⟩;exact ⟨_,n',by first|(simp only [lE];rfl)|(simp only [lE,Array.append_assoc];rfl)|rfl⟩):Calls P g args W fun e w''=>e = .returned v/\∃ o n,w''=F o n:=ext_callG h hf
