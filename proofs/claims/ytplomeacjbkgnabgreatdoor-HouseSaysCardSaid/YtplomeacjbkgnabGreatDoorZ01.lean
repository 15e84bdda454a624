import Derived.Test.YtplomeacjbkgnabGreatDoorChecked
import Derived.Handy
import Derived.BigQuiet
import Derived.Lib.Hide
import Derived.WalkSmall
set_option linter.all false
set_option maxRecDepth 100000
set_option maxHeartbeats 16000000
namespace Ch
structure Size where
 long:Int
 high:Int
 heavy:Int
 deriving DecidableEq,Inhabited
structure Car where
 id:Int
 size:Size
 deriving DecidableEq,Inhabited
structure Place where
 level:Int
 side:Int
 depth:Int
 deriving DecidableEq,Inhabited
structure Sensed where
 height:Int
 ext:Int
 door:Bool
 people:Int
 lift:Int
 bay:Int
 here:Bool
 toLeft:Bool
 toRight:Bool
 deriving DecidableEq,Inhabited
structure Goal where
 kind:Int
 n:Int
 deriving DecidableEq,Inhabited
structure Stay where
 ticket:Int
 car:Car
 home:Place
 deriving DecidableEq,Inhabited
structure Job where
 ticket:Int
 fetch:Bool
 deriving DecidableEq,Inhabited
structure Book where
 last:Int
 stays:List Stay
 jobs:List Job
 deriving DecidableEq,Inhabited
/-! ### tower -/
def sizeFault (s:Size):Int:=
 if s.long<1∨99<s.long∨s.high<1∨99<s.high∨s.heavy<1∨99<s.heavy then 1 else 0
def carFault (c:Car):Int:=if c.id<1∨999<c.id then 1 else sizeFault c.size
def fits (s room:Size):Bool:=decide (s.long≤room.long)&&decide (s.high≤room.high)&&decide (s.heavy≤room.heavy)
def levelsFaultFrom (last:Size):List Size→Int
 | []=>0
 | s :: l=>if sizeFault s≠0 then sizeFault s else if fits s last=false then 3 else levelsFaultFrom last l
def levelsFault (l:List Size):Int:=
 if l.length<1∨4<l.length then 2 else levelsFaultFrom (l.getLastD default) l
def placeFault (p:Place) (levels:Int):Int:=
 if p.level<1∨levels<p.level∨p.side<0∨1<p.side∨p.depth<0∨1<p.depth then 1 else 0
def spare (levels:Int):Place:=⟨levels,1,0⟩
def placesOf (levels n:Int):List Place:=
 if n<levels then [⟨n,0,1⟩,⟨n,0,0⟩,⟨n,1,1⟩,⟨n,1,0⟩] else [⟨n,0,1⟩,⟨n,0,0⟩]
def placesFrom (levels:Int):Nat→Int→List Place
 | 0,_=>[]
 | k+1,n=>placesOf levels n++placesFrom levels k (n+1)
def places (levels:Int):List Place:=placesFrom levels levels.toNat 1
def extOf (p:Place):Int:=if p.side=0 then -1 - p.depth else 1+p.depth
def front (p:Place):Place:={ p with depth:=0 }
/-! ### plant -/
structure Plant where
 levels:Int
 height:Int
 ext:Int
 door:Bool
 people:Int
 lift:Int
 bay:Int
 slots:Place→Int
 stall:Int
 hurt:Bool
instance:Inhabited Plant:=⟨⟨0,0,0,false,0,0,0,fun _=>0,0,false⟩⟩
def Plant.new (levels:Int):Plant:=⟨levels,0,0,true,0,0,0,fun _=>0,0,false⟩
def Plant.place (p:Plant) (ext:Int):Option Place:=
 if p.height % 3≠0∨p.height=0∨ext=0∨ext < -2∨2<ext then none
 else if ext<0 then some ⟨p.height / 3,0,-ext - 1⟩ else some ⟨p.height / 3,1,ext - 1⟩
def Plant.full (p:Plant) (ext:Int):Bool:=
 match p.place ext with
 | none=>false
 | some x=>p.slots x != 0
def Plant.sense (p:Plant):Sensed:=
 ⟨p.height,p.ext,p.door,p.people,p.lift,p.bay,p.full p.ext,p.full (p.ext - 1),p.full (p.ext+1)⟩
def Plant.openB (p:Plant):Bool:=p.door || decide (0<p.people)
def setSlot (f:Place→Int) (x:Place) (v:Int):Place→Int:=fun y=>if y=x then v else f y
def clamp (n hi:Int):Int:=min (max n 0) hi
def Plant.rise (p:Plant) (n:Int):Plant:=
 { p with hurt:=p.hurt || p.ext != 0 || p.openB,height:=clamp (p.height+n) (p.levels * 3) }
def Plant.stretch (p:Plant) (n:Int):Plant:=
 if p.ext+n < -2∨2<p.ext+n then p
 else { p with hurt:=p.hurt || (p.ext+n != 0&&(p.place (p.ext+n)).isNone) || (p.lift != 0&&p.full (p.ext+n)),ext:=p.ext+n }
def Plant.grab (p:Plant):Plant:=
 match p.place p.ext with
 | none=>p
 | some x=>if p.lift=0∧p.slots x≠0 then { p with lift:=p.slots x,slots:=setSlot p.slots x 0 } else p
def Plant.put (p:Plant):Plant:=
 match p.place p.ext with
 | none=>p
 | some x=>if p.lift≠0∧p.slots x=0 then { p with slots:=setSlot p.slots x p.lift,lift:=0 } else p
def Plant.swing (p:Plant) (o:Bool):Plant:=
 { p with hurt:=p.hurt || (o&&(p.height != 0 || p.ext != 0)) || (!o&&decide (0<p.people)),door:=o }
def Plant.pass (p:Plant) (i:Bool):Plant:=
 let h:=p.hurt || p.openB
 if p.height≠0∨p.ext≠0 then { p with hurt:=h }
 else if i then (if p.lift=0 then { p with hurt:=h,lift:=p.bay,bay:=0 } else { p with hurt:=h })
 else (if p.bay=0 then { p with hurt:=h,bay:=p.lift,lift:=0 } else { p with hurt:=h })
def Plant.act (p:Plant) (c:Int):Plant:=
 if c=117 then p.rise 1
 else if c=100 then p.rise (-1)
 else if c=108 then p.stretch (-1)
 else if c=114 then p.stretch 1
 else if c=103 then p.grab
 else if c=112 then p.put
 else if c=111 then p.swing true
 else if c=99 then p.swing false
 else if c=110 then p.pass true
 else if c=120 then p.pass false
 else p
def Plant.step (p:Plant) (c:Int):Plant:=
 if 0<p.stall∧c≠45 then { p with stall:=p.stall - 1 } else p.act c
def Plant.walk (p:Plant) (n:Int):Plant×Int:=
 if n < -9∨9<n then (p,1)
 else if p.door=false then (p,7)
 else ({ p with people:=clamp (p.people+n) 9 },0)
def allPlaces (levels:Int):List Place:=
 (List.range levels.toNat).flatMap fun (k:Nat)=>[⟨k+1,0,0⟩,⟨k+1,0,1⟩,⟨k+1,1,0⟩,⟨k+1,1,1⟩]
def Plant.where_ (p:Plant) (id:Int):Option Place:=
 if id=0 then none else (allPlaces p.levels).find? fun x=>p.slots x==id
def Plant.has (p:Plant) (id:Int):Bool:=
 (id != 0&&(allPlaces p.levels).any fun x=>p.slots x==id) || p.lift==id || p.bay==id
def Plant.arrive (p:Plant) (id:Int):Plant×Int:=
 if id<1∨999<id then (p,1)
 else if p.door=false∨p.bay≠0 then (p,7)
 else if p.has id then (p,6)
 else ({ p with bay:=id },0)
def Plant.leave (p:Plant):Plant×Int×Int:=
 if p.door=false∨p.bay=0 then (p,0,7) else ({ p with bay:=0 },p.bay,0)
def Plant.setStall (p:Plant) (n:Int):Plant×Int:=
 if n<0∨5<n then (p,1) else ({ p with stall:=n },0)
/-! ### guard -/
def level (s:Sensed):Bool:=decide (0<s.height)&&s.height % 3==0
def shut (s:Sensed):Bool:=!s.door&&s.people==0
def mayStretch (s:Sensed) (to:Int) (full:Bool):Bool:=
 if to < -2∨2<to then false else to==0 || (level s&&!(s.lift != 0&&full))
def w64 (n:Int):Int:=(n+9223372036854775808) % 18446744073709551616 - 9223372036854775808
def may (c:Int) (s:Sensed):Bool:=
 if c=45 then true
 else if c=117∨c=100 then s.ext==0&&shut s
 else if c=108 then mayStretch s (w64 (s.ext - 1)) s.toLeft
 else if c=114 then mayStretch s (w64 (s.ext+1)) s.toRight
 else if c=103 then level s&&s.ext != 0&&s.lift==0&&s.here
 else if c=112 then level s&&s.ext != 0&&s.lift != 0&&!s.here
 else if c=111 then s.height==0&&s.ext==0
 else if c=99 then s.people==0
 else if c=110 then s.height==0&&s.ext==0&&shut s&&s.lift==0&&s.bay != 0
 else if c=120 then s.height==0&&s.ext==0&&shut s&&s.lift != 0&&s.bay==0
 else false
/-! ### goal -/
def toward (from_ to:Int) (more less:Int):Int×Bool:=
 if from_<to then (more,false) else if to<from_ then (less,false) else (45,true)
def once (so:Bool) (c:Int):Int×Bool:=if so then (45,true) else (c,false)
def nextOf (g:Goal) (s:Sensed):Int×Bool:=
 if g.kind=1 then toward s.height g.n 117 100
 else if g.kind=2 then toward s.ext g.n 114 108
 else if g.kind=3 then once (s.lift != 0) 103
 else if g.kind=4 then once (s.lift==0) 112
 else if g.kind=5 then once (!s.door) 99
 else if g.kind=6 then once s.door 111
 else if g.kind=7 then once (s.lift != 0) 110
 else if g.kind=8 then once (s.lift==0) 120
 else (45,true)
/-! ### plan -/
def ahead (height:Int):List Goal:=[⟨2,0⟩,⟨5,0⟩,⟨1,height⟩]
def there (p:Place) (kind:Int):List Goal:=ahead (p.level * 3)++[⟨2,extOf p⟩,⟨kind,0⟩,⟨2,0⟩]
def fetch (p:Place):List Goal:=there p 3
def bring (p:Place):List Goal:=there p 4
def takeIn:List Goal:=ahead 0++[⟨7,0⟩]
def giveOut:List Goal:=ahead 0++[⟨8,0⟩,⟨6,0⟩]
def welcome:List Goal:=ahead 0++[⟨6,0⟩]
/-! ### book -/
def indexOf {α:Type} (p:α→Bool) (l:List α):Int:=
 match l.findIdx? p with
 | none=>-1
 | some i=>i
def stayFault (levels last:Int) (before:List Stay) (s:Stay):Int:=
 if carFault s.car≠0 then carFault s.car
 else if placeFault s.home levels≠0 then placeFault s.home levels
 else if s.ticket<1∨last<s.ticket then 1
 else if ¬ s.home∈places levels∨(∃ x∈before.getLast?,s.ticket≤x.ticket) then 3
 else if before.any (fun x=>x.home==s.home || x.car.id==s.car.id) then 3
 else 0
def staysFault (levels last:Int):List Stay→List Stay→Int
 | _,[]=>0
 | before,s :: l=>if stayFault levels last before s≠0 then stayFault levels last before s else staysFault levels last (before++[s]) l
def jobsFault (stays:List Stay):List Job→List Job→Int
 | _,[]=>0
 | before,j :: l=>if (stays.any fun s=>s.ticket==j.ticket)=false∨j∈before then 3 else jobsFault stays (before++[j]) l
def bookFault (b:Book) (levels:Int):Int:=
 if b.last<0∨999999<b.last then 1
 else if 16<b.stays.length∨8<b.jobs.length then 2
 else if staysFault levels b.last [] b.stays≠0 then staysFault levels b.last [] b.stays
 else jobsFault b.stays [] b.jobs
def Book.find (b:Book) (ticket:Int):Option Stay:=b.stays.find? fun s=>s.ticket==ticket
def Book.of (b:Book) (id:Int):Option Stay:=b.stays.find? fun s=>s.car.id==id
/-! ### desk -/
def hasHome (b:Book) (p:Place):Bool:=b.stays.any fun s=>s.home==p
def waits (b:Book) (p:Place):Bool:=
 b.stays.any fun s=>s.home != p&&front s.home==p&&b.jobs.contains ⟨s.ticket,false⟩
def pick (b:Book) (levels:List Size) (c:Car):Option Place:=
 (places levels.length).find? fun p=>fits c.size (levels.getD (p.level - 1).toNat default)&&!hasHome b p&&!hasHome b (front p)&&!waits b p
def park (b:Book) (levels:List Size) (c:Car):Except Int (Book×Int):=
 if carFault c≠0 then .error (carFault c)
 else if (b.of c.id).isSome then .error 6
 else match pick b levels c with
  | none=>.error 8
  | some p=>
   if b.last=999999∨b.jobs.length=8 then .error 8
   else .ok (⟨b.last+1,b.stays++[⟨b.last+1,c,p⟩],b.jobs++[⟨b.last+1,false⟩]⟩,b.last+1)
def want (b:Book) (ticket:Int):Except Int Book:=
 if (b.find ticket).isNone then .error 5
 else if b.jobs.contains ⟨ticket,true⟩ then .error 6
 else if b.jobs.length=8 then .error 8
 else .ok { b with jobs:=b.jobs++[⟨ticket,true⟩] }
def doneWith (b:Book) (j:Job) (gone:Bool):Book:=
 { b with
  jobs:=b.jobs.filter fun x=>!(x==j || ((j.fetch || gone)&&x.ticket==j.ticket)),
  stays:=if j.fetch || gone then b.stays.filter fun s=>!(s.ticket==j.ticket) else b.stays }
end Ch
namespace Go.Proofs.YtplomeacjbkgnabGreatDoor
open Go.ChangeShapes Go.WideShapes Go.ChangeAt Go.RowKit
theorem aA {p:Prop} (h:p):RowKit.Hid p:=Lib.hid h
theorem cA {α:Type}:(∀ (l:List α) (i:Nat) (a:α),l.toArray.setIfInBounds i a=(l.set i a).toArray)∧(∀ (a b:α) (l:List α),(a::l).set 0 b=b::l)∧∀ (a b:α) (l:List α) (n:Nat),(a::l).set (n+1) b=a::l.set n b:=⟨fun _ _ _=>List.setIfInBounds_toArray ..,fun _ _ _=>rfl,fun _ _ _ _=>rfl⟩
/-! ### cells of plain values -/
abbrev vi (n:Int):Value:=.int .i64 n
def lB (s:Ch.Size):List Value:=[vi s.long,vi s.high,vi s.heavy]
def carCells (c:Ch.Car):List Value:=[vi c.id,vi c.size.long,vi c.size.high,vi c.size.heavy]
def zC (p:Ch.Place):List Value:=[vi p.level,vi p.side,vi p.depth]
def eB (g:Ch.Goal):List Value:=[vi g.kind,vi g.n]
def gA (s:Ch.Stay):List Value:=[vi s.ticket,vi s.car.id,vi s.car.size.long,vi s.car.size.high,vi s.car.size.heavy,vi s.home.level,vi s.home.side,vi s.home.depth]
def jA (j:Ch.Job):List Value:=[vi j.ticket,.bool j.fetch]
def intCells (n:Int):List Value:=[vi n]
def strCells (s:ByteArray):List Value:=[.string s]
def I64 (n:Int):Prop:=-9223372036854775808≤n∧n≤9223372036854775807
/-! ### worlds -/
theorem dA {w:World} {b o:Nat} {v:Value} (h:w.cell? ⟨b,o,none⟩=some v):b<w.heap.size:=by
 by_cases hb:b<w.heap.size
 ·exact hb
 ·simp [World.cell?,Array.getElem?_eq_none (Nat.le_of_not_lt hb)] at h
@[go_sem] theorem nlt1 {a b c:Nat} (h:a<b):a<b+c:=by omega
@[go_sem] theorem nlt2 {a b c d:Nat} (h:a<b):a<b+c+d:=by omega
@[go_sem] theorem nlt3 {a b c d e:Nat} (h:a<b):a<b+c+d+e:=by omega
@[go_sem] theorem nlt4 {a b c d e f:Nat} (h:a<b):a<b+c+d+e+f:=by omega
@[go_sem] theorem nlt_self1 {a c:Nat} (h:0<c):a<a+c:=by omega
@[go_sem] theorem nlt_one2 {a d:Nat}:a<a+1+d:=by omega
@[go_sem] theorem nlt_one3 {a d e:Nat}:a<a+1+d+e:=by omega
def _root_.Go.World.plus (w:World) (o:Array Obj) (n:Nat):World:={ w with heap:=w.heap++o,drawn:=n }
section
variable (w:World) (o:Array Obj) (n:Nat)
@[simp,go_sem] theorem plus_size:(w.plus o n).heap.size=w.heap.size+o.size:=by simp [World.plus]
theorem bB (k:Nat) (h:k<w.heap.size):(w.plus o n).heap[k]? = w.heap[k]?:=by
 simp only [World.plus];rw [Array.getElem?_append_left h]
@[simp,go_sem] theorem yA (b i:Nat) (s:Option Nat) (h:b<w.heap.size):(w.plus o n).cell? ⟨b,i,s⟩=w.cell? ⟨b,i,s⟩:=by
 simp only [World.cell?,bB w o n b h]
@[simp,go_sem] theorem iI (b i:Nat) (s:Option Nat) (h:b<w.heap.size):(w.plus o n).frozen? ⟨b,i,s⟩=w.frozen? ⟨b,i,s⟩:=by
 simp only [World.frozen?,bB w o n b h]
@[simp,go_sem] theorem rC (o':Array Obj) (n':Nat):(w.plus o n).plus o' n'=w.plus (o++o') n':=by
 simp [World.plus]
@[simp,go_sem] theorem plus_drew:(w.plus o n).drew=w.plus o (n+1):=rfl
@[simp,go_sem] theorem plus_drewN (m:Nat):(w.plus o n).drewN m=w.plus o (n+m):=rfl
@[simp,go_sem] theorem plus_tape:(w.plus o n).tape=w.tape:=rfl
theorem plus_refl:w.plus #[] w.drawn=w:=by simp [World.plus]
theorem sA (b:Obj) (k:Nat) (h:k=w.heap.size):(w.alloc b).heap[k]? = some b:=by subst h;exact heap_alloc_new w b
theorem alloc_plus (b:Obj):w.alloc b=w.plus #[b] w.drawn:=by
 show ({ w with heap:=w.heap.push b }:World)=_;simp [World.plus]
end
def Ext (w w':World):Prop:=∃ o n,w'=w.plus o n
theorem Ext.out {w w':World} (h:Ext w w'):∃ o n,w'=w.plus o n:=h
@[simp] theorem Ext.refl (w:World):Ext w w:=⟨#[],w.drawn,(plus_refl w).symm⟩
@[simp] theorem Ext.plus {w w':World} (h:Ext w w') (o:Array Obj) (n:Nat):Ext w (w'.plus o n):=by
 obtain ⟨o1,n1,rfl⟩:=h;exact ⟨_,_,rC ..⟩
@[simp] theorem Ext.alloc {w w':World} (h:Ext w w') (b:Obj):Ext w (w'.alloc b):=by
 rw [alloc_plus];exact h.plus _ _
@[simp] theorem Ext.drew {w w':World} (h:Ext w w'):Ext w w'.drew:=by
 obtain ⟨o1,n1,rfl⟩:=h;exact ⟨_,_,plus_drew ..⟩
@[simp] theorem Ext.drewN {w w':World} (h:Ext w w') (n:Nat):Ext w (w'.drewN n):=by
 obtain ⟨o1,n1,rfl⟩:=h;exact ⟨_,_,plus_drewN ..⟩
theorem Ext.trans {a b c:World} (h:Ext a b) (h':Ext b c):Ext a c:=by
 obtain ⟨o1,n1,rfl⟩:=h';exact h.plus _ _
theorem Ext.below {w w':World} (h:Ext w w'):Below w.heap.size w w':=by
 obtain ⟨o,n,rfl⟩:=h;exact ⟨rfl,rfl,rfl,by simp,fun k hk=>bB w o n k hk⟩
theorem Ext.of_below {w w':World} (h:Below w.heap.size w w'):Ext w w':=by
 refine ⟨w'.heap.extract w.heap.size w'.heap.size,w'.drawn,?_⟩
 have hh:w'.heap=w.heap++w'.heap.extract w.heap.size w'.heap.size:=by
  apply Array.ext_getElem?;intro k
  by_cases hk:k<w.heap.size
  ·rw [h.block k hk,Array.getElem?_append_left hk]
  ·rw [Array.getElem?_append_right (by omega)]
   by_cases hk2:k<w'.heap.size
   ·simp only [Array.getElem?_extract]
    rw [if_pos (by omega)]
    congr 1;omega
   ·rw [Array.getElem?_eq_none (by omega),Array.getElem?_eq_none (by first|(simp;done)|(simp;omega))]
 have e1:=h.os;have e2:=h.tape;have e3:=h.output;cases w';simp only [World.plus] at *;subst e1 e2 e3
 congr 1
@[simp] theorem Ext.setCell {w w':World} (h:Ext w w') {a:Addr} (ha:w.heap.size≤a.block) (v:Value):Ext w (w'.setCell a v):=
 Ext.of_below (h.below.setCell ha v)
@[go_sem] theorem all_two {p:World→Prop} (f:Array Obj→Nat→World):(∀ (w':World) (x:Array Obj) (n:Nat),w'=f x n→p w')↔∀ x n,p (f x n):=
 ⟨fun h x n=>h _ x n rfl,fun h _ x n e=>e▸h x n⟩
theorem fA {P:Program} {id:Nat} {Q:Exit→Act→World→Prop} {a:Act} {w:World} {l:List Oper} (hm:P.follows .mixedOrders=true) (hB:Region.lexB .any l.toArray=true)
  (h:wpQuiet P l.toArray (fun w'=>∃ o n,w'=w.plus o n) (fun a'=>∀ w',(∃ o n,w'=w.plus o n)→Q .normal a' w') l a):(Code.region id l.toArray true).wp P Q a w:=
 wp_region_quiet (C:=fun w'=>∃ o n,w'=w.plus o n) hm hB ⟨#[],w.drawn+1,by simp [World.plus]⟩ (by simpa using h)
@[simp] theorem kD {w:World} {base:Nat} {e:TypeId} {size:Nat} {v:Value} {n:Nat} {xs:List Value} (h:w.ownsRow base e size v n xs) (o:Array Obj) (m:Nat):(w.plus o m).ownsRow base e size v n xs:=by
 refine ⟨h.1,?_⟩
 rcases h.2 with h2|⟨g,cap,cur,hv,hb,hg,hn,hc,hs,ht⟩
 ·exact .inl h2
 ·refine .inr ⟨g,cap,cur,hv,hb,?_,hn,hc,hs,ht⟩
  have hlt:g<w.heap.size:=by
   rcases Nat.lt_or_ge g w.heap.size with hlt|hge
   ·exact hlt
   ·rw [Array.getElem?_eq_none hge] at hg;cases hg
  rw [bB w o m g hlt,hg]
@[simp] theorem fB {w:World} {base:Nat} {e:TypeId} {size:Nat} {v:Value} {n:Nat} {xs:List Value} (h:w.ownsRow base e size v n xs) (b:Obj):(w.alloc b).ownsRow base e size v n xs:=by
 rw [alloc_plus];exact kD h _ _
@[simp] theorem pG {w:World} {base:Nat} {e:TypeId} {size:Nat} {v:Value} {n:Nat} {xs:List Value} (h:w.ownsRow base e size v n xs):w.drew.ownsRow base e size v n xs:=h
theorem owns_more {w:World} {base:Nat} {e:TypeId} {size:Nat} {v:Value} {n:Nat} {xs:List Value} {o:Array Obj} {m:Nat} (h:(w.plus o m).ownsRow base e size v n xs) (o':Array Obj) (m':Nat):(w.plus (o++o') m').ownsRow base e size v n xs:=by
 rw [←rC w o m o' m'];exact kD h _ _
theorem xG (w:World) (e c n:Nat) (cs:Array Value) (h:cs.size=n * c) (hn:n≤maxLen):(w.alloc (.cells cs e)).ownsRow w.heap.size e c (.slice (some ⟨w.heap.size,0,none⟩) n n) n cs.toList:=
 ⟨by simpa using h,.inr ⟨_,n,cs,rfl,Nat.le_refl _,(MapKept.heap_alloc w _).1,Nat.le_refl _,hn,h,by rw [List.take_of_length_le (by simp [h])]⟩⟩
theorem rA {w:World} {base base':Nat} {e:TypeId} {size:Nat} {v:Value} {n:Nat} {xs:List Value} (h:w.ownsRow base e size v n xs) (hb:base'≤base):w.ownsRow base' e size v n xs:=by
 refine ⟨h.1,?_⟩
 rcases h.2 with h2|⟨g,cap,cur,hv,hb',r⟩
 ·exact .inl h2
 ·exact .inr ⟨g,cap,cur,hv,by omega,r⟩
theorem uA {w:World} {base:Nat} {e:TypeId} {size:Nat} {v:Value} {n:Nat} {xs:List Value} (h:w.ownsRow base e size v n xs):∀ k,v.ownBlock=some k→base≤k:=by
 intro k hk
 rcases h.2 with ⟨rfl,_⟩|⟨g,cap,cur,rfl,hb,_⟩
 ·cases hk
 ·cases hk;exact hb
theorem uB {w a w':World} {row:Option Nat} (h:Ext w a) (hg:a.grownBy w' row) (hr:∀ k,row=some k→w.heap.size≤k):Ext w w':=by
 have hb:=h.below;exact Ext.of_below (hb.grown hg hb.size hr)
theorem ext_callG {P:Program} {g:FuncId} {args:Array Value} {W:World} {F:Array Obj→Nat→World} {v:Value}
  (h:Calls P g args W fun e w'=>e = .returned v∧Ext W w') (hf:∀ w',Ext W w'→∃ o n,w'=F o n):Calls P g args W fun e w''=>e = .returned v∧∃ o n,w''=F o n:=
 h.mono fun _ _ ⟨he,hm⟩=>⟨he,hf _ hm⟩
/-! ### slices as lists -/
def Sl {α:Type} (w:World) (c:Nat) (enc:α→List Value) (l:List α) (a:Option Addr) (n cap:Nat):Prop:=
 l.length=n∧n≤cap∧cap≤maxLen∧(0<n→∃ b o,a=some ⟨b,o,none⟩∧∀ i x,l[i]? = some x→∀ j y,(enc x)[j]? = some y→w.cell? ⟨b,o+i * c+j,none⟩=some y)
theorem Sl.nil {α:Type} (w:World) (c:Nat) (enc:α→List Value):Sl w c enc [] none 0 0:=⟨rfl,Nat.le_refl _,Nat.zero_le _,fun h=>absurd h (by omega)⟩
theorem Sl.len {α:Type} {w:World} {c:Nat} {enc:α→List Value} {l:List α} {a:Option Addr} {n cap:Nat} (h:Sl w c enc l a n cap):l.length=n:=h.1
theorem Sl.bound {α:Type} {w:World} {c:Nat} {enc:α→List Value} {l:List α} {a:Option Addr} {n cap:Nat} (h:Sl w c enc l a n cap):n≤cap∧cap≤9223372036854775807:=⟨h.2.1,h.2.2.1⟩
theorem Sl.keep {α:Type} {w w':World} {c:Nat} {enc:α→List Value} {l:List α} {a:Option Addr} {n cap:Nat} (h:Sl w c enc l a n cap)
  (hk:∀ p:Addr,(w.cell? p).isSome→w'.cell? p=w.cell? p):Sl w' c enc l a n cap:=
 ⟨h.1,h.2.1,h.2.2.1,fun hn=>let ⟨b,o,e,f⟩:=h.2.2.2 hn;⟨b,o,e,fun i x hx j y hy=>by have:=f i x hx j y hy;rw [hk _ (by rw [this];rfl)];exact this⟩⟩
theorem Sl.below {α:Type} {w w':World} {c:Nat} {enc:α→List Value} {l:List α} {a:Option Addr} {n cap:Nat} (h:Sl w c enc l a n cap) (hb:Below w.heap.size w w'):Sl w' c enc l a n cap:=
 h.keep fun p hp=>by
  obtain ⟨b,o,s⟩:=p
  have hlt:b<w.heap.size:=by
   by_cases hb:b<w.heap.size
   ·exact hb
   ·simp [World.cell?,Array.getElem?_eq_none (Nat.le_of_not_lt hb)] at hp
  exact hb.cell hlt
@[simp] theorem Sl.ext {α:Type} {w:World} {c:Nat} {enc:α→List Value} {l:List α} {a:Option Addr} {n cap:Nat} (h:Sl w c enc l a n cap) (o:Array Obj) (m:Nat):Sl (w.plus o m) c enc l a n cap:=
 h.below (Ext.below ⟨o,m,rfl⟩)
@[simp] theorem Sl.alloc {α:Type} {w:World} {c:Nat} {enc:α→List Value} {l:List α} {a:Option Addr} {n cap:Nat} (h:Sl w c enc l a n cap) (b:Obj):Sl (w.alloc b) c enc l a n cap:=
 h.below (Ext.below (by simp))
@[simp] theorem Sl.drew {α:Type} {w:World} {c:Nat} {enc:α→List Value} {l:List α} {a:Option Addr} {n cap:Nat} (h:Sl w c enc l a n cap):Sl w.drew c enc l a n cap:=
 h.below (Ext.below (by simp))
theorem Sl.more {α:Type} {w:World} {c:Nat} {enc:α→List Value} {l:List α} {a:Option Addr} {n cap:Nat} {o:Array Obj} {m:Nat} (h:Sl (w.plus o m) c enc l a n cap) (o':Array Obj) (m':Nat):Sl (w.plus (o++o') m') c enc l a n cap:=by
 rw [←rC w o m o' m'];exact Sl.ext h _ _
theorem Sl.pre {α:Type} {w:World} {c:Nat} {enc:α→List Value} {l:List α} {a:Option Addr} {n cap:Nat} {o o':Array Obj} {m m':Nat} (h:Sl (w.plus o m) c enc l a n cap) (e:∃ r,o'=o++r):Sl (w.plus o' m') c enc l a n cap:=by
 obtain ⟨r,rfl⟩:=e;exact Sl.more h _ _
theorem Sl.get {α:Type} {w:World} {c:Nat} {enc:α→List Value} {l:List α} {a:Option Addr} {n cap:Nat} (h:Sl w c enc l a n cap) {k:Nat} (hk:k<n):
  ∃ b o x,a=some ⟨b,o,none⟩∧l[k]? = some x∧∀ j y,(enc x)[j]? = some y→w.cell? ⟨b,o+k * c+j,none⟩=some y:=by
 obtain ⟨b,o,e,f⟩:=h.2.2.2 (by omega);have hl:=h.1;exact ⟨b,o,l[k]'(by omega),e,by simp,fun j y hy=>f k _ (by simp) j y hy⟩
theorem Sl.get' {α:Type} {w:World} {c:Nat} {enc:α→List Value} {l:List α} {b o:Nat} {n cap:Nat} (h:Sl w c enc l (some ⟨b,o,none⟩) n cap) {k:Nat} (hk:k<n):
  ∃ x,l[k]? = some x∧∀ j y,(enc x)[j]? = some y→w.cell? ⟨b,o+k * c+j,none⟩=some y:=by
 obtain ⟨b',o',x,e,hx,f⟩:=h.get hk;simp only [Option.some.injEq,Addr.mk.injEq,and_true] at e;obtain ⟨rfl,rfl⟩:=e;exact ⟨x,hx,f⟩
theorem at2 {w:World} {b p:Nat} {x0 x1:Value} (h:∀ j y,([x0,x1]:List Value)[j]? = some y→w.cell? ⟨b,p+j,none⟩=some y):
  w.cell? ⟨b,p,none⟩=some x0∧w.cell? ⟨b,p+1,none⟩=some x1:=⟨h 0 _ rfl,h 1 _ rfl⟩
theorem at1 {w:World} {b p:Nat} {x0:Value} (h:∀ j y,([x0]:List Value)[j]? = some y→w.cell? ⟨b,p+j,none⟩=some y):
  w.cell? ⟨b,p,none⟩=some x0:=h 0 _ rfl
theorem at3 {w:World} {b p:Nat} {x0 x1 x2:Value} (h:∀ j y,([x0,x1,x2]:List Value)[j]? = some y→w.cell? ⟨b,p+j,none⟩=some y):
  w.cell? ⟨b,p,none⟩=some x0∧w.cell? ⟨b,p+1,none⟩=some x1∧w.cell? ⟨b,p+2,none⟩=some x2:=⟨h 0 _ rfl,h 1 _ rfl,h 2 _ rfl⟩
theorem at8 {w:World} {b p:Nat} {x0 x1 x2 x3 x4 x5 x6 x7:Value} (h:∀ j y,([x0,x1,x2,x3,x4,x5,x6,x7]:List Value)[j]? = some y→w.cell? ⟨b,p+j,none⟩=some y):
  w.cell? ⟨b,p,none⟩=some x0∧w.cell? ⟨b,p+1,none⟩=some x1∧w.cell? ⟨b,p+2,none⟩=some x2∧w.cell? ⟨b,p+3,none⟩=some x3 ∧
  w.cell? ⟨b,p+4,none⟩=some x4∧w.cell? ⟨b,p+5,none⟩=some x5∧w.cell? ⟨b,p+6,none⟩=some x6∧w.cell? ⟨b,p+7,none⟩=some x7:=
 ⟨h 0 _ rfl,h 1 _ rfl,h 2 _ rfl,h 3 _ rfl,h 4 _ rfl,h 5 _ rfl,h 6 _ rfl,h 7 _ rfl⟩
theorem Sl.of_owns {α:Type} {w:World} {c:Nat} {enc:α→List Value} {l:List α} {base e n:Nat} {v:Value} (h:w.ownsRow base e c v n (l.flatMap enc)) (hc:0<c) (he:∀ x,(enc x).length=c):
  ∃ a cap,v = .slice a n cap∧Sl w c enc l a n cap:=by
 have key:∀ l:List α,(l.flatMap enc).length=l.length * c:=by
  intro l
  induction l with
  | nil=>simp
  | cons x l ih=>simp [ih,he,Nat.add_mul];omega
 have hlen:l.length=n:=by
  have h1:=h.1;rw [key] at h1;exact Nat.eq_of_mul_eq_mul_right hc h1
 have pick:∀ (l:List α) (i:Nat) (x:α),l[i]? = some x→∀ j y,(enc x)[j]? = some y→(l.flatMap enc)[i * c+j]? = some y:=by
  intro l
  induction l with
  | nil=>intro i x hx;simp at hx
  | cons z l ih=>
   intro i x hx j y hy
   cases i with
   | zero=>
    simp at hx;subst hx
    have hj:j<(enc z).length:=by
     by_cases h:j<(enc z).length
     ·exact h
     ·rw [List.getElem?_eq_none (by omega)] at hy;cases hy
    simp only [List.flatMap_cons,Nat.zero_mul,Nat.zero_add];rw [List.getElem?_append_left hj];exact hy
   | succ i=>
    simp at hx;simp only [List.flatMap_cons];rw [List.getElem?_append_right (by rw [he,Nat.add_mul];omega),he];have:=ih i x hx j y hy;rw [show (i+1) * c+j - c=i * c+j by rw [Nat.add_mul];omega];exact this
 rcases h.2 with ⟨rfl,h0⟩|⟨g,cap,cur,rfl,_,hg,hn,hcap,_,_⟩
 ·subst h0
  exact ⟨none,0,rfl,hlen,Nat.le_refl _,Nat.zero_le _,fun h=>absurd h (by omega)⟩
 ·refine ⟨_,cap,rfl,hlen,hn,hcap,fun _=>⟨g,0,rfl,fun i x hx j y hy=>?_⟩⟩
  have hy':=pick l i x hx j y hy
  have hlt:i * c+j<n * c:=by
   have:=h.1
   by_cases hh:i * c+j<(l.flatMap enc).length
   ·omega
   ·rw [List.getElem?_eq_none (by omega)] at hy';cases hy'
  rw [show 0+i * c+j=i * c+j by omega];exact (World.ownsRow.cellAt h _ hlt).trans hy'
/-! ### structs compared -/
def iE (d:Nat) (xs ys:Array Value):List (Bool×TypeId×Nat)→Sem Bool
 | []=>pure true
 | f :: fs=>
  if f.1=true then do
   let a ←part f.2.1 xs f.2.2
   let b ←part f.2.1 ys f.2.2
   let r ←Op.equalIn d f.2.1 a b
   if (!r)=true then pure false else iE d xs ys fs
  else iE d xs ys fs
theorem eqFields_shape (d:Nat) (xs ys:Array Value):∀ fs:List Field,Op.eqFields d xs ys fs=iE d xs ys (fs.map fun f=>(f.name != "_",f.type,f.offset))
 | []=>rfl
 | f :: fs=>by
  simp only [Op.eqFields,iE,List.map_cons,eqFields_shape d xs ys fs]
  by_cases h:f.name = "_" <;> simp [h]
theorem mJ {P:Program} (w:World) {d:Nat} {xs ys:Array Value} {t:TypeId} {o:Nat} {fs:List (Bool×TypeId×Nat)} {a b:Value} {r s:Bool}
  (hx:(part t xs o).run P w = .ok a w) (hy:(part t ys o).run P w = .ok b w) (he:(Op.equalIn d t a b).run P w = .ok r w) (ih:(iE d xs ys fs).run P w = .ok s w):
  (iE d xs ys ((true,t,o) :: fs)).run P w = .ok (r&&s) w:=by
 cases r <;> simp [iE,hx,hy,he,ih,Result.andThen]
theorem cI {P:Program} (w:World) {d:Nat} {t:TypeId} {xs ys:Array Value} {r:Bool} (fs:List (Bool×TypeId×Nat)) (ht:P.underlying t=some (.struct (P.fieldsOf t))) (hp:P.stoodInHeld t=false)
  (hf:(P.fieldsOf t).toList.map (fun f=>(f.name != "_",f.type,f.offset))=fs) (h:(iE d xs ys fs).run P w = .ok r w):
  (Op.equalIn (d+1) t (.agg xs) (.agg ys)).run P w = .ok r w:=by
 rw [run_equalIn_struct w d t xs ys ht hp,eqFields_shape,hf,h]
theorem cF {P:Program} (w:World) {d:Nat} {xs ys:Array Value}:(iE d xs ys []).run P w = .ok true w:=rfl
theorem gF {P:Program} (w:World) {t:TypeId} {xs ys:Array Value} {r:Bool} (h:(Op.equalIn 10000 t (.agg xs) (.agg ys)).run P w = .ok r w):
  (Go.binOp .neq t (.agg xs) (.agg ys)).run P w = .ok (.bool (!r)) w:=by rw [run_neq_struct,h];rfl
theorem aG {P:Program} (w:World) {t:TypeId} {xs ys:Array Value} {r:Bool} (h:(Op.equalIn 10000 t (.agg xs) (.agg ys)).run P w = .ok r w):
  (Go.binOp .eql t (.agg xs) (.agg ys)).run P w = .ok (.bool r) w:=by rw [run_eql_struct,h];rfl
theorem fD {P:Program} {w:World} {d:Nat} {xs ys:Array Value} {t:TypeId} {o:Nat} {fs:List (Bool×TypeId×Nat)} {a b:Int} {s:Bool} {k':IntKind} (h:P.underlying t=some (.int k'))
  (hx:(part t xs o).run P w = .ok (.int .i64 a) w) (hy:(part t ys o).run P w = .ok (.int .i64 b) w) (ih:(iE (d+1) xs ys fs).run P w = .ok s w):
  (iE (d+1) xs ys ((true,t,o) :: fs)).run P w = .ok (a==b&&s) w:=mJ w hx hy (run_equalIn_int w d t .i64 k' a b h) ih
theorem eqShapeB {P:Program} {w:World} {d:Nat} {xs ys:Array Value} {t:TypeId} {o:Nat} {fs:List (Bool×TypeId×Nat)} {a b:Bool} {s:Bool} (h:P.underlying t=some .bool)
  (hx:(part t xs o).run P w = .ok (.bool a) w) (hy:(part t ys o).run P w = .ok (.bool b) w) (ih:(iE (d+1) xs ys fs).run P w = .ok s w):
  (iE (d+1) xs ys ((true,t,o) :: fs)).run P w = .ok (a==b&&s) w:=mJ w hx hy (run_equalIn_bool' w d t a b h) ih
theorem eqShapeA {P:Program} {w:World} {d:Nat} {xs ys:Array Value} {t:TypeId} {o:Nat} {fs:List (Bool×TypeId×Nat)} {xa ya:Array Value} {r s:Bool}
  (hx:(part t xs o).run P w = .ok (.agg xa) w) (hy:(part t ys o).run P w = .ok (.agg ya) w) (he:(Op.equalIn d t (.agg xa) (.agg ya)).run P w = .ok r w) (ih:(iE d xs ys fs).run P w = .ok s w):
  (iE d xs ys ((true,t,o) :: fs)).run P w = .ok (r&&s) w:=mJ w hx hy he ih
abbrev goalA (g:Ch.Goal):Value:=.agg #[vi g.kind,vi g.n]
abbrev sizeA (s:Ch.Size):Value:=.agg #[vi s.long,vi s.high,vi s.heavy]
abbrev carA (c:Ch.Car):Value:=.agg #[vi c.id,vi c.size.long,vi c.size.high,vi c.size.heavy]
abbrev eC (p:Ch.Place):Value:=.agg #[vi p.level,vi p.side,vi p.depth]
abbrev stayA (s:Ch.Stay):Value:=.agg #[vi s.ticket,vi s.car.id,vi s.car.size.long,vi s.car.size.high,vi s.car.size.heavy,vi s.home.level,vi s.home.side,vi s.home.depth]
abbrev jobA (j:Ch.Job):Value:=.agg #[vi j.ticket,.bool j.fetch]
theorem eqGoal (w:World) (d:Nat) (a b:Ch.Goal):(Op.equalIn (d+2) 135 (goalA a) (goalA b)).run Tryz.prog w = .ok (decide (a=b)) w:=by
 rw [cI (r:=a.kind==b.kind&&(a.n==b.n&&true)) w [(true,3,0),(true,3,1)] (by kernel_rfl) (by kernel_rfl) (by kernel_rfl) (fD Tryz.underlying3 (by kernel_rfl) (by kernel_rfl) (fD Tryz.underlying3 (by kernel_rfl) (by kernel_rfl) (cF w)))];obtain ⟨a0,a1⟩:=a;obtain ⟨b0,b1⟩:=b;congr 1;rw [Bool.eq_iff_iff];simp
theorem eqSize (w:World) (d:Nat) (a b:Ch.Size):(Op.equalIn (d+2) 54 (sizeA a) (sizeA b)).run Tryz.prog w = .ok (decide (a=b)) w:=by
 rw [cI (r:=a.long==b.long&&(a.high==b.high&&(a.heavy==b.heavy&&true))) w [(true,3,0),(true,3,1),(true,3,2)] (by kernel_rfl) (by kernel_rfl) (by kernel_rfl) (fD Tryz.underlying3 (by kernel_rfl) (by kernel_rfl) (fD Tryz.underlying3 (by kernel_rfl) (by kernel_rfl) (fD Tryz.underlying3 (by kernel_rfl) (by kernel_rfl) (cF w))))];obtain ⟨a0,a1,a2⟩:=a;obtain ⟨b0,b1,b2⟩:=b;congr 1;rw [Bool.eq_iff_iff];simp
theorem oH (w:World) (d:Nat) (a b:Ch.Place):(Op.equalIn (d+2) 89 (eC a) (eC b)).run Tryz.prog w = .ok (decide (a=b)) w:=by
 rw [cI (r:=a.level==b.level&&(a.side==b.side&&(a.depth==b.depth&&true))) w [(true,3,0),(true,3,1),(true,3,2)] (by kernel_rfl) (by kernel_rfl) (by kernel_rfl) (fD Tryz.underlying3 (by kernel_rfl) (by kernel_rfl) (fD Tryz.underlying3 (by kernel_rfl) (by kernel_rfl) (fD Tryz.underlying3 (by kernel_rfl) (by kernel_rfl) (cF w))))];obtain ⟨a0,a1,a2⟩:=a;obtain ⟨b0,b1,b2⟩:=b;congr 1;rw [Bool.eq_iff_iff];simp
theorem eqJob (w:World) (d:Nat) (a b:Ch.Job):(Op.equalIn (d+2) 143 (jobA a) (jobA b)).run Tryz.prog w = .ok (decide (a=b)) w:=by
 rw [cI (r:=a.ticket==b.ticket&&(a.fetch==b.fetch&&true)) w [(true,3,0),(true,4,1)] (by kernel_rfl) (by kernel_rfl) (by kernel_rfl) (fD Tryz.underlying3 (by kernel_rfl) (by kernel_rfl) (eqShapeB Tryz.underlying4 (by kernel_rfl) (by kernel_rfl) (cF w)))];obtain ⟨a0,a1⟩:=a;obtain ⟨b0,b1⟩:=b;congr 1;rw [Bool.eq_iff_iff];simp
theorem eqCar (w:World) (d:Nat) (a b:Ch.Car):(Op.equalIn (d+3) 56 (carA a) (carA b)).run Tryz.prog w = .ok (decide (a=b)) w:=by
 rw [cI (r:=a.id==b.id&&(decide (a.size=b.size)&&true)) w [(true,3,0),(true,54,1)] (by kernel_rfl) (by kernel_rfl) (by kernel_rfl) (fD Tryz.underlying3 (by kernel_rfl) (by kernel_rfl) (eqShapeA (xa:=#[vi a.size.long,vi a.size.high,vi a.size.heavy]) (ya:=#[vi b.size.long,vi b.size.high,vi b.size.heavy]) (by kernel_rfl) (by kernel_rfl) (eqSize w d a.size b.size) (cF w)))];obtain ⟨a0,a1⟩:=a;obtain ⟨b0,b1⟩:=b;congr 1;rw [Bool.eq_iff_iff];simp
theorem eqStay (w:World) (d:Nat) (a b:Ch.Stay):(Op.equalIn (d+4) 141 (stayA a) (stayA b)).run Tryz.prog w = .ok (decide (a=b)) w:=by
 rw [cI (r:=a.ticket==b.ticket&&(decide (a.car=b.car)&&(decide (a.home=b.home)&&true))) w [(true,3,0),(true,56,1),(true,89,5)] (by kernel_rfl) (by kernel_rfl) (by kernel_rfl) (fD Tryz.underlying3 (by kernel_rfl) (by kernel_rfl) (eqShapeA (xa:=#[vi a.car.id,vi a.car.size.long,vi a.car.size.high,vi a.car.size.heavy]) (ya:=#[vi b.car.id,vi b.car.size.long,vi b.car.size.high,vi b.car.size.heavy]) (by kernel_rfl) (by kernel_rfl) (eqCar w d a.car b.car) (eqShapeA (xa:=#[vi a.home.level,vi a.home.side,vi a.home.depth]) (ya:=#[vi b.home.level,vi b.home.side,vi b.home.depth]) (by kernel_rfl) (by kernel_rfl) (oH w (d+1) a.home b.home) (cF w))))];obtain ⟨a0,a1,a2⟩:=a;obtain ⟨b0,b1,b2⟩:=b;congr 1;rw [Bool.eq_iff_iff];simp
/-! ### from a walk to a given statement -/
theorem trodAll_below {H:Type} {enc:TypeId×Value→H} {P:Program} (hl:laidOutB P=true) {W W':World} (hb:Below W.heap.size W W'):
  ∀ {ts:List TypeId} {vs:List Value} {ds:List (DataW H)} {ps:List MemPlace},(∀ t∈ts,P.readableRec t=true∧t<P.types.size) →
  DataW.TrodAll enc P W 0 (fun _=>true) true ts vs ds ps→(∀ x∈ps,x.block<W.heap.size) →
  DataW.TrodAll enc P W' 0 (fun b=>decide (b<W.heap.size)) true ts vs ds ps
 | [],vs,ds,ps,_,h,_=>by
  obtain ⟨rfl,rfl,rfl⟩:=trodAll_nil h;exact trodAll_mk0
 | t :: ts,vs,ds,ps,hr,h,hlt=>by
  obtain ⟨v,vs,d,ds,p,p',rfl,rfl,rfl,h0,r0⟩:=trodAll_cons h
  exact trodAll_cons_mk (Below.trod hl (hr t (by simp)).1 (hr t (by simp)).2 h0 hb (fun x hx=>hlt x (by simp [hx])))
   (trodAll_below hl hb (fun t ht=>hr t (by simp [ht])) r0 (fun x hx=>hlt x (by simp [hx])))
theorem law_contract {H:Type} {enc:TypeId×Value→H} {P:Program} {f:FuncId} {fn:Func} {s:ChangeSpec} {tb:TypeId} (hl:laidOutB P=true) (hb:P.underlying tb=some .bool)
  (hres:fn.resultTypes=#[tb]) (hvars:s.vars=[])
  (hfn:∀ ds:List (DataW H),ds.length=fn.params.size→s.fn H (ds++[])={ results:=[.lit (.bool true)],args:=ds })
  (hread:(fn.params.toList.all fun t=>P.readableRec t&&decide (t<P.types.size))=true)
  {W:World} {args:Array Value} {ds gs:List (DataW H)} {before:List MemPlace}
  (hW:DataW.Whole enc P fn.params.toList s.vars false W args.toList ds gs before)
  (walk:Calls P f args W fun e W'=>e = .returned (.bool true)∧Ext W W'):
  Calls P f args W fun e W'=>∃ v,e = .returned v∧s.post enc P fn false true false false W args v W':=by
 refine walk.mono fun e W' ⟨he,hx⟩=>?_
 subst he;have hg:=hx.below;have hW':=hW;obtain ⟨p,q,hA,hV,rfl,hfz,hnd⟩:=hW;rw [hvars] at hV;obtain ⟨rfl,rfl⟩:=trodVars_none hV
 have hlen:ds.length=fn.params.size:=by
  have:=hA;clear hW' hfz hnd walk hV hg hx
  have key:∀ (ts:List TypeId) (vs:List Value) (ds:List (DataW H)) (ps:List MemPlace),DataW.TrodAll enc P W 0 (fun _=>true) true ts vs ds ps→ds.length=ts.length:=by
   intro ts
   induction ts with
   | nil=>intro vs ds ps h;obtain ⟨rfl,rfl,rfl⟩:=trodAll_nil h;rfl
   | cons t ts ih=>intro vs ds ps h;obtain ⟨v,vs,d,ds,p,p',rfl,rfl,rfl,h0,r0⟩:=trodAll_cons h;simp [ih _ _ _ r0]
  simpa using key _ _ _ _ this
 simp only [List.append_nil] at hW';refine ⟨_,rfl,ds,[],p,[],p,[],hW',?_,?_,?_,hg.frame _,fun h=>by cases h⟩
 ·rw [hfn ds hlen,hres]
  exact trodAll_cons_mk (shut_bool hb _) trodAll_mk0
 ·rw [hfn ds hlen]
  exact trodAll_below hl hg (fun t ht=>by simpa using List.all_eq_true.1 hread t ht) hA (fun x hx=>by simpa using hW'.lt x hx)
 ·rw [hvars,hfn ds hlen];rfl
theorem own:ownKnob Tryz.prog.godebug=none:=by kernel_rfl
theorem laidOut:laidOutB Tryz.prog=true:=by kernel_rfl
theorem eX {w w':World} (h:Ext w w':=by simp (maxDischargeDepth:=60)):Ext w w':=h
theorem cQ {w w1:World} {a:Addr} {v:Value} (hW:w=w1) (h:w.cell? a=some v:=by simp [go_sem]):w1.cell? a=some v:=hW▸h
theorem xQ {u w w1:World} (hW:w=w1) (h:Ext u w:=by simp (maxDischargeDepth:=60)):Ext u w1:=hW▸h
theorem cR {w w1:World} {s a i:Nat} {v:Value} (hW:w=w1) (hA:s=a) (h:w.cell? ⟨s,i,none⟩=some v:=by simp [go_sem]):w1.cell? ⟨a,i,none⟩=some v:=hA▸hW▸h
theorem kR {α:Sort _} {a b:α} (h:a=b:=by kernel_rfl):a=b:=h
theorem qC {P:Program} {g:FuncId} {args:Array Value} {W:World} {F:Array Obj→Nat→World} {v:Value}
  (h:Calls P g args W fun e w'=>e = .returned v∧Ext W w') (hf:∀ w',Ext W w'→∃ o n,w'=F o n:=by rintro w' ⟨o',n',rfl⟩;exact ⟨_,n',by first|(simp only [rC];rfl)|(simp only [rC,Array.append_assoc];rfl)|rfl⟩):Calls P g args W fun e w''=>e = .returned v∧∃ o n,w''=F o n:=ext_callG h hf
