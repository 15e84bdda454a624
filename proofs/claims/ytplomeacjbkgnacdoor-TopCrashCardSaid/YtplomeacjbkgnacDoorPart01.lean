/-
  Walks of the program's functions, and what they need: Model.
-/

namespace Ch

structure Size where
  long : Int
  high : Int
  heavy : Int
  deriving DecidableEq, Inhabited

structure Car where
  id : Int
  size : Size
  deriving DecidableEq, Inhabited

structure Place where
  level : Int
  side : Int
  depth : Int
  deriving DecidableEq, Inhabited

structure Sensed where
  height : Int
  ext : Int
  door : Bool
  people : Int
  lift : Int
  bay : Int
  here : Bool
  toLeft : Bool
  toRight : Bool
  deriving DecidableEq, Inhabited

structure Goal where
  kind : Int
  n : Int
  deriving DecidableEq, Inhabited

structure Stay where
  ticket : Int
  car : Car
  home : Place
  deriving DecidableEq, Inhabited

structure Job where
  ticket : Int
  fetch : Bool
  deriving DecidableEq, Inhabited

structure Book where
  last : Int
  stays : List Stay
  jobs : List Job
  deriving DecidableEq, Inhabited

/-! ### tower -/

def sizeFault (s : Size) : Int :=
  if s.long < 1 ∨ 99 < s.long ∨ s.high < 1 ∨ 99 < s.high ∨ s.heavy < 1 ∨ 99 < s.heavy then 1 else 0

def carFault (c : Car) : Int := if c.id < 1 ∨ 999 < c.id then 1 else sizeFault c.size

def fits (s room : Size) : Bool := decide (s.long ≤ room.long) && decide (s.high ≤ room.high) && decide (s.heavy ≤ room.heavy)

def levelsFaultFrom (last : Size) : List Size → Int
  | [] => 0
  | s :: l => if sizeFault s ≠ 0 then sizeFault s else if fits s last = false then 3 else levelsFaultFrom last l

def levelsFault (l : List Size) : Int :=
  if l.length < 1 ∨ 4 < l.length then 2 else levelsFaultFrom (l.getLastD default) l

def placeFault (p : Place) (levels : Int) : Int :=
  if p.level < 1 ∨ levels < p.level ∨ p.side < 0 ∨ 1 < p.side ∨ p.depth < 0 ∨ 1 < p.depth then 1 else 0

def spare (levels : Int) : Place := ⟨levels, 1, 0⟩

def placesOf (levels n : Int) : List Place :=
  if n < levels then [⟨n, 0, 1⟩, ⟨n, 0, 0⟩, ⟨n, 1, 1⟩, ⟨n, 1, 0⟩] else [⟨n, 0, 1⟩, ⟨n, 0, 0⟩]

def placesFrom (levels : Int) : Nat → Int → List Place
  | 0, _ => []
  | k + 1, n => placesOf levels n ++ placesFrom levels k (n + 1)

def places (levels : Int) : List Place := placesFrom levels levels.toNat 1

def extOf (p : Place) : Int := if p.side = 0 then -1 - p.depth else 1 + p.depth

def front (p : Place) : Place := { p with depth := 0 }

/-! ### plant -/

structure Plant where
  levels : Int
  height : Int
  ext : Int
  door : Bool
  people : Int
  lift : Int
  bay : Int
  slots : Place → Int
  stall : Int
  hurt : Bool

instance : Inhabited Plant := ⟨⟨0, 0, 0, false, 0, 0, 0, fun _ => 0, 0, false⟩⟩

def Plant.new (levels : Int) : Plant := ⟨levels, 0, 0, true, 0, 0, 0, fun _ => 0, 0, false⟩

/-- where the shuttle's end is, if it were so far -/
def Plant.place (p : Plant) (ext : Int) : Option Place :=
  if p.height % 3 ≠ 0 ∨ p.height = 0 ∨ ext = 0 ∨ ext < -2 ∨ 2 < ext then none
  else if ext < 0 then some ⟨p.height / 3, 0, -ext - 1⟩ else some ⟨p.height / 3, 1, ext - 1⟩

def Plant.full (p : Plant) (ext : Int) : Bool :=
  match p.place ext with
  | none => false
  | some x => p.slots x != 0

def Plant.sense (p : Plant) : Sensed :=
  ⟨p.height, p.ext, p.door, p.people, p.lift, p.bay, p.full p.ext, p.full (p.ext - 1), p.full (p.ext + 1)⟩

def Plant.openB (p : Plant) : Bool := p.door || decide (0 < p.people)

def setSlot (f : Place → Int) (x : Place) (v : Int) : Place → Int := fun y => if y = x then v else f y

def clamp (n hi : Int) : Int := min (max n 0) hi

def Plant.rise (p : Plant) (n : Int) : Plant :=
  { p with hurt := p.hurt || p.ext != 0 || p.openB, height := clamp (p.height + n) (p.levels * 3) }

def Plant.stretch (p : Plant) (n : Int) : Plant :=
  if p.ext + n < -2 ∨ 2 < p.ext + n then p
  else { p with hurt := p.hurt || (p.ext + n != 0 && (p.place (p.ext + n)).isNone) || (p.lift != 0 && p.full (p.ext + n)), ext := p.ext + n }

def Plant.grab (p : Plant) : Plant :=
  match p.place p.ext with
  | none => p
  | some x => if p.lift = 0 ∧ p.slots x ≠ 0 then { p with lift := p.slots x, slots := setSlot p.slots x 0 } else p

def Plant.put (p : Plant) : Plant :=
  match p.place p.ext with
  | none => p
  | some x => if p.lift ≠ 0 ∧ p.slots x = 0 then { p with slots := setSlot p.slots x p.lift, lift := 0 } else p

def Plant.swing (p : Plant) (o : Bool) : Plant :=
  { p with hurt := p.hurt || (o && (p.height != 0 || p.ext != 0)) || (!o && decide (0 < p.people)), door := o }

def Plant.pass (p : Plant) (i : Bool) : Plant :=
  let h := p.hurt || p.openB
  if p.height ≠ 0 ∨ p.ext ≠ 0 then { p with hurt := h }
  else if i then (if p.lift = 0 then { p with hurt := h, lift := p.bay, bay := 0 } else { p with hurt := h })
  else (if p.bay = 0 then { p with hurt := h, bay := p.lift, lift := 0 } else { p with hurt := h })

def Plant.act (p : Plant) (c : Int) : Plant :=
  if c = 117 then p.rise 1
  else if c = 100 then p.rise (-1)
  else if c = 108 then p.stretch (-1)
  else if c = 114 then p.stretch 1
  else if c = 103 then p.grab
  else if c = 112 then p.put
  else if c = 111 then p.swing true
  else if c = 99 then p.swing false
  else if c = 110 then p.pass true
  else if c = 120 then p.pass false
  else p

def Plant.step (p : Plant) (c : Int) : Plant :=
  if 0 < p.stall ∧ c ≠ 45 then { p with stall := p.stall - 1 } else p.act c

def Plant.walk (p : Plant) (n : Int) : Plant × Int :=
  if n < -9 ∨ 9 < n then (p, 1)
  else if p.door = false then (p, 7)
  else ({ p with people := clamp (p.people + n) 9 }, 0)

/-- the places that a machine may have, in the order in which they are looked at -/
def allPlaces (levels : Int) : List Place :=
  (List.range levels.toNat).flatMap fun (k : Nat) => [⟨k + 1, 0, 0⟩, ⟨k + 1, 0, 1⟩, ⟨k + 1, 1, 0⟩, ⟨k + 1, 1, 1⟩]

def Plant.where_ (p : Plant) (id : Int) : Option Place :=
  if id = 0 then none else (allPlaces p.levels).find? fun x => p.slots x == id

def Plant.has (p : Plant) (id : Int) : Bool :=
  (id != 0 && (allPlaces p.levels).any fun x => p.slots x == id) || p.lift == id || p.bay == id

def Plant.arrive (p : Plant) (id : Int) : Plant × Int :=
  if id < 1 ∨ 999 < id then (p, 1)
  else if p.door = false ∨ p.bay ≠ 0 then (p, 7)
  else if p.has id then (p, 6)
  else ({ p with bay := id }, 0)

def Plant.leave (p : Plant) : Plant × Int × Int :=
  if p.door = false ∨ p.bay = 0 then (p, 0, 7) else ({ p with bay := 0 }, p.bay, 0)

def Plant.setStall (p : Plant) (n : Int) : Plant × Int :=
  if n < 0 ∨ 5 < n then (p, 1) else ({ p with stall := n }, 0)

/-! ### guard -/

def level (s : Sensed) : Bool := decide (0 < s.height) && s.height % 3 == 0

def shut (s : Sensed) : Bool := !s.door && s.people == 0

def mayStretch (s : Sensed) (to : Int) (full : Bool) : Bool :=
  if to < -2 ∨ 2 < to then false else to == 0 || (level s && !(s.lift != 0 && full))

/-- a number of Go's int, brought round -/
def w64 (n : Int) : Int := (n + 9223372036854775808) % 18446744073709551616 - 9223372036854775808

def may (c : Int) (s : Sensed) : Bool :=
  if c = 45 then true
  else if c = 117 ∨ c = 100 then s.ext == 0 && shut s
  else if c = 108 then mayStretch s (w64 (s.ext - 1)) s.toLeft
  else if c = 114 then mayStretch s (w64 (s.ext + 1)) s.toRight
  else if c = 103 then level s && s.ext != 0 && s.lift == 0 && s.here
  else if c = 112 then level s && s.ext != 0 && s.lift != 0 && !s.here
  else if c = 111 then s.height == 0 && s.ext == 0
  else if c = 99 then s.people == 0
  else if c = 110 then s.height == 0 && s.ext == 0 && shut s && s.lift == 0 && s.bay != 0
  else if c = 120 then s.height == 0 && s.ext == 0 && shut s && s.lift != 0 && s.bay == 0
  else false

/-! ### goal -/

def toward (from_ to : Int) (more less : Int) : Int × Bool :=
  if from_ < to then (more, false) else if to < from_ then (less, false) else (45, true)

def once (so : Bool) (c : Int) : Int × Bool := if so then (45, true) else (c, false)

def nextOf (g : Goal) (s : Sensed) : Int × Bool :=
  if g.kind = 1 then toward s.height g.n 117 100
  else if g.kind = 2 then toward s.ext g.n 114 108
  else if g.kind = 3 then once (s.lift != 0) 103
  else if g.kind = 4 then once (s.lift == 0) 112
  else if g.kind = 5 then once (!s.door) 99
  else if g.kind = 6 then once s.door 111
  else if g.kind = 7 then once (s.lift != 0) 110
  else if g.kind = 8 then once (s.lift == 0) 120
  else (45, true)

/-! ### plan -/

def ahead (height : Int) : List Goal := [⟨2, 0⟩, ⟨5, 0⟩, ⟨1, height⟩]

def there (p : Place) (kind : Int) : List Goal := ahead (p.level * 3) ++ [⟨2, extOf p⟩, ⟨kind, 0⟩, ⟨2, 0⟩]

def fetch (p : Place) : List Goal := there p 3

def bring (p : Place) : List Goal := there p 4

def takeIn : List Goal := ahead 0 ++ [⟨7, 0⟩]

def giveOut : List Goal := ahead 0 ++ [⟨8, 0⟩, ⟨6, 0⟩]

def welcome : List Goal := ahead 0 ++ [⟨6, 0⟩]

/-! ### book -/

def indexOf {α : Type} (p : α → Bool) (l : List α) : Int :=
  match l.findIdx? p with
  | none => -1
  | some i => i

def stayFault (levels last : Int) (before : List Stay) (s : Stay) : Int :=
  if carFault s.car ≠ 0 then carFault s.car
  else if placeFault s.home levels ≠ 0 then placeFault s.home levels
  else if s.ticket < 1 ∨ last < s.ticket then 1
  else if ¬ s.home ∈ places levels ∨ (∃ x ∈ before.getLast?, s.ticket ≤ x.ticket) then 3
  else if before.any (fun x => x.home == s.home || x.car.id == s.car.id) then 3
  else 0

def staysFault (levels last : Int) : List Stay → List Stay → Int
  | _, [] => 0
  | before, s :: l => if stayFault levels last before s ≠ 0 then stayFault levels last before s else staysFault levels last (before ++ [s]) l

def jobsFault (stays : List Stay) : List Job → List Job → Int
  | _, [] => 0
  | before, j :: l => if (stays.any fun s => s.ticket == j.ticket) = false ∨ j ∈ before then 3 else jobsFault stays (before ++ [j]) l

def bookFault (b : Book) (levels : Int) : Int :=
  if b.last < 0 ∨ 999999 < b.last then 1
  else if 16 < b.stays.length ∨ 8 < b.jobs.length then 2
  else if staysFault levels b.last [] b.stays ≠ 0 then staysFault levels b.last [] b.stays
  else jobsFault b.stays [] b.jobs

def Book.find (b : Book) (ticket : Int) : Option Stay := b.stays.find? fun s => s.ticket == ticket

def Book.of (b : Book) (id : Int) : Option Stay := b.stays.find? fun s => s.car.id == id

/-! ### desk -/

def hasHome (b : Book) (p : Place) : Bool := b.stays.any fun s => s.home == p

def waits (b : Book) (p : Place) : Bool :=
  b.stays.any fun s => s.home != p && front s.home == p && b.jobs.contains ⟨s.ticket, false⟩

def pick (b : Book) (levels : List Size) (c : Car) : Option Place :=
  (places levels.length).find? fun p => fits c.size (levels.getD (p.level - 1).toNat default) && !hasHome b p && !hasHome b (front p) && !waits b p

def park (b : Book) (levels : List Size) (c : Car) : Except Int (Book × Int) :=
  if carFault c ≠ 0 then .error (carFault c)
  else if (b.of c.id).isSome then .error 6
  else match pick b levels c with
    | none => .error 8
    | some p =>
      if b.last = 999999 ∨ b.jobs.length = 8 then .error 8
      else .ok (⟨b.last + 1, b.stays ++ [⟨b.last + 1, c, p⟩], b.jobs ++ [⟨b.last + 1, false⟩]⟩, b.last + 1)

def want (b : Book) (ticket : Int) : Except Int Book :=
  if (b.find ticket).isNone then .error 5
  else if b.jobs.contains ⟨ticket, true⟩ then .error 6
  else if b.jobs.length = 8 then .error 8
  else .ok { b with jobs := b.jobs ++ [⟨ticket, true⟩] }

def doneWith (b : Book) (j : Job) (gone : Bool) : Book :=
  { b with
    jobs := b.jobs.filter fun x => !(x == j || ((j.fetch || gone) && x.ticket == j.ticket)),
    stays := if j.fetch || gone then b.stays.filter fun s => !(s.ticket == j.ticket) else b.stays }

end Ch
