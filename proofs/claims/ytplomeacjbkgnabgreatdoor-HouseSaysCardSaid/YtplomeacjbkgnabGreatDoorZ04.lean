import Derived.Test.YtplomeacjbkgnabGreatDoorZ03
import Derived.Lib.ItoaNum
import Derived.Lib.AtoiAll
set_option linter.all false
set_option maxRecDepth 100000
set_option maxHeartbeats 16000000
namespace Ch
open Go
/-! ### numbers in texts -/
def numOf (w:List UInt8):Option Int:=
 match Lib.atoiAll w with
 | .ok k=>if Lib.itoa k=w∧0≤k∧k≤999999 then some k else none
 | _=>none
theorem parse_digit {acc i:Nat} (h:i<10) (ha:acc≤999999) (r:List UInt8):Lib.parseUint10 acc (UInt8.ofNat (48+i) :: r)=Lib.parseUint10 (acc * 10+i) r:=by
 have hn:(UInt8.ofNat (48+i)).toNat=48+i:=by simp;omega
 rw [Lib.parseUint10,hn,if_pos (by omega),if_neg (by omega),if_neg (by omega)]
 congr 1;omega
theorem nJ (u:Nat) (h:¬ u<10):Lib.decDigits u=Lib.decDigits (u / 10)++[UInt8.ofNat (48+u % 10)]:=by rw [Lib.decDigits,dif_neg h]
theorem parse_dec:∀ (u:Nat),u≤9999999→∀ r,Lib.parseUint10 0 (Lib.decDigits u++r)=Lib.parseUint10 u r:=by
 intro u
 induction u using Nat.strongRecOn with
 | _ u ih=>
  intro hu r
  by_cases h:u<10
  ·rw [Lib.decDigits_one h,List.singleton_append,parse_digit h (by omega)]
   simp
  ·rw [nJ u h,List.append_assoc,ih (u / 10) (by omega) (by omega),List.singleton_append,parse_digit (by omega) (by omega)]
   congr 1;omega
theorem dec_head (u:Nat):∃ i r,i<10∧Lib.decDigits u=UInt8.ofNat (48+i) :: r:=by
 induction u using Nat.strongRecOn with
 | _ u ih=>
  by_cases h:u<10
  ·exact ⟨u,[],h,Lib.decDigits_one h⟩
  ·obtain ⟨i,r,hi,e⟩:=ih (u / 10) (by omega)
   rw [nJ u h,e];exact ⟨i,r++[UInt8.ofNat (48+u % 10)],hi,rfl⟩
theorem atoi_itoa {n:Int} (h0:0≤n) (h1:n≤9999999):Lib.atoiAll (Lib.itoa n) = .ok n:=by
 have e:Lib.itoa n=Lib.decDigits n.toNat:=by unfold Lib.itoa;rw [if_neg (by omega)]
 obtain ⟨i,r,hi,hd⟩:=dec_head n.toNat;have hp:=parse_dec n.toNat (by omega) [];rw [List.append_nil] at hp;rw [e]
 rw [hd] at hp ⊢
 have hn:(UInt8.ofNat (48+i)).toNat=48+i:=by simp;omega
 unfold Lib.atoiAll;simp only [hn];rw [if_neg (by omega)];unfold Lib.parseMag;rw [if_neg (by simp),hp];simp only [Lib.parseUint10];rw [if_neg (by omega),if_neg (by omega),if_neg (by omega)]
 congr 1;omega
theorem numOf_iff {w:List UInt8} {k:Int}:numOf w=some k↔0≤k∧k≤999999∧w=Lib.itoa k:=by
 unfold numOf;constructor
 ·intro h
  split at h
  ·split at h
   ·rename_i hc
    cases h;exact ⟨hc.2.1,hc.2.2,hc.1.symm⟩
   ·cases h
  ·cases h
 ·rintro ⟨h0,h1,rfl⟩
  rw [atoi_itoa h0 (by omega)];simp [h0,h1]
theorem numOf_itoa {k:Int} (h0:0≤k) (h1:k≤999999):numOf (Lib.itoa k)=some k:=numOf_iff.2 ⟨h0,h1,rfl⟩
theorem dec_bytes (u:Nat):∀ b∈Lib.decDigits u,48≤b.toNat∧b.toNat≤57:=by
 induction u using Nat.strongRecOn with
 | _ u ih=>
  by_cases h:u<10
  ·rw [Lib.decDigits_one h]
   intro b hb;simp at hb;subst hb;simp;omega
  ·rw [nJ u h]
   intro b hb
   rcases List.mem_append.1 hb with hb|hb
   ·exact ih (u / 10) (by omega) b hb
   ·simp at hb;subst hb;simp;omega
theorem dec_len {u k:Nat} (h:u<10 ^ (k+1)):(Lib.decDigits u).length≤k+1:=by
 induction k generalizing u with
 | zero=>rw [Lib.decDigits_one (by simpa using h)];simp
 | succ k ih=>
  by_cases h10:u<10
  ·rw [Lib.decDigits_one h10];simp
  ·rw [nJ u h10]
   have:=ih (u:=u / 10) (by rw [Nat.pow_succ] at h;omega);simp;omega
theorem itoa_len {n:Int} {k:Nat} (h0:0≤n) (h:n<(10 ^ (k+1):Nat)):(Lib.itoa n).length≤k+1:=by
 unfold Lib.itoa;rw [if_neg (by omega)];exact dec_len (by omega)
theorem itoa_bytes {n:Int} (h0:0≤n):∀ b∈Lib.itoa n,48≤b.toNat∧b.toNat≤57:=by
 unfold Lib.itoa;rw [if_neg (by omega)];exact dec_bytes _
/-! ### words -/
def wordsFrom (w:List UInt8):List UInt8→List (List UInt8)
 | []=>[w]
 | b :: s=>if b=32 then w :: wordsFrom [] s else wordsFrom (w++[b]) s
def wordsOf (s:List UInt8):List (List UInt8):=wordsFrom [] s
def joinWords:List (List UInt8)→List UInt8
 | []=>[]
 | [w]=>w
 | w :: v :: l=>w++32 :: joinWords (v :: l)
theorem words_word (w v s:List UInt8) (h:∀ b∈v,b≠32):wordsFrom w (v++s)=wordsFrom (w++v) s:=by
 induction v generalizing w with
 | nil=>simp
 | cons b v ih=>
  rw [List.cons_append,wordsFrom,if_neg (h b (by simp)),ih _ (fun c hc=>h c (by simp [hc]))];simp
theorem words_join:∀ (l:List (List UInt8)),l≠[]→(∀ w∈l,∀ b∈w,b≠32)→wordsOf (joinWords l)=l
 | [],h,_=>absurd rfl h
 | [w],_,h=>by
  have:=words_word [] w [] (h w (by simp));rw [List.append_nil,List.nil_append] at this;unfold wordsOf joinWords;rw [this];rfl
 | w :: v :: l,_,h=>by
  have ih:=words_join (v :: l) (by simp) (fun x hx=>h x (by simp [hx]))
  unfold wordsOf at ih ⊢
  rw [joinWords,words_word [] w _ (h w (by simp)),wordsFrom,if_pos rfl,ih];simp
/-! ### a book's text -/
def stayNums (s:Stay):List Int:=[s.ticket,s.car.id,s.car.size.long,s.car.size.high,s.car.size.heavy,s.home.level,s.home.side,s.home.depth]
def jobNums (j:Job):List Int:=[j.ticket,if j.fetch then 1 else 0]
def bookNums (b:Book):List Int:=[b.last,(b.stays.length:Int),(b.jobs.length:Int)]++b.stays.flatMap stayNums++b.jobs.flatMap jobNums
def bookText (b:Book):List UInt8:=joinWords ((bookNums b).map Lib.itoa)
def stayOf:List Int→Stay
 | [a,b,c,d,e,f,g,h]=>⟨a,⟨b,⟨c,d,e⟩⟩,⟨f,g,h⟩⟩
 | _=>default
def fI:Nat→List Int→List Stay
 | 0,_=>[]
 | k+1,l=>stayOf (l.take 8) :: fI k (l.drop 8)
def jobsOf:Nat→List Int→Option (List Job)
 | 0,_=>some []
 | k+1,l=>
  match l with
  | t :: f :: r=>if 1<f then none else (jobsOf k r).map fun js=>⟨t,f==1⟩ :: js
  | _=>none
def numsOf (s:List UInt8):Option (List Int):=(wordsOf s).mapM numOf
def bookOfNums (n:List Int) (levels:Int):Option Book:=
 match n with
 | a :: b :: c :: r=>
  if (n.length:Int)=3+8 * b+2 * c then
   match jobsOf c.toNat (r.drop (8 * b.toNat)) with
   | none=>none
   | some js=>if bookFault ⟨a,fI b.toNat r,js⟩ levels=0 then some ⟨a,fI b.toNat r,js⟩ else none
  else none
 | _=>none
def parseBook (s:List UInt8) (levels:Int):Option Book:=(numsOf s).bind fun n=>bookOfNums n levels
theorem staysOf_nums:∀ (l:List Stay) (r:List Int),fI l.length (l.flatMap stayNums++r)=l
 | [],_=>rfl
 | s :: l,r=>by
  simp only [List.length_cons,fI,List.flatMap_cons,List.append_assoc]
  have h1:(stayNums s++(l.flatMap stayNums++r)).take 8=stayNums s:=by simp [stayNums]
  have h2:(stayNums s++(l.flatMap stayNums++r)).drop 8=l.flatMap stayNums++r:=by simp [stayNums]
  rw [h1,h2,staysOf_nums l r];rfl
theorem jobsOf_nums:∀ (l:List Job),jobsOf l.length (l.flatMap jobNums)=some l
 | []=>rfl
 | j :: l=>by
  simp only [List.length_cons,List.flatMap_cons,jobNums,List.cons_append,List.nil_append,jobsOf,jobsOf_nums l,Option.map_some];obtain ⟨t,f⟩:=j
  cases f <;> simp
theorem stays_len (l:List Stay):(l.flatMap stayNums).length=8 * l.length:=by
 induction l with
 | nil=>rfl
 | cons s l ih=>simp [stayNums,ih];omega
theorem jobs_len (l:List Job):(l.flatMap jobNums).length=2 * l.length:=by
 induction l with
 | nil=>rfl
 | cons s l ih=>simp [jobNums,ih];omega
theorem mapM_num:∀ (l:List Int),(∀ k∈l,0≤k∧k≤999999)→(l.map Lib.itoa).mapM numOf=some l
 | [],_=>rfl
 | k :: l,h=>by
  have hk:=h k (by simp);simp only [List.map_cons,List.mapM_cons,numOf_itoa hk.1 hk.2,mapM_num l (fun x hx=>h x (by simp [hx]))];rfl
theorem stay_range {n last:Int} {s:Stay} (h:StayOK n last s) (hn:n≤4) (hl:last≤999999):∀ k∈stayNums s,0≤k∧k≤999999:=by
 obtain ⟨h1,h2,h3,h4,_⟩:=h;unfold carFault at h1
 split at h1
 ·cases h1
 rename_i hc;unfold sizeFault at h1
 split at h1
 ·cases h1
 rename_i hs;unfold placeFault at h2
 split at h2
 ·cases h2
 rename_i hp;intro k hk;simp only [stayNums,List.mem_cons,List.not_mem_nil,or_false] at hk
 rcases hk with rfl|rfl|rfl|rfl|rfl|rfl|rfl|rfl <;> omega
theorem book_range {b:Book} {n:Int} (h:b.OK n) (hn:n≤4):∀ k∈bookNums b,0≤k∧k≤999999:=by
 have l1:=h.l1;have l2:=h.l2;have s16:=h.s16;have j8:=h.j8;intro k hk;unfold bookNums at hk
 rcases List.mem_append.1 hk with hk|hk
 ·rcases List.mem_append.1 hk with hk|hk
  ·simp at hk
   rcases hk with rfl|rfl|rfl <;> omega
  ·obtain ⟨s,hs,hk⟩:=List.mem_flatMap.1 hk
   exact stay_range (h.stays.1 s hs) hn l2 k hk
 ·obtain ⟨j,hj,hk⟩:=List.mem_flatMap.1 hk
  obtain ⟨s,hs,e⟩:=h.found j hj;have:=h.stays.1 s hs;have h3:=this.2.2.1;have h4:=this.2.2.2.1;simp only [jobNums,List.mem_cons,List.not_mem_nil,or_false] at hk
  rcases hk with rfl|rfl
  ·omega
  ·split <;> omega
theorem bookOfNums_nums {b:Book} {n:Int} (h:bookFault b n=0):bookOfNums (bookNums b) n=some b:=by
 unfold bookNums bookOfNums;simp only [List.cons_append,List.nil_append]
 have hl:(((b.last :: (b.stays.length:Int) :: (b.jobs.length:Int) :: (b.stays.flatMap stayNums++b.jobs.flatMap jobNums)).length:Nat):Int)=3+8 * (b.stays.length:Int)+2 * (b.jobs.length:Int):=by
  simp only [List.length_cons,List.length_append,stays_len,jobs_len];omega
 rw [if_pos hl]
 have hd:(b.stays.flatMap stayNums++b.jobs.flatMap jobNums).drop (8 * (b.stays.length:Int).toNat)=b.jobs.flatMap jobNums:=by
  rw [Int.toNat_natCast,List.drop_append_of_le_length (by rw [stays_len];omega),List.drop_of_length_le (by rw [stays_len];omega),List.nil_append]
 rw [hd,Int.toNat_natCast,Int.toNat_natCast,jobsOf_nums,staysOf_nums];simp only;rw [if_pos h]
theorem parse_text {b:Book} {n:Int} (h:bookFault b n=0) (hn:n≤4):parseBook (bookText b) n=some b:=by
 have hok:=bookFault_iff.1 h;have hr:=book_range hok hn;unfold parseBook numsOf bookText
 rw [words_join _ (by simp [bookNums]) (by
  intro w hw b' hb'
  obtain ⟨k,hk,rfl⟩:=List.mem_map.1 hw
  have:=itoa_bytes (hr k hk).1 b' hb'
  intro e;subst e;revert this;decide),mapM_num _ hr]
 exact bookOfNums_nums h
theorem join_len:∀ (l:List (List UInt8)),(joinWords l).length≤(l.map List.length).sum+l.length
 | []=>by simp [joinWords]
 | [w]=>by simp [joinWords]
 | w :: v :: l=>by
  have:=join_len (v :: l)
  simp only [joinWords,List.length_append,List.length_cons,List.map_cons,List.sum_cons] at this ⊢
  omega
theorem sum_flat {α:Type} (f:α→List Int) (c:Nat):∀ (l:List α),(∀ x∈l,(((f x).map Lib.itoa).map List.length).sum≤c)→((((l.flatMap f).map Lib.itoa).map List.length).sum)≤c * l.length
 | [],_=>by simp
 | x :: l,h=>by
  have h1:=h x (by simp);have h2:=sum_flat f c l (fun y hy=>h y (by simp [hy]));simp only [List.flatMap_cons,List.map_append,List.sum_append,List.length_cons,Nat.mul_succ];omega
theorem stay_digits {n last:Int} {s:Stay} (h:StayOK n last s) (hn:n≤4) (hl:last≤999999):(((stayNums s).map Lib.itoa).map List.length).sum≤18:=by
 obtain ⟨h1,h2,h3,h4,_⟩:=h;unfold carFault at h1
 split at h1
 ·cases h1
 rename_i hc;unfold sizeFault at h1
 split at h1
 ·cases h1
 rename_i hs;unfold placeFault at h2
 split at h2
 ·cases h2
 rename_i hp;have e1:=itoa_len (n:=s.ticket) (k:=5) (by omega) (by omega);have e2:=itoa_len (n:=s.car.id) (k:=2) (by omega) (by omega);have e3:=itoa_len (n:=s.car.size.long) (k:=1) (by omega) (by omega);have e4:=itoa_len (n:=s.car.size.high) (k:=1) (by omega) (by omega);have e5:=itoa_len (n:=s.car.size.heavy) (k:=1) (by omega) (by omega);have e6:=itoa_len (n:=s.home.level) (k:=0) (by omega) (by omega);have e7:=itoa_len (n:=s.home.side) (k:=0) (by omega) (by omega);have e8:=itoa_len (n:=s.home.depth) (k:=0) (by omega) (by omega);simp only [stayNums,List.map_cons,List.map_nil,List.sum_cons,List.sum_nil];omega
theorem text_len {b:Book} {n:Int} (h:bookFault b n=0) (hn:n≤4):(bookText b).length≤640:=by
 have hok:=bookFault_iff.1 h;have l1:=hok.l1;have l2:=hok.l2;have s16:=hok.s16;have j8:=hok.j8;have h1:=join_len ((bookNums b).map Lib.itoa);have hs:=sum_flat stayNums 18 b.stays (fun s hs=>stay_digits (hok.stays.1 s hs) hn l2)
 have hj:=sum_flat jobNums 7 b.jobs (fun j hj=>by
  obtain ⟨s,hs,e⟩:=hok.found j hj
  have:=hok.stays.1 s hs
  have h3:=this.2.2.1
  have h4:=this.2.2.2.1
  have e1:=itoa_len (n:=j.ticket) (k:=5) (by omega) (by omega)
  have e2:=itoa_len (n:=if j.fetch then 1 else 0) (k:=0) (by split <;> omega) (by split <;> omega)
  simp only [jobNums,List.map_cons,List.map_nil,List.sum_cons,List.sum_nil]
  omega)
 have e1:=itoa_len (n:=b.last) (k:=5) (by omega) (by omega);have e2:=itoa_len (n:=(b.stays.length:Int)) (k:=1) (by omega) (by omega);have e3:=itoa_len (n:=(b.jobs.length:Int)) (k:=0) (by omega) (by omega)
 have hlen:(bookNums b).length=3+8 * b.stays.length+2 * b.jobs.length:=by
  simp only [bookNums,List.length_append,stays_len,jobs_len,List.length_cons,List.length_nil]
 rw [List.length_map,hlen] at h1
 have hsum:((((bookNums b).map Lib.itoa).map List.length).sum)=(Lib.itoa b.last).length+((Lib.itoa (b.stays.length:Int)).length+((Lib.itoa (b.jobs.length:Int)).length))+(((b.stays.flatMap stayNums).map Lib.itoa).map List.length).sum+(((b.jobs.flatMap jobNums).map Lib.itoa).map List.length).sum:=by
  simp only [bookNums,List.map_append,List.sum_append,List.map_cons,List.map_nil,List.sum_cons,List.sum_nil];omega
 unfold bookText;omega
end Ch
namespace Ch
/-! ### disk -/
def zeros (n:Nat):ByteArray:=⟨Array.replicate n 0⟩
def fullS (s:ByteArray):ByteArray:=s++zeros (64 - s.size)
structure Disk where
 kept:List ByteArray
 now:List ByteArray
 wait:List (Nat×ByteArray)
 fuse:Int
 down:Bool
 deriving Inhabited
def Disk.new (n:Nat):Disk:=⟨List.replicate n (zeros 64),List.replicate n (zeros 64),[],-1,false⟩
def Disk.stepped (d:Disk):Disk:=
 if d.down then d else if d.fuse=0 then { d with down:=true,fuse:=-1 } else { d with fuse:=max (d.fuse - 1) (-1) }
def Disk.stepErr (d:Disk):Int:=if d.stepped.down then 9 else 0
def Disk.read (d:Disk) (at_:Int):ByteArray×Int:=
 if d.down then (⟨#[]⟩,9) else if at_<0∨(d.now.length:Int)≤at_ then (⟨#[]⟩,1) else (d.now.getD at_.toNat ⟨#[]⟩,0)
def Disk.write (d:Disk) (at_:Int) (data:ByteArray):Disk×Int:=
 if at_<0∨(d.now.length:Int)≤at_∨64<data.size then (d,1)
 else if d.stepped.down then (d.stepped,9)
 else ({ d.stepped with now:=d.now.set at_.toNat (fullS data),wait:=d.wait++[(at_.toNat,fullS data)] },0)
def Disk.flush (d:Disk):Disk×Int:=
 if d.stepped.down then (d.stepped,9) else ({ d.stepped with kept:=d.now,wait:=[] },0)
def keepBit (keep:Nat) (i:Nat):Bool:=(keep / 2 ^ (i % 64)) % 2==1
def keptOf (keep:Nat):Nat→List (Nat×ByteArray)→List ByteArray→List ByteArray
 | _,[],k=>k
 | i,t :: l,k=>keptOf keep (i+1) l (if keepBit keep i then k.set t.1 t.2 else k)
def Disk.restart (d:Disk) (keep:Nat):Disk:=
 let k:=keptOf keep 0 d.wait d.kept
 { kept:=k,now:=k,wait:=[],fuse:=-1,down:=false }
structure Disk.WF (d:Disk) (n:Nat):Prop where
 kept:d.kept.length=n
 now:d.now.length=n
 keptS:∀ s∈d.kept,s.size=64
 nowS:∀ s∈d.now,s.size=64
 wait:∀ t∈d.wait,t.1<n∧t.2.size=64
 fuse:-1≤d.fuse
 fuse2:d.fuse≤9223372036854775807
theorem zeros_size (n:Nat):(zeros n).size=n:=by simp [zeros,ByteArray.size]
theorem fullS_size {s:ByteArray} (h:s.size≤64):(fullS s).size=64:=by
 simp [fullS,zeros_size];omega
theorem Disk.WF.new (n:Nat):(Disk.new n).WF n:=
 ⟨by simp [Disk.new],by simp [Disk.new],by intro s hs;simp [Disk.new] at hs;rw [hs.2,zeros_size],by intro s hs;simp [Disk.new] at hs;rw [hs.2,zeros_size],by simp [Disk.new],by simp [Disk.new],by simp [Disk.new]⟩
theorem Disk.WF.stepped {d:Disk} {n:Nat} (h:d.WF n):d.stepped.WF n:=by
 have:=h.fuse;have:=h.fuse2;unfold Disk.stepped
 split
 ·exact h
 ·split
  ·exact ⟨h.kept,h.now,h.keptS,h.nowS,h.wait,by simp,by simp⟩
  ·exact ⟨h.kept,h.now,h.keptS,h.nowS,h.wait,by simp;omega,by simp;omega⟩
theorem stepped_now (d:Disk):d.stepped.now=d.now:=by unfold Disk.stepped;split;rfl;split <;> rfl
theorem fF (d:Disk):d.stepped.kept=d.kept:=by unfold Disk.stepped;split;rfl;split <;> rfl
theorem stepped_wait (d:Disk):d.stepped.wait=d.wait:=by unfold Disk.stepped;split;rfl;split <;> rfl
theorem Disk.WF.write {d:Disk} {n:Nat} (h:d.WF n) (a:Int) (s:ByteArray):(d.write a s).1.WF n:=by
 unfold Disk.write
 split
 ·exact h
 ·rename_i hc
  split
  ·exact h.stepped
  ·have hn:=h.now
   have hs:=h.stepped;refine ⟨hs.kept,by simp [h.now],hs.keptS,?_,?_,hs.fuse,hs.fuse2⟩
   ·intro x hx
    rcases List.mem_or_eq_of_mem_set hx with hx|rfl
    ·exact h.nowS x hx
    ·exact fullS_size (by omega)
   ·intro t ht
    simp at ht
    rcases ht with ht|rfl
    ·exact h.wait t ht
    ·exact ⟨by simp;omega,fullS_size (by omega)⟩
theorem Disk.WF.flush {d:Disk} {n:Nat} (h:d.WF n):d.flush.1.WF n:=by
 unfold Disk.flush
 split
 ·exact h.stepped
 ·exact ⟨h.now,h.stepped.now,h.nowS,h.stepped.nowS,by simp,h.stepped.fuse,h.stepped.fuse2⟩
theorem keptOf_ok (keep n:Nat):∀ (l:List (Nat×ByteArray)) (i:Nat) (k:List ByteArray),k.length=n→(∀ s∈k,s.size=64)→(∀ t∈l,t.1<n∧t.2.size=64) →
  (keptOf keep i l k).length=n∧∀ s∈keptOf keep i l k,s.size=64
 | [],_,k,h1,h2,_=>⟨h1,h2⟩
 | t :: l,i,k,h1,h2,h3=>by
  unfold keptOf;refine keptOf_ok keep n l (i+1) _ ?_ ?_ (fun t' ht=>h3 t' (by simp [ht]))
  ·split <;> simp [h1]
  ·split
   ·intro s hs
    rcases List.mem_or_eq_of_mem_set hs with hs|rfl
    ·exact h2 s hs
    ·exact (h3 t (by simp)).2
   ·exact h2
theorem Disk.WF.restart {d:Disk} {n:Nat} (h:d.WF n) (keep:Nat):(d.restart keep).WF n:=by
 obtain ⟨h1,h2⟩:=keptOf_ok keep n d.wait 0 d.kept h.kept h.keptS h.wait;exact ⟨h1,h1,h2,h2,by simp [Disk.restart],by simp [Disk.restart],by simp [Disk.restart]⟩
end Ch
namespace Ch
open Go
def byteOf (s:List UInt8) (i:Nat):Nat:=(s.getD i 0).toNat
def four (n:Nat):List UInt8:=[UInt8.ofNat n,UInt8.ofNat (n / 256),UInt8.ofNat (n / 65536),UInt8.ofNat (n / 16777216)]
def unfour (s:List UInt8) (i:Nat):Nat:=byteOf s i+256 * byteOf s (i+1)+65536 * byteOf s (i+2)+16777216 * byteOf s (i+3)
def head (epoch size:Nat):List UInt8:=66 :: (four epoch++four size)
theorem unfour_head (e k:Nat) (he:e<4294967296) (hk:k<4294967296) (r:List UInt8):byteOf (head e k++r) 0=66∧unfour (head e k++r) 1=e∧unfour (head e k++r) 5=k:=by
 refine ⟨rfl,?_,?_⟩
 ·show (UInt8.ofNat e).toNat+256 * (UInt8.ofNat (e / 256)).toNat+65536 * (UInt8.ofNat (e / 65536)).toNat+16777216 * (UInt8.ofNat (e / 16777216)).toNat=e
  simp only [UInt8.toNat_ofNat'];omega
 ·show (UInt8.ofNat k).toNat+256 * (UInt8.ofNat (k / 256)).toNat+65536 * (UInt8.ofNat (k / 65536)).toNat+16777216 * (UInt8.ofNat (k / 16777216)).toNat=k
  simp only [UInt8.toNat_ofNat'];omega
def tells (s:List UInt8) (x:Nat×Nat):Nat×Nat:=if byteOf s 0=66∧x.1<unfour s 1∧unfour s 5≤640 then (unfour s 1,unfour s 5) else x
def newest (l:List ByteArray):Nat×Nat:=tells (l.getD 1 ⟨#[]⟩).data.toList (tells (l.getD 0 ⟨#[]⟩).data.toList (0,0))
def halfOf (l:List ByteArray) (e:Nat):List UInt8:=((l.drop (2+e % 2 * 10)).take 10).flatMap (·.data.toList)
def openOf (l:List ByteArray) (levels:Int):Option (Nat×Book):=
 if (newest l).1=0 then none else (parseBook ((halfOf l (newest l).1).take (newest l).2) levels).map fun b=>((newest l).1,b)
def gH:Nat→List UInt8→List (List UInt8)
 | 0,_=>[]
 | n+1,s=>if s=[] then [] else s.take 64 :: gH n (s.drop 64)
structure Holds (l:List ByteArray) (levels:Int) (e:Nat) (b:Book):Prop where
 pos:1≤e
 fit:e<4294967296
 ok:bookFault b levels=0
 head:∃ r,(l.getD (e % 2) ⟨#[]⟩).data.toList=head e (bookText b).length++r
 text:(halfOf l e).take (bookText b).length=bookText b
 old:(tells (l.getD ((e+1) % 2) ⟨#[]⟩).data.toList (0,0)).1<e
theorem tells_head {s:List UInt8} {e k:Nat} {x:Nat×Nat} (h:∃ r,s=head e k++r) (he:e<4294967296) (hk:k≤640) (hx:x.1<e):tells s x=(e,k):=by
 obtain ⟨r,rfl⟩:=h;obtain ⟨h0,h1,h2⟩:=unfour_head e k he (by omega) r;unfold tells;rw [h0,h1,h2,if_pos ⟨rfl,hx,hk⟩]
theorem tells_old {s:List UInt8} {e k:Nat} (h:(tells s (0,0)).1<e):tells s (e,k)=(e,k):=by
 unfold tells at h ⊢
 split at h
 ·rename_i hc
  rw [if_neg];rintro ⟨_,h1,_⟩;dsimp only at h h1;omega
 ·rename_i hc
  rw [if_neg];rintro ⟨h0,h1,h2⟩;exact hc ⟨h0,by dsimp only at h1 ⊢;omega,h2⟩
theorem Holds.newest {l:List ByteArray} {levels:Int} {e:Nat} {b:Book} (h:Holds l levels e b) (hl:levels≤4):newest l=(e,(bookText b).length):=by
 have ht:=text_len h.ok hl;unfold Ch.newest
 rcases Nat.mod_two_eq_zero_or_one e with he|he
 ·have h1:=h.head
  have h2:=h.old;rw [he] at h1;rw [show (e+1) % 2=1 by omega] at h2;rw [tells_head (x:=(0,0)) h1 h.fit ht (by show 0<e;exact h.pos),tells_old h2]
 ·have h1:=h.head
  have h2:=h.old;rw [he] at h1;rw [show (e+1) % 2=0 by omega] at h2;exact tells_head h1 h.fit ht h2
theorem Holds.opens {l:List ByteArray} {levels:Int} {e:Nat} {b:Book} (h:Holds l levels e b) (hl:levels≤4):openOf l levels=some (e,b):=by
 unfold openOf;rw [h.newest hl];dsimp only;rw [if_neg (by have:=h.pos;omega),h.text,parse_text h.ok hl];rfl
end Ch
