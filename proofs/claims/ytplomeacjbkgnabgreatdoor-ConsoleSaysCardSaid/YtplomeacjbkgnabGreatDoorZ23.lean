import Derived.Test.YtplomeacjbkgnabGreatDoorZ14
import Derived.Test.YtplomeacjbkgnabGreatDoorZ19
import Derived.Lib.ItoaLen
import Derived.Shelf.Strings.OnBuilder
import Derived.Deep.DeepCutAuto
set_option linter.all false
set_option maxRecDepth 100000
set_option maxHeartbeats 16000000
namespace Ch.Live
def w0:House:=House.new [⟨99,99,99⟩]
def w1:House:={ w0 with p:=(w0.p.arrive 7).1 }
def w2:House:=(w1.park ⟨7,⟨1,1,1⟩⟩).1
theorem inv2_plant {h:House} (hi:House.Inv2 h) {p:dA} (hp:p.WF):House.Inv2 { h with p:=p }:=⟨hi.inv.plant hp⟩
theorem ticks_add:∀ (n m:Nat) (h:House),House.ticks (n+m) h=House.ticks m (House.ticks n h)
 | 0,m,h=>by rw [Nat.zero_add];rfl
 | n+1,m,h=>by rw [Nat.add_right_comm];exact ticks_add n m h.tick
end Ch.Live
namespace Go.Proofs.YtplomeacjbkgnabGreatDoor
open Go.RowKit Tryz Ch
def zG (f:Int):ByteArray:=(⟨#[101,114,114,111,114,32]⟩:ByteArray)++fB f
def okB:ByteArray:=⟨#[111,107]⟩
def doneB (f:Int):ByteArray:=if f=0 then okB else zG f
def toldB (n f:Int):ByteArray:=if f=0 then fB n else zG f
abbrev dotS:ByteArray:=⟨#[46]⟩
abbrev rI:ByteArray:=⟨#[59,32]⟩
def aI (a b c:Int):ByteArray:=fB a++dotS++fB b++dotS++fB c
def eE (sep:ByteArray) (l:List ByteArray):ByteArray:=⟨(Lib.join (l.map (·.data.toList)) sep.data.toList).toArray⟩
theorem bytes_ext {a b:ByteArray} (h:a.data.toList=b.data.toList):a=b:=by
 cases a with|mk a=>
 cases b with|mk b=>
 congr
 exact Array.ext' h
theorem joinB_nil (sep:ByteArray):eE sep []=⟨#[]⟩:=rfl
theorem joinB_one (sep x:ByteArray):eE sep [x]=x:=by
 apply bytes_ext;simp [eE,Lib.join_one]
theorem join_snoc (sep x:List UInt8):∀ (l:List (List UInt8)),l≠[]->Lib.join (l++[x]) sep=Lib.join l sep++sep++x:=by
 intro l hl
 cases l with
 | nil=>exact absurd rfl hl
 | cons y r=>
  rw [List.cons_append,Lib.join_cons,Lib.join_cons];unfold Lib.joinTail;simp
theorem jO {sep x:ByteArray} {l:List ByteArray} (hl:l≠[]):eE sep (l++[x])=eE sep l++sep++x:=by
 apply bytes_ext;unfold eE;rw [List.map_append,List.map_cons,List.map_nil,join_snoc _ _ _ (by simpa using hl)];simp
theorem joinB_three (sep a b c:ByteArray):eE sep [a,b,c]=a++sep++b++sep++c:=by
 rw [show [a,b,c]=[a]++[b]++[c] from rfl,jO sp,jO sp,joinB_one]
theorem joinB_two (sep a b:ByteArray):eE sep [a,b]=a++sep++b:=by
 rw [show [a,b]=[a]++[b] from rfl,jO sp,joinB_one]
theorem bsize (b:ByteArray):b.data.toList.length=b.size:=by rw [Array.length_toList];rfl
theorem joinTail_len (sep:List UInt8) (M:Nat):∀ (l:List (List UInt8)),(∀ x∈l,x.length<=M)->(Lib.joinTail sep l).length<=l.length * (sep.length+M):=by
 intro l;unfold Lib.joinTail
 induction l with
 | nil=>intro _;simp
 | cons y r ih=>
  intro h;have h1:=h y sp;have h2:=ih (fun x hx=>h x (by simp [hx]))
  simp only [List.map_cons,List.flatten_cons,List.length_append,List.length_cons,Nat.succ_mul] at h2 ⊢
  omega
theorem kM {sep:ByteArray} {l:List ByteArray} {M:Nat} (h:∀ x∈l,x.size<=M):(eE sep l).size<=l.length * (sep.size+M):=by
 have e:(eE sep l).size=(Lib.join (l.map (·.data.toList)) sep.data.toList).length:=by rw [<-bsize];rfl
 rw [e]
 cases l with
 | nil=>simp [Lib.join_nil]
 | cons y r=>
  have h1:y.data.toList.length<=M:=by rw [bsize];exact h y sp
  have h2:=joinTail_len sep.data.toList M (r.map (·.data.toList)) (fun x hx=>by
   obtain ⟨z,hz,rfl⟩:=List.mem_map.1 hx
   rw [bsize];exact h z (by simp [hz]))
  have h3:sep.data.toList.length=sep.size:=bsize sep;rw [List.length_map,h3] at h2;rw [List.map_cons,Lib.join_cons,List.length_append,List.length_cons,Nat.succ_mul];omega
theorem lB {n:Int} (h:-9223372036854775808<=n/\n<=9223372036854775807):(fB n).size<=100:=by
 show (Lib.itoa n).toArray.size<=100;rw [List.size_toArray];have:=Lib.itoa_length_le n h.1 h.2;omega
def sJ (l:List ByteArray):ByteArray:=if l=[] then ⟨#[45]⟩ else eE rI l
def aK (s:sA):ByteArray:=fB s.ticket++spS++fB s.car.id++spS++aI s.home.level s.home.side s.home.depth
def lM (j:Job):ByteArray:=(if j.fetch then ⟨#[102,101,116,99,104,32]⟩ else ⟨#[115,116,111,114,101,32]⟩:ByteArray)++fB j.ticket
def zH (i:Nat):pB:=⟨(i / 4:Nat)+1,(i % 4 / 2:Nat),(i % 2:Nat)⟩
def jI (p:dA):Nat->List ByteArray
 | 0=>[]
 | i+1=>jI p i++(if p.slots (zH i)=0 then [] else [aI (zH i).level (zH i).side (zH i).depth++spS++fB (p.slots (zH i))])
def plantB (p:dA):ByteArray:=fB p.height++spS++fB p.ext++(if p.door then ⟨#[32,111,112,101,110,32]⟩ else ⟨#[32,115,104,117,116,32]⟩:ByteArray)++(fB p.people++spS++fB p.lift++spS++fB p.bay)
abbrev wLeave:ByteArray:=⟨#[108,101,97,118,101]⟩
abbrev wPlant:ByteArray:=⟨#[112,108,97,110,116]⟩
abbrev wCars:ByteArray:=⟨#[99,97,114,115]⟩
abbrev wStays:ByteArray:=⟨#[115,116,97,121,115]⟩
abbrev wJobs:ByteArray:=⟨#[106,111,98,115]⟩
abbrev wArrive:ByteArray:=⟨#[97,114,114,105,118,101]⟩
abbrev wCome:ByteArray:=⟨#[99,111,109,101]⟩
abbrev wGo:ByteArray:=⟨#[103,111]⟩
abbrev wStall:ByteArray:=⟨#[115,116,97,108,108]⟩
abbrev wWant:ByteArray:=⟨#[119,97,110,116]⟩
abbrev wTick:ByteArray:=⟨#[116,105,99,107]⟩
abbrev wRestart:ByteArray:=⟨#[114,101,115,116,97,114,116]⟩
abbrev wTower:ByteArray:=⟨#[116,111,119,101,114]⟩
abbrev wPark:ByteArray:=⟨#[112,97,114,107]⟩
abbrev wArm:ByteArray:=⟨#[97,114,109]⟩
def xJ (h:House) (w:ByteArray):House×Option ByteArray:=
 if w=wLeave then ({ h with p:=h.p.leave.1 },some (toldB h.p.leave.2.1 h.p.leave.2.2))
 else if w=wPlant then (h,some (plantB h.p))
 else if w=wCars then (h,some (sJ (jI h.p (4 * h.sizes.length))))
 else if w=wStays then (h,some (sJ (h.b.stays.map aK)))
 else if w=wJobs then (h,some (sJ (h.b.jobs.map lM)))
 else (h,none)
def oneB (h:House) (w:ByteArray) (n:Int):House×Option ByteArray:=
 if w=wArrive then ({ h with p:=(h.p.arrive n).1 },some (doneB (h.p.arrive n).2))
 else if w=wCome then ({ h with p:=(h.p.walk n).1 },some (doneB (h.p.walk n).2))
 else if w=wGo then ({ h with p:=(h.p.walk (-n)).1 },some (doneB (h.p.walk (-n)).2))
 else if w=wStall then ({ h with p:=(h.p.setStall n).1 },some (doneB (h.p.setStall n).2))
 else if w=wWant then ((h.want n).1,some (doneB (h.want n).2))
 else if w=wTick then (House.ticks (min n 200).toNat h,some okB)
 else if w=wRestart then ({ h with goals:=[] },some okB)
 else (h,none)
def gD:List Int->List dD
 | a :: b :: c :: r=>⟨a,b,c⟩ :: gD r
 | _=>[]
theorem sizesOf_len:∀ (m:Nat) (N:List Int),N.length=3 * m->(gD N).length=m
 | 0,N,h=>by
  have:N=[]:=List.length_eq_zero_iff.1 om;subst this;rfl
 | m+1,N,h=>by
  match N,h with
  | a :: b :: c :: r,h=>
   have:=sizesOf_len m r (by simp at h;omega);simp [gD,this]
theorem sizesOf_at:∀ (m:Nat) (N:List Int) (k:Nat),N.length=3 * m->k<m->∃ a b c,N[3 * k]? = some a/\N[3 * k+1]? = some b/\N[3 * k+2]? = some c/\(gD N)[k]? = some ⟨a,b,c⟩
 | 0,N,k,h,hk=>absurd hk om
 | m+1,N,k,h,hk=>by
  match N,h with
  | a :: b :: c :: r,h=>
   cases k with
   | zero=>exact ⟨a,b,c,rfl,rfl,rfl,rfl⟩
   | succ k=>
    obtain ⟨x,y,z,h1,h2,h3,h4⟩:=sizesOf_at m r k (by simp at h;omega) om;refine ⟨x,y,z,?_,?_,?_,?_⟩
    ·rw [show 3 * (k+1)=3 * k+1+1+1 by omega];simpa using h1
    ·rw [show 3 * (k+1)+1=3 * k+1+1+1+1 by omega];simpa using h2
    ·rw [show 3 * (k+1)+2=3 * k+2+1+1+1 by omega];simpa using h3
    ·simpa [gD] using h4
def vI (l:List ByteArray):Option (List Int):=l.mapM iH
def vM (o:Option House) (line:ByteArray):Option House×ByteArray:=
 if 60<line.size then (o,zG 4) else
 match bD line with
 | []=>(o,zG 4)
 | w :: r=>
  match vI r with
  | none=>(o,zG 4)
  | some n=>
   if w=wTower/\0<n.length/\n.length % 3=0 then
    (if jB (gD n)=0 then (some (House.new (gD n)),okB) else (o,zG (jB (gD n))))
   else match o with
    | none=>(none,zG 7)
    | some h=>
     match n with
     | []=>(some (xJ h w).1,(xJ h w).2.getD (zG 4))
     | [x]=>(some (oneB h w x).1,(oneB h w x).2.getD (zG 4))
     | [a,b,c,d]=>if w=wPark then (some (h.park ⟨a,⟨b,c,d⟩⟩).1,toldB (h.park ⟨a,⟨b,c,d⟩⟩).2.1 (h.park ⟨a,⟨b,c,d⟩⟩).2.2) else (some h,zG 4)
     | _=>(some h,zG 4)
def xD (o:Option House):List ByteArray->Option House×List ByteArray
 | []=>(o,[])
 | l :: r=>((xD (vM o l).1 r).1,(vM o l).2 :: (xD (vM o l).1 r).2)
theorem dO (o:Option House) (l:List ByteArray) (x:ByteArray):xD o (l++[x])=((vM (xD o l).1 x).1,(xD o l).2++[(vM (xD o l).1 x).2]):=by
 induction l generalizing o with
 | nil=>rfl
 | cons y r ih=>simp only [List.cons_append,xD,ih]
end Go.Proofs.YtplomeacjbkgnabGreatDoor
namespace Go.Proofs
open Go.Shelf
def Tryz.lays156_ren:Go.Shelf.Ren:=⟨fun|156=>220|165=>234|166=>235|169=>236|240=>243|241=>244|276=>245|277=>246|n=>n,fun|31=>77|9=>9|3=>3|4=>4|0=>0|20=>20|72=>274|76=>60|70=>272|37=>155|75=>29|127=>278|164=>289|5=>5|80=>233|n=>n,fun|n=>n⟩
theorem Tryz.lays156:Go.Proofs.Lays.n156 Tryz.prog Tryz.lays156_ren:={
 mixed:=by kernel_rfl
 f156:=Tryz.func220.trans (congrArg some (by kernel_rfl))
 f165:=Tryz.func234.trans (congrArg some (by kernel_rfl))
 f166:=Tryz.func235.trans (congrArg some (by kernel_rfl))
 f169:=Tryz.func236.trans (congrArg some (by kernel_rfl))
 f240:=Tryz.func243.trans (congrArg some (by kernel_rfl))
 f241:=Tryz.func244.trans (congrArg some (by kernel_rfl))
 f276:=Tryz.func245.trans (congrArg some (by kernel_rfl))
 f277:=Tryz.func246.trans (congrArg some (by kernel_rfl))
 t0:=Tryz.underlying0
 a0:=Tryz.isAgg0
 z0:=Tryz.sizeOf0
 v0:=Tryz.zeroValue0
 t3:=Tryz.underlying3
 a3:=Tryz.isAgg3
 z3:=Tryz.sizeOf3
 v3:=Tryz.zeroValue3
 t4:=Tryz.underlying4
 a4:=Tryz.isAgg4
 z4:=Tryz.sizeOf4
 v4:=Tryz.zeroValue4
 t9:=Tryz.underlying9
 a9:=Tryz.isAgg9
 z9:=Tryz.sizeOf9
 v9:=Tryz.zeroValue9
 t20:=Tryz.underlying20
 a20:=Tryz.isAgg20
 z20:=Tryz.sizeOf20
 v20:=Tryz.zeroValue20
 t31:=Tryz.underlying77
 a31:=Tryz.isAgg77
 z31:=Tryz.sizeOf77
 v31:=Tryz.zeroValue77
 t37:=Tryz.underlying155
 a37:=Tryz.isAgg155
 z37:=Tryz.sizeOf155
 v37:=Tryz.zeroValue155
 t70:=Tryz.underlying272
 a70:=Tryz.isAgg272
 z70:=Tryz.sizeOf272
 v70:=Tryz.zeroValue272
 t72:=Tryz.underlying274
 a72:=Tryz.isAgg274
 z72:=Tryz.sizeOf274
 v72:=Tryz.zeroValue274
 t75:=Tryz.underlying29
 a75:=Tryz.isAgg29
 z75:=Tryz.sizeOf29
 v75:=Tryz.zeroValue29
 t76:=Tryz.underlying60
 a76:=Tryz.isAgg60
 z76:=Tryz.sizeOf60
 v76:=Tryz.zeroValue60
 t127:=Tryz.underlying278
 a127:=Tryz.isAgg278
 z127:=Tryz.sizeOf278
 v127:=Tryz.zeroValue278
 t164:=Tryz.underlying289
 a164:=Tryz.isAgg289
 z164:=Tryz.sizeOf289
 v164:=Tryz.zeroValue289 }
end Go.Proofs
namespace Go.Proofs.YtplomeacjbkgnabGreatDoor
open Go.RowKit Tryz Ch
abbrev sensedA (s:uM):Value:=.agg #[vi s.height,vi s.ext,.bool s.door,vi s.people,vi s.lift,vi s.bay,.bool s.here,.bool s.toLeft,.bool s.toRight]
theorem w64_wrap (n:Int):w64 n=wrap64 n:=by
 unfold w64 wrap64;simp
theorem may_any (c:Int) (s:uM) (w:World):
  Calls prog 67 #[.int .u8 c,sensedA s] w fun e w'=>e = .returned (.bool (may c s))/\Ext w w':=by
 obtain ⟨height,ext,door,people,lift,bay,here,tl,tr⟩:=s;go_enter func67,ntmps67;go_wp2
 all_goals
  go_ret;go_light;refine ⟨?_,eX⟩
  first|(simp_all [may,iJ,level,shut,w64_wrap];done)|(refine congrArg (fun b=>Ending.returned (.bool b)) ?_;simp only [beq_iff_eq] at *;subst_vars;simp [may,iJ,level,w64_wrap];grind)
theorem rmay_any (c:Int) (s:uM) (w:World) (h0:-9223372036854775808<=s.ext) (h1:s.ext<=9223372036854775807):
  Calls prog 70 #[.int .u8 c,sensedA s] w fun e w'=>e = .returned (.bool (may c s))/\Ext w w':=by
 obtain ⟨height,ext,door,people,lift,bay,here,tl,tr⟩:=s;have H0:=aA h0;have H1:=aA h1;clear h0 h1;go_enter func70,ntmps70;go_wp2
 all_goals
  go_ret;go_light;refine ⟨?_,eX⟩;refine congrArg (fun b=>Ending.returned (.bool b)) ?_
  first|(simp_all [may,iJ,level,shut];done)|(simp only [beq_iff_eq] at *;subst_vars;have h0:=H0.out;have h1:=H1.out;clear H0 H1;first|(simp [may,iJ,level,w64];done)|(simp [may,iJ,level,w64];grind))
theorem may_f (c h x p l b:Int) (d e f g:Bool) (w:World):
  Calls prog 67 #[.int .u8 c,.agg #[vi h,vi x,.bool d,vi p,vi l,vi b,.bool e,.bool f,.bool g]] w fun e' w'=>e' = .returned (.bool (may c ⟨h,x,d,p,l,b,e,f,g⟩))/\Ext w w':=may_any c ⟨h,x,d,p,l,b,e,f,g⟩ w
theorem rmay_f (c h x p l b:Int) (d e f g:Bool) (w:World) (h0:-9223372036854775808<=x) (h1:x<=9223372036854775807):
  Calls prog 70 #[.int .u8 c,.agg #[vi h,vi x,.bool d,vi p,vi l,vi b,.bool e,.bool f,.bool g]] w fun e' w'=>e' = .returned (.bool (may c ⟨h,x,d,p,l,b,e,f,g⟩))/\Ext w w':=rmay_any c ⟨h,x,d,p,l,b,e,f,g⟩ w h0 h1
abbrev nextV (x:Int×Bool):Value:=.tuple #[.int .u8 x.1,.bool x.2]
theorem next_any (g:aG) (s:uM) (w:World):
  Calls prog 66 #[goalA g,sensedA s] w fun e w'=>e = .returned (nextV (pG g s))/\Ext w w':=by
 obtain ⟨height,ext,door,people,lift,bay,here,tl,tr⟩:=s;obtain ⟨kind,n⟩:=g;go_enter func66,ntmps66;go_wp2
 all_goals
  go_ret2
  refine ⟨?_,eX⟩
  first|(simp_all [pG,toward,once];done)|(simp_all [pG,toward,once];omega)|(simp only [beq_iff_eq] at *;subst_vars;simp [pG,toward,once];grind)
theorem rnext_any (g:aG) (s:uM) (w:World):
  Calls prog 69 #[goalA g,sensedA s] w fun e w'=>e = .returned (nextV (pG g s))/\Ext w w':=by
 obtain ⟨height,ext,door,people,lift,bay,here,tl,tr⟩:=s;obtain ⟨kind,n⟩:=g;go_enter func69,ntmps69;go_wp2
 all_goals
  go_ret2
  refine ⟨?_,eX⟩
  first|(simp_all [pG,toward,once];done)|(simp_all [pG,toward,once];omega)|(simp only [beq_iff_eq] at *;subst_vars;simp [pG,toward,once];grind)
theorem next_f (k n h x p l b:Int) (d e f g:Bool) (w:World):
  Calls prog 66 #[.agg #[vi k,vi n],.agg #[vi h,vi x,.bool d,vi p,vi l,vi b,.bool e,.bool f,.bool g]] w fun e' w'=>e' = .returned (nextV (pG ⟨k,n⟩ ⟨h,x,d,p,l,b,e,f,g⟩))/\Ext w w':=next_any ⟨k,n⟩ ⟨h,x,d,p,l,b,e,f,g⟩ w
theorem rnext_f (k n h x p l b:Int) (d e f g:Bool) (w:World):
  Calls prog 69 #[.agg #[vi k,vi n],.agg #[vi h,vi x,.bool d,vi p,vi l,vi b,.bool e,.bool f,.bool g]] w fun e' w'=>e' = .returned (nextV (pG ⟨k,n⟩ ⟨h,x,d,p,l,b,e,f,g⟩))/\Ext w w':=rnext_any ⟨k,n⟩ ⟨h,x,d,p,l,b,e,f,g⟩ w
variable {T TT:TypeId}
end Go.Proofs.YtplomeacjbkgnabGreatDoor
namespace Ch
def staysKept (j:Job) (gone:Bool) (s:sA):Bool:=!((j.fetch || gone)&&s.ticket==j.ticket)
def jobsKept (j:Job) (gone:Bool) (x:Job):Bool:=!(x==j || ((j.fetch || gone)&&x.ticket==j.ticket))
theorem done_stays (b:gB) (j:Job) (gone:Bool):(yC b j gone).stays=b.stays.filter (staysKept j gone):=by
 unfold yC staysKept;cases (j.fetch || gone)
 ·simp only [Bool.false_and,Bool.not_false,Bool.false_eq_true,if_false]
  exact (List.filter_eq_self.2 (fun _ _=>rfl)).symm
 ·simp
theorem done_jobs (b:gB) (j:Job) (gone:Bool):(yC b j gone).jobs=b.jobs.filter (jobsKept j gone):=rfl
end Ch
namespace Go.Proofs.YtplomeacjbkgnabGreatDoor
open Go.RowKit Tryz Ch
theorem filter_yes {α:Type} {l:List α} {j:Nat} {v:α} (q:α->Bool) (h:l[j]? = some v) (hq:q v=true):(l.take (j+1)).filter q=(l.take j).filter q++[v]:=by rw [bH q h,if_pos hq]
theorem filter_no {α:Type} {l:List α} {j:Nat} {v:α} (q:α->Bool) (h:l[j]? = some v) (hq:q v=false):(l.take (j+1)).filter q=(l.take j).filter q:=by rw [bH q h,if_neg (by simp [hq]),List.append_nil]
theorem rdone_filters (last jt:Int) (jf gone:Bool) (a1:Option Addr) (m1 c1:Nat) (a2:Option Addr) (m2 c2:Nat) (l:List sA) (js:List Job) (w:World)
  (h:Sl w 8 iA l a1 m1 c1) (h2:Sl w 2 jA js a2 m2 c2) (hm1:m1<=100) (hm2:m2<=100):
  Calls prog 130 #[lC last a1 m1 c1 a2 m2 c2,.agg #[vi jt,.bool jf],.bool gone] w (fH w ⟨last,l.filter (fun s:sA=>!((jf || gone)&&s.ticket==jt)),js.filter (fun x:Job=>!bJ jt jf (jf || gone) x)⟩ (fun b=>b)):=by
 obtain ⟨i0,hi0,hz0,hz1,hz2⟩:=info_parts infoStay;obtain ⟨j0,hj0,hy0,hy1,hy2⟩:=info_parts kO;have b1:=h.bound;have b2:=h2.bound;have HF:=aA h;have HJ:=aA h2;have E1:=aA h.len;have E2:=aA h2.len;clear h h2;go_enter func130,ntmps130
 go_upto_region 2 with fail
 generalize hO:w.heap.size+1+1+1=O
 have hO3:w.heap.size+2<O:=om
 generalize hW:World.alloc _ _=w1;have k0:cI w1 w.heap.size 0 last:=cQ hW;have k1:cV w1 w.heap.size 1 (.slice a1 m1 c1):=cQ hW;have k2:cV w1 w.heap.size 2 (.slice a2 m2 c2):=cQ hW;have q0:cI w1 (w.heap.size+1) 0 jt:=cQ hW;have q1:cV w1 (w.heap.size+1) 1 (.bool jf):=cQ hW
 have kr:eB w1 (w.heap.size+1+1) (vi 0) (.slice none 0 0) (.slice none 0 0):=by
  rw [<-hW];exact ⟨by simp [go_sem],by simp [go_sem],by simp [go_sem],by simp [go_sem]⟩
 have ko:eB w1 O (vi last) (.slice none 0 0) (.slice none 0 0):=by
  rw [<-hW,<-hO];exact ⟨by simp [go_sem],by simp [go_sem],by simp [go_sem],by simp [go_sem]⟩
 have hx:Ext w w1:=xQ hW;have HX:=aA hx;have hOw:=ko.lt;have K0:=aA k0;have K1:=aA k1;have K2:=aA k2;have Q0:=aA q0;have Q1:=aA q1;have KR:=aA kr
 have G0:Hid (eH w1 O last [] [] (.slice none 0 0) (.slice none 0 0) w1):=⟨ko,fA.refl _ _,World.ownsRow_nil _ _ _ _,World.ownsRow_nil _ _ _ _,by intro k hk;cases hk⟩
 clear hW hx hO k0 k1 k2 q0 q1 kr ko;go_wp2
 go_loopw [8] (fun i wr=>∃ (k:Nat) (dl:List sA) (g1:Option Addr) (d1:Nat),k<=m1/\i = .int .i64 k/\Hid (dl=(l.take k).filter (fun s:sA=>!((jf || gone)&&s.ticket==jt)))/\eH w1 O last dl [] (.slice g1 dl.length d1) (.slice none 0 0) wr) (fun i _=>m1 - (intOf i).toNat)
 case atStart=>exact ⟨0,[],none,0,om,rfl,by simp [Hid],G0.out⟩
 case round=>
  obtain ⟨k,dl,g1,d1,hk,rfl,HL,hgat⟩:=hrel;have GAT:=aA hgat
  have hdl:dl.length<=100:=by rw [HL.out];have:=List.length_filter_le (fun s:sA=>!((jf || gone)&&s.ticket==jt)) (l.take k);have:=List.length_take_le k l;omega
  clear hgat;have HXW:=aA (GAT.out.kept.widen HX.out om);obtain ⟨o0,o1,o2,of⟩:=GAT.out.cell;have zo:=cA o0;have kb0:=GAT.out.kept.cell K0.out om;have kb1:=GAT.out.kept.cell K1.out om;have kb2:=GAT.out.kept.cell K2.out om;have q0:=GAT.out.kept.cell Q0.out om;have q1:=GAT.out.kept.cell Q1.out om;have zb:=cA kb0;have zq:=cA q0
  by_cases hlt:k<m1
  ·obtain ⟨b,q,s,rfl,hs,ds⟩:=(Sl.below HF.out HXW.out.below).get hlt
   have ds:=at8 ds;have hq:=cA ds.1;obtain ⟨t,⟨ci,⟨cx,cy,cz⟩⟩,⟨h0,h1,h2⟩⟩:=s;dsimp only at ds
   have hkj:(k:Int)<(m1:Int):=om
   obtain ⟨B,HB⟩:∃ B,Hid ((!((jf || gone)&&t==jt))=B):=⟨_,rfl⟩
   replace hs:=aA hs
   go_upto_region 5 with fail
   go_cut [37] (fun c wx=>c = .bool B/\Ext wr wx)
   case first=>
    have hg:=HB.out;cases jf
    ·cases gone
     ·(refine qF ?_;rintro _ ⟨oq,nq,rfl⟩)
      go_wp2_with fail;go_meet;exact ⟨congrArg Value.bool (by rw [<-hg];simp),eX⟩
     cases ht:(t==jt)
     ·(refine qF ?_;rintro _ ⟨oq,nq,rfl⟩)
      go_wp2_with fail;go_meet;exact ⟨congrArg Value.bool (by rw [<-hg];rfl),eX⟩
     (refine qF ?_;rintro _ ⟨oq,nq,rfl⟩)
     go_wp2_with fail;go_meet;exact ⟨congrArg Value.bool (by rw [<-hg];rfl),eX⟩
    cases ht:(t==jt)
    ·(refine qF ?_;rintro _ ⟨oq,nq,rfl⟩)
     go_wp2_with fail;go_meet;exact ⟨congrArg Value.bool (by rw [<-hg];rfl),eX⟩
    (refine qF ?_;rintro _ ⟨oq,nq,rfl⟩)
    go_wp2_with fail;go_meet;exact ⟨congrArg Value.bool (by rw [<-hg];rfl),eX⟩
   case rest=>
    obtain ⟨rfl,o5,n5,rfl⟩:=hcut;replace hs:=hs.out;cases B
    ·have HNX:Hid ((l.take (k+1)).filter (fun s:sA=>!((jf || gone)&&s.ticket==jt))=dl):=by unfold Hid;rw [filter_no (fun s:sA=>!((jf || gone)&&s.ticket==jt)) hs HB.out,HL.out]
     clear hs;go_wp2;go_roundw
     case rel=>first|exact ⟨k+1,dl,g1,d1,om,by go_num,HNX.out.symm,GAT.out.ext eX⟩|(repeat apply Exists.intro;refine ⟨?_,rfl⟩;exact ⟨k+1,dl,g1,d1,om,by go_num,HNX.out.symm,GAT.out.ext eX⟩)
     case measure=>simp [intOf];omega
    ·have HNX:Hid ((l.take (k+1)).filter (fun s:sA=>!((jf || gone)&&s.ticket==jt))=dl++[⟨t,⟨ci,⟨cx,cy,cz⟩⟩,⟨h0,h1,h2⟩⟩]):=by unfold Hid;rw [filter_yes (fun s:sA=>!((jf || gone)&&s.ticket==jt)) hs HB.out,HL.out]
     clear hs
     go_upto_region 6 with fail
     generalize hW:World.plus _ _ _=wp;have hxp:Ext wr wp:=xQ hW;have GP:=GAT.out.ext hxp;obtain ⟨p0,p1,p2,pf⟩:=GP.cell;have zp:=cA p0;have kp1:=eA hxp kb1;have e1':=eA hxp ds.1;have e2':=eA hxp ds.2.1;have e3':=eA hxp ds.2.2.1;have e4':=eA hxp ds.2.2.2.1;have e5':=eA hxp ds.2.2.2.2.1;have e6':=eA hxp ds.2.2.2.2.2.1;have e7':=eA hxp ds.2.2.2.2.2.2.1;have e8':=eA hxp ds.2.2.2.2.2.2.2;have zq':=cA e1';have zb':=cA kp1;have HGP:=aA GP;have hsz:=GP.kept.size;clear hW hxp GP o0 o1 o2 of zo kb0 kb1 kb2 q0 q1 zb zq ds hq
     go_region_law (first|(refine step_append_lies _ rfl _ _ _ rfl w1.heap.size 141 i0 _ 8 64 underlying46 hi0 hz0 hz1 hz2 rfl dc (.slice g1 dl.length d1) dl.length (dl.flatMap iA) rfl (mI (iB HGP.out.stays _)) ⟨wp.heap.size,0,none⟩ 1 1 [vi t,vi ci,vi cx,vi cy,vi cz,vi h0,vi h1,vi h2] rfl rfl (lK wp #[vi t,vi ci,vi cx,vi cy,vi cz,vi h0,vi h1,vi h2] 141) (by simp [Value.oneCell']) dc (by unfold maxLen;omega) om so _ rfl ?_;intro gg cap w5 hown5 hgrow hat hlt;obtain ⟨n0,n1,n2,nf⟩:=(HGP.out.cell.ext (w':=(wp.alloc (.cells #[vi t,vi ci,vi cx,vi cy,vi cz,vi h0,vi h1,vi h2] 141)).drew) eX).grown hgrow (HGP.out.far1 hOw);have zn:=cA n0))
     all_goals
      have HG2:=aA (HGP.out.addStay ⟨t,⟨ci,⟨cx,cy,cz⟩⟩,⟨h0,h1,h2⟩⟩ (A:=(wp.alloc (.cells #[vi t,vi ci,vi cx,vi cy,vi cz,vi h0,vi h1,vi h2] 141)).drew) eX hOw hown5 hgrow hat);clear hown5 hgrow hat;go_wp2;go_roundw
      case rel=>first|exact ⟨k+1,dl++[(⟨t,⟨ci,⟨cx,cy,cz⟩⟩,⟨h0,h1,h2⟩⟩:sA)],some ⟨gg,0,none⟩,cap,om,by go_num,HNX.out.symm,by rw [List.length_append];exact HG2.out⟩|(repeat apply Exists.intro;refine ⟨?_,rfl⟩;exact ⟨k+1,dl++[(⟨t,⟨ci,⟨cx,cy,cz⟩⟩,⟨h0,h1,h2⟩⟩:sA)],some ⟨gg,0,none⟩,cap,om,by go_num,HNX.out.symm,by rw [List.length_append];exact HG2.out⟩)
      case measure=>simp [intOf];omega
  ·have hkm:k=m1:=om
   subst hkm
   have HLL:Hid (dl=l.filter (fun s:sA=>!((jf || gone)&&s.ticket==jt))):=by unfold Hid;rw [HL.out,List.take_of_length_le (by have:=E1.out;omega)]
   go_wp2;have HG1:=GAT;clear GAT HXW o0 o1 o2 of zo kb0 kb1 kb2 q0 q1 zb zq
   go_loopw [9] (fun i wr=>∃ (n:Nat) (dj:List Job) (g2:Option Addr) (d2:Nat),n<=m2/\i = .int .i64 n/\Hid (dj=(js.take n).filter (fun x:Job=>!bJ jt jf (jf || gone) x))/\eH w1 O last dl dj (.slice g1 dl.length d1) (.slice g2 dj.length d2) wr) (fun i _=>m2 - (intOf i).toNat)
   case atStart=>exact ⟨0,[],none,0,om,rfl,by simp [Hid],HG1.out⟩
   case round=>
    obtain ⟨n,dj,g2,d2,hn,rfl,HL,hgat⟩:=hrel;have GAT:=aA hgat
    have hdj:dj.length<=100:=by rw [HL.out];have:=List.length_filter_le (fun x:Job=>!bJ jt jf (jf || gone) x) (js.take n);have:=List.length_take_le n js;omega
    clear hgat;have HXW:=aA (GAT.out.kept.widen HX.out om);obtain ⟨o0,o1,o2,of⟩:=GAT.out.cell;have zo:=cA o0;have kb0:=GAT.out.kept.cell K0.out om;have kb1:=GAT.out.kept.cell K1.out om;have kb2:=GAT.out.kept.cell K2.out om;have q0:=GAT.out.kept.cell Q0.out om;have q1:=GAT.out.kept.cell Q1.out om;have zb:=cA kb0;have zq:=cA q0
    by_cases hlt:n<m2
    ·obtain ⟨b,q,s,rfl,hs,ds⟩:=(Sl.below HJ.out HXW.out.below).get hlt
     have ds:=at2 ds;have hq:=cA ds.1;obtain ⟨t,f⟩:=s;dsimp only at ds
     have hkj:(n:Int)<(m2:Int):=om
     obtain ⟨B,HB⟩:∃ B,Hid ((!bJ jt jf (jf || gone) ⟨t,f⟩)=B):=⟨_,rfl⟩
     replace hs:=aA hs
     go_upto_region 11 with fail
     generalize hW:World.alloc _ _=wp;generalize hP:wr.heap.size=PP at *;have hxp:Ext wr wp:=xQ hW;have x0:cI wp PP 0 t:=cR hW hP;have x1:cV wp PP 1 (.bool f):=cR hW hP;have u0:=gA hxp q0;have u1:=gA hxp q1;have zx:=cA x0;have zu:=cA u0;have HXP:=aA hxp;clear hW hP
     go_cut [77] (fun c wx=>c = .bool B/\wx=wp)
     case first=>
      by_cases hej:(⟨t,f⟩:Job)=⟨jt,jf⟩
      ·have hq1:∀ w,(Go.binOp .neq 143 (.agg #[vi t,.bool f]) (.agg #[vi jt,.bool jf])).run prog w = .ok (.bool false) w:=fun w=>by rw [neqStruct w (eqJob w 9998 ⟨t,f⟩ ⟨jt,jf⟩)];simp [hej]
       have hg:true = !B:=by rw [<-HB.out];unfold bJ;rw [decide_eq_true hej];rfl
       clear hej;go_wp2_with fail;go_meet;exact ⟨congrArg Value.bool (by simpa using hg),rfl⟩
      have hq1:∀ w,(Go.binOp .neq 143 (.agg #[vi t,.bool f]) (.agg #[vi jt,.bool jf])).run prog w = .ok (.bool true) w:=fun w=>by rw [neqStruct w (eqJob w 9998 ⟨t,f⟩ ⟨jt,jf⟩)];simp [hej]
      have hg:(!((jf || gone)&&t==jt))=B:=by rw [<-HB.out];unfold bJ;rw [decide_eq_false hej];rfl
      clear hej;cases jf
      ·cases gone
       ·go_wp2_with fail
        go_meet;exact ⟨congrArg Value.bool (by rw [<-hg];simp),rfl⟩
       cases ht:(t==jt)
       ·go_wp2_with fail
        go_meet;exact ⟨congrArg Value.bool (by rw [<-hg];simp [ht]),rfl⟩
       go_wp2_with fail;go_meet;exact ⟨congrArg Value.bool (by rw [<-hg];simp [ht]),rfl⟩
      cases ht:(t==jt)
      ·go_wp2_with fail
       go_meet;exact ⟨congrArg Value.bool (by rw [<-hg];simp [ht]),rfl⟩
      go_wp2_with fail;go_meet;exact ⟨congrArg Value.bool (by rw [<-hg];simp [ht]),rfl⟩
     case rest=>
      obtain ⟨rfl,hwc⟩:=hcut;have hwc:=hwc.symm;subst hwc;replace hs:=hs.out;cases B
      ·have HNX:Hid ((js.take (n+1)).filter (fun x:Job=>!bJ jt jf (jf || gone) x)=dj):=by unfold Hid;rw [filter_no (fun x:Job=>!bJ jt jf (jf || gone) x) hs HB.out,HL.out]
       clear hs;go_wp2;go_roundw
       case rel=>first|exact ⟨n+1,dj,g2,d2,om,by go_num,HNX.out.symm,GAT.out.ext (HXP.out.trans eX)⟩|(repeat apply Exists.intro;refine ⟨?_,rfl⟩;exact ⟨n+1,dj,g2,d2,om,by go_num,HNX.out.symm,GAT.out.ext (HXP.out.trans eX)⟩)
       case measure=>simp [intOf];omega
      ·have HNX:Hid ((js.take (n+1)).filter (fun x:Job=>!bJ jt jf (jf || gone) x)=dj++[⟨t,f⟩]):=by unfold Hid;rw [filter_yes (fun x:Job=>!bJ jt jf (jf || gone) x) hs HB.out,HL.out]
       clear hs
       go_upto_region 12 with fail
       have hxp:=HXP.out;have GP:=GAT.out.ext hxp;obtain ⟨p0,p1,p2,pf⟩:=GP.cell;have zp:=cA p0;have HGP:=aA GP;have hsz:=GP.kept.size;clear hxp GP o0 o1 o2 of zo kb0 kb1 kb2 q0 q1 zb zq ds hq;go_wp2_with (at_builtin;refine wpList_append_lies _ rfl _ _ _ rfl w1.heap.size 143 j0 _ 2 16 underlying47 hj0 hy0 hy1 hy2 rfl dc (.slice g2 dj.length d2) dj.length (dj.flatMap jA) rfl (iB HGP.out.jobs _) ⟨wp.heap.size,0,none⟩ 1 1 [vi t,.bool f] rfl rfl (World.news_of_block (pA _ _ _ sp)) (by simp [Value.oneCell']) dc (by unfold maxLen;omega) om so _ rfl ?_;intro gg cap w5 hown5 hgrow hat hlt;obtain ⟨n0,n1,n2,nf⟩:=(HGP.out.cell.ext (w':=(wp.alloc (.cells #[vi t,.bool f] 143))) eX).grown hgrow (HGP.out.far2 hOw);have zn:=cA n0;have HG2:=aA (HGP.out.addJob ⟨t,f⟩ (A:=(wp.alloc (.cells #[vi t,.bool f] 143))) eX hOw hown5 hgrow hat);clear hown5 hgrow hat);go_roundw
       case rel=>first|exact ⟨n+1,dj++[(⟨t,f⟩:Job)],some ⟨gg,0,none⟩,cap,om,by go_num,HNX.out.symm,by rw [List.length_append];exact HG2.out⟩|(repeat apply Exists.intro;refine ⟨?_,rfl⟩;exact ⟨n+1,dj++[(⟨t,f⟩:Job)],some ⟨gg,0,none⟩,cap,om,by go_num,HNX.out.symm,by rw [List.length_append];exact HG2.out⟩)
       case measure=>simp [intOf];omega
    ·have hnm:n=m2:=om
     subst hnm
     have HLJ:Hid (dj=js.filter (fun x:Job=>!bJ jt jf (jf || gone) x)):=by unfold Hid;rw [HL.out,List.take_of_length_le (by have:=E2.out;omega)]
     have kr:=KR.out.same (GAT.out.kept.other KR.out.lt om);obtain ⟨kr0,kr1,kr2,krf⟩:=kr;have zr:=cA kr0;have kq:=eB.set ⟨kr0,kr1,kr2,krf⟩ (vi last) (.slice g1 dl.length d1) (.slice g2 dj.length d2);obtain ⟨p0,p1,p2,pf⟩:=kq;go_wp2;refine bodyPost_ret (v:=.agg #[vi last,.slice g1 dl.length d1,.slice g2 dj.length d2]) (by simp [results,results130,go_sem,p0,p1,p2]) rfl ?_;unfold fH;dsimp only;rw [<-HLL.out,<-HLJ.out];have zx:=HX.out.below.size;refine ⟨_,_,rfl,⟨?_,?_,GAT.out.apart⟩,?_⟩
     ·refine mA (lA (lA (lA GAT.out.stays _ ?_) _ ?_) _ ?_) zx <;> (intro e;have:=qA GAT.out.stays _ e;(try dsimp only at this);omega)
     ·refine mA (lA (lA (lA GAT.out.jobs _ ?_) _ ?_) _ ?_) zx <;> (intro e;have:=qA GAT.out.jobs _ e;(try dsimp only at this);omega)
     ·have hxh:=HXW.out
      exact Ext.setCell (Ext.setCell (Ext.setCell hxh (by dsimp only;omega) _) (by dsimp only;omega) _) (by dsimp only;omega) _
theorem rdone_any (last jt:Int) (jf gone:Bool) (a1:Option Addr) (m1 c1:Nat) (a2:Option Addr) (m2 c2:Nat) (l:List sA) (js:List Job) (w:World)
  (h:Sl w 8 iA l a1 m1 c1) (h2:Sl w 2 jA js a2 m2 c2) (hm1:m1<=100) (hm2:m2<=100):
  Calls prog 130 #[lC last a1 m1 c1 a2 m2 c2,.agg #[vi jt,.bool jf],.bool gone] w (fH w (yC ⟨last,l,js⟩ ⟨jt,jf⟩ gone) (fun b=>b)):=by
 have e:yC ⟨last,l,js⟩ ⟨jt,jf⟩ gone=⟨last,l.filter (fun s=>!((jf || gone)&&s.ticket==jt)),js.filter (fun x=>!bJ jt jf (jf || gone) x)⟩:=by
  have h1:=done_stays ⟨last,l,js⟩ ⟨jt,jf⟩ gone;have h2:=done_jobs ⟨last,l,js⟩ ⟨jt,jf⟩ gone;have h3:=jobOver_kept ⟨jt,jf⟩ gone;dsimp only at h3;rw [h3,show yC ⟨last,l,js⟩ ⟨jt,jf⟩ gone=⟨last,(yC ⟨last,l,js⟩ ⟨jt,jf⟩ gone).stays,(yC ⟨last,l,js⟩ ⟨jt,jf⟩ gone).jobs⟩ from rfl,h1,h2];rfl
 rw [e];exact rdone_filters last jt jf gone a1 m1 c1 a2 m2 c2 l js w h h2 hm1 hm2
theorem any_takeF {α:Type} {l:List α} {k:Nat} {x:α} (p:α->Bool) (h:l[k]? = some x):(l.take (k+1)).any p=((l.take k).any p || p x):=by
 rw [List.take_add_one,h,List.any_append];simp
theorem eO (F:Int) (x a b c:Int) (w:World) (hf:Hid (gC ⟨x,⟨a,b,c⟩⟩=F)):Calls prog 99 #[.agg #[vi x,vi a,vi b,vi c]] w fun e w'=>e = .returned (vi F)/\Ext w w':=by
 have:=rcarFault_f x a b c w;rw [hf.out] at this;exact this
