import Derived.Test.YtplomeacjbkgnabGreatDoorZ04
set_option linter.all false
set_option maxRecDepth 100000
set_option maxHeartbeats 16000000
namespace Ch
def gB.stay (b:gB) (t:Int):sA:=(b.find t).getD default
def sB (b:gB) (bay:Int):Option Job:=
 match b.jobs.find? (fun j=>!j.fetch&&(b.stay j.ticket).car.id==bay) with
 | some j=>some j
 | none=>b.jobs.head?
def bE (b:gB) (p:dA) (x:sA) (j:Job):Bool:=
 j.fetch&&(b.stay j.ticket).home.depth==1&&aH (b.stay j.ticket).home==x.home&&p.slots (b.stay j.ticket).home==(b.stay j.ticket).car.id
def pE (b:gB) (levels:Int) (p:dA):List aG:=
 match b.of p.lift with
 | none=>dF
 | some x=>
  match sB b p.bay with
  | some j=>
   if j.fetch&&j.ticket==x.ticket&&p.bay==0 then dF
   else if (x.home.depth==1&&p.slots (aH x.home) != 0) || bE b p x j then vN (wH levels)
   else vN x.home
  | none=>if x.home.depth==1&&p.slots (aH x.home) != 0 then vN (wH levels) else vN x.home
def qH (p:dA) (x:sA):List aG×Option Bool:=
 if p.slots x.home=x.car.id then ([],some false)
 else if p.bay=x.car.id then (aO,none)
 else if p.has x.car.id then ([],none) else ([],some true)
def tG (p:dA) (x:sA):List aG×Bool:=
 if p.bay=x.car.id\/p.has x.car.id=false then ([],true)
 else if p.bay≠0/\p.door=true then ([],false)
 else if p.bay≠0 then (rG,false)
 else if p.door=true then ([⟨5,0⟩],false)
 else match p.where_ x.car.id with
  | some y=>if y.depth=1/\p.slots (aH y)≠0 then (fetch (aH y),false) else (fetch y,false)
  | none=>([],false)
def gE (b:gB) (p:dA) (j:Job):List aG×Option gB:=
 if j.fetch then
  if (tG p (b.stay j.ticket)).2 then ([],some (yC b j false)) else ((tG p (b.stay j.ticket)).1,none)
 else
  match (qH p (b.stay j.ticket)).2 with
  | some g=>([],some (yC b j g))
  | none=>((qH p (b.stay j.ticket)).1,none)
def xA (b:gB) (levels:Int) (p:dA):List aG×Option gB:=
 if p.lift≠0 then (pE b levels p,none)
 else
  let j:=sB b p.bay
  if p.slots (wH levels)≠0/\¬ (∃ y∈j,∃ x∈b.of (p.slots (wH levels)),bE b p x y=true) then (fetch (wH levels),none)
  else match j with
   | some j=>gE b p j
   | none=>if p.door then ([],none) else (rG,none)
structure House where
 sizes:List dD
 p:dA
 b:gB
 goals:List aG
def House.n (h:House):Int:=h.sizes.length
def pF (p:dA):List aG->dA×List aG
 | []=>(p,[])
 | g :: r=>if (pG g p.sense).2 then pF p r else if may (pG g p.sense).1 p.sense then (p.step (pG g p.sense).1,g :: r) else (p,[])
def House.go (h:House) (l:List aG):House:={ h with p:=(pF h.p l).1,goals:=(pF h.p l).2 }
def House.tick (h:House):House:=
 if h.goals=[] then
  match xA h.b h.n h.p with
  | (_,some b)=>{ h with b:=b }
  | (l,none)=>h.go l
 else h.go h.goals
def House.park (h:House) (c:Car):House×Int×Int:=
 if h.p.bay≠c.id then (h,0,7)
 else match Ch.park h.b h.sizes c with
  | .error e=>(h,0,e)
  | .ok (b,n)=>({ h with b:=b },n,0)
def House.want (h:House) (t:Int):House×Int:=
 match Ch.want h.b t with
 | .error e=>(h,e)
 | .ok b=>({ h with b:=b },0)
def House.ticks:Nat->House->House
 | 0,h=>h
 | n+1,h=>House.ticks n h.tick
def House.new (sizes:List dD):House:=⟨sizes,dA.new sizes.length,⟨0,[],[]⟩,[]⟩
structure SafeL (p:dA):Prop where
 wf:p.WF
structure Core (n:Int) (b:gB) (p:dA):Prop where
 book:b.OK n
 safe:SafeL p
structure House.Inv' (h:House):Prop where
 lv:jB h.sizes=0
 core:Core h.n h.b h.p
 few:h.goals.length<=6
theorem cN {b:gB} {id:Int} {x:sA} (h:b.of id=some x):x∈b.stays/\x.car.id=id:=by
 unfold gB.of at h;exact ⟨List.mem_of_find?_eq_some h,by simpa using List.find?_some h⟩
theorem of_none {b:gB} {id:Int} (h:b.of id=none):∀ x∈b.stays,x.car.id≠id:=by
 unfold gB.of at h;rw [List.find?_eq_none] at h;intro x hx e;exact h x hx (by simpa using e)
theorem first_mem {b:gB} {bay:Int} {j:Job} (h:sB b bay=some j):j∈b.jobs/\(b.jobs.head? = some j\/(j.fetch=false/\(b.stay j.ticket).car.id=bay)):=by
 unfold sB at h
 split at h
 ·rename_i i hi
  cases h;have:=List.find?_some hi;simp at this;exact ⟨List.mem_of_find?_eq_some hi,Or.inr ⟨this.1,this.2⟩⟩
 ·exact ⟨List.mem_of_head? h,Or.inl h⟩
theorem jD {l:List dD} (h:jB l=0):1<=l.length/\l.length<=4:=by
 unfold jB at h
 split at h
 ·cases h
 ·omega
theorem drive_wf {p:dA} (hp:p.WF):∀ l,(pF p l).1.WF/\(pF p l).2.length<=l.length
 | []=>⟨hp,Nat.le_refl _⟩
 | g :: r=>by
  unfold pF
  split
  ·exact ⟨(drive_wf hp r).1,Nat.le_succ_of_le (drive_wf hp r).2⟩
  ·split
   ·exact ⟨hp.step _,Nat.le_refl _⟩
   ·exact ⟨hp,Nat.zero_le _⟩
theorem loaded_few (b:gB) (n:Int) (p:dA):(pE b n p).length<=6:=by
 unfold pE
 repeat' split
 all_goals first|exact Nat.le_refl 6|(simp [dF,vN,lD,yJ];done)|decide
theorem store_few (p:dA) (x:sA):(qH p x).1.length<=6:=by
 unfold qH
 repeat' split
 all_goals first|decide|(simp [aO,yJ];done)
theorem fetch_few (p:dA) (x:sA):(tG p x).1.length<=6:=by
 unfold tG
 repeat' split
 all_goals first|decide|(simp [rG,fetch,lD,yJ];done)
theorem job_few (b:gB) (p:dA) (j:Job):(gE b p j).1.length<=6:=by
 unfold gE
 repeat' split
 all_goals first|exact Nat.zero_le _|exact fetch_few _ _|exact store_few _ _
theorem turn_few (b:gB) (n:Int) (p:dA):(xA b n p).1.length<=6:=by
 unfold xA
 split
 ·exact loaded_few b n p
 ·dsimp only
  split
  ·simp [fetch,lD,yJ]
  ·split
   ·exact job_few b p _
   ·split <;> (first|decide|simp [rG,yJ])
theorem turn_book {n:Int} {b b':gB} {p:dA} {l:List aG} (h:Core n b p) (ht:xA b n p=(l,some b')):Core n b' p/\True:=by
 refine ⟨⟨?_,h.safe⟩,trivial⟩
 have hj:∀ j,(gE b p j).2=some b'->b'.OK n:=by
  intro j hj;unfold gE at hj
  repeat' split at hj
  all_goals first|(cases hj;exact done_ok h.book _ _)|cases hj
 unfold xA at ht
 split at ht
 ·cases ht
 ·dsimp only at ht
  split at ht
  ·cases ht
  ·split at ht
   ·exact hj _ (by rw [ht])
   ·split at ht <;> cases ht
theorem House.Inv'.new {sizes:List dD} (h:jB sizes=0):(House.new sizes).Inv':=by
 have hl:=jD h;refine ⟨h,⟨uF.1 ?_,⟨dA.WF.new om om⟩⟩,Nat.zero_le _⟩;simp [House.new,fC,sC,vD]
theorem House.Inv'.go {h:House} (hi:h.Inv') {l:List aG} (hl:l.length<=6):(h.go l).Inv':=
 ⟨hi.lv,⟨hi.core.book,⟨(drive_wf hi.core.safe.wf l).1⟩⟩,Nat.le_trans (drive_wf hi.core.safe.wf l).2 hl⟩
theorem House.Inv'.tick {h:House} (hi:h.Inv'):h.tick.Inv':=by
 unfold House.tick
 split
 ·cases ht:xA h.b h.n h.p with
  | mk l o=>
   cases o with
   | none=>exact hi.go (by have:=turn_few h.b h.n h.p;rw [ht] at this;exact this)
   | some b=>exact ⟨hi.lv,(turn_book hi.core ht).1,hi.few⟩
 ·exact hi.go hi.few
theorem House.Inv'.park {h:House} (hi:h.Inv') (c:Car):(h.park c).1.Inv':=by
 unfold House.park
 split
 ·exact hi
 ·have hlen:=jD hi.lv
  cases hp:Ch.park h.b h.sizes c with
  | error e=>exact hi
  | ok r=>
   obtain ⟨b,k⟩:=r;obtain ⟨x,k1,k2,k3,k4,k5,k6,k7,k8⟩:=park_ok (x:=b) (k:=k) hi.core.book hlen.2 hp;exact ⟨hi.lv,⟨k8,hi.core.safe⟩,hi.few⟩
theorem House.Inv'.want {h:House} (hi:h.Inv') (t:Int):(h.want t).1.Inv':=by
 unfold House.want
 cases hw:Ch.want h.b t with
 | error e=>exact hi
 | ok b=>exact ⟨hi.lv,⟨(want_ok hi.core.book hw).2,hi.core.safe⟩,hi.few⟩
theorem House.Inv'.nil {h:House} (hi:h.Inv'):({ h with goals:=[] }:House).Inv':=⟨hi.lv,hi.core,Nat.zero_le _⟩
theorem House.Inv'.ticks {h:House} (hi:h.Inv') (n:Nat):(House.ticks n h).Inv':=by
 induction n generalizing h with
 | zero=>exact hi
 | succ n ih=>exact ih hi.tick
theorem House.Inv'.plant {h:House} (hi:h.Inv') {p:dA} (hp:p.WF):({ h with p:=p }:House).Inv':=⟨hi.lv,⟨hi.core.book,⟨hp⟩⟩,hi.few⟩
end Ch
namespace Ch.Live
structure House.Inv2 (h:House):Prop where
 inv:h.Inv'
theorem House.Inv2.new {sizes:List dD} (h:jB sizes=0):House.Inv2 (House.new sizes):=⟨.new h⟩
theorem House.Inv2.tick {h:House} (hi:House.Inv2 h):House.Inv2 h.tick:=⟨hi.inv.tick⟩
theorem House.Inv2.park {h:House} (hi:House.Inv2 h) (c:Car):House.Inv2 (h.park c).1:=⟨hi.inv.park c⟩
theorem House.Inv2.want {h:House} (hi:House.Inv2 h) (t:Int):House.Inv2 (h.want t).1:=⟨hi.inv.want t⟩
end Ch.Live
namespace Go.Proofs.YtplomeacjbkgnabGreatDoor
open Go.RowKit Tryz Ch
theorem zK:(prog.info? 135).map (fun i=>(i.zero,i.size,i.bytes))=some (some (.agg #[.int .i64 0,.int .i64 0]),2,16):=by kernel_rfl
def yE (w:World) (l:List aG) (e:Ending) (w':World):Prop:=∃ v,e = .returned v/\w'.ownsRow w.heap.size 135 2 v l.length (l.flatMap jC)/\Ext w w'
theorem yE.sl {w:World} {l:List aG} {e:Ending} {w':World} (h:yE w l e w'):∃ a n c,e = .returned (.slice a n c)/\Sl w' 2 jC l a n c/\Ext w w':=by
 obtain ⟨v,rfl,ho,hx⟩:=h;obtain ⟨a,c,rfl,hs⟩:=Sl.of_owns ho dc (fun x=>rfl);exact ⟨a,_,c,rfl,hs,hx⟩
theorem to_any (h:Int) (w:World):Calls prog 172 #[vi h] w (yE w (yJ h)):=by
 go_enter func172,ntmps172;go_wp2;go_ret;exact ⟨_,rfl,iM w 135 2 3 #[vi 2,vi 0,vi 5,vi 0,vi 1,vi h] rfl (by unfold maxLen;omega),sp⟩
theorem ahead_any (h:Int) (w:World):Calls prog 173 #[vi h] w (yE w (yJ h)):=by
 go_enter func173,ntmps173;go_wp2;go_ret;exact ⟨_,rfl,iM w 135 2 3 #[vi 2,vi 0,vi 5,vi 0,vi 1,vi h] rfl (by unfold maxLen;omega),sp⟩
theorem there_any (p:pB) (k:Int) (w:World) (h0:0<=p.depth) (h1:p.depth<=1) (h2:1<=p.level) (h3:p.level<=4):Calls prog 168 #[pD p,vi k] w (yE w (lD p k)):=by
 obtain ⟨i0,hi,hz0,hz1,hz2⟩:=info_parts zK;have hw:IntKind.i64.wrap (p.level * 3)=p.level * 3:=IntWalk.i64_in _ om
 have hw':IntKind.i64.wrap (3 * p.level)=p.level * 3:=by rw [Int.mul_comm];exact IntWalk.i64_in _ om
 go_enter func168,ntmps168;go_wp2_with fail
 go_region_held3 (fun w'=>w'.cell? ⟨w.heap.size,0,none⟩=some (vi p.level)/\w'.cell? ⟨w.heap.size,1,none⟩=some (vi p.side)/\w'.cell? ⟨w.heap.size,2,none⟩=some (vi p.depth))
  (first|go_keep|((try dsimp only);(repeat' apply And.intro) <;> (simp (disch:=(first|assumption|(simp;done)|(simp;omega))) [cB,go_sem];done)))
  (first
   | (go_at_call 172;refine (to_any _ _).mono ?_;rintro e w1 ⟨v1,rfl,hown1,o1,n1,rfl⟩)
   | (go_at_call 192;refine (ext_any p _ h0 h1).mono ?_;rintro e w1 ⟨rfl,o2,n2,rfl⟩)
   | (refine step_append_lies _ rfl _ _ _ rfl w.heap.size 135 i0 _ 2 16 underlying50 hi hz0 hz1 hz2 rfl dc v1 3 _ rfl (mA (iB (owns_more hown1 _ _) _) sp) _ 3 3 [vi 2,vi (extOf p),vi k,vi 0,vi 2,vi 0] rfl rfl (World.news_of_block (pA _ _ _ sp)) (by simp [Value.oneCell']) dc (by unfold maxLen;omega) om ov _ rfl ?_;intro gg cap w3 hown3 hgrow hat hlt;obtain ⟨o3,n3,rfl⟩:=vB (w:=(w.alloc (.cells #[vi p.level,vi p.side,vi p.depth] 89)).drew) eX hgrow (qA hown1)))
 go_wp2;go_ret;exact ⟨_,rfl,by simpa [lD,yJ,jC] using hown3,eX⟩
theorem rthere_any (p:pB) (k:Int) (w:World) (h0:0<=p.depth) (h1:p.depth<=1) (h2:1<=p.level) (h3:p.level<=4):Calls prog 127 #[pD p,vi k] w (yE w (lD p k)):=by
 obtain ⟨i0,hi,hz0,hz1,hz2⟩:=info_parts zK;have hw:IntKind.i64.wrap (p.level * 3)=p.level * 3:=IntWalk.i64_in _ om
 have hw':IntKind.i64.wrap (3 * p.level)=p.level * 3:=by rw [Int.mul_comm];exact IntWalk.i64_in _ om
 go_enter func127,ntmps127;go_wp2_with fail
 go_region_held3 (fun w'=>w'.cell? ⟨w.heap.size,0,none⟩=some (vi p.level)/\w'.cell? ⟨w.heap.size,1,none⟩=some (vi p.side)/\w'.cell? ⟨w.heap.size,2,none⟩=some (vi p.depth))
  (first|go_keep|((try dsimp only);(repeat' apply And.intro) <;> (simp (disch:=(first|assumption|(simp;done)|(simp;omega))) [cB,go_sem];done)))
  (first
   | (go_at_call 173;refine (ahead_any _ _).mono ?_;rintro e w1 ⟨v1,rfl,hown1,o1,n1,rfl⟩)
   | (go_at_call 174;refine (rext_any p _ h0 h1).mono ?_;rintro e w1 ⟨rfl,o2,n2,rfl⟩)
   | (refine step_append_lies _ rfl _ _ _ rfl w.heap.size 135 i0 _ 2 16 underlying50 hi hz0 hz1 hz2 rfl dc v1 3 _ rfl (mA (iB (owns_more hown1 _ _) _) sp) _ 3 3 [vi 2,vi (extOf p),vi k,vi 0,vi 2,vi 0] rfl rfl (World.news_of_block (pA _ _ _ sp)) (by simp [Value.oneCell']) dc (by unfold maxLen;omega) om ov _ rfl ?_;intro gg cap w3 hown3 hgrow hat hlt;obtain ⟨o3,n3,rfl⟩:=vB (w:=(w.alloc (.cells #[vi p.level,vi p.side,vi p.depth] 89)).drew) eX hgrow (qA hown1)))
 go_wp2;go_ret;exact ⟨_,rfl,by simpa [lD,yJ,jC] using hown3,eX⟩
theorem takeIn_any (w:World):Calls prog 194 #[] w (yE w aO):=by
 obtain ⟨i0,hi,hz0,hz1,hz2⟩:=info_parts zK;go_enter func194,ntmps194
 go_wp2_with (first
  | (go_at_call 172;refine (to_any _ _).mono ?_;rintro e w1 ⟨v1,rfl,hown1,o1,n1,rfl⟩)
  | (at_builtin;refine wpList_append_lies _ rfl _ _ _ rfl w.heap.size 135 i0 _ 2 16 underlying50 hi hz0 hz1 hz2 rfl dc v1 3 _ rfl (iB hown1 _) _ 1 1 [vi 7,vi 0] rfl rfl (World.news_of_block (pA _ _ _ sp)) (by simp [Value.oneCell']) dc (by unfold maxLen;omega) om ov _ rfl ?_;intro gg cap w3 hown3 hgrow hat hlt;obtain ⟨o3,n3,rfl⟩:=vB (w:=w) eX hgrow (qA hown1)))
 go_ret;exact ⟨_,rfl,by simpa [aO,yJ,jC] using hown3,eX⟩
theorem rTakeIn_any (w:World):Calls prog 131 #[] w (yE w aO):=by
 obtain ⟨i0,hi,hz0,hz1,hz2⟩:=info_parts zK;go_enter func131,ntmps131
 go_wp2_with (first
  | (go_at_call 173;refine (ahead_any _ _).mono ?_;rintro e w1 ⟨v1,rfl,hown1,o1,n1,rfl⟩)
  | (at_builtin;refine wpList_append_lies _ rfl _ _ _ rfl w.heap.size 135 i0 _ 2 16 underlying50 hi hz0 hz1 hz2 rfl dc v1 3 _ rfl (iB hown1 _) _ 1 1 [vi 7,vi 0] rfl rfl (World.news_of_block (pA _ _ _ sp)) (by simp [Value.oneCell']) dc (by unfold maxLen;omega) om ov _ rfl ?_;intro gg cap w3 hown3 hgrow hat hlt;obtain ⟨o3,n3,rfl⟩:=vB (w:=w) eX hgrow (qA hown1)))
 go_ret;exact ⟨_,rfl,by simpa [aO,yJ,jC] using hown3,eX⟩
theorem giveOut_any (w:World):Calls prog 166 #[] w (yE w dF):=by
 obtain ⟨i0,hi,hz0,hz1,hz2⟩:=info_parts zK;go_enter func166,ntmps166
 go_wp2_with (first
  | (go_at_call 172;refine (to_any _ _).mono ?_;rintro e w1 ⟨v1,rfl,hown1,o1,n1,rfl⟩)
  | (at_builtin;refine wpList_append_lies _ rfl _ _ _ rfl w.heap.size 135 i0 _ 2 16 underlying50 hi hz0 hz1 hz2 rfl dc v1 3 _ rfl (iB hown1 _) _ 2 2 [vi 8,vi 0,vi 6,vi 0] rfl rfl (World.news_of_block (pA _ _ _ sp)) (by simp [Value.oneCell']) dc (by unfold maxLen;omega) om ov _ rfl ?_;intro gg cap w3 hown3 hgrow hat hlt;obtain ⟨o3,n3,rfl⟩:=vB (w:=w) eX hgrow (qA hown1)))
 go_ret;exact ⟨_,rfl,by simpa [dF,yJ,jC] using hown3,eX⟩
theorem rGiveOut_any (w:World):Calls prog 126 #[] w (yE w dF):=by
 obtain ⟨i0,hi,hz0,hz1,hz2⟩:=info_parts zK;go_enter func126,ntmps126
 go_wp2_with (first
  | (go_at_call 173;refine (ahead_any _ _).mono ?_;rintro e w1 ⟨v1,rfl,hown1,o1,n1,rfl⟩)
  | (at_builtin;refine wpList_append_lies _ rfl _ _ _ rfl w.heap.size 135 i0 _ 2 16 underlying50 hi hz0 hz1 hz2 rfl dc v1 3 _ rfl (iB hown1 _) _ 2 2 [vi 8,vi 0,vi 6,vi 0] rfl rfl (World.news_of_block (pA _ _ _ sp)) (by simp [Value.oneCell']) dc (by unfold maxLen;omega) om ov _ rfl ?_;intro gg cap w3 hown3 hgrow hat hlt;obtain ⟨o3,n3,rfl⟩:=vB (w:=w) eX hgrow (qA hown1)))
 go_ret;exact ⟨_,rfl,by simpa [dF,yJ,jC] using hown3,eX⟩
theorem welcome_any (w:World):Calls prog 118 #[] w (yE w rG):=by
 obtain ⟨i0,hi,hz0,hz1,hz2⟩:=info_parts zK;go_enter func118,ntmps118
 go_wp2_with (first
  | (go_at_call 172;refine (to_any _ _).mono ?_;rintro e w1 ⟨v1,rfl,hown1,o1,n1,rfl⟩)
  | (at_builtin;refine wpList_append_lies _ rfl _ _ _ rfl w.heap.size 135 i0 _ 2 16 underlying50 hi hz0 hz1 hz2 rfl dc v1 3 _ rfl (iB hown1 _) _ 1 1 [vi 6,vi 0] rfl rfl (World.news_of_block (pA _ _ _ sp)) (by simp [Value.oneCell']) dc (by unfold maxLen;omega) om ov _ rfl ?_;intro gg cap w3 hown3 hgrow hat hlt;obtain ⟨o3,n3,rfl⟩:=vB (w:=w) eX hgrow (qA hown1)))
 go_ret;exact ⟨_,rfl,by simpa [rG,yJ,jC] using hown3,eX⟩
theorem rWelcome_any (w:World):Calls prog 129 #[] w (yE w rG):=by
 obtain ⟨i0,hi,hz0,hz1,hz2⟩:=info_parts zK;go_enter func129,ntmps129
 go_wp2_with (first
  | (go_at_call 173;refine (ahead_any _ _).mono ?_;rintro e w1 ⟨v1,rfl,hown1,o1,n1,rfl⟩)
  | (at_builtin;refine wpList_append_lies _ rfl _ _ _ rfl w.heap.size 135 i0 _ 2 16 underlying50 hi hz0 hz1 hz2 rfl dc v1 3 _ rfl (iB hown1 _) _ 1 1 [vi 6,vi 0] rfl rfl (World.news_of_block (pA _ _ _ sp)) (by simp [Value.oneCell']) dc (by unfold maxLen;omega) om ov _ rfl ?_;intro gg cap w3 hown3 hgrow hat hlt;obtain ⟨o3,n3,rfl⟩:=vB (w:=w) eX hgrow (qA hown1)))
 go_ret;exact ⟨_,rfl,by simpa [rG,yJ,jC] using hown3,eX⟩
theorem fetch_any (p:pB) (w:World) (h0:0<=p.depth) (h1:p.depth<=1) (h2:1<=p.level) (h3:p.level<=4):Calls prog 116 #[pD p] w (yE w (fetch p)):=by
 go_enter func116,ntmps116;go_wp2_with (go_at_call 168;refine (there_any p _ _ h0 h1 h2 h3).mono ?_;rintro e w1 ⟨v1,rfl,hown1,o1,n1,rfl⟩);go_ret;exact ⟨_,rfl,mA hown1 sp,eX⟩
theorem bring_any (p:pB) (w:World) (h0:0<=p.depth) (h1:p.depth<=1) (h2:1<=p.level) (h3:p.level<=4):Calls prog 167 #[pD p] w (yE w (vN p)):=by
 go_enter func167,ntmps167;go_wp2_with (go_at_call 168;refine (there_any p _ _ h0 h1 h2 h3).mono ?_;rintro e w1 ⟨v1,rfl,hown1,o1,n1,rfl⟩);go_ret;exact ⟨_,rfl,mA hown1 sp,eX⟩
end Go.Proofs.YtplomeacjbkgnabGreatDoor
namespace Ch
def cH (p:dA) (id:Int) (x:pB):Bool:=id != 0&&p.slots x==id
theorem where_find (p:dA) (id:Int):p.where_ id=(dG p.levels).find? (cH p id):=by
 unfold dA.where_
 split
 ·rename_i h
  subst h;refine (List.find?_eq_none.2 ?_).symm;intro x _;simp [cH]
 ·rename_i h
  have:(id != 0)=true:=by simpa using h
  congr 1
  funext x
  unfold cH;rw [this,Bool.true_and]
theorem where_find4 {p:dA} (hp:p.WF) (id:Int):p.where_ id=(dG 4).find? (cH p id):=by
 rw [where_find];have h1:=hp.lv1;have h2:=hp.lv2
 have e:dG 4=dG p.levels++(List.range' p.levels.toNat (4 - p.levels.toNat)).flatMap fun (k:Nat)=>[⟨k+1,0,0⟩,⟨k+1,0,1⟩,⟨k+1,1,0⟩,⟨k+1,1,1⟩]:=by
  unfold dG;rw [<-List.flatMap_append,List.range_eq_range',List.range_eq_range']
  congr 1
  have:=@List.range'_append 0 p.levels.toNat (4 - p.levels.toNat) 1;simp only [Nat.zero_add,Nat.one_mul] at this;rw [this]
  congr 1
  omega
 rw [e,List.find?_append]
 have hn:((List.range' p.levels.toNat (4 - p.levels.toNat)).flatMap fun (k:Nat)=>[(⟨k+1,0,0⟩:pB),⟨k+1,0,1⟩,⟨k+1,1,0⟩,⟨k+1,1,1⟩]).find? (cH p id)=none:=by
  rw [List.find?_eq_none];intro x hx;rw [List.mem_flatMap] at hx;obtain ⟨k,hk,hx⟩:=hx;have hk2:=(List.mem_range'_1.1 hk).1
  have hl:p.levels<x.level:=by
   simp only [List.mem_cons,List.not_mem_nil,or_false] at hx
   rcases hx with rfl|rfl|rfl|rfl <;> (dsimp only;omega)
  have hz:p.slots x=0:=by
   by_cases hz:p.slots x=0
   ·exact hz
   ·have:=uC.1 (hp.sl x hz)
    omega
  unfold cH;rw [hz]
  by_cases h0:id=0
  ·simp [h0]
  ·simp
   exact fun a b=>a b.symm
 rw [hn,Option.or_none]
theorem place_nth {n:Int} (h4:n<=4) {k s d:Nat} (hk:(k:Int)<n) (hs:s<2) (hd:d<2):(dG n)[4 * k+2 * s+d]? = some ⟨(k:Int)+1,(s:Int),(d:Int)⟩:=by
 have hn:n=1\/n=2\/n=3\/n=4:=om
 have hs:s=0\/s=1:=om
 have hd:d=0\/d=1:=om
 have hk':k=0\/k=1\/k=2\/k=3:=om
 rcases hn with rfl|rfl|rfl|rfl <;> rcases hk' with rfl|rfl|rfl|rfl <;> first|(exfalso;omega)|(rcases hs with rfl|rfl <;> rcases hd with rfl|rfl <;> rfl)
theorem all_len {n:Int} (h1:0<=n) (h4:n<=4):(dG n).length=4 * n.toNat:=by
 have hn:n=0\/n=1\/n=2\/n=3\/n=4:=om
 rcases hn with rfl|rfl|rfl|rfl|rfl <;> rfl
theorem has_where (p:dA) (id:Int):p.has id=((p.where_ id).isSome || p.lift==id || p.bay==id):=by
 unfold dA.has dA.where_
 congr 2
 by_cases h:id=0
 ·simp [h]
 ·rw [if_neg h]
  have:(id != 0)=true:=by simpa using h
  rw [this,Bool.true_and,Bool.eq_iff_iff,List.find?_isSome,List.any_eq_true]
theorem where_ok {p:dA} {id:Int} {x:pB} (h:p.where_ id=some x):uA x p.levels=0:=by
 unfold dA.where_ at h
 split at h
 ·cases h
 ·exact mem_allPlaces.1 (List.mem_of_find?_eq_some h)
end Ch
