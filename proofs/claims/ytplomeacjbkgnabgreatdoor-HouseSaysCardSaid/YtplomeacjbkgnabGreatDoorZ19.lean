import Derived.Test.YtplomeacjbkgnabGreatDoorZ05
set_option linter.all false
set_option maxRecDepth 100000
set_option maxHeartbeats 16000000
namespace Go.Proofs.YtplomeacjbkgnabGreatDoor
open Go.RowKit
theorem zG:(Tryz.prog.info? 135).map (fun i=>(i.zero,i.size,i.bytes))=some (some (.agg #[.int .i64 0,.int .i64 0]),2,16):=by kernel_rfl
def vC (w:World) (l:List Ch.Goal) (e:Ending) (w':World):Prop:=∃ v,e = .returned v∧w'.ownsRow w.heap.size 135 2 v l.length (l.flatMap eB)∧Ext w w'
theorem vC.sl {w:World} {l:List Ch.Goal} {e:Ending} {w':World} (h:vC w l e w'):∃ a n c,e = .returned (.slice a n c)∧Sl w' 2 eB l a n c∧Ext w w':=by
 obtain ⟨v,rfl,ho,hx⟩:=h;obtain ⟨a,c,rfl,hs⟩:=Sl.of_owns ho (by decide) (fun x=>rfl);exact ⟨a,_,c,rfl,hs,hx⟩
theorem to_any (h:Int) (w:World):Calls Tryz.prog 172 #[vi h] w (vC w (Ch.ahead h)):=by
 go_enter Tryz.func172,Tryz.ntmps172;go_wp2;go_ret;exact ⟨_,rfl,xG w 135 2 3 #[vi 2,vi 0,vi 5,vi 0,vi 1,vi h] rfl (by unfold maxLen;omega),by simp⟩
theorem ahead_any (h:Int) (w:World):Calls Tryz.prog 173 #[vi h] w (vC w (Ch.ahead h)):=by
 go_enter Tryz.func173,Tryz.ntmps173;go_wp2;go_ret;exact ⟨_,rfl,xG w 135 2 3 #[vi 2,vi 0,vi 5,vi 0,vi 1,vi h] rfl (by unfold maxLen;omega),by simp⟩
theorem there_any (p:Ch.Place) (k:Int) (w:World) (h0:0≤p.depth) (h1:p.depth≤1) (h2:1≤p.level) (h3:p.level≤4):Calls Tryz.prog 168 #[eC p,vi k] w (vC w (Ch.there p k)):=by
 obtain ⟨i0,hi,hz0,hz1,hz2⟩:=info_parts zG;have hw:IntKind.i64.wrap (p.level * 3)=p.level * 3:=IntWalk.i64_in _ (by omega)
 have hw':IntKind.i64.wrap (3 * p.level)=p.level * 3:=by rw [Int.mul_comm];exact IntWalk.i64_in _ (by omega)
 go_enter Tryz.func168,Tryz.ntmps168;go_wp2_with fail
 go_region_held3 (fun w'=>w'.cell? ⟨w.heap.size,0,none⟩=some (vi p.level)∧w'.cell? ⟨w.heap.size,1,none⟩=some (vi p.side)∧w'.cell? ⟨w.heap.size,2,none⟩=some (vi p.depth))
  (first|go_keep|((try dsimp only);(repeat' apply And.intro) <;> (simp (disch:=(first|assumption|(simp;done)|(simp;omega))) [yA,go_sem];done)))
  (first
   | (go_at_call 172;refine (to_any _ _).mono ?_;rintro e w1 ⟨v1,rfl,hown1,o1,n1,rfl⟩)
   | (go_at_call 192;refine (ext_any p _ h0 h1).mono ?_;rintro e w1 ⟨rfl,o2,n2,rfl⟩)
   | (refine step_append_lies _ rfl _ _ _ rfl w.heap.size 135 i0 _ 2 16 Tryz.underlying50 hi hz0 hz1 hz2 rfl (by decide) v1 3 _ rfl (rA (fB (owns_more hown1 _ _) _) (by simp)) _ 3 3 [vi 2,vi (Ch.extOf p),vi k,vi 0,vi 2,vi 0] rfl rfl (World.news_of_block (sA _ _ _ (by simp))) (by simp [Value.oneCell']) (by decide) (by unfold maxLen;omega) (by omega) (by first|omega|(simp;done)|(simp;omega)) _ rfl ?_;intro gg cap w3 hown3 hgrow hat hlt;obtain ⟨o3,n3,rfl⟩:=uB (w:=(w.alloc (.cells #[vi p.level,vi p.side,vi p.depth] 89)).drew) eX hgrow (uA hown1)))
 go_wp2;go_ret;exact ⟨_,rfl,by simpa [Ch.there,Ch.ahead,eB] using hown3,eX⟩
theorem rthere_any (p:Ch.Place) (k:Int) (w:World) (h0:0≤p.depth) (h1:p.depth≤1) (h2:1≤p.level) (h3:p.level≤4):Calls Tryz.prog 127 #[eC p,vi k] w (vC w (Ch.there p k)):=by
 obtain ⟨i0,hi,hz0,hz1,hz2⟩:=info_parts zG;have hw:IntKind.i64.wrap (p.level * 3)=p.level * 3:=IntWalk.i64_in _ (by omega)
 have hw':IntKind.i64.wrap (3 * p.level)=p.level * 3:=by rw [Int.mul_comm];exact IntWalk.i64_in _ (by omega)
 go_enter Tryz.func127,Tryz.ntmps127;go_wp2_with fail
 go_region_held3 (fun w'=>w'.cell? ⟨w.heap.size,0,none⟩=some (vi p.level)∧w'.cell? ⟨w.heap.size,1,none⟩=some (vi p.side)∧w'.cell? ⟨w.heap.size,2,none⟩=some (vi p.depth))
  (first|go_keep|((try dsimp only);(repeat' apply And.intro) <;> (simp (disch:=(first|assumption|(simp;done)|(simp;omega))) [yA,go_sem];done)))
  (first
   | (go_at_call 173;refine (ahead_any _ _).mono ?_;rintro e w1 ⟨v1,rfl,hown1,o1,n1,rfl⟩)
   | (go_at_call 174;refine (rext_any p _ h0 h1).mono ?_;rintro e w1 ⟨rfl,o2,n2,rfl⟩)
   | (refine step_append_lies _ rfl _ _ _ rfl w.heap.size 135 i0 _ 2 16 Tryz.underlying50 hi hz0 hz1 hz2 rfl (by decide) v1 3 _ rfl (rA (fB (owns_more hown1 _ _) _) (by simp)) _ 3 3 [vi 2,vi (Ch.extOf p),vi k,vi 0,vi 2,vi 0] rfl rfl (World.news_of_block (sA _ _ _ (by simp))) (by simp [Value.oneCell']) (by decide) (by unfold maxLen;omega) (by omega) (by first|omega|(simp;done)|(simp;omega)) _ rfl ?_;intro gg cap w3 hown3 hgrow hat hlt;obtain ⟨o3,n3,rfl⟩:=uB (w:=(w.alloc (.cells #[vi p.level,vi p.side,vi p.depth] 89)).drew) eX hgrow (uA hown1)))
 go_wp2;go_ret;exact ⟨_,rfl,by simpa [Ch.there,Ch.ahead,eB] using hown3,eX⟩
theorem takeIn_any (w:World):Calls Tryz.prog 194 #[] w (vC w Ch.takeIn):=by
 obtain ⟨i0,hi,hz0,hz1,hz2⟩:=info_parts zG;go_enter Tryz.func194,Tryz.ntmps194
 go_wp2_with (first
  | (go_at_call 172;refine (to_any _ _).mono ?_;rintro e w1 ⟨v1,rfl,hown1,o1,n1,rfl⟩)
  | (at_builtin;refine wpList_append_lies _ rfl _ _ _ rfl w.heap.size 135 i0 _ 2 16 Tryz.underlying50 hi hz0 hz1 hz2 rfl (by decide) v1 3 _ rfl (fB hown1 _) _ 1 1 [vi 7,vi 0] rfl rfl (World.news_of_block (sA _ _ _ (by simp))) (by simp [Value.oneCell']) (by decide) (by unfold maxLen;omega) (by omega) (by first|omega|(simp;done)|(simp;omega)) _ rfl ?_;intro gg cap w3 hown3 hgrow hat hlt;obtain ⟨o3,n3,rfl⟩:=uB (w:=w) eX hgrow (uA hown1)))
 go_ret;exact ⟨_,rfl,by simpa [Ch.takeIn,Ch.ahead,eB] using hown3,eX⟩
theorem rTakeIn_any (w:World):Calls Tryz.prog 131 #[] w (vC w Ch.takeIn):=by
 obtain ⟨i0,hi,hz0,hz1,hz2⟩:=info_parts zG;go_enter Tryz.func131,Tryz.ntmps131
 go_wp2_with (first
  | (go_at_call 173;refine (ahead_any _ _).mono ?_;rintro e w1 ⟨v1,rfl,hown1,o1,n1,rfl⟩)
  | (at_builtin;refine wpList_append_lies _ rfl _ _ _ rfl w.heap.size 135 i0 _ 2 16 Tryz.underlying50 hi hz0 hz1 hz2 rfl (by decide) v1 3 _ rfl (fB hown1 _) _ 1 1 [vi 7,vi 0] rfl rfl (World.news_of_block (sA _ _ _ (by simp))) (by simp [Value.oneCell']) (by decide) (by unfold maxLen;omega) (by omega) (by first|omega|(simp;done)|(simp;omega)) _ rfl ?_;intro gg cap w3 hown3 hgrow hat hlt;obtain ⟨o3,n3,rfl⟩:=uB (w:=w) eX hgrow (uA hown1)))
 go_ret;exact ⟨_,rfl,by simpa [Ch.takeIn,Ch.ahead,eB] using hown3,eX⟩
theorem giveOut_any (w:World):Calls Tryz.prog 166 #[] w (vC w Ch.giveOut):=by
 obtain ⟨i0,hi,hz0,hz1,hz2⟩:=info_parts zG;go_enter Tryz.func166,Tryz.ntmps166
 go_wp2_with (first
  | (go_at_call 172;refine (to_any _ _).mono ?_;rintro e w1 ⟨v1,rfl,hown1,o1,n1,rfl⟩)
  | (at_builtin;refine wpList_append_lies _ rfl _ _ _ rfl w.heap.size 135 i0 _ 2 16 Tryz.underlying50 hi hz0 hz1 hz2 rfl (by decide) v1 3 _ rfl (fB hown1 _) _ 2 2 [vi 8,vi 0,vi 6,vi 0] rfl rfl (World.news_of_block (sA _ _ _ (by simp))) (by simp [Value.oneCell']) (by decide) (by unfold maxLen;omega) (by omega) (by first|omega|(simp;done)|(simp;omega)) _ rfl ?_;intro gg cap w3 hown3 hgrow hat hlt;obtain ⟨o3,n3,rfl⟩:=uB (w:=w) eX hgrow (uA hown1)))
 go_ret;exact ⟨_,rfl,by simpa [Ch.giveOut,Ch.ahead,eB] using hown3,eX⟩
theorem rGiveOut_any (w:World):Calls Tryz.prog 126 #[] w (vC w Ch.giveOut):=by
 obtain ⟨i0,hi,hz0,hz1,hz2⟩:=info_parts zG;go_enter Tryz.func126,Tryz.ntmps126
 go_wp2_with (first
  | (go_at_call 173;refine (ahead_any _ _).mono ?_;rintro e w1 ⟨v1,rfl,hown1,o1,n1,rfl⟩)
  | (at_builtin;refine wpList_append_lies _ rfl _ _ _ rfl w.heap.size 135 i0 _ 2 16 Tryz.underlying50 hi hz0 hz1 hz2 rfl (by decide) v1 3 _ rfl (fB hown1 _) _ 2 2 [vi 8,vi 0,vi 6,vi 0] rfl rfl (World.news_of_block (sA _ _ _ (by simp))) (by simp [Value.oneCell']) (by decide) (by unfold maxLen;omega) (by omega) (by first|omega|(simp;done)|(simp;omega)) _ rfl ?_;intro gg cap w3 hown3 hgrow hat hlt;obtain ⟨o3,n3,rfl⟩:=uB (w:=w) eX hgrow (uA hown1)))
 go_ret;exact ⟨_,rfl,by simpa [Ch.giveOut,Ch.ahead,eB] using hown3,eX⟩
theorem welcome_any (w:World):Calls Tryz.prog 118 #[] w (vC w Ch.welcome):=by
 obtain ⟨i0,hi,hz0,hz1,hz2⟩:=info_parts zG;go_enter Tryz.func118,Tryz.ntmps118
 go_wp2_with (first
  | (go_at_call 172;refine (to_any _ _).mono ?_;rintro e w1 ⟨v1,rfl,hown1,o1,n1,rfl⟩)
  | (at_builtin;refine wpList_append_lies _ rfl _ _ _ rfl w.heap.size 135 i0 _ 2 16 Tryz.underlying50 hi hz0 hz1 hz2 rfl (by decide) v1 3 _ rfl (fB hown1 _) _ 1 1 [vi 6,vi 0] rfl rfl (World.news_of_block (sA _ _ _ (by simp))) (by simp [Value.oneCell']) (by decide) (by unfold maxLen;omega) (by omega) (by first|omega|(simp;done)|(simp;omega)) _ rfl ?_;intro gg cap w3 hown3 hgrow hat hlt;obtain ⟨o3,n3,rfl⟩:=uB (w:=w) eX hgrow (uA hown1)))
 go_ret;exact ⟨_,rfl,by simpa [Ch.welcome,Ch.ahead,eB] using hown3,eX⟩
theorem rWelcome_any (w:World):Calls Tryz.prog 129 #[] w (vC w Ch.welcome):=by
 obtain ⟨i0,hi,hz0,hz1,hz2⟩:=info_parts zG;go_enter Tryz.func129,Tryz.ntmps129
 go_wp2_with (first
  | (go_at_call 173;refine (ahead_any _ _).mono ?_;rintro e w1 ⟨v1,rfl,hown1,o1,n1,rfl⟩)
  | (at_builtin;refine wpList_append_lies _ rfl _ _ _ rfl w.heap.size 135 i0 _ 2 16 Tryz.underlying50 hi hz0 hz1 hz2 rfl (by decide) v1 3 _ rfl (fB hown1 _) _ 1 1 [vi 6,vi 0] rfl rfl (World.news_of_block (sA _ _ _ (by simp))) (by simp [Value.oneCell']) (by decide) (by unfold maxLen;omega) (by omega) (by first|omega|(simp;done)|(simp;omega)) _ rfl ?_;intro gg cap w3 hown3 hgrow hat hlt;obtain ⟨o3,n3,rfl⟩:=uB (w:=w) eX hgrow (uA hown1)))
 go_ret;exact ⟨_,rfl,by simpa [Ch.welcome,Ch.ahead,eB] using hown3,eX⟩
theorem fetch_any (p:Ch.Place) (w:World) (h0:0≤p.depth) (h1:p.depth≤1) (h2:1≤p.level) (h3:p.level≤4):Calls Tryz.prog 116 #[eC p] w (vC w (Ch.fetch p)):=by
 go_enter Tryz.func116,Tryz.ntmps116;go_wp2_with (go_at_call 168;refine (there_any p _ _ h0 h1 h2 h3).mono ?_;rintro e w1 ⟨v1,rfl,hown1,o1,n1,rfl⟩);go_ret;exact ⟨_,rfl,rA hown1 (by simp),eX⟩
theorem bring_any (p:Ch.Place) (w:World) (h0:0≤p.depth) (h1:p.depth≤1) (h2:1≤p.level) (h3:p.level≤4):Calls Tryz.prog 167 #[eC p] w (vC w (Ch.bring p)):=by
 go_enter Tryz.func167,Tryz.ntmps167;go_wp2_with (go_at_call 168;refine (there_any p _ _ h0 h1 h2 h3).mono ?_;rintro e w1 ⟨v1,rfl,hown1,o1,n1,rfl⟩);go_ret;exact ⟨_,rfl,rA hown1 (by simp),eX⟩
end Go.Proofs.YtplomeacjbkgnabGreatDoor
namespace Ch
def whereP (p:Plant) (id:Int) (x:Place):Bool:=id != 0&&p.slots x==id
theorem where_find (p:Plant) (id:Int):p.where_ id=(allPlaces p.levels).find? (whereP p id):=by
 unfold Plant.where_
 split
 ·rename_i h
  subst h;refine (List.find?_eq_none.2 ?_).symm;intro x _;simp [whereP]
 ·rename_i h
  have:(id != 0)=true:=by simpa using h
  congr 1
  funext x
  unfold whereP;rw [this,Bool.true_and]
theorem where_find4 {p:Plant} (hp:p.WF) (id:Int):p.where_ id=(allPlaces 4).find? (whereP p id):=by
 rw [where_find];have h1:=hp.lv1;have h2:=hp.lv2
 have e:allPlaces 4=allPlaces p.levels++(List.range' p.levels.toNat (4 - p.levels.toNat)).flatMap fun (k:Nat)=>[⟨k+1,0,0⟩,⟨k+1,0,1⟩,⟨k+1,1,0⟩,⟨k+1,1,1⟩]:=by
  unfold allPlaces;rw [←List.flatMap_append,List.range_eq_range',List.range_eq_range']
  congr 1
  have:=@List.range'_append 0 p.levels.toNat (4 - p.levels.toNat) 1;simp only [Nat.zero_add,Nat.one_mul] at this;rw [this]
  congr 1
  omega
 rw [e,List.find?_append]
 have hn:((List.range' p.levels.toNat (4 - p.levels.toNat)).flatMap fun (k:Nat)=>[(⟨k+1,0,0⟩:Place),⟨k+1,0,1⟩,⟨k+1,1,0⟩,⟨k+1,1,1⟩]).find? (whereP p id)=none:=by
  rw [List.find?_eq_none];intro x hx;rw [List.mem_flatMap] at hx;obtain ⟨k,hk,hx⟩:=hx;have hk2:=(List.mem_range'_1.1 hk).1
  have hl:p.levels<x.level:=by
   simp only [List.mem_cons,List.not_mem_nil,or_false] at hx
   rcases hx with rfl|rfl|rfl|rfl <;> (dsimp only;omega)
  have hz:p.slots x=0:=by
   by_cases hz:p.slots x=0
   ·exact hz
   ·have:=placeFault_iff.1 (hp.sl x hz)
    omega
  unfold whereP;rw [hz]
  by_cases h0:id=0
  ·simp [h0]
  ·simp
   exact fun a b=>a b.symm
 rw [hn,Option.or_none]
theorem place_nth {n:Int} (h4:n≤4) {k s d:Nat} (hk:(k:Int)<n) (hs:s<2) (hd:d<2):(allPlaces n)[4 * k+2 * s+d]? = some ⟨(k:Int)+1,(s:Int),(d:Int)⟩:=by
 have hn:n=1∨n=2∨n=3∨n=4:=by omega
 have hs:s=0∨s=1:=by omega
 have hd:d=0∨d=1:=by omega
 have hk':k=0∨k=1∨k=2∨k=3:=by omega
 rcases hn with rfl|rfl|rfl|rfl <;> rcases hk' with rfl|rfl|rfl|rfl <;> first|(exfalso;omega)|(rcases hs with rfl|rfl <;> rcases hd with rfl|rfl <;> rfl)
theorem all_len {n:Int} (h1:0≤n) (h4:n≤4):(allPlaces n).length=4 * n.toNat:=by
 have hn:n=0∨n=1∨n=2∨n=3∨n=4:=by omega
 rcases hn with rfl|rfl|rfl|rfl|rfl <;> rfl
theorem has_where (p:Plant) (id:Int):p.has id=((p.where_ id).isSome || p.lift==id || p.bay==id):=by
 unfold Plant.has Plant.where_
 congr 2
 by_cases h:id=0
 ·simp [h]
 ·rw [if_neg h]
  have:(id != 0)=true:=by simpa using h
  rw [this,Bool.true_and,Bool.eq_iff_iff,List.find?_isSome,List.any_eq_true]
theorem where_ok {p:Plant} {id:Int} {x:Place} (h:p.where_ id=some x):placeFault x p.levels=0:=by
 unfold Plant.where_ at h
 split at h
 ·cases h
 ·exact mem_allPlaces.1 (List.mem_of_find?_eq_some h)
end Ch
