import Derived.Test.YtplomeacjbkgnadGreatDoorZ42
set_option linter.all false
set_option maxRecDepth 100000
set_option maxHeartbeats 16000000
namespace Go.Proofs.YtplomeacjbkgnadGreatDoor
open Go.RowKit
theorem owns_later {w w':World} {base e size:Nat} {v:Value} {n:Nat} {xs:List Value} (h:w.ownsRow base e size v n xs) (x:Ext w w'):w'.ownsRow base e size v n xs:=by
  obtain ⟨o,n,rfl⟩:=x;exact owns_plus h o n
theorem infoInt:(Tryz.prog.info? 3).map (fun i=>(i.zero,i.size,i.bytes))=some (some (.int .i64 0),1,8):=by kernel_rfl
def NewInts (w:World) (l:List Int) (e:Ending) (w':World):Prop:=∃ v,e = .returned v∧w'.ownsRow w.heap.size 3 1 v l.length (l.flatMap intCells)∧Ext w w'
def carsTo (p:Ch.Plant) (j:Nat):List Int:=
  (if p.lift≠0 then [p.lift] else [])++(if p.bay≠0 then [p.bay] else [])++(((Ch.allPlaces 4).take j).map p.slots).filter (fun n=>n != 0)
theorem place_nth:∀ (n k:Nat),n<4→k<4→(Ch.allPlaces 4)[4 * n+k]? = some ⟨((n+1:Nat):Int),((k / 2:Nat):Int),((k % 2:Nat):Int)⟩:=by
  intro n k hn hk
  have h1:n=0∨n=1∨n=2∨n=3:=by omega
  have h2:k=0∨k=1∨k=2∨k=3:=by omega
  rcases h1 with rfl|rfl|rfl|rfl <;> rcases h2 with rfl|rfl|rfl|rfl <;> rfl
theorem carsTo_step (p:Ch.Plant) {j:Nat} {x:Ch.Place} (h:(Ch.allPlaces 4)[j]? = some x):carsTo p (j+1)=carsTo p j++(if p.slots x≠0 then [p.slots x] else []):=by
  unfold carsTo;rw [List.take_add_one,h,List.append_assoc,List.append_assoc,List.append_assoc]
  congr 2
  rw [List.map_append,List.filter_append]
  congr 1
  by_cases hx:p.slots x=0 <;> simp [hx]
theorem carsTo_len (p:Ch.Plant) (j:Nat) (hj:j≤16):(carsTo p j).length≤18:=by
  unfold carsTo;have h1:=List.length_filter_le (fun n:Int=>n != 0) (((Ch.allPlaces 4).take j).map p.slots)
  have h2:(((Ch.allPlaces 4).take j).map p.slots).length≤16:=by rw [List.length_map,List.length_take];omega
  simp only [List.length_append]
  have h3:(if p.lift≠0 then [p.lift] else []).length≤1:=by split <;> simp
  have h4:(if p.bay≠0 then [p.bay] else []).length≤1:=by split <;> simp
  omega
structure Gathered (w:World) (l:List Int) (v:Value) (wr:World):Prop where
  own:wr.ownsRow w.heap.size 3 1 v l.length (l.flatMap intCells)
  ext:Ext w wr
theorem gather {w:World} {l:List Int} {x:Int} {v:Value} {wr:World} (h:wr.ownsRow w.heap.size 3 1 v (l.length+1) (l.flatMap intCells++[vi x])):wr.ownsRow w.heap.size 3 1 v (l++[x]).length ((l++[x]).flatMap intCells):=by
  rw [List.length_append,List.flatMap_append];exact h
def carsTop (p:Ch.Plant):List Int:=(if p.lift≠0 then [p.lift] else [])++(if p.bay≠0 then [p.bay] else [])
theorem place_nth' (m k:Nat) (hm:m<4) (hk:k<4):(Ch.allPlaces 4)[4 * m+k]? = some ⟨(m:Int)+1,(k:Int) / 2,(k:Int) % 2⟩:=by
  rw [place_nth m k hm hk]
  congr 2
theorem carsTo_yes (p:Ch.Plant) {m k:Nat} (hm:m<4) (hk:k<4) (h:p.slots ⟨(m:Int)+1,(k:Int) / 2,(k:Int) % 2⟩≠0):carsTo p (4 * m+(k+1))=carsTo p (4 * m+k)++[p.slots ⟨(m:Int)+1,(k:Int) / 2,(k:Int) % 2⟩]:=by
  have:=carsTo_step p (place_nth' m k hm hk);rw [if_pos h] at this;exact this
theorem carsTo_no (p:Ch.Plant) {m k:Nat} (hm:m<4) (hk:k<4) (h:p.slots ⟨(m:Int)+1,(k:Int) / 2,(k:Int) % 2⟩=0):carsTo p (4 * m+(k+1))=carsTo p (4 * m+k):=by
  have:=carsTo_step p (place_nth' m k hm hk);rw [if_neg (by rw [h];simp),List.append_nil] at this;exact this
theorem carsTo_zero (p:Ch.Plant):carsTo p 0=carsTop p:=by simp [carsTo,carsTop]
theorem cars_any {pb mb:Nat} {p:Ch.Plant} {w:World} (h:PlantAt w pb mb p) (hp:p.WF):
    Calls Tryz.prog 35 #[.pointer (some ⟨pb,0,none⟩)] w (NewInts w p.cars):=by
  obtain ⟨i0,hi,hz0,hz1,hz2⟩:=info_parts infoInt;have HP:=Lib.hid h;have hpl:=h.lt;clear h
  have key:∃ b1 b2:Bool,(p.lift != 0)=b1∧(p.bay != 0)=b2:=⟨_,_,rfl,rfl⟩
  obtain ⟨b1,b2,e1,e2⟩:=key
  have HT:Hid (carsTop p=(if b1 then [p.lift] else [])++(if b2 then [p.bay] else [])):=by
    unfold Hid carsTop;rw [←e1,←e2]
    by_cases hl:p.lift=0 <;> by_cases hb:p.bay=0 <;> simp [hl,hb]
  cases b1 <;> cases b2
  all_goals
    go_enter Tryz.func35,Tryz.ntmps35
    go_upto_region 7 with (first
      | (go_at_call 15;(with_reducible refine (sense_any HP.out hp).mono ?_);rintro e w1 ⟨rfl,o1,n1,rfl⟩)
      | (at_builtin;refine wpList_append_lies _ rfl _ _ _ rfl w.heap.size 3 i0 _ 1 8 Tryz.underlying79 hi hz0 hz1 hz2 rfl (by decide) (.slice (some ⟨gg1,0,none⟩) (0+1) cap1) 1 [vi p.lift] rfl (owns_alloc (show World.ownsRow _ w.heap.size 3 1 (.slice (some ⟨gg1,0,none⟩) 1 cap1) 1 [vi p.lift] from hown1) _) _ 1 1 [vi p.bay] rfl rfl (World.news_of_block (alloc_at _ _ _ (by simp))) (by simp [Value.oneCell']) (by decide) (by unfold maxLen;omega) (by omega) (by first|omega|(simp;done)|(simp;omega)) _ rfl ?_;intro gg2 cap2 w3 hown3 hgrow hat hlt;have hown2:=hown3;obtain ⟨o4,n4,rfl⟩:=ext_grown (w:=w) (by simp (maxDischargeDepth:=60)) hgrow (owns_block hown1))
      | (at_builtin;refine wpList_append_lies _ rfl _ _ _ rfl w.heap.size 3 i0 _ 1 8 Tryz.underlying79 hi hz0 hz1 hz2 rfl (by decide) (.slice none 0 0) 0 [] rfl (World.ownsRow_nil _ _ _ _) _ 1 1 [vi p.lift] rfl rfl (World.news_of_block (alloc_at _ _ _ (by simp))) (by simp [Value.oneCell']) (by decide) (by unfold maxLen;omega) (by omega) (by first|omega|(simp;done)|(simp;omega)) _ rfl ?_;intro gg1 cap1 w3 hown3 hgrow hat hlt;obtain ⟨o3,n3,rfl⟩:=ext_grown (Ext.refl _) hgrow (by intro k hk;cases hk);have hown1:=hown3)
      | (at_builtin;refine wpList_append_lies _ rfl _ _ _ rfl w.heap.size 3 i0 _ 1 8 Tryz.underlying79 hi hz0 hz1 hz2 rfl (by decide) (.slice none 0 0) 0 [] rfl (World.ownsRow_nil _ _ _ _) _ 1 1 [vi p.bay] rfl rfl (World.news_of_block (alloc_at _ _ _ (by simp))) (by simp [Value.oneCell']) (by decide) (by unfold maxLen;omega) (by omega) (by first|omega|(simp;done)|(simp;omega)) _ rfl ?_;intro gg1 cap1 w3 hown3 hgrow hat hlt;obtain ⟨o3,n3,rfl⟩:=ext_grown (Ext.refl _) hgrow (by intro k hk;cases hk);have hown1:=hown3))
    first
    | (have G0:Hid (Gathered w (carsTo p 0) (.slice none 0 0) ((w.plus o1 n1).alloc (.cells #[vi p.height,vi p.ext,.bool p.door,vi p.people,vi p.lift,vi p.bay,.bool (p.full p.ext),.bool (p.full (p.ext - 1)),.bool (p.full (p.ext+1))] 55))):=by
        unfold Hid;rw [carsTo_zero,HT.out];exact ⟨World.ownsRow_nil _ _ _ _,(by simp (maxDischargeDepth:=60))⟩)
    | (have G0:=Lib.hid (show Gathered w (carsTo p 0) (.slice (some ⟨gg2,0,none⟩) 2 cap2) (w.plus o4 n4) from by
        rw [carsTo_zero,HT.out];exact ⟨by simpa [intCells] using hown2,(by simp (maxDischargeDepth:=60))⟩))
    | (have G0:=Lib.hid (show Gathered w (carsTo p 0) (.slice (some ⟨gg1,0,none⟩) 1 cap1) _ from by
        rw [carsTo_zero,HT.out];exact ⟨by simpa [intCells] using hown1,(by simp (maxDischargeDepth:=60))⟩))
    have HPL:=Lib.hid HP.out;clear e1 e2;go_wp2
    go_loopw [4,5] (fun v i wr=>∃ m:Nat,m≤4∧i = .int .i64 ((m:Int)+1)∧Gathered w (carsTo p (4 * m)) v wr) (fun _ i _=>5 - (intOf i).toNat)
    case atStart=>exact ⟨0,by omega,rfl,G0.out⟩
    case round=>
      obtain ⟨m,hm,rfl,hgat⟩:=hrel;have HG1:=Lib.hid hgat;clear hgat
      by_cases hlt:m<4
      · have hm4:(m:Int)+1≤4:=by omega
        go_wp2
        go_loopw [4,6] (fun v i wr'=>∃ k:Nat,k≤4∧i = .int .i64 (k:Int)∧Gathered w (carsTo p (4 * m+k)) v wr') (fun _ i _=>4 - (intOf i).toNat)
        case atStart=>exact ⟨0,by omega,rfl,HG1.out⟩
        case round=>
          obtain ⟨k,hk,rfl,hgat⟩:=hrel;have HGA:=Lib.hid hgat;have hlen:=carsTo_len p (4 * m+k) (by omega);have hv:=Lib.hid hgat.1;clear hgat
          by_cases hlk:k<4
          · have hk4:(k:Int)<4:=by omega
            by_cases hz:p.slots ⟨(m:Int)+1,(k:Int) / 2,(k:Int) % 2⟩=0
            · have HN:=Lib.hid (carsTo_no p hlt hlk hz)
              go_wp2_with (go_at_call 17;(with_reducible refine (at_any (HPL.out.ext (HGA.out.2.trans (by simp (maxDischargeDepth:=60)))) _ _ _).mono ?_);rintro e wa ⟨rfl,oA,nA,rfl⟩);go_roundw
              case rel=>
                exact ⟨k+1,by omega,by go_num,by rw [HN.out];exact ⟨owns_later HGA.out.1 (by simp (maxDischargeDepth:=60)),HGA.out.2.trans (by simp (maxDischargeDepth:=60))⟩⟩
              case measure=>simp [intOf];omega
            · have HN:=Lib.hid (carsTo_yes p hlt hlk hz)
              go_wp2_with (first
                | (go_at_call 17;(with_reducible refine (at_any (HPL.out.ext (HGA.out.2.trans (by simp (maxDischargeDepth:=60)))) _ _ _).mono ?_);rintro e wa ⟨rfl,oA,nA,rfl⟩)
                | (at_builtin;refine wpList_append_lies _ rfl _ _ _ rfl w.heap.size 3 i0 _ 1 8 Tryz.underlying79 hi hz0 hz1 hz2 rfl (by decide) u4 (carsTo p (4 * m+k)).length _ rfl (owns_later HGA.out.1 (by simp (maxDischargeDepth:=60))) _ 1 1 [vi (p.slots ⟨(m:Int)+1,(k:Int) / 2,(k:Int) % 2⟩)] rfl rfl (World.news_of_block (alloc_at _ _ _ (by simp))) (by simp [Value.oneCell']) (by decide) (by unfold maxLen;omega) (by omega) (by have:=HGA.out.2.below.size;first|omega|(simp;omega)) _ rfl ?_;intro gg cap w3 hown3 hgrow hat hlt3;have HG3:Hid (Gathered w (carsTo p (4 * m+k)++[p.slots ⟨(m:Int)+1,(k:Int) / 2,(k:Int) % 2⟩]) (.slice (some ⟨gg,0,none⟩) ((carsTo p (4 * m+k)).length+1) cap) w3):=⟨gather hown3,ext_grown (w:=w) (HGA.out.2.trans (by simp (maxDischargeDepth:=60))) hgrow (owns_block HGA.out.1)⟩;clear hown3 hgrow hat hlt3))
              go_roundw
              case rel=>
                exact ⟨k+1,by omega,by go_num,by rw [HN.out];exact HG3.out⟩
              case measure=>simp [intOf];omega
          · have hk4:k=4:=by omega
            subst hk4;go_wp2;go_roundw
            case rel=>
              exact ⟨m+1,by omega,by go_num,by rw [show 4 * (m+1)=4 * m+4 by omega];exact HGA.out⟩
            case measure=>simp [intOf];omega
      · have hm4:m=4:=by omega
        subst hm4;go_wp2;go_ret;exact ⟨_,rfl,HG1.out.1,HG1.out.2⟩
def tally (x:Int) (l m:List Int) (k:Nat):Int:=((l.take k).count x:Int) - ((m.take k).count x:Int)
end Go.Proofs.YtplomeacjbkgnadGreatDoor
