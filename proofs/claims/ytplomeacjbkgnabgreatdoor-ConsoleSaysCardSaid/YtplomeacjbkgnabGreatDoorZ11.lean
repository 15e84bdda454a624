import Derived.Test.YtplomeacjbkgnabGreatDoorZ06
set_option linter.all false
set_option maxRecDepth 100000
set_option maxHeartbeats 16000000
namespace Go.Proofs.YtplomeacjbkgnabGreatDoor
open Go.RowKit Go.MapKept Tryz
open Go.ChangeMaps (setBlock heap_setBlock_same heap_setBlock_other)
open Ch hiding once
abbrev lJ:=pB×Int×Nat
def ent (e:lJ):MapEntry:={ key:=pD e.1,val:=vi e.2.1,born:=e.2.2 }
def qO (x:pB):List lJ->Nat->Option (Nat×Value)
 | [],_=>none
 | e :: l,i=>if x=e.1 then some (i,vi e.2.1) else qO x l (i+1)
theorem placeType:prog.underlying 89=some (.struct (prog.fieldsOf 89)):=by kernel_rfl
theorem mapType:prog.underlying 93=some (.map 89 3):=by kernel_rfl
theorem iI (e:Bool) (x:pB) (w:World):(Instr.checkKey e 10000 89 (pD x)).run prog w = .ok () w:=by kernel_rfl
theorem equal_place (w:World) (a b:pB):(Op.equal 89 (pD a) (pD b)).run prog w = .ok (decide (a=b)) w:=fN w 9998 a b
theorem vK (w:World) (x:pB):∀ (l:List lJ) (i:Nat),(Instr.findAsking 89 (pD x) (l.map ent) i).run prog w = .ok (qO x l i) w
 | [],_=>rfl
 | e :: l,i=>by
  simp only [List.map_cons,Instr.findAsking,Sem.run_bind,qO];rw [show (ent e).key=pD e.1 from rfl,equal_place];simp only [Result.andThen]
  by_cases h:x=e.1
  ·rw [if_pos h,decide_eq_true h];rfl
  ·rw [if_neg h,decide_eq_false h];exact vK w x l (i+1)
theorem gG (w:World) (x:pB) (l:List lJ):(Instr.findKey 89 (pD x) (l.map ent)).run prog w = .ok (qO x l 0) w:=by
 unfold Instr.findKey;simp only [Sem.run_bind,run_underlying placeType,Result.andThen]
 cases l with
 | nil=>rfl
 | cons e l=>
  have:Instr.findNow (.struct (prog.fieldsOf 89)) (pD x) ((e :: l).map ent) 0=none:=rfl;rw [this];exact vK w x (e :: l) 0
def dI (x:pB):List lJ->Int
 | []=>0
 | e :: l=>if x=e.1 then e.2.1 else dI x l
theorem jJ (x:pB):∀ (l:List lJ) (i:Nat),(qO x l i=none/\dI x l=0/\∀ e∈l,e.1≠x)\/∃ j e,l[j]? = some e/\e.1=x/\qO x l i=some (i+j,vi e.2.1)/\dI x l=e.2.1
 | [],i=>Or.inl ⟨rfl,rfl,sp⟩
 | e :: l,i=>by
  by_cases h:x=e.1
  ·right
   exact ⟨0,e,rfl,h.symm,by simp [qO,h],by simp [dI,h]⟩
  ·rcases jJ x l (i+1) with ⟨h1,h2,h3⟩|⟨j,e',h1,h2,h3,h4⟩
   ·left
    refine ⟨by simp [qO,h,h1],by simp [dI,h,h2],?_⟩;intro e' he
    rcases List.mem_cons.1 he with rfl|he
    ·exact fun c=>h c.symm
    ·exact h3 e' he
   ·right
    refine ⟨j+1,e',by simpa using h1,h2,?_,by simp [dI,h,h4]⟩;simp only [qO,if_neg h,h3]
    congr 2;omega
structure oI (w:World) (mb:Nat) (l:List lJ) (clock:Nat) (f:pB->Int):Prop where
 heap:w.heap[mb]? = some (.map (l.map ent).toArray clock)
 once:(l.map fun e=>e.1).Nodup
 full:∀ e∈l,e.2.1≠0
 is:∀ x,dI x l=f x
 born:(l.map fun e=>e.2.2).Nodup
 clock:∀ e∈l,e.2.2<clock
theorem run_lookup_place {w:World} {mb:Nat} {l:List lJ} {clock:Nat} (h:w.heap[mb]? = some (.map (l.map ent).toArray clock)) (x:pB):
  (Instr.lookup 93 (.map (some mb)) (pD x) false).run prog w = .ok (vi (dI x l)) w:=by
 have hz:(zeroValue 3).run prog w = .ok (vi 0) w:=by kernel_rfl
 rcases jJ x l 0 with ⟨h1,h2,_⟩|⟨j,e,_,_,h3,h4⟩
 ·simp [Instr.lookup,run_underlying mapType,MapKept.run_getObj_map h,iI,gG,h1,h2,hz,Result.andThen]
 ·simp [Instr.lookup,run_underlying mapType,MapKept.run_getObj_map h,iI,gG,h3,h4,Result.andThen]
theorem oI.look {w:World} {mb:Nat} {l:List lJ} {clock:Nat} {f:pB->Int} (h:oI w mb l clock f) (x:pB):
  (Instr.lookup 93 (.map (some mb)) (pD x) false).run prog w = .ok (vi (f x)) w:=by
 rw [run_lookup_place h.heap,h.is]
theorem oI.same {w w':World} {mb:Nat} {l:List lJ} {clock:Nat} {f:pB->Int} (h:oI w mb l clock f) (e:w'.heap[mb]? = w.heap[mb]?):oI w' mb l clock f:=
 ⟨e.trans h.heap,h.once,h.full,h.is,h.born,h.clock⟩
theorem oI.lt {w:World} {mb:Nat} {l:List lJ} {clock:Nat} {f:pB->Int} (h:oI w mb l clock f):mb<w.heap.size:=by
 by_cases hb:mb<w.heap.size
 ·exact hb
 ·have:=h.heap
  rw [Array.getElem?_eq_none (Nat.le_of_not_lt hb)] at this;cases this
theorem map_erase (j:Nat):∀ (l:List lJ),(l.eraseIdx j).map ent=(l.map ent).eraseIdx j:=by
 induction j with
 | zero=>intro l;cases l <;> rfl
 | succ j ih=>intro l;cases l with
  | nil=>rfl
  | cons e l=>simp [ih]
theorem getIn_erase (x:pB):∀ (l:List lJ) (j:Nat) (e:lJ),(l.map fun e=>e.1).Nodup->l[j]? = some e->dI x (l.eraseIdx j)=if x=e.1 then 0 else dI x l
 | [],j,e,_,h=>by simp at h
 | y :: l,0,e,hn,h=>by
  simp at h;subst h;simp only [List.eraseIdx_cons_zero,dI]
  by_cases hx:x=y.1
  ·rw [if_pos hx]
   have hn':=(List.nodup_cons.1 hn).1
   rcases jJ x l 0 with ⟨_,h2,_⟩|⟨k,e',h1,h2,_,_⟩
   ·exact h2
   ·exfalso
    apply hn';show y.1∈_;rw [<-hx,<-h2];exact List.mem_map.2 ⟨e',List.mem_of_getElem? h1,rfl⟩
  ·rw [if_neg hx,if_neg hx]
 | y :: l,j+1,e,hn,h=>by
  have hn':=List.nodup_cons.1 hn;simp at h;simp only [List.eraseIdx_cons_succ,dI];rw [getIn_erase x l j e hn'.2 h]
  by_cases hx:x=y.1
  ·rw [if_pos hx]
   by_cases he:x=e.1
   ·exfalso
    apply hn'.1;show y.1∈_;rw [<-hx,he];exact List.mem_map.2 ⟨e,List.mem_of_getElem? h,rfl⟩
   ·rw [if_neg he,if_pos hx]
  ·rw [if_neg hx]
   by_cases he:x=e.1
   ·rw [if_pos he,if_pos he]
   ·rw [if_neg he,if_neg he,if_neg hx]
theorem oI.drop {w:World} {mb:Nat} {l:List lJ} {clock:Nat} {f:pB->Int} (h:oI w mb l clock f) (x:pB):
  ∃ l',(∀ ty,(Builtin.delete_ #[93,89] ty #[.map (some mb),pD x]).run prog w = .ok (.tuple #[]) (setBlock w mb (.map (l'.map ent).toArray clock))) /\
   oI (setBlock w mb (.map (l'.map ent).toArray clock)) mb l' clock (sD f x 0):=by
 rcases jJ x l 0 with ⟨h1,h2,h3⟩|⟨j,e,h1,h2,h3,h4⟩
 ·refine ⟨l,?_,heap_setBlock_same h.heap _,h.once,h.full,?_,h.born,h.clock⟩
  ·intro ty;simp [Builtin.delete_,run_underlying mapType,MapKept.run_getObj_map h.heap,iI,gG,h1,run_setObj_map _ h.heap,Result.andThen,setBlock]
  ·intro y
   rw [h.is];simp only [sD]
   split
   ·rename_i hy;subst hy;rw [<-h.is];exact h2
   ·rfl
 ·have hj:j<l.length:=by
   by_cases hj:j<l.length
   ·exact hj
   ·rw [List.getElem?_eq_none om] at h1;cases h1
  have hsub:List.Sublist (l.eraseIdx j) l:=List.eraseIdx_sublist l j;refine ⟨l.eraseIdx j,?_,heap_setBlock_same h.heap _,h.once.sublist (hsub.map _),fun e he=>h.full e (hsub.subset he),?_,h.born.sublist (hsub.map _),fun e he=>h.clock e (hsub.subset he)⟩
  ·intro ty;simp [Builtin.delete_,run_underlying mapType,MapKept.run_getObj_map h.heap,iI,gG,h3,run_setObj_map _ h.heap,Result.andThen,setBlock,Array.eraseIdxIfInBounds,hj,map_erase]
  ·intro y
   rw [getIn_erase y l j e h.once h1,h.is];simp only [sD,h2]
theorem getIn_snoc (x y:pB) (v:Int) (k:Nat):∀ l:List lJ,(∀ e∈l,e.1≠y)->dI x (l++[(y,v,k)])=if x=y then v else dI x l
 | [],_=>by simp [dI]
 | e :: l,h=>by
  have:=getIn_snoc x y v k l (fun e' he=>h e' (by simp [he]));have he:=h e sp;simp only [List.cons_append,dI,this]
  by_cases hx:x=e.1
  ·rw [if_pos hx,if_neg (by rw [hx];exact he),if_pos hx]
  ·rw [if_neg hx,if_neg hx]
theorem run_mapEntry_place {w:World} {mb:Nat} {l:List lJ} {clock:Nat} (h:w.heap[mb]? = some (.map (l.map ent).toArray clock)) (x:pB) (hx:∀ e∈l,e.1≠x):
  (Instr.mapEntry 93 (.map (some mb)) (pD x)).run prog w = .ok (.tuple #[vi 0,vi clock]) (setBlock w mb (.map ((l++[(x,0,clock)]).map ent).toArray (clock+1))):=by
 have hz:(zeroValue 3).run prog w = .ok (vi 0) w:=by kernel_rfl
 rcases jJ x l 0 with ⟨h1,_,_⟩|⟨j,e,h1,h2,_,_⟩
 ·simp [Instr.mapEntry,run_underlying mapType,MapKept.run_getObj_map h,iI,gG,h1,hz,run_setObj_map _ h,Result.andThen,setBlock,ent,goInt]
 ·exact absurd h2 (hx e (List.mem_of_getElem? h1))
theorem findIdx_born (clock:Nat) (x:pB) (u:Int):∀ l:List lJ,(∀ e∈l,e.2.2<clock)->((l++[(x,u,clock)]).map ent).findIdx? (fun e=>(e.born:Int)==(clock:Int))=some l.length
 | [],_=>by simp [ent]
 | e :: l,h=>by
  have:=findIdx_born clock x u l (fun e' he=>h e' (by simp [he]));have he:=h e sp;rw [List.cons_append,List.map_cons,List.findIdx?_cons,this]
  have:((ent e).born:Int)≠(clock:Int):=by simp [ent];omega
  simp [this]
theorem modify_last (x:MapEntry) (g:MapEntry->MapEntry) (f:lJ->MapEntry):∀ l:List lJ,(l.map f++[x]).modify l.length g=l.map f++[g x]
 | []=>rfl
 | e :: l=>by simp [modify_last x g f l]
theorem run_entryStore_place {w:World} {mb:Nat} {l:List lJ} {clock:Nat} {x:pB} {u v:Int} (h:w.heap[mb]? = some (.map ((l++[(x,u,clock)]).map ent).toArray (clock+1))) (hc:∀ e∈l,e.2.2<clock):
  (Instr.entryStore 93 (.map (some mb)) (vi clock) (vi v)).run prog w = .ok () (setBlock w mb (.map ((l++[(x,v,clock)]).map ent).toArray (clock+1))):=by
 have hi:=findIdx_born clock x u l hc;have ha:(asInt (vi clock)).run prog w = .ok (clock:Int) w:=rfl;have hg:(getObj mb).run prog w = .ok (.map ((l++[(x,u,clock)]).map ent).toArray (clock+1)) w:=MapKept.run_getObj_map h;unfold Instr.entryStore;simp only [Sem.run_bind,hg,ha,Result.andThen,List.findIdx?_toArray,hi];rw [run_setObj_map _ h];simp only [setBlock]
 congr 4
 simp only [List.map_append,List.map_cons,List.map_nil,ent];rw [List.modify_toArray,modify_last]
theorem oI.stored {w w':World} {mb:Nat} {l:List lJ} {clock:Nat} {f:pB->Int} (h:oI w mb l clock f) {x:pB} {v:Int} (hx:f x=0) (hv:v≠0)
  (hw:w'.heap[mb]? = some (.map ((l++[(x,v,clock)]).map ent).toArray (clock+1))):oI w' mb (l++[(x,v,clock)]) (clock+1) (sD f x v):=by
 have hne:∀ e∈l,e.1≠x:=by
  rcases jJ x l 0 with ⟨_,_,h3⟩|⟨j,e,h1,h2,_,h4⟩
  ·exact h3
  ·exfalso
   apply h.full e (List.mem_of_getElem? h1);rw [<-h4,h.is];exact hx
 refine ⟨hw,?_,?_,?_,?_,?_⟩
 ·rw [List.map_append,List.nodup_append]
  refine ⟨h.once,sp,?_⟩;intro y hy z hz;simp at hz;subst hz;obtain ⟨e,he,rfl⟩:=List.mem_map.1 hy;exact hne e he
 ·intro e he
  rcases List.mem_append.1 he with he|he
  ·exact h.full e he
  ·simp at he;subst he;exact hv
 ·intro y
  rw [getIn_snoc y x v clock l hne,h.is];rfl
 ·rw [List.map_append,List.nodup_append]
  refine ⟨h.born,sp,?_⟩;intro y hy z hz;simp at hz;subst hz;obtain ⟨e,he,rfl⟩:=List.mem_map.1 hy;have:=h.clock e he;omega
 ·intro e he
  rcases List.mem_append.1 he with he|he
  ·have:=h.clock e he;omega
  ·simp at he;subst he;dsimp only;omega
theorem oI.made (w:World):oI (w.alloc (.map #[] 0)) w.heap.size [] 0 (fun _=>0):=
 ⟨heap_alloc_new w _,sp,sp,fun _=>rfl,sp,sp⟩
end Go.Proofs.YtplomeacjbkgnabGreatDoor
namespace Go.Proofs.YtplomeacjbkgnabGreatDoor
open Go.RowKit Tryz
open Ch hiding once
abbrev plantCells (p:dA) (mb:Nat):Array Value:=#[vi p.levels,vi p.height,vi p.ext,.bool p.door,vi p.people,vi p.lift,vi p.bay,.map (some mb),vi p.stall,.bool p.hurt]
structure yA (w:World) (pb mb:Nat) (p:dA):Prop where
 blk:w.heap[pb]? = some (.cells (plantCells p mb) 95 (0,0))
 slots:∃ l clock,oI w mb l clock p.slots
theorem yA.ne {w:World} {pb mb:Nat} {p:dA} (h:yA w pb mb p):pb≠mb:=by
 rintro rfl;obtain ⟨l,c,hs⟩:=h.slots;have:=hs.heap;rw [h.blk] at this;cases this
theorem yA.same {w w':World} {pb mb:Nat} {p:dA} (h:yA w pb mb p) (h1:w'.heap[pb]? = w.heap[pb]?) (h2:w'.heap[mb]? = w.heap[mb]?):yA w' pb mb p:=
 ⟨h1.trans h.blk,let ⟨l,c,hs⟩:=h.slots;⟨l,c,hs.same h2⟩⟩
theorem yA.lt {w:World} {pb mb:Nat} {p:dA} (h:yA w pb mb p):pb<w.heap.size/\mb<w.heap.size:=by
 obtain ⟨l,c,hs⟩:=h.slots;refine ⟨?_,hs.lt⟩
 by_cases hb:pb<w.heap.size
 ·exact hb
 ·have:=h.blk
  rw [Array.getElem?_eq_none (Nat.le_of_not_lt hb)] at this;cases this
theorem yA.ext {w w':World} {pb mb:Nat} {p:dA} (h:yA w pb mb p) (e:Ext w w'):yA w' pb mb p:=by
 obtain ⟨o,n,rfl⟩:=e;exact h.same (dB w o n pb h.lt.1) (dB w o n mb h.lt.2)
theorem tA {w:World} {b:Nat} {cs:Array Value} {t:TypeId} {i:Nat} {v:Value} (h:w.heap[b]? = some (.cells cs t (0,0))) (hi:cs[i]? = some v):w.cell? ⟨b,i,none⟩=some v:=by
 simp [World.cell?,h,hi]
theorem vA {w:World} {b:Nat} {cs:Array Value} {t:TypeId} (h:w.heap[b]? = some (.cells cs t (0,0))) (i:Nat):w.frozen? ⟨b,i,none⟩=false:=by
 simp [World.frozen?,h]
theorem yA.cells {w:World} {pb mb:Nat} {p:dA} (h:yA w pb mb p):
  w.cell? ⟨pb,0,none⟩=some (vi p.levels)/\w.cell? ⟨pb,1,none⟩=some (vi p.height)/\w.cell? ⟨pb,2,none⟩=some (vi p.ext)/\w.cell? ⟨pb,3,none⟩=some (.bool p.door) /\
  w.cell? ⟨pb,4,none⟩=some (vi p.people)/\w.cell? ⟨pb,5,none⟩=some (vi p.lift)/\w.cell? ⟨pb,6,none⟩=some (vi p.bay)/\w.cell? ⟨pb,7,none⟩=some (.map (some mb)) /\
  w.cell? ⟨pb,8,none⟩=some (vi p.stall)/\w.cell? ⟨pb,9,none⟩=some (.bool p.hurt):=
 ⟨tA h.blk rfl,tA h.blk rfl,tA h.blk rfl,tA h.blk rfl,tA h.blk rfl,tA h.blk rfl,tA h.blk rfl,tA h.blk rfl,tA h.blk rfl,tA h.blk rfl⟩
def bG (h e:Int):Option pB:=dA.place { (default:dA) with height:=h } e
theorem uI (p:dA) (e:Int):p.place e=bG p.height e:=rfl
theorem placeAt_none {h e:Int} (hx:bG h e=none):h % 3≠0\/h=0\/e=0\/e < -2\/2<e:=by
 unfold bG dA.place at hx;dsimp only at hx
 split at hx
 ·assumption
 ·split at hx <;> cases hx
theorem placeAt_some {h e:Int} {x:pB} (hx:bG h e=some x):h % 3=0/\h≠0/\e≠0/\-2<=e/\e<=2/\((e<0/\x=⟨h / 3,0,-e - 1⟩)\/(¬ e<0/\x=⟨h / 3,1,e - 1⟩)):=by
 unfold bG dA.place at hx;dsimp only at hx
 split at hx
 ·cases hx
 ·rename_i hc
  refine ⟨om,om,om,om,om,?_⟩
  split at hx
  ·cases hx;rename_i h;exact Or.inl ⟨h,rfl⟩
  ·cases hx;rename_i h;exact Or.inr ⟨h,rfl⟩
theorem at_none (pb:Nat) (h e:Int) (w:World) (hc:w.cell? ⟨pb,1,none⟩=some (vi h)) (h0:0<=h) (h1:h<=12) (e0:-3<=e) (e1:e<=3) (hx:bG h e=none):
  Calls prog 133 #[.pointer (some ⟨pb,0,none⟩),vi e] w fun r w'=>r = .returned (.tuple #[.agg #[vi 0,vi 0,vi 0],.bool false])/\Ext w w':=by
 have hb:=cA hc;have HX:=placeAt_none hx;clear hx;go_enter func133,ntmps133;go_wp2
 all_goals
  first
  | (exfalso;go_light;omega)
  | exact bodyPost_ret (v:=.tuple #[.agg #[vi 0,vi 0,vi 0],.bool false]) (by simp [results,results133,go_sem]) rfl ⟨rfl,eX⟩
theorem lN (pb:Nat) (h e:Int) (a b c:Int) (w:World) (hc:w.cell? ⟨pb,1,none⟩=some (vi h)) (h0:0<=h) (h1:h<=12) (e0:-3<=e) (e1:e<=3) (hx:bG h e=some ⟨a,b,c⟩):
    Calls prog 133 #[.pointer (some ⟨pb,0,none⟩),vi e] w fun r w'=>r = .returned (.tuple #[.agg #[vi a,vi b,vi c],.bool true])/\Ext w w':=by
  have hb:=cA hc;have HX:=placeAt_some hx;simp only [pB.mk.injEq] at HX;have HX:=aA HX;clear hx;go_enter func133,ntmps133;go_wp2
  all_goals
    have HX:=HX.out
    first
    | (exfalso;go_light;(try simp only [beq_iff_eq] at *);omega)
    | (obtain ⟨_,_,_,_,_,⟨hl,rfl,rfl,rfl⟩|⟨hl,rfl,rfl,rfl⟩⟩:=HX
       · first
         | (exfalso;go_light;omega)
         | exact bodyPost_ret (v:=.tuple #[.agg #[vi (h / 3),vi 0,vi (-e - 1)],.bool true]) (by simp [results,results133,go_sem]) rfl ⟨rfl,eX⟩
       · first
         | (exfalso;go_light;omega)
         | exact bodyPost_ret (v:=.tuple #[.agg #[vi (h / 3),vi 1,vi (e - 1)],.bool true]) (by simp [results,results133,go_sem]) rfl ⟨rfl,eX⟩)
theorem open_any (pb:Nat) (d:Bool) (n:Int) (w:World) (h3:w.cell? ⟨pb,3,none⟩=some (.bool d)) (h4:w.cell? ⟨pb,4,none⟩=some (vi n)):
  Calls prog 165 #[.pointer (some ⟨pb,0,none⟩)] w fun r w'=>r = .returned (.bool (d || decide (0<n)))/\Ext w w':=by
 have hb:=cA h3;cases d
 all_goals
  go_enter func165,ntmps165;go_wp2
  all_goals
   go_ret;exact ⟨sp,eX⟩
theorem full_any {pb mb:Nat} {p:dA} {w:World} (h:yA w pb mb p) (e:Int) (h0:0<=p.height) (h1:p.height<=12) (e0:-3<=e) (e1:e<=3):
  Calls prog 71 #[.pointer (some ⟨pb,0,none⟩),vi e] w fun r w'=>r = .returned (.bool (p.full e))/\Ext w w':=by
 obtain ⟨c0,c1,c2,c3,c4,c5,c6,c7,c8,c9⟩:=h.cells;have hb:=cA c1
 cases hx:bG p.height e with
 | none=>
  have HF:Hid (p.full e=false):=by unfold Hid dA.full;rw [uI,hx]
  have HX:=aA hx;clear hx;go_enter func71,ntmps71;go_wp2_with (go_at_call 133;with_reducible refine mo (at_none _ _ _ _ (by assumption) om om om om HX.out) fun o1 n1=>?_)
  (refine qF ?_;rintro _ ⟨oq,nq,rfl⟩)
  go_wp2;go_ret;exact ⟨by rw [HF.out];rfl,eX⟩
 | some x=>
  obtain ⟨a,b,c⟩:=x
  have HF:Hid (p.full e=(p.slots ⟨a,b,c⟩ != 0)):=by unfold Hid dA.full;rw [uI,hx]
  have HX:=aA hx;have HP:=aA h;clear hx;go_enter func71,ntmps71;go_wp2_with (go_at_call 133;with_reducible refine mo (lN _ _ _ a b c _ (by assumption) om om om om HX.out) fun o1 n1=>?_)
  have hl:∀ o n,(Instr.lookup 93 (.map (some mb)) (.agg #[vi a,vi b,vi c]) false).run prog (World.plus ((w.plus o1 n1).alloc (.cells #[vi a,vi b,vi c] 89)) o n) = .ok (vi (p.slots ⟨a,b,c⟩)) (World.plus ((w.plus o1 n1).alloc (.cells #[vi a,vi b,vi c] 89)) o n):=fun o n=>by
   obtain ⟨l,k,hs⟩:=(HP.out.ext (w':=World.plus ((w.plus o1 n1).alloc (.cells #[vi a,vi b,vi c] 89)) o n) eX).slots;exact hs.look ⟨a,b,c⟩
  (refine qF ?_;rintro _ ⟨oq,nq,rfl⟩)
  go_wp2;go_ret;exact ⟨by rw [HF.out];rfl,eX⟩
abbrev senseA (p:dA):Value:=.agg #[vi p.height,vi p.ext,.bool p.door,vi p.people,vi p.lift,vi p.bay,.bool (p.full p.ext),.bool (p.full (p.ext - 1)),.bool (p.full (p.ext+1))]
theorem sense_any {pb mb:Nat} {p:dA} {w:World} (h:yA w pb mb p) (hp:p.WF):
  Calls prog 22 #[.pointer (some ⟨pb,0,none⟩)] w fun r w'=>r = .returned (senseA p)/\Ext w w':=by
 obtain ⟨c0,c1,c2,c3,c4,c5,c6,c7,c8,c9⟩:=h.cells;have hb:=cA c1;have HP:=aA h;have h1:=hp.ht1
 have h2:p.height<=12:=by have:=hp.ht2;have:=hp.lv2;omega
 have h3:=hp.ex1;have h4:=hp.ex2;have i1:IntKind.i64.wrap (p.ext - 1)=p.ext - 1:=IntWalk.i64_in _ om;have i2:IntKind.i64.wrap (p.ext+1)=p.ext+1:=IntWalk.i64_in _ om;clear h;go_enter func22,ntmps22;go_wp2
 (refine iD 45 kR kR ?_;(simp only [List.take_succ_cons,List.take_zero,List.drop_succ_cons,List.drop_zero]);(repeat (first|go_big_quiet_step ((intro _;go_at_call 71;exact qC (full_any (HP.out.ext eX) _ h1 h2 om om)))|quiet_step (fail)));refine wpQuiet_nil ?_;rintro _ ⟨oq,nq,rfl⟩)
 go_wp2;exact bodyPost_ret (v:=senseA p) (by simp [results,results22,go_sem]) rfl ⟨rfl,eX⟩
theorem at_any {pb mb:Nat} {p:dA} {w:World} (h:yA w pb mb p) (a b c:Int):
  Calls prog 35 #[.pointer (some ⟨pb,0,none⟩),.agg #[vi a,vi b,vi c]] w fun r w'=>r = .returned (vi (p.slots ⟨a,b,c⟩))/\Ext w w':=by
 obtain ⟨c0,c1,c2,c3,c4,c5,c6,c7,c8,c9⟩:=h.cells;have hb:=cA c1
 have hl:∀ o n,(Instr.lookup 93 (.map (some mb)) (.agg #[vi a,vi b,vi c]) false).run prog (World.plus (w.alloc (.cells #[vi a,vi b,vi c] 89)) o n) = .ok (vi (p.slots ⟨a,b,c⟩)) (World.plus (w.alloc (.cells #[vi a,vi b,vi c] 89)) o n):=fun o n=>by
  obtain ⟨l,k,hs⟩:=(h.ext (w':=World.plus (w.alloc (.cells #[vi a,vi b,vi c] 89)) o n) eX).slots;exact hs.look ⟨a,b,c⟩
 clear h;go_enter func35,ntmps35;go_wp2
 (refine qF ?_;rintro _ ⟨oq,nq,rfl⟩)
 go_wp2;go_ret;exact ⟨rfl,eX⟩
theorem yA.set {w:World} {pb mb:Nat} {p q:dA} (h:yA w pb mb p) (i:Nat) (v:Value) (hq:(plantCells p mb).setIfInBounds i v=plantCells q mb) (hs:q.slots=p.slots):yA (w.setCell ⟨pb,i,none⟩ v) pb mb q:=by
 refine ⟨?_,?_⟩
 ·rw [tB h.blk,hq]
 ·obtain ⟨l,c,hl⟩:=h.slots
  exact ⟨l,c,hs▸hl.same (kB (fun e=>h.ne e.symm))⟩
abbrev Own (pb mb:Nat):Nat->Prop:=fun k=>k=pb\/k=mb
def Did (pb mb:Nat) (w:World) (p':dA) (r:Value) (e:Ending) (w':World):Prop:=e = .returned r/\yA w' pb mb p'/\fA (Own pb mb) w w'
theorem rise_any {pb mb:Nat} {p:dA} {w:World} (h:yA w pb mb p) (hp:p.WF) (n:Int) (hn:n=1\/n=-1):
  Calls prog 104 #[.pointer (some ⟨pb,0,none⟩),vi n] w (Did pb mb w (p.rise n) (.tuple #[])):=by
 obtain ⟨c0,c1,c2,c3,c4,c5,c6,c7,c8,c9⟩:=h.cells;have hb:=cA c1;have HP:=aA h;have fz:=vA h.blk;have h1:=hp.ht1;have h2:=hp.ht2;have h3:=hp.lv1;have h4:=hp.lv2;have i1:IntKind.i64.wrap (p.height+n)=p.height+n:=IntWalk.i64_in _ om;have i2:IntKind.i64.wrap (p.levels * 3)=p.levels * 3:=IntWalk.i64_in _ om;clear h hn;go_enter func104,ntmps104;go_wp2_with (go_at_call 165;with_reducible refine mo (open_any _ _ _ _ (by assumption) (by assumption)) fun o1 n1=>?_)
 all_goals
  generalize hW:World.setCell _ _ _=wq
  have P1:yA wq pb mb { p with hurt:=p.hurt || p.ext != 0 || p.openB }:=by
   rw [<-hW]
   first
   | exact HP.out.set 9 _ (by simp [dA.openB, *]) rfl
   | exact (HP.out.ext eX).set 9 _ (by simp [dA.openB, *]) rfl
  have K1:fA (Own pb mb) w wq:=by
   rw [<-hW]
   first
   | exact (fA.refl _ _).setCell (Or.inl (Or.inl rfl)) _
   | exact (fA.of_ext eX).setCell (Or.inl (Or.inl rfl)) _
  clear hW;obtain ⟨d0,d1,d2,d3,d4,d5,d6,d7,d8,d9⟩:=P1.cells;have hb':=cA d1;have fz':=vA P1.blk;have HP1:=aA P1;have HK1:=aA K1;clear P1 K1 c0 c1 c2 c3 c4 c5 c6 c7 c8 c9
  (refine iD 16 kR kR ?_;(simp only [List.take_succ_cons,List.take_zero,List.drop_succ_cons,List.drop_zero]);(repeat (first|go_big_quiet_step (fail)|quiet_step (fail)));refine wpQuiet_nil ?_;rintro _ ⟨oq,nq,rfl⟩)
  go_wp2
  all_goals
   go_end0
   exact ⟨rfl,(HP1.out.ext eX).set 1 _ (by first|(simp [dA.rise,oJ];done)|(simp [dA.rise,oJ];omega)) rfl,(HK1.out.ext eX).setCell (Or.inl (Or.inl rfl)) _⟩
theorem swing_any {pb mb:Nat} {p:dA} {w:World} (h:yA w pb mb p) (o:Bool):
  Calls prog 108 #[.pointer (some ⟨pb,0,none⟩),.bool o] w (Did pb mb w (p.swing o) (.tuple #[])):=by
 obtain ⟨c0,c1,c2,c3,c4,c5,c6,c7,c8,c9⟩:=h.cells;have hb:=cA c1;have HP:=aA h;have fz:=vA h.blk;clear h;cases o
 all_goals
  go_enter func108,ntmps108;go_wp2
  all_goals
   go_end0
   refine ⟨rfl,?_,((fA.refl _ _).setCell (Or.inl (Or.inl rfl)) _).setCell (Or.inl (Or.inl rfl)) _⟩
   first
   | exact (HP.out.set (q:={ p with hurt:=(p.swing true).hurt }) 9 _ (by simp [dA.swing, *];done) rfl).set (q:=p.swing true) 3 _ (by simp [dA.swing];done) rfl
   | exact (HP.out.set (q:={ p with hurt:=(p.swing false).hurt }) 9 _ (by simp [dA.swing, *];done) rfl).set (q:=p.swing false) 3 _ (by simp [dA.swing];done) rfl
theorem eM {p:dA} {o:Bool} (h:p.height≠0\/p.ext≠0):p.pass o={ p with hurt:=p.hurt || p.openB }:=by unfold dA.pass;rw [if_pos h]
theorem pN {p:dA} (h:¬ (p.height≠0\/p.ext≠0)) (hl:p.lift≠0):p.pass true={ p with hurt:=p.hurt || p.openB }:=by unfold dA.pass;rw [if_neg h,if_pos rfl,if_neg hl]
theorem fM {p:dA} (h:¬ (p.height≠0\/p.ext≠0)) (hl:p.bay≠0):p.pass false={ p with hurt:=p.hurt || p.openB }:=by unfold dA.pass;rw [if_neg h,if_neg dc,if_neg hl]
theorem pass_in {p:dA} (h0:p.height=0) (h1:p.ext=0) (hl:p.lift=0):p.pass true={ p with hurt:=p.hurt || p.openB,lift:=p.bay,bay:=0 }:=by unfold dA.pass;rw [if_neg om,if_pos rfl,if_pos hl]
theorem pass_out {p:dA} (h0:p.height=0) (h1:p.ext=0) (hl:p.bay=0):p.pass false={ p with hurt:=p.hurt || p.openB,bay:=p.lift,lift:=0 }:=by unfold dA.pass;rw [if_neg om,if_neg dc,if_pos hl]
theorem pass_any {pb mb:Nat} {p:dA} {w:World} (h:yA w pb mb p) (o:Bool):
  Calls prog 109 #[.pointer (some ⟨pb,0,none⟩),.bool o] w (Did pb mb w (p.pass o) (.tuple #[])):=by
 obtain ⟨c0,c1,c2,c3,c4,c5,c6,c7,c8,c9⟩:=h.cells;have hb:=cA c1;have HP:=aA h;have fz:=vA h.blk;clear h;cases o
 all_goals
  go_enter func109,ntmps109
  go_upto_region 1 with (go_at_call 165;with_reducible refine mo (open_any _ _ _ _ (by assumption) (by assumption)) fun o1 n1=>?_)
  all_goals
   generalize hW:World.setCell _ _ _=wq
   have P1:yA wq pb mb { p with hurt:=p.hurt || p.openB }:=by
    rw [<-hW]
    first
    | exact HP.out.set 9 _ (by simp [dA.openB, *];done) rfl
    | exact (HP.out.ext eX).set 9 _ (by simp [dA.openB, *];done) rfl
   have K1:fA (Own pb mb) w wq:=by
    rw [<-hW]
    first
    | exact (fA.refl _ _).setCell (Or.inl (Or.inl rfl)) _
    | exact (fA.of_ext eX).setCell (Or.inl (Or.inl rfl)) _
   clear hW;obtain ⟨d0,d1,d2,d3,d4,d5,d6,d7,d8,d9⟩:=P1.cells;have hb':=cA d1;have fz':=vA P1.blk;have HP1:=aA P1;have HK1:=aA K1;clear P1 K1 c0 c1 c2 c3 c4 c5 c6 c7 c8 c9;go_wp2
   all_goals
    go_end0
    go_light;refine ⟨rfl,?_,?_⟩
    case refine_2=>
     first
     | exact HK1.out
     | exact (HK1.out.setCell (Or.inl (Or.inl rfl)) _).setCell (Or.inl (Or.inl rfl)) _
    case refine_1=>
     try simp only [bne_iff_ne,ne_eq,beq_iff_eq,beq_eq_false_iff_ne,bne_eq_false_iff_eq] at *
     first
     | (rw [eM om];exact HP1.out)
     | (rw [pN om om];exact HP1.out)
     | (rw [fM om om];exact HP1.out)
     | (rw [pass_in om om om];exact (HP1.out.set (q:={ p with hurt:=p.hurt || p.openB,lift:=p.bay }) 5 _ sp rfl).set 6 _ sp rfl)
     | (rw [pass_out om om om];exact (HP1.out.set (q:={ p with hurt:=p.hurt || p.openB,bay:=p.lift }) 6 _ sp rfl).set 5 _ sp rfl)
theorem stretch_any {pb mb:Nat} {p:dA} {w:World} (h:yA w pb mb p) (hp:p.WF) (n:Int) (hn:n=1\/n=-1):
  Calls prog 105 #[.pointer (some ⟨pb,0,none⟩),vi n] w (Did pb mb w (p.stretch n) (.tuple #[])):=by
 obtain ⟨c0,c1,c2,c3,c4,c5,c6,c7,c8,c9⟩:=h.cells;have hb:=cA c1;have HP:=aA h;have fz:=vA h.blk;have h1:=hp.ht1
 have h2:p.height<=12:=by have:=hp.ht2;have:=hp.lv2;omega
 have h3:=hp.ex1;have h4:=hp.ex2;have i1:IntKind.i64.wrap (p.ext+n)=p.ext+n:=IntWalk.i64_in _ om
 have b1:-3<=p.ext+n:=om
 have b2:p.ext+n<=3:=om
 clear h hn
 by_cases hr:p.ext+n < -2\/2<p.ext+n
 ·have HR:=aA hr
  have HS:Hid (p.stretch n=p):=by unfold Hid dA.stretch;rw [if_pos hr]
  clear hr;go_enter func105,ntmps105;go_wp2_with fail
  all_goals
   first
   | (exfalso;have:=HR.out;omega)
   | (refine bodyPost_ret (results_none rfl _ _ _) rfl ?_;rw [HS.out];exact ⟨rfl,HP.out.ext eX,fA.of_ext eX⟩)
 ·have r1:-2<=p.ext+n:=om
  have r2:p.ext+n<=2:=om
  have HS:Hid (p.stretch n={ p with hurt:=p.hurt || (p.ext+n != 0&&(p.place (p.ext+n)).isNone) || (p.lift != 0&&p.full (p.ext+n)),ext:=p.ext+n }):=by unfold Hid dA.stretch;rw [if_neg hr]
  clear hr
  cases hx:bG p.height (p.ext+n) with
  | none=>
   have HX:=aA hx
   have HN:Hid ((p.place (p.ext+n)).isNone=true):=by unfold Hid;rw [uI,hx];rfl
   clear hx;go_enter func105,ntmps105;go_wp2_with (first|(go_at_call 133;with_reducible refine mo (at_none _ _ _ _ (by assumption) om om om om HX.out) fun o1 n1=>?_)|(go_at_call 71;with_reducible refine mo (full_any (HP.out.ext eX) _ h1 h2 om om) fun o1 n1=>?_))
   all_goals
    go_end0
    go_light;rw [HS.out];have hn':=HN.out;refine ⟨rfl,?_,?_⟩
    case refine_1=>
     first
     | refine yA.ext (yA.set (yA.set (q:={ p with hurt:=p.hurt || (p.ext+n != 0&&(p.place (p.ext+n)).isNone) || (p.lift != 0&&p.full (p.ext+n)) }) (HP.out.ext (w':=w.plus o1 n1) eX) 9 _ ?_ rfl) 2 _ ?_ rfl) (Ext.alloc (Ext.refl _) _)
     | refine yA.set (yA.set (q:={ p with hurt:=p.hurt || (p.ext+n != 0&&(p.place (p.ext+n)).isNone) || (p.lift != 0&&p.full (p.ext+n)) }) (HP.out.ext ?_) 9 _ ?_ rfl) 2 _ ?_ rfl
     all_goals first|(simp (maxDischargeDepth:=60);done)|(simp [*];done)|(simp [*];omega)
    case refine_2=>
     first
     | exact (((fA.of_ext (w':=w.plus o1 n1) eX).setCell (Or.inl (Or.inl rfl)) _).setCell (Or.inl (Or.inl rfl)) _).ext (Ext.alloc (Ext.refl _) _)
     | refine fA.setCell (fA.setCell (fA.of_ext ?_) (Or.inl (Or.inl rfl)) _) (Or.inl (Or.inl rfl)) _;exact eX
  | some x=>
   obtain ⟨a,b,c⟩:=x;have HX:=aA hx
   have HN:Hid ((p.place (p.ext+n)).isNone=false):=by unfold Hid;rw [uI,hx];rfl
   clear hx;go_enter func105,ntmps105;go_wp2_with (first|(go_at_call 133;with_reducible refine mo (lN _ _ _ a b c _ (by assumption) om om om om HX.out) fun o1 n1=>?_)|(go_at_call 71;with_reducible refine mo (full_any (HP.out.ext eX) _ h1 h2 om om) fun o1 n1=>?_))
   all_goals
    go_end0
    go_light;rw [HS.out];have hn':=HN.out;refine ⟨rfl,?_,?_⟩
    case refine_1=>
     first
     | refine yA.ext (yA.set (yA.set (q:={ p with hurt:=p.hurt || (p.ext+n != 0&&(p.place (p.ext+n)).isNone) || (p.lift != 0&&p.full (p.ext+n)) }) (HP.out.ext (w':=w.plus o1 n1) eX) 9 _ ?_ rfl) 2 _ ?_ rfl) (Ext.alloc (Ext.refl _) _)
     | refine yA.set (yA.set (q:={ p with hurt:=p.hurt || (p.ext+n != 0&&(p.place (p.ext+n)).isNone) || (p.lift != 0&&p.full (p.ext+n)) }) (HP.out.ext ?_) 9 _ ?_ rfl) 2 _ ?_ rfl
     all_goals first|(simp (maxDischargeDepth:=60);done)|(simp [*];done)|(simp [*];omega)
    case refine_2=>
     first
     | exact (((fA.of_ext (w':=w.plus o1 n1) eX).setCell (Or.inl (Or.inl rfl)) _).setCell (Or.inl (Or.inl rfl)) _).ext (Ext.alloc (Ext.refl _) _)
     | refine fA.setCell (fA.setCell (fA.of_ext ?_) (Or.inl (Or.inl rfl)) _) (Or.inl (Or.inl rfl)) _;exact eX
