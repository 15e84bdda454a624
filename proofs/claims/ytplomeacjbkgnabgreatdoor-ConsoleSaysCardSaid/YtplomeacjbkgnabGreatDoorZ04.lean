import Derived.Deep.Light
import Derived.Test.YtplomeacjbkgnabGreatDoorZ03
import Derived.Test.YtplomeacjbkgnabGreatDoorZ02
import Derived.Deep.RegionHeld3
set_option linter.all false
set_option maxRecDepth 100000
set_option maxHeartbeats 16000000
namespace Go.Proofs.YtplomeacjbkgnabGreatDoor
open Go.RowKit Tryz Ch
def aC (n:Int):Value:=if n=0 then .nilIface else .iface 92 (vi n)
@[simp] theorem errV_0:aC 0 = .nilIface:=rfl
theorem errV_pos {n:Int} (h:n≠0):aC n = .iface 92 (vi n):=by simp [aC,h]
theorem place_ok {p:pB} {n:Int}:uA p n=0↔(1<=p.level/\p.level<=n/\0<=p.side/\p.side<=1/\0<=p.depth/\p.depth<=1):=by
 unfold uA
 split <;> simp <;> omega
theorem place_bad {p:pB} {n:Int} (h:¬ uA p n=0):uA p n=1:=by
 unfold uA at *
 split <;> simp_all
theorem checkSize_any (s:dD) (w:World):Calls prog 87 #[sizeA s] w fun e w'=>e = .returned (aC (iC s))/\Ext w w':=by
 obtain ⟨a,b,c⟩:=s;go_enter func87,ntmps87;go_wp2
 go_rounds 4
 all_goals
  go_ret;go_light;refine ⟨?_,eX⟩;simp only [iC]
  first|(rw [if_pos om];rfl)|(rw [if_neg om];rfl)
theorem rsizeFault_any (s:dD) (w:World):Calls prog 37 #[sizeA s] w fun e w'=>e = .returned (vi (iC s))/\Ext w w':=by
 obtain ⟨a,b,c⟩:=s;go_enter func37,ntmps37;go_wp2
 all_goals
  go_ret;go_light;refine ⟨?_,eX⟩;simp only [iC]
  first|(rw [if_pos om];rfl)|(rw [if_neg om];rfl)
theorem fits_any (s r:dD) (w:World):Calls prog 88 #[sizeA s,sizeA r] w fun e w'=>e = .returned (.bool (pM s r))/\Ext w w':=by
 obtain ⟨a,b,c⟩:=s;obtain ⟨a',b',c'⟩:=r;go_enter func88,ntmps88;go_wp2
 all_goals
  go_ret;go_light;refine ⟨?_,eX⟩;refine congrArg (fun b=>Ending.returned (.bool b)) ?_;simp only [pM]
  grind
theorem rfits_any (s r:dD) (w:World):Calls prog 38 #[sizeA s,sizeA r] w fun e w'=>e = .returned (.bool (pM s r))/\Ext w w':=by
 obtain ⟨a,b,c⟩:=s;obtain ⟨a',b',c'⟩:=r;go_enter func38,ntmps38;go_wp2
 all_goals
  go_ret;go_light;refine ⟨?_,eX⟩;refine congrArg (fun b=>Ending.returned (.bool b)) ?_;simp only [pM]
  grind
theorem checkPlace_any (p:pB) (n:Int) (w:World):Calls prog 189 #[pD p,vi n] w fun e w'=>e = .returned (aC (uA p n))/\Ext w w':=by
 obtain ⟨a,b,c⟩:=p;go_enter func189,ntmps189;go_wp2
 all_goals
  go_ret;go_light;refine ⟨?_,eX⟩;simp only [uA]
  first|(rw [if_pos om];rfl)|(rw [if_neg om];rfl)
theorem rplaceFault_any (p:pB) (n:Int) (w:World):Calls prog 134 #[pD p,vi n] w fun e w'=>e = .returned (vi (uA p n))/\Ext w w':=by
 obtain ⟨a,b,c⟩:=p;go_enter func134,ntmps134;go_wp2
 all_goals
  go_ret;go_light;refine ⟨?_,eX⟩;simp only [uA]
  first|(rw [if_pos om];rfl)|(rw [if_neg om];rfl)
theorem ext_any (p:pB) (w:World) (h0:0<=p.depth) (h1:p.depth<=1):Calls prog 192 #[pD p] w fun e w'=>e = .returned (vi (extOf p))/\Ext w w':=by
 go_enter func192,ntmps192;go_wp2
 all_goals
  go_ret;go_light;rename_i hx;refine ⟨?_,eX⟩;simp at hx;simp [extOf,hx]
theorem rext_any (p:pB) (w:World) (h0:0<=p.depth) (h1:p.depth<=1):Calls prog 174 #[pD p] w fun e w'=>e = .returned (vi (extOf p))/\Ext w w':=by
 go_enter func174,ntmps174;go_wp2
 all_goals
  go_ret;go_light;rename_i hx;refine ⟨?_,eX⟩;simp at hx;simp [extOf,hx]
  try omega
theorem front_any (p:pB) (w:World):Calls prog 156 #[pD p] w fun e w'=>e = .returned (pD (aH p))/\Ext w w':=by
 go_enter func156,ntmps156;go_wp2;refine bodyPost_ret (v:=pD (aH p)) (by simp [results,results156,go_sem,aH]) rfl ⟨rfl,eX⟩
theorem spare_any (n:Int) (w:World):Calls prog 114 #[vi n] w fun e w'=>e = .returned (pD (wH n))/\Ext w w':=by
 go_enter func114,ntmps114;go_wp2;refine bodyPost_ret (v:=pD (wH n)) (by simp [results,results114,go_sem,wH]) rfl ⟨rfl,eX⟩
theorem rspare_any (n:Int) (w:World):Calls prog 124 #[vi n] w fun e w'=>e = .returned (pD (wH n))/\Ext w w':=by
 go_enter func124,ntmps124;go_wp2;refine bodyPost_ret (v:=pD (wH n)) (by simp [results,results124,go_sem,wH]) rfl ⟨rfl,eX⟩
theorem iN (a b c:Int) (w:World):Calls prog 87 #[.agg #[vi a,vi b,vi c]] w fun e w'=>e = .returned (aC (iC ⟨a,b,c⟩))/\Ext w w':=checkSize_any ⟨a,b,c⟩ w
theorem pL (a b c:Int) (w:World):Calls prog 37 #[.agg #[vi a,vi b,vi c]] w fun e w'=>e = .returned (vi (iC ⟨a,b,c⟩))/\Ext w w':=rsizeFault_any ⟨a,b,c⟩ w
theorem fits_f (a b c a' b' c':Int) (w:World):Calls prog 88 #[.agg #[vi a,vi b,vi c],.agg #[vi a',vi b',vi c']] w fun e w'=>e = .returned (.bool (pM ⟨a,b,c⟩ ⟨a',b',c'⟩))/\Ext w w':=fits_any ⟨a,b,c⟩ ⟨a',b',c'⟩ w
theorem rfits_f (a b c a' b' c':Int) (w:World):Calls prog 38 #[.agg #[vi a,vi b,vi c],.agg #[vi a',vi b',vi c']] w fun e w'=>e = .returned (.bool (pM ⟨a,b,c⟩ ⟨a',b',c'⟩))/\Ext w w':=rfits_any ⟨a,b,c⟩ ⟨a',b',c'⟩ w
theorem sF (a b c n:Int) (w:World):Calls prog 189 #[.agg #[vi a,vi b,vi c],vi n] w fun e w'=>e = .returned (aC (uA ⟨a,b,c⟩ n))/\Ext w w':=checkPlace_any ⟨a,b,c⟩ n w
theorem rplaceFault_f (a b c n:Int) (w:World):Calls prog 134 #[.agg #[vi a,vi b,vi c],vi n] w fun e w'=>e = .returned (vi (uA ⟨a,b,c⟩ n))/\Ext w w':=rplaceFault_any ⟨a,b,c⟩ n w
theorem oO (a b c:Int) (w:World):Calls prog 156 #[.agg #[vi a,vi b,vi c]] w fun e w'=>e = .returned (.agg #[vi a,vi b,vi 0])/\Ext w w':=front_any ⟨a,b,c⟩ w
theorem wF (n:Int) (w:World):Calls prog 124 #[vi n] w fun e w'=>e = .returned (.agg #[vi n,vi 1,vi 0])/\Ext w w':=rspare_any n w
end Go.Proofs.YtplomeacjbkgnabGreatDoor
namespace Ch
open Go
def aD:aB->Nat->List ByteArray->aB×Int
 | d,_,[]=>(d,0)
 | d,i,s :: l=>if (d.write (i:Int) s).2=0 then aD (d.write (i:Int) s).1 (i+1) l else d.write (i:Int) s
def dH (s:List UInt8):List ByteArray:=(iL s.length s).map fun c=>⟨c.toArray⟩
def aB.keep (d:aB) (e:Nat) (b:gB):aB×Int:=
 let r:=aD d (2+e % 2 * 10) (dH (mB b))
 if r.2=0 then
  let f:=r.1.flush
  if f.2=0 then
   let h:=f.1.write ((e % 2:Nat):Int) ⟨(head e (mB b).length).toArray⟩
   if h.2=0 then h.1.flush else h
  else f
 else r
def aB.format (d:aB):aB×Int:=
 let a:=d.write 1 ⟨#[]⟩
 if a.2=0 then
  let r:=a.1.write 2 ⟨(mB ⟨0,[],[]⟩).toArray⟩
  if r.2=0 then
   let f:=r.1.flush
   if f.2=0 then
    let h:=f.1.write 0 ⟨(head 2 (mB ⟨0,[],[]⟩).length).toArray⟩
    if h.2=0 then h.1.flush else h
   else f
  else r
 else a
theorem writes_snoc:∀ (l:List ByteArray) (d:aB) (i:Nat) (s:ByteArray),(aD d i l).2=0->aD d i (l++[s])=(aD d i l).1.write ((i+l.length:Nat):Int) s
 | [],d,i,s,_=>by
  simp only [List.nil_append,aD,List.length_nil,Nat.add_zero]
  split
  ·rename_i h;rw [<-h]
  ·rfl
 | x :: l,d,i,s,h=>by
  simp only [List.cons_append,aD,List.length_cons] at h ⊢
  split at h
  ·rename_i hx
   rw [if_pos hx,if_pos hx,writes_snoc l _ (i+1) s h,show i+1+l.length=i+(l.length+1) by omega]
  ·rename_i hx
   exact absurd h hx
theorem writes_bad:∀ (l m:List ByteArray) (d:aB) (i:Nat),(aD d i l).2≠0->aD d i (l++m)=aD d i l
 | [],m,d,i,h=>absurd rfl h
 | x :: l,m,d,i,h=>by
  simp only [List.cons_append,aD] at h ⊢
  split
  ·rename_i hx
   rw [if_pos hx] at h;exact writes_bad l m _ _ h
  ·rfl
theorem chunks_get:∀ (n:Nat) (s:List UInt8) (k:Nat),s.length<=n->64 * k<s.length->(iL n s)[k]? = some ((s.drop (64 * k)).take 64)
 | 0,s,k,h,hk=>by omega
 | n+1,s,k,h,hk=>by
  have hs:s≠[]:=by rintro rfl;simp at hk
  unfold iL;rw [if_neg hs]
  cases k with
  | zero=>simp
  | succ k=>
   rw [List.getElem?_cons_succ,chunks_get n (s.drop 64) k so so,List.drop_drop,show 64+64 * k=64 * (k+1) by omega]
theorem chunks_len:∀ (n:Nat) (s:List UInt8),s.length<=n->(iL n s).length=(s.length+63) / 64
 | 0,s,h=>by
  obtain rfl:s=[]:=List.length_eq_zero_iff.1 om;simp [iL]
 | n+1,s,h=>by
  unfold iL
  split
  ·rename_i e;subst e;simp
  ·rename_i e
   have:s.length≠0:=fun h0=>e (List.length_eq_zero_iff.1 h0)
   rw [List.length_cons,chunks_len n _ so,List.length_drop];omega
theorem chunks_small:∀ (n:Nat) (s c:List UInt8),c∈iL n s->c.length<=64
 | 0,s,c,h=>by simp [iL] at h
 | n+1,s,c,h=>by
  unfold iL at h
  split at h
  ·cases h
  ·rcases List.mem_cons.1 h with rfl|h
   ·simp;omega
   ·exact chunks_small n _ c h
theorem gN (s:List UInt8):(dH s).length=(s.length+63) / 64:=by
 unfold dH;rw [List.length_map,chunks_len _ _ (Nat.le_refl _)]
theorem chunksB_small {s:List UInt8} {c:ByteArray} (h:c∈dH s):c.size<=64:=by
 unfold dH at h;obtain ⟨x,hx,rfl⟩:=List.mem_map.1 h;have:=chunks_small _ _ x hx
 simpa [ByteArray.size] using this
theorem nO (s:ByteArray):(vC s).data.toList=s.data.toList++List.replicate (64 - s.size) 0:=by
 simp [vC,yL,ByteArray.data_append]
theorem chunks_flat:∀ (n:Nat) (s:List UInt8) (r:List UInt8),s.length<=n->((((iL n s).map fun c=>vC ⟨c.toArray⟩).flatMap (·.data.toList))++r).take s.length=s
 | 0,s,r,h=>by
  obtain rfl:s=[]:=List.length_eq_zero_iff.1 om;simp
 | n+1,s,r,h=>by
  unfold iL
  split
  ·rename_i e;subst e;simp
  ·rename_i e
   rw [List.map_cons,List.flatMap_cons,nO,List.append_assoc];show (((s.take 64).toArray.toList++_)++_).take s.length=s;rw [List.toList_toArray]
   by_cases h64:64<=s.length
   ·have hz:(⟨(s.take 64).toArray⟩:ByteArray).size=64:=by simp [ByteArray.size];omega
    rw [hz];simp only [Nat.sub_self,List.replicate_zero,List.append_nil];rw [List.take_append];have ih:=chunks_flat n (s.drop 64) r so;rw [List.length_drop] at ih;rw [List.take_of_length_le so]
    have hl:(s.take 64).length=64:=by simp;omega
    rw [hl,ih];exact List.take_append_drop 64 s
   ·have hd:s.take 64=s:=List.take_of_length_le om
    rw [hd,List.append_assoc,List.take_append_of_le_length (Nat.le_refl _),List.take_length]
def fL:List ByteArray->Nat->List ByteArray->List ByteArray
 | n,_,[]=>n
 | n,i,s :: l=>fL (n.set i (vC s)) (i+1) l
theorem setAll_length:∀ (l n:List ByteArray) (i:Nat),(fL n i l).length=n.length
 | [],n,i=>rfl
 | s :: l,n,i=>by rw [fL,setAll_length l,List.length_set]
theorem cM:∀ (l n:List ByteArray) (i k:Nat),(k<i\/i+l.length<=k)->(fL n i l)[k]? = n[k]?
 | [],n,i,k,_=>rfl
 | s :: l,n,i,k,h=>by
  simp only [List.length_cons] at h;rw [fL,cM l _ (i+1) k om,List.getElem?_set_ne om]
theorem setAll_in:∀ (l n:List ByteArray) (i:Nat),i+l.length<=n.length->(fL n i l).drop i=l.map vC++n.drop (i+l.length)
 | [],n,i,_=>by simp [fL]
 | s :: l,n,i,h=>by
  simp only [List.length_cons] at h;have ih:=setAll_in l (n.set i (vC s)) (i+1) so
  have hi:i<(fL (n.set i (vC s)) (i+1) l).length:=by rw [setAll_length,List.length_set];omega
  rw [fL,List.drop_eq_getElem_cons hi,ih]
  have e:(fL (n.set i (vC s)) (i+1) l)[i]=vC s:=by
   have h2:=cM l (n.set i (vC s)) (i+1) i (Or.inl om);rw [List.getElem?_set_self om,List.getElem?_eq_getElem hi] at h2;exact Option.some.inj h2
  rw [e,List.map_cons,List.cons_append,List.drop_set_of_lt om,List.length_cons,show i+1+l.length=i+(l.length+1) by omega]
theorem half_text {n:List ByteArray} {e:Nat} {s:List UInt8} (hn:22<=n.length) (hs:s.length<=640):(uJ (fL n (2+e % 2 * 10) (dH s)) e).take s.length=s:=by
 have hl:=gN s;unfold uJ;rw [setAll_in _ _ _ om,List.take_append,List.flatMap_append,List.take_of_length_le (i:=10) (by rw [List.length_map];omega)];unfold dH;rw [List.map_map];exact chunks_flat s.length s _ (Nat.le_refl _)
structure aB.Calm (d:aB) (n:Nat):Prop where
 wf:d.WF n
 up:d.down=false
 none:d.wait=[]
 all:d.kept=d.now
theorem halfOf_congr {l m:List ByteArray} {e:Nat} (h:∀ k,2+e % 2 * 10<=k->k<2+e % 2 * 10+10->m[k]? = l[k]?):uJ m e=uJ l e:=by
 unfold uJ
 congr 1
 apply List.ext_getElem?;intro i
 by_cases hi:i<10
 ·rw [List.getElem?_take_of_lt hi,List.getElem?_take_of_lt hi,List.getElem?_drop,List.getElem?_drop]
  exact h _ om om
 ·rw [List.getElem?_eq_none so,List.getElem?_eq_none so]
theorem getD_of {l m:List ByteArray} {k:Nat} (h:m[k]? = l[k]?):m.getD k ⟨#[]⟩=l.getD k ⟨#[]⟩:=by
 rw [List.getD_eq_getElem?_getD,List.getD_eq_getElem?_getD,h]
theorem rF.congr {l m:List ByteArray} {levels:Int} {e:Nat} {b:gB} (h:rF l levels e b) (h0:m[0]? = l[0]?) (h1:m[1]? = l[1]?)
  (hh:∀ k,2+e % 2 * 10<=k->k<2+e % 2 * 10+10->m[k]? = l[k]?):rF m levels e b:=by
 refine ⟨h.pos,h.fit,h.ok,?_,?_,?_⟩
 ·rcases Nat.mod_two_eq_zero_or_one e with he|he
  ·have:=h.head;rw [he] at this ⊢;rw [getD_of h0];exact this
  ·have:=h.head;rw [he] at this ⊢;rw [getD_of h1];exact this
 ·rw [halfOf_congr hh];exact h.text
 ·rcases Nat.mod_two_eq_zero_or_one e with he|he
  ·have:=h.old;rw [show (e+1) % 2=1 by omega] at this ⊢;rw [getD_of h1];exact this
  ·have:=h.old;rw [show (e+1) % 2=0 by omega] at this ⊢;rw [getD_of h0];exact this
theorem rF.told {l:List ByteArray} {levels:Int} {e:Nat} {b:gB} (h:rF l levels e b) (hl:levels<=4):(mL (l.getD (e % 2) ⟨#[]⟩).data.toList (0,0)).1=e:=by
 rw [tells_head (x:=(0,0)) h.head h.fit (text_len h.ok hl) (show 0<e from h.pos)]
theorem rF.next {l:List ByteArray} {levels:Int} {e:Nat} {b b':gB} (h:rF l levels e b) (hl:levels<=4) (hn:22<=l.length) (hb:fC b' levels=0) (he:e+1<4294967296)
  (ht:(uJ l (e+1)).take (mB b').length=mB b'):rF (l.set ((e+1) % 2) (vC ⟨(Ch.head (e+1) (mB b').length).toArray⟩)) levels (e+1) b':=by
 refine ⟨om,he,hb,?_,?_,?_⟩
 ·refine ⟨List.replicate (64 - 9) 0,?_⟩
  rw [List.getD_eq_getElem?_getD,List.getElem?_set_self om];simp only [Option.getD_some];rw [nO];rfl
 ·rw [halfOf_congr (l:=l)]
  ·exact ht
  ·intro k h1 _
   rw [List.getElem?_set_ne om]
 ·rw [show (e+1+1) % 2=e % 2 by omega]
  rw [getD_of (l:=l) (List.getElem?_set_ne om),h.told hl];omega
def queued:Nat->List ByteArray->List (Nat×ByteArray)
 | _,[]=>[]
 | i,s :: l=>(i,vC s) :: queued (i+1) l
theorem queued_in:∀ (l:List ByteArray) (i:Nat) (t:Nat×ByteArray),t∈queued i l->i<=t.1/\t.1<i+l.length
 | s :: l,i,t,h=>by
  rcases List.mem_cons.1 h with rfl|h
  ·simp
  ·have:=queued_in l (i+1) t h
   simp only [List.length_cons];omega
theorem write_up {d:aB} {n:Nat} (h:d.WF n) (i:Nat) (s:ByteArray) (hi:i<n) (hs:s.size<=64):
  (d.write (i:Int) s=(d.stepped,9)/\d.stepped.down=true) \/
  ((d.write (i:Int) s).2=0/\(d.write (i:Int) s).1={ d.stepped with now:=d.now.set i (vC s),wait:=d.wait++[(i,vC s)] }/\d.stepped.down=false):=by
 unfold aB.write;rw [if_neg (by have:=h.now;omega)]
 split
 ·rename_i hd;exact Or.inl ⟨rfl,hd⟩
 ·rename_i hd;exact Or.inr ⟨rfl,sp,by simpa using hd⟩
theorem writes_did:∀ (l:List ByteArray) (d:aB) (n i:Nat),d.WF n->d.down=false->i+l.length<=n->(∀ s∈l,s.size<=64) ->
    (aD d i l).1.WF n/\(aD d i l).1.kept=d.kept/\(d.fuse=-1->(aD d i l).2=0/\(aD d i l).1.fuse=-1) /\
    (((aD d i l).2=9/\(aD d i l).1.down=true/\∃ l',(aD d i l).1.wait=d.wait++l'/\∀ t∈l',i<=t.1/\t.1<i+l.length) \/
     ((aD d i l).2=0/\(aD d i l).1.down=false/\(aD d i l).1.wait=d.wait++queued i l/\(aD d i l).1.now=fL d.now i l))
  | [],d,n,i,h,hd,_,_=>⟨h,rfl,fun hf=>⟨rfl,hf⟩,Or.inr ⟨rfl,hd,by simp [aD,queued],rfl⟩⟩
  | s :: l, d,n,i,h,hd,hi,hs=>by
    simp only [List.length_cons] at hi;have hw:=h.write (i:Int) s
    rcases write_up h i s om (hs s sp) with ⟨hr,hdn⟩|⟨h0,h1,hup⟩
    · have hfz:d.fuse=0:=by
        unfold aB.stepped at hdn;rw [if_neg (by rw [hd];simp)] at hdn
        split at hdn
        · assumption
        · dsimp only at hdn;rw [hd] at hdn;cases hdn
      have e:aD d i (s :: l)=(d.stepped,9):=by rw [aD,if_neg (by rw [hr];simp),hr]
      rw [e];refine ⟨h.stepped,lI d,fun hf=>by omega,Or.inl ⟨rfl,hdn,[],?_,sp⟩⟩;rw [List.append_nil];exact fG d
    · have e:aD d i (s :: l)=aD (d.write (i:Int) s).1 (i+1) l:=by rw [aD,if_pos h0]
      have hk:(d.write (i:Int) s).1.kept=d.kept:=by rw [h1];exact lI d
      have hdw:(d.write (i:Int) s).1.down=false:=by rw [h1];exact hup
      obtain ⟨r1,r2,r3,r4⟩:=writes_did l (d.write (i:Int) s).1 n (i+1) hw hdw om (fun x hx=>hs x (by simp [hx]));rw [e]
      have hww:(d.write (i:Int) s).1.wait=d.wait++[(i,vC s)]:=by rw [h1]
      have hnn:(d.write (i:Int) s).1.now=d.now.set i (vC s):=by rw [h1]
      refine ⟨r1,r2.trans hk,?_,?_⟩
      · intro hf
        refine r3 ?_;rw [h1];show d.stepped.fuse=-1;unfold aB.stepped;rw [if_neg (by rw [hd];simp),if_neg om,hf];rfl
      · rcases r4 with ⟨q1,q2,l',q3,q4⟩|⟨q1,q2,q3,q4⟩
        · refine Or.inl ⟨q1,q2,(i,vC s) :: l',?_,?_⟩
          · rw [q3,hww,List.append_assoc];rfl
          · intro t ht
            simp only [List.length_cons]
            rcases List.mem_cons.1 ht with rfl|ht
            · simp
            · have:=q4 t ht;omega
        · refine Or.inr ⟨q1,q2,?_,?_⟩
          · rw [q3,hww,List.append_assoc];rfl
          · rw [q4,hnn];rfl
theorem iO (keep:Nat):∀ (l:List (Nat×ByteArray)) (i:Nat) (k:List ByteArray) (j:Nat),(∀ t∈l,t.1≠j)->(nH keep i l k)[j]? = k[j]?
 | [],_,_,_,_=>rfl
 | t :: l,i,k,j,h=>by
  rw [nH,iO keep l (i+1) _ j (fun x hx=>h x (by simp [hx]))]
  split
  ·rw [List.getElem?_set_ne (h t sp)]
  ·rfl
theorem flush_up {d:aB} (hd:d.down=false):
  (d.flush=(d.stepped,9)/\d.stepped.down=true/\d.fuse=0)\/(d.flush.2=0/\d.flush.1={ d.stepped with kept:=d.now,wait:=[] }/\d.stepped.down=false/\(d.fuse=-1->d.stepped.fuse=-1)):=by
 unfold aB.flush
 split
 ·rename_i h
  refine Or.inl ⟨rfl,h,?_⟩;unfold aB.stepped at h;rw [if_neg (by rw [hd];simp)] at h
  split at h
  ·assumption
  ·dsimp only at h;rw [hd] at h;cases h
 ·rename_i h
  refine Or.inr ⟨rfl,rfl,by simpa using h,?_⟩;intro hf;unfold aB.stepped;rw [if_neg (by rw [hd];simp),if_neg om,hf];rfl
theorem rF.fallen {d:aB} {levels:Int} {e:Nat} {b:gB} (h:rF d.kept levels e b) (hw:∀ t∈d.wait,2+(e+1) % 2 * 10<=t.1/\t.1<2+(e+1) % 2 * 10+10) (keep:Nat):rF (d.restart keep).now levels e b:=by
 refine h.congr (iO keep _ _ _ 0 ?_) (iO keep _ _ _ 1 ?_) (fun k h1 h2=>iO keep _ _ _ k ?_)
 ·intro t ht;have:=hw t ht;omega
 ·intro t ht;have:=hw t ht;omega
 ·intro t ht;have:=hw t ht;omega
theorem keep_law {d:aB} {n:Nat} {levels:Int} {e:Nat} {b b':gB} (hc:d.Calm n) (hn:22<=n) (h:rF d.now levels e b) (hl:levels<=4) (hb:fC b' levels=0) (he:e+1<4294967296):
    (d.keep (e+1) b').1.WF n/\(d.fuse=-1->(d.keep (e+1) b').2=0/\(d.keep (e+1) b').1.fuse=-1) /\
    (((d.keep (e+1) b').2=0/\(d.keep (e+1) b').1.Calm n/\rF (d.keep (e+1) b').1.now levels (e+1) b') \/
     ((d.keep (e+1) b').2=9/\(d.keep (e+1) b').1.down=true/\∀ keep,rF ((d.keep (e+1) b').1.restart keep).now levels e b\/rF ((d.keep (e+1) b').1.restart keep).now levels (e+1) b')):=by
  have ht:=text_len hb hl;have hcl:=gN (mB b')
  have hk:rF d.kept levels e b:=by rw [hc.all];exact h
  obtain ⟨r1,r2,r3,r4⟩:=writes_did (dH (mB b')) d n (2+(e+1) % 2 * 10) hc.wf hc.up om (fun s hs=>chunksB_small hs);unfold aB.keep;generalize aD d (2+(e+1) % 2 * 10) (dH (mB b'))=r at *
  rcases r4 with ⟨q1,q2,l',q3,q4⟩|⟨q1,q2,q3,q4⟩
  · rw [if_neg (by rw [q1];decide)]
    refine ⟨r1,fun hf=>by have:=(r3 hf).1;omega,Or.inr ⟨q1,q2,fun keep=>Or.inl (rF.fallen (by rw [r2];exact hk) ?_ keep)⟩⟩;intro t ht;rw [q3,hc.none,List.nil_append] at ht;have:=q4 t ht;omega
  · rw [if_pos q1]
    have hwait:∀ t∈r.1.wait,2+(e+1) % 2 * 10<=t.1/\t.1<2+(e+1) % 2 * 10+10:=by
      intro t ht;rw [q3,hc.none,List.nil_append] at ht;have:=queued_in _ _ t ht;omega
    have hN:rF r.1.now levels e b:=by
      rw [q4];refine h.congr (cM _ _ _ 0 om) (cM _ _ _ 1 om) (fun k h1 h2=>cM _ _ _ k ?_);omega
    have hT:(uJ r.1.now (e+1)).take (mB b').length=mB b':=by
      rw [q4];exact half_text (by rw [hc.wf.now];exact hn) ht
    have hfl:=r1.flush
    rcases flush_up q2 with ⟨f1,f2,f3⟩|⟨f1,f2,f3,f4⟩
    · rw [f1] at hfl ⊢
      rw [if_neg (show ¬ (9:Int)=0 by decide)];refine ⟨hfl,fun hf=>by have:=(r3 hf).2;omega,Or.inr ⟨rfl,f2,fun keep=>Or.inl (rF.fallen ?_ ?_ keep)⟩⟩
      · show rF r.1.stepped.kept levels e b
        rw [lI,r2];exact hk
      · show ∀ t∈r.1.stepped.wait,_
        rw [fG];exact hwait
    · rw [if_pos f1]
      generalize hF:r.1.flush.1=F at *
      have hFn:F.now=r.1.now:=by rw [f2];exact uK _
      have hFk:F.kept=r.1.now:=by rw [f2]
      have hFw:F.wait=[]:=by rw [f2]
      have hFd:F.down=false:=by rw [f2];exact f3
      have hFf:d.fuse=-1->F.fuse=-1:=fun hf=>by rw [f2];exact f4 (r3 hf).2
      clear f2
      have hsz:(⟨(head (e+1) (mB b').length).toArray⟩:ByteArray).size<=64:=by show 9<=64;decide
      have hlen:22<=r.1.now.length:=by rw [r1.now];exact hn
      have hnew:=hN.next hl hlen hb he hT
      have hwr:=hfl.write ((((e+1) % 2:Nat)):Int) ⟨(head (e+1) (mB b').length).toArray⟩
      rcases write_up hfl ((e+1) % 2) ⟨(head (e+1) (mB b').length).toArray⟩ om hsz with ⟨g1,g2⟩|⟨g1,g2,g3⟩
      · rw [g1] at hwr ⊢
        rw [if_neg (show ¬ (9:Int)=0 by decide)]
        have hz:F.fuse=0:=by
          unfold aB.stepped at g2;rw [if_neg (by rw [hFd];simp)] at g2
          split at g2
          · assumption
          · dsimp only at g2;rw [hFd] at g2;cases g2
        refine ⟨hwr,fun hf=>by have:=hFf hf;omega,Or.inr ⟨rfl,g2,fun keep=>Or.inl (rF.fallen ?_ ?_ keep)⟩⟩
        · show rF F.stepped.kept levels e b
          rw [lI,hFk];exact hN
        · show ∀ t∈F.stepped.wait,_
          rw [fG,hFw];simp
      · rw [if_pos g1]
        generalize hG:(F.write ((((e+1) % 2:Nat)):Int) ⟨(head (e+1) (mB b').length).toArray⟩).1=G at *
        have hGn:G.now=r.1.now.set ((e+1) % 2) (vC ⟨(head (e+1) (mB b').length).toArray⟩):=by rw [g2,<-hFn]
        have hGk:G.kept=r.1.now:=by rw [g2];show F.stepped.kept=_;rw [lI,hFk]
        have hGw:G.wait=[((e+1) % 2,vC ⟨(head (e+1) (mB b').length).toArray⟩)]:=by rw [g2];show F.wait++_=_;rw [hFw];rfl
        have hGd:G.down=false:=by rw [g2];exact g3
        have hGf:d.fuse=-1->G.fuse=-1:=fun hf=>by
          rw [g2];show F.stepped.fuse=-1;unfold aB.stepped;rw [if_neg (by rw [hFd];simp),if_neg (by rw [hFf hf];omega),hFf hf];rfl
        clear g2;have hgl:=hwr.flush
        rcases flush_up hGd with ⟨k1,k2,k3⟩|⟨k1,k2,k3,k4⟩
        · rw [k1] at hgl ⊢
          refine ⟨hgl,fun hf=>by have:=hGf hf;omega,Or.inr ⟨rfl,k2,fun keep=>?_⟩⟩
          have e1:(G.stepped.restart keep).now=if rL keep 0 then r.1.now.set ((e+1) % 2) (vC ⟨(head (e+1) (mB b').length).toArray⟩) else r.1.now:=by
            show nH keep 0 G.stepped.wait G.stepped.kept=_;rw [fG,lI,hGw,hGk];rfl
          rw [e1]
          split
          · exact Or.inr hnew
          · exact Or.inl hN
        · refine ⟨hgl,fun hf=>⟨k1,?_⟩,Or.inl ⟨k1,⟨hgl,?_,?_,?_⟩,?_⟩⟩
          · rw [k2];exact k4 (hGf hf)
          · rw [k2];exact k3
          · rw [k2]
          · rw [k2];show G.now=G.stepped.now;rw [uK]
          · rw [k2];show rF G.stepped.now _ _ _;rw [uK,hGn];exact hnew
theorem write_calm {d:aB} {n:Nat} (h:d.WF n) (hd:d.down=false) (hf:d.fuse=-1) (i:Nat) (s:ByteArray) (hi:i<n) (hs:s.size<=64):
  d.write (i:Int) s=({ d with now:=d.now.set i (vC s),wait:=d.wait++[(i,vC s)] },0):=by
 have e:d.stepped=d:=by
  unfold aB.stepped;rw [if_neg (by rw [hd];simp),if_neg om,hf];cases d
  dsimp only at hf ⊢
  rw [hf];rfl
 unfold aB.write;rw [if_neg (by have:=h.now;omega),e,if_neg (by rw [hd];simp)];rfl
theorem flush_calm {d:aB} (hd:d.down=false) (hf:d.fuse=-1):d.flush=({ d with kept:=d.now,wait:=[] },0):=by
 have e:d.stepped=d:=by
  unfold aB.stepped;rw [if_neg (by rw [hd];simp),if_neg om,hf];cases d
  dsimp only at hf ⊢
  rw [hf];rfl
 unfold aB.flush;rw [e,if_neg (by rw [hd];simp)]
theorem text_empty:mB ⟨0,[],[]⟩=[48,32,48,32,48]:=by
 have e:Lib.itoa 0=[48]:=by
  unfold Lib.itoa;rw [if_neg om];exact Lib.decDigits_one dc
 show mE [Lib.itoa 0,Lib.itoa 0,Lib.itoa 0]=_;rw [e];rfl
theorem zero_tells (x:Nat×Nat):mL (yL 64).data.toList x=x:=by
 unfold mL;rw [if_neg];rintro ⟨h,_⟩;simp [vJ,yL] at h
theorem format_law {d:aB} {n:Nat} (hc:d.Calm n) (hf:d.fuse=-1) (hn:22<=n) (levels:Int):d.format.2=0/\d.format.1.Calm n/\d.format.1.fuse=-1/\rF d.format.1.now levels 2 ⟨0,[],[]⟩:=by
 have e0:d.write 1 ⟨#[]⟩=({ d with now:=d.now.set 1 (vC ⟨#[]⟩),wait:=d.wait++[(1,vC ⟨#[]⟩)] },0):=write_calm hc.wf hc.up hf 1 ⟨#[]⟩ om dc;have w0:=hc.wf.write 1 ⟨#[]⟩;unfold aB.format
 rw [e0] at w0 ⊢
 rw [if_pos rfl]
 dsimp only at w0 ⊢
 have s1:(⟨(mB ⟨0,[],[]⟩).toArray⟩:ByteArray).size<=64:=by rw [text_empty];decide
 have w1:=w0.write 2 ⟨(mB ⟨0,[],[]⟩).toArray⟩;have e1:=write_calm w0 hc.up hf 2 ⟨(mB ⟨0,[],[]⟩).toArray⟩ om s1;rw [show ((2:Nat):Int)=2 from rfl] at e1
 rw [e1] at w1 ⊢
 rw [if_pos rfl]
 dsimp only at w1 ⊢
 have w2:=w1.flush
 rw [flush_calm (by exact hc.up) (by exact hf)] at w2 ⊢
 rw [if_pos rfl]
 dsimp only at w2 ⊢
 have s2:(⟨(head 2 (mB ⟨0,[],[]⟩).length).toArray⟩:ByteArray).size<=64:=by show 9<=64;decide
 have w3:=w2.write 0 ⟨(head 2 (mB ⟨0,[],[]⟩).length).toArray⟩;have e2:=write_calm w2 hc.up hf 0 ⟨(head 2 (mB ⟨0,[],[]⟩).length).toArray⟩ om s2;rw [show ((0:Nat):Int)=0 from rfl] at e2
 rw [e2] at w3 ⊢
 rw [if_pos rfl]
 dsimp only at w3 ⊢
 have w4:=w3.flush
 rw [flush_calm (by exact hc.up) (by exact hf)] at w4 ⊢
 dsimp only at w4 ⊢
 have hl:=hc.wf.now;refine ⟨rfl,⟨w4,hc.up,rfl,rfl⟩,hf,?_⟩
 have hb:fC ⟨0,[],[]⟩ levels=0:=by simp [fC,sC,vD]
 refine ⟨dc,dc,hb,?_,?_,?_⟩
 ·refine ⟨List.replicate (64 - 9) 0,?_⟩
  rw [List.getD_eq_getElem?_getD];show ((((d.now.set 1 _).set 2 _).set 0 _)[0]?.getD _).data.toList=_;rw [List.getElem?_set_self so];simp only [Option.getD_some];rw [nO];rfl
 ·unfold uJ
  show ((List.take 10 (List.drop 2 (((d.now.set 1 _).set 2 _).set 0 _))).flatMap _).take _=_
  have hlt:2<(((d.now.set 1 (vC ⟨#[]⟩)).set 2 (vC ⟨(mB ⟨0,[],[]⟩).toArray⟩)).set 0 (vC ⟨(head 2 (mB ⟨0,[],[]⟩).length).toArray⟩)).length:=by simp;omega
  have he:(((d.now.set 1 (vC ⟨#[]⟩)).set 2 (vC ⟨(mB ⟨0,[],[]⟩).toArray⟩)).set 0 (vC ⟨(head 2 (mB ⟨0,[],[]⟩).length).toArray⟩))[2]=vC ⟨(mB ⟨0,[],[]⟩).toArray⟩:=by
   have h2:(((d.now.set 1 (vC ⟨#[]⟩)).set 2 (vC ⟨(mB ⟨0,[],[]⟩).toArray⟩)).set 0 (vC ⟨(head 2 (mB ⟨0,[],[]⟩).length).toArray⟩))[2]? = some (vC ⟨(mB ⟨0,[],[]⟩).toArray⟩):=by
    rw [List.getElem?_set_ne dc,List.getElem?_set_self so]
   rw [List.getElem?_eq_getElem hlt] at h2;exact Option.some.inj h2
  rw [List.drop_eq_getElem_cons hlt,he,List.take_succ_cons,List.flatMap_cons,nO,List.append_assoc];show (((mB ⟨0,[],[]⟩).toArray.toList++_)).take _=_;rw [List.toList_toArray,List.take_append_of_le_length (Nat.le_refl _),List.take_length]
 ·show (mL ((((d.now.set 1 (vC ⟨#[]⟩)).set 2 _).set 0 _).getD 1 _).data.toList (0,0)).1<2
  rw [List.getD_eq_getElem?_getD,List.getElem?_set_ne dc,List.getElem?_set_ne dc,List.getElem?_set_self om];simp only [Option.getD_some]
  rw [show vC ⟨#[]⟩=yL 64 by
   unfold vC
   show (⟨#[]⟩:ByteArray)++yL 64=yL 64
   apply ByteArray.ext
   rw [ByteArray.data_append];simp]
  rw [zero_tells];decide
theorem calm_new (n:Nat):(aB.new n).Calm n:=⟨aB.WF.new n,rfl,rfl,rfl⟩
end Ch
namespace Go.Proofs.YtplomeacjbkgnabGreatDoor
open Go.RowKit Tryz Ch
theorem toList_loop (s:ByteArray):∀ (n i:Nat) (r:List UInt8),s.size - i=n->ByteArray.toList.loop s i r=r.reverse++s.data.toList.drop i:=by
 intro n
 induction n with
 | zero=>
  intro i r h;unfold ByteArray.toList.loop;rw [if_neg om,List.drop_of_length_le (by simp only [Array.length_toList];show s.size<=i;omega),List.append_nil]
 | succ n ih=>
  intro i r h;unfold ByteArray.toList.loop;rw [if_pos om,ih (i+1) _ om]
  have hi:i<s.data.toList.length:=by simp only [Array.length_toList];show i<s.size;omega
  rw [List.drop_eq_getElem_cons hi]
  have:s.get! i=s.data.toList[i]:=by
   unfold ByteArray.get!;rw [Array.getElem_toList];exact getElem!_pos s.data i (by show i<s.size;omega)
  rw [this];simp
theorem toList_data (s:ByteArray):s.toList=s.data.toList:=by
 unfold ByteArray.toList;rw [toList_loop s _ 0 [] rfl];rfl
theorem wD {s t:ByteArray} (h:s≠t):(s.toList==t.data.toList)=false:=by
 rw [toList_data];apply Classical.byContradiction;intro hc
 have hc:s.data.toList=t.data.toList:=by simpa using hc
 apply h;cases s;cases t;simp only at hc
 congr 1
 exact Array.toList_inj.1 hc
def eN (n:Nat):ByteArray:=⟨(four n).toArray⟩
def bI (e k:Nat):ByteArray:=⟨(head e k).toArray⟩
theorem conv_four (w:World) (a:Nat) (x0 x1 x2 x3:Int) (h0:w.cell? ⟨a,0,none⟩=some (.int .u8 x0)) (h1:w.cell? ⟨a,1,none⟩=some (.int .u8 x1)) (h2:w.cell? ⟨a,2,none⟩=some (.int .u8 x2)) (h3:w.cell? ⟨a,3,none⟩=some (.int .u8 x3)):
  (convert 155 9 (.slice (some ⟨a,0,none⟩) 4 4)).run prog w = .ok (.string ⟨#[UInt8.ofNat x0.toNat,UInt8.ofNat x1.toNat,UInt8.ofNat x2.toNat,UInt8.ofNat x3.toNat]⟩) w:=by
 refine run_convert_bytes_arg w 155 5 underlying155 underlying5 a 0 4 4 [x0,x1,x2,x3] rfl ?_ 9 underlying9;intro i hi
 match i,hi with
 | 0,_=>exact h0
 | 1,_=>exact h1
 | 2,_=>exact h2
 | 3,_=>exact h3
theorem fourS_is (n:Nat) (hn:n<4294967296):(⟨#[UInt8.ofNat ((n:Int) % 256).toNat,UInt8.ofNat ((n:Int) / 256 % 256).toNat,UInt8.ofNat ((n:Int) / 65536 % 256).toNat,UInt8.ofNat ((n:Int) / 16777216).toNat]⟩:ByteArray)=eN n:=by
 unfold eN four
 congr 1
 have h:∀ a b:Nat,a % 256=b % 256->UInt8.ofNat a=UInt8.ofNat b:=fun a b e=>by
  apply UInt8.toNat_inj.1
  simpa using e
 rw [h ((n:Int) % 256).toNat n om,h ((n:Int) / 256 % 256).toNat (n / 256) om,h ((n:Int) / 65536 % 256).toNat (n / 65536) om,h ((n:Int) / 16777216).toNat (n / 16777216) om]
theorem four_any (n:Nat) (w:World) (hn:n<4294967296):Calls prog 86 #[vi (n:Int)] w fun e w'=>e = .returned (.string (eN n))/\Ext w w':=by
 rw [<-fourS_is n hn];go_enter func86,ntmps86;go_wp2_with fail;rw [conv_four (x0:=(n:Int) % 256) (x1:=(n:Int) / 256 % 256) (x2:=(n:Int) / 65536 % 256) (x3:=(n:Int) / 16777216)]
 rotate_left 1
 ·simp [go_sem]
 ·simp [go_sem]
 ·simp [go_sem]
 ·simp [go_sem]
 go_wp2_with fail;go_ret;exact ⟨rfl,eX⟩
theorem headBS_is (e k:Nat):bI e k=(⟨#[66]⟩++eN e)++eN k:=by
 apply ByteArray.ext;simp [bI,eN,head,ByteArray.data_append]
theorem head_any (e k:Nat) (w:World) (he:e<4294967296) (hk:k<4294967296):Calls prog 46 #[vi (e:Int),vi (k:Int)] w fun x w'=>x = .returned (.string (bI e k))/\Ext w w':=by
 have c1:∀ w,(Op.stringOp .add ⟨#[66]⟩ (eN e)).run prog w = .ok (.string (⟨#[66]⟩++eN e)) w:=fun w=>by
  rw [run_string_add_sum w _ _ (by show 1+4<=9223372036854775807;decide)]
 have c2:∀ w,(Op.stringOp .add (⟨#[66]⟩++eN e) (eN k)).run prog w = .ok (.string (bI e k)) w:=fun w=>by
  rw [headBS_is,run_string_add_sum w _ _ (by rw [ByteArray.size_append];show 1+4+4<=9223372036854775807;decide)]
 have F1:Hid (∀ w,Calls prog 86 #[vi (e:Int)] w fun x w'=>x = .returned (.string (eN e))/\Ext w w'):=fun w=>four_any e w he
 have F2:Hid (∀ w,Calls prog 86 #[vi (k:Int)] w fun x w'=>x = .returned (.string (eN k))/\Ext w w'):=fun w=>four_any k w hk
 generalize eN e=X at *;generalize eN k=Y at *;go_enter func46,ntmps46
 go_wp2_with (first
  | (go_at_call 86;with_reducible refine mo (F1.out _) fun o1 n1=>?_)
  | (go_at_call 86;(with_reducible refine (F2.out _).mono ?_);rintro e w2 ⟨rfl,o2,n2,rfl⟩))
 go_ret;exact ⟨rfl,eX⟩
theorem or_i64 (a b i:Nat) (ha:a<2 ^ i) (hs:a+b * 2 ^ i<9223372036854775808):bits .or .i64 (a:Int) ((b * 2 ^ i:Nat):Int)=((a+b * 2 ^ i:Nat):Int):=by
 have hx:a ||| b * 2 ^ i=a+b * 2 ^ i:=by
  have:=Nat.shiftLeft_add_eq_or_of_lt ha b;rw [Nat.shiftLeft_eq] at this;rw [Nat.or_comm,<-this,Nat.add_comm]
 have h1:(BitVec.ofInt 64 (a:Int)).toNat=a:=by
  rw [BitVec.ofInt_natCast,BitVec.toNat_ofNat];exact Nat.mod_eq_of_lt om
 have h2:(BitVec.ofInt 64 ((b * 2 ^ i:Nat):Int)).toNat=b * 2 ^ i:=by
  rw [BitVec.ofInt_natCast,BitVec.toNat_ofNat];exact Nat.mod_eq_of_lt om
 show IntKind.i64.wrap ((BitVec.ofInt 64 (a:Int) ||| BitVec.ofInt 64 ((b * 2 ^ i:Nat):Int)).toNat:Int)=_;rw [BitVec.toNat_or,h1,h2,hx];exact IntWalk.i64_in _ om
theorem unfour_is (a b c d:Nat) (h0:a<256) (h1:b<256) (h2:c<256) (h3:d<256):
  bits .or .i64 (bits .or .i64 (bits .or .i64 (wrap64 (a:Int)) (wrap64 (wrap64 (b:Int) * 256))) (wrap64 (wrap64 (c:Int) * 65536))) (wrap64 (wrap64 (d:Int) * 16777216))=((a+256 * b+65536 * c+16777216 * d:Nat):Int):=by
 have w:∀ n:Nat,n<9223372036854775808->wrap64 (n:Int)=(n:Int):=fun n hn=>IntWalk.wrap64_in (n:Int) om
 have e1:wrap64 (wrap64 (b:Int) * 256)=((b * 2 ^ 8:Nat):Int):=by rw [w b om,show (b:Int) * 256=((b * 256:Nat):Int) from (Int.natCast_mul b 256).symm,w _ om]
 have e2:wrap64 (wrap64 (c:Int) * 65536)=((c * 2 ^ 16:Nat):Int):=by rw [w c om,show (c:Int) * 65536=((c * 65536:Nat):Int) from (Int.natCast_mul c 65536).symm,w _ om]
 have e3:wrap64 (wrap64 (d:Int) * 16777216)=((d * 2 ^ 24:Nat):Int):=by rw [w d om,show (d:Int) * 16777216=((d * 16777216:Nat):Int) from (Int.natCast_mul d 16777216).symm,w _ om]
 rw [w a om,e1,e2,e3,or_i64 a b 8 om om,or_i64 (a+b * 2 ^ 8) c 16 om om,or_i64 (a+b * 2 ^ 8+c * 2 ^ 16) d 24 om om]
 congr 1
 omega
theorem unfour_s (s:ByteArray) (h:s.size=4):uH s.data.toList 0=s[0].toNat+256 * s[1].toNat+65536 * s[2].toNat+16777216 * s[3].toNat:=by
 have g:∀ (i:Nat) (hi:i<s.size),vJ s.data.toList i=s[i].toNat:=fun i hi=>by
  unfold vJ;rw [List.getD_eq_getElem?_getD,List.getElem?_eq_getElem (by rw [Array.length_toList];exact hi)];rfl
 unfold uH;rw [g 0 om,g 1 om,g 2 om,g 3 om]
theorem unfour_any (s:ByteArray) (w:World) (hs:s.size=4):Calls prog 91 #[.string s] w fun x w'=>x = .returned (vi ((uH s.data.toList 0:Nat):Int))/\Ext w w':=by
 have i0:(0:Int)<((s.size:Nat):Int):=om
 have i1:(1:Int)<((s.size:Nat):Int):=om
 have i2:(2:Int)<((s.size:Nat):Int):=om
 have i3:(3:Int)<((s.size:Nat):Int):=om
 have HU:=aA (unfour_is s[0].toNat s[1].toNat s[2].toNat s[3].toNat s[0].toNat_lt s[1].toNat_lt s[2].toNat_lt s[3].toNat_lt);have HV:=aA (unfour_s s hs);go_enter func91,ntmps91
 go_upto_region 1 with fail
 (refine qF ?_;rintro _ ⟨oq,nq,rfl⟩)
 go_wp2_with fail;go_ret;exact ⟨by rw [HV.out];exact congrArg (fun z=>Ending.returned (Value.int .i64 z)) HU.out,eX⟩
