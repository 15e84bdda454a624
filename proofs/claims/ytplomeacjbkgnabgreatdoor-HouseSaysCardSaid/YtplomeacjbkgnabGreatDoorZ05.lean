import Derived.Test.YtplomeacjbkgnabGreatDoorZ04
import Derived.Test.YtplomeacjbkgnabGreatDoorZ02
import Derived.Deep.RegionHeld3
import Derived.Deep.Light
set_option linter.all false
set_option maxRecDepth 100000
set_option maxHeartbeats 16000000
namespace Ch
open Go
def writes:Disk→Nat→List ByteArray→Disk×Int
 | d,_,[]=>(d,0)
 | d,i,s :: l=>if (d.write (i:Int) s).2=0 then writes (d.write (i:Int) s).1 (i+1) l else d.write (i:Int) s
def chunksB (s:List UInt8):List ByteArray:=(gH s.length s).map fun c=>⟨c.toArray⟩
def Disk.keep (d:Disk) (e:Nat) (b:Book):Disk×Int:=
 let r:=writes d (2+e % 2 * 10) (chunksB (bookText b))
 if r.2=0 then
  let f:=r.1.flush
  if f.2=0 then
   let h:=f.1.write ((e % 2:Nat):Int) ⟨(head e (bookText b).length).toArray⟩
   if h.2=0 then h.1.flush else h
  else f
 else r
def Disk.format (d:Disk):Disk×Int:=
 let a:=d.write 1 ⟨#[]⟩
 if a.2=0 then
  let r:=a.1.write 2 ⟨(bookText ⟨0,[],[]⟩).toArray⟩
  if r.2=0 then
   let f:=r.1.flush
   if f.2=0 then
    let h:=f.1.write 0 ⟨(head 2 (bookText ⟨0,[],[]⟩).length).toArray⟩
    if h.2=0 then h.1.flush else h
   else f
  else r
 else a
/-! ### how the rounds of the loop go -/
theorem writes_snoc:∀ (l:List ByteArray) (d:Disk) (i:Nat) (s:ByteArray),(writes d i l).2=0→writes d i (l++[s])=(writes d i l).1.write ((i+l.length:Nat):Int) s
 | [],d,i,s,_=>by
  simp only [List.nil_append,writes,List.length_nil,Nat.add_zero]
  split
  ·rename_i h;rw [←h]
  ·rfl
 | x :: l,d,i,s,h=>by
  simp only [List.cons_append,writes,List.length_cons] at h ⊢
  split at h
  ·rename_i hx
   rw [if_pos hx,if_pos hx,writes_snoc l _ (i+1) s h,show i+1+l.length=i+(l.length+1) by omega]
  ·rename_i hx
   exact absurd h hx
theorem writes_bad:∀ (l m:List ByteArray) (d:Disk) (i:Nat),(writes d i l).2≠0→writes d i (l++m)=writes d i l
 | [],m,d,i,h=>absurd rfl h
 | x :: l,m,d,i,h=>by
  simp only [List.cons_append,writes] at h ⊢
  split
  ·rename_i hx
   rw [if_pos hx] at h;exact writes_bad l m _ _ h
  ·rfl
theorem chunks_get:∀ (n:Nat) (s:List UInt8) (k:Nat),s.length≤n→64 * k<s.length→(gH n s)[k]? = some ((s.drop (64 * k)).take 64)
 | 0,s,k,h,hk=>by omega
 | n+1,s,k,h,hk=>by
  have hs:s≠[]:=by rintro rfl;simp at hk
  unfold gH;rw [if_neg hs]
  cases k with
  | zero=>simp
  | succ k=>
   rw [List.getElem?_cons_succ,chunks_get n (s.drop 64) k (by first|(simp;done)|(simp;omega)) (by first|(simp;done)|(simp;omega)),List.drop_drop,show 64+64 * k=64 * (k+1) by omega]
theorem chunks_len:∀ (n:Nat) (s:List UInt8),s.length≤n→(gH n s).length=(s.length+63) / 64
 | 0,s,h=>by
  obtain rfl:s=[]:=List.length_eq_zero_iff.1 (by omega);simp [gH]
 | n+1,s,h=>by
  unfold gH
  split
  ·rename_i e;subst e;simp
  ·rename_i e
   have:s.length≠0:=fun h0=>e (List.length_eq_zero_iff.1 h0)
   rw [List.length_cons,chunks_len n _ (by first|(simp;done)|(simp;omega)),List.length_drop];omega
theorem chunks_small:∀ (n:Nat) (s c:List UInt8),c∈gH n s→c.length≤64
 | 0,s,c,h=>by simp [gH] at h
 | n+1,s,c,h=>by
  unfold gH at h
  split at h
  ·cases h
  ·rcases List.mem_cons.1 h with rfl|h
   ·simp;omega
   ·exact chunks_small n _ c h
theorem chunksB_len (s:List UInt8):(chunksB s).length=(s.length+63) / 64:=by
 unfold chunksB;rw [List.length_map,chunks_len _ _ (Nat.le_refl _)]
theorem chunksB_small {s:List UInt8} {c:ByteArray} (h:c∈chunksB s):c.size≤64:=by
 unfold chunksB at h;obtain ⟨x,hx,rfl⟩:=List.mem_map.1 h;have:=chunks_small _ _ x hx
 simpa [ByteArray.size] using this
/-! ### what is written -/
theorem iJ (s:ByteArray):(fullS s).data.toList=s.data.toList++List.replicate (64 - s.size) 0:=by
 simp [fullS,zeros,ByteArray.data_append]
theorem chunks_flat:∀ (n:Nat) (s:List UInt8) (r:List UInt8),s.length≤n→((((gH n s).map fun c=>fullS ⟨c.toArray⟩).flatMap (·.data.toList))++r).take s.length=s
 | 0,s,r,h=>by
  obtain rfl:s=[]:=List.length_eq_zero_iff.1 (by omega);simp
 | n+1,s,r,h=>by
  unfold gH
  split
  ·rename_i e;subst e;simp
  ·rename_i e
   rw [List.map_cons,List.flatMap_cons,iJ,List.append_assoc];show (((s.take 64).toArray.toList++_)++_).take s.length=s;rw [List.toList_toArray]
   by_cases h64:64≤s.length
   ·have hz:(⟨(s.take 64).toArray⟩:ByteArray).size=64:=by simp [ByteArray.size];omega
    rw [hz];simp only [Nat.sub_self,List.replicate_zero,List.append_nil];rw [List.take_append];have ih:=chunks_flat n (s.drop 64) r (by first|(simp;done)|(simp;omega));rw [List.length_drop] at ih;rw [List.take_of_length_le (by first|(simp;done)|(simp;omega))]
    have hl:(s.take 64).length=64:=by simp;omega
    rw [hl,ih];exact List.take_append_drop 64 s
   ·have hd:s.take 64=s:=List.take_of_length_le (by omega)
    rw [hd,List.append_assoc,List.take_append_of_le_length (Nat.le_refl _),List.take_length]
def dH:List ByteArray→Nat→List ByteArray→List ByteArray
 | n,_,[]=>n
 | n,i,s :: l=>dH (n.set i (fullS s)) (i+1) l
theorem setAll_length:∀ (l n:List ByteArray) (i:Nat),(dH n i l).length=n.length
 | [],n,i=>rfl
 | s :: l,n,i=>by rw [dH,setAll_length l,List.length_set]
theorem uH:∀ (l n:List ByteArray) (i k:Nat),(k<i∨i+l.length≤k)→(dH n i l)[k]? = n[k]?
 | [],n,i,k,_=>rfl
 | s :: l,n,i,k,h=>by
  simp only [List.length_cons] at h;rw [dH,uH l _ (i+1) k (by omega),List.getElem?_set_ne (by omega)]
theorem setAll_in:∀ (l n:List ByteArray) (i:Nat),i+l.length≤n.length→(dH n i l).drop i=l.map fullS++n.drop (i+l.length)
 | [],n,i,_=>by simp [dH]
 | s :: l,n,i,h=>by
  simp only [List.length_cons] at h;have ih:=setAll_in l (n.set i (fullS s)) (i+1) (by first|(simp;done)|(simp;omega))
  have hi:i<(dH (n.set i (fullS s)) (i+1) l).length:=by rw [setAll_length,List.length_set];omega
  rw [dH,List.drop_eq_getElem_cons hi,ih]
  have e:(dH (n.set i (fullS s)) (i+1) l)[i]=fullS s:=by
   have h2:=uH l (n.set i (fullS s)) (i+1) i (Or.inl (by omega));rw [List.getElem?_set_self (by omega),List.getElem?_eq_getElem hi] at h2;exact Option.some.inj h2
  rw [e,List.map_cons,List.cons_append,List.drop_set_of_lt (by omega),List.length_cons,show i+1+l.length=i+(l.length+1) by omega]
theorem half_text {n:List ByteArray} {e:Nat} {s:List UInt8} (hn:22≤n.length) (hs:s.length≤640):(halfOf (dH n (2+e % 2 * 10) (chunksB s)) e).take s.length=s:=by
 have hl:=chunksB_len s;unfold halfOf;rw [setAll_in _ _ _ (by omega),List.take_append,List.flatMap_append,List.take_of_length_le (i:=10) (by rw [List.length_map];omega)];unfold chunksB;rw [List.map_map];exact chunks_flat s.length s _ (Nat.le_refl _)
/-! ### states of a disk that holds a book -/
structure Disk.Calm (d:Disk) (n:Nat):Prop where
 wf:d.WF n
 up:d.down=false
 none:d.wait=[]
 all:d.kept=d.now
theorem halfOf_congr {l m:List ByteArray} {e:Nat} (h:∀ k,2+e % 2 * 10≤k→k<2+e % 2 * 10+10→m[k]? = l[k]?):halfOf m e=halfOf l e:=by
 unfold halfOf
 congr 1
 apply List.ext_getElem?;intro i
 by_cases hi:i<10
 ·rw [List.getElem?_take_of_lt hi,List.getElem?_take_of_lt hi,List.getElem?_drop,List.getElem?_drop]
  exact h _ (by omega) (by omega)
 ·rw [List.getElem?_eq_none (by first|(simp;done)|(simp;omega)),List.getElem?_eq_none (by first|(simp;done)|(simp;omega))]
theorem getD_of {l m:List ByteArray} {k:Nat} (h:m[k]? = l[k]?):m.getD k ⟨#[]⟩=l.getD k ⟨#[]⟩:=by
 rw [List.getD_eq_getElem?_getD,List.getD_eq_getElem?_getD,h]
theorem Holds.congr {l m:List ByteArray} {levels:Int} {e:Nat} {b:Book} (h:Holds l levels e b) (h0:m[0]? = l[0]?) (h1:m[1]? = l[1]?)
  (hh:∀ k,2+e % 2 * 10≤k→k<2+e % 2 * 10+10→m[k]? = l[k]?):Holds m levels e b:=by
 refine ⟨h.pos,h.fit,h.ok,?_,?_,?_⟩
 ·rcases Nat.mod_two_eq_zero_or_one e with he|he
  ·have:=h.head;rw [he] at this ⊢;rw [getD_of h0];exact this
  ·have:=h.head;rw [he] at this ⊢;rw [getD_of h1];exact this
 ·rw [halfOf_congr hh];exact h.text
 ·rcases Nat.mod_two_eq_zero_or_one e with he|he
  ·have:=h.old;rw [show (e+1) % 2=1 by omega] at this ⊢;rw [getD_of h1];exact this
  ·have:=h.old;rw [show (e+1) % 2=0 by omega] at this ⊢;rw [getD_of h0];exact this
theorem Holds.told {l:List ByteArray} {levels:Int} {e:Nat} {b:Book} (h:Holds l levels e b) (hl:levels≤4):(tells (l.getD (e % 2) ⟨#[]⟩).data.toList (0,0)).1=e:=by
 rw [tells_head (x:=(0,0)) h.head h.fit (text_len h.ok hl) (show 0<e from h.pos)]
theorem Holds.next {l:List ByteArray} {levels:Int} {e:Nat} {b b':Book} (h:Holds l levels e b) (hl:levels≤4) (hn:22≤l.length) (hb:bookFault b' levels=0) (he:e+1<4294967296)
  (ht:(halfOf l (e+1)).take (bookText b').length=bookText b'):Holds (l.set ((e+1) % 2) (fullS ⟨(Ch.head (e+1) (bookText b').length).toArray⟩)) levels (e+1) b':=by
 refine ⟨by omega,he,hb,?_,?_,?_⟩
 ·refine ⟨List.replicate (64 - 9) 0,?_⟩
  rw [List.getD_eq_getElem?_getD,List.getElem?_set_self (by omega)];simp only [Option.getD_some];rw [iJ];rfl
 ·rw [halfOf_congr (l:=l)]
  ·exact ht
  ·intro k h1 _
   rw [List.getElem?_set_ne (by omega)]
 ·rw [show (e+1+1) % 2=e % 2 by omega]
  rw [getD_of (l:=l) (List.getElem?_set_ne (by omega)),h.told hl];omega
/-! ### what writes do to a disk -/
def queued:Nat→List ByteArray→List (Nat×ByteArray)
 | _,[]=>[]
 | i,s :: l=>(i,fullS s) :: queued (i+1) l
theorem queued_in:∀ (l:List ByteArray) (i:Nat) (t:Nat×ByteArray),t∈queued i l→i≤t.1∧t.1<i+l.length
 | s :: l,i,t,h=>by
  rcases List.mem_cons.1 h with rfl|h
  ·simp
  ·have:=queued_in l (i+1) t h
   simp only [List.length_cons];omega
theorem write_up {d:Disk} {n:Nat} (h:d.WF n) (i:Nat) (s:ByteArray) (hi:i<n) (hs:s.size≤64):
  (d.write (i:Int) s=(d.stepped,9)∧d.stepped.down=true) ∨
  ((d.write (i:Int) s).2=0∧(d.write (i:Int) s).1={ d.stepped with now:=d.now.set i (fullS s),wait:=d.wait++[(i,fullS s)] }∧d.stepped.down=false):=by
 unfold Disk.write;rw [if_neg (by have:=h.now;omega)]
 split
 ·rename_i hd;exact Or.inl ⟨rfl,hd⟩
 ·rename_i hd;exact Or.inr ⟨rfl,by simp,by simpa using hd⟩
theorem writes_did:∀ (l:List ByteArray) (d:Disk) (n i:Nat),d.WF n→d.down=false→i+l.length≤n→(∀ s∈l,s.size≤64) →
    (writes d i l).1.WF n∧(writes d i l).1.kept=d.kept∧(d.fuse=-1→(writes d i l).2=0∧(writes d i l).1.fuse=-1) ∧
    (((writes d i l).2=9∧(writes d i l).1.down=true∧∃ l',(writes d i l).1.wait=d.wait++l'∧∀ t∈l',i≤t.1∧t.1<i+l.length) ∨
     ((writes d i l).2=0∧(writes d i l).1.down=false∧(writes d i l).1.wait=d.wait++queued i l∧(writes d i l).1.now=dH d.now i l))
  | [],d,n,i,h,hd,_,_=>⟨h,rfl,fun hf=>⟨rfl,hf⟩,Or.inr ⟨rfl,hd,by simp [writes,queued],rfl⟩⟩
  | s :: l, d,n,i,h,hd,hi,hs=>by
    simp only [List.length_cons] at hi;have hw:=h.write (i:Int) s
    rcases write_up h i s (by omega) (hs s (by simp)) with ⟨hr,hdn⟩|⟨h0,h1,hup⟩
    · have hfz:d.fuse=0:=by
        unfold Disk.stepped at hdn;rw [if_neg (by rw [hd];simp)] at hdn
        split at hdn
        · assumption
        · dsimp only at hdn;rw [hd] at hdn;cases hdn
      have e:writes d i (s :: l)=(d.stepped,9):=by rw [writes,if_neg (by rw [hr];simp),hr]
      rw [e];refine ⟨h.stepped,fF d,fun hf=>by omega,Or.inl ⟨rfl,hdn,[],?_,by simp⟩⟩;rw [List.append_nil];exact stepped_wait d
    · have e:writes d i (s :: l)=writes (d.write (i:Int) s).1 (i+1) l:=by rw [writes,if_pos h0]
      have hk:(d.write (i:Int) s).1.kept=d.kept:=by rw [h1];exact fF d
      have hdw:(d.write (i:Int) s).1.down=false:=by rw [h1];exact hup
      obtain ⟨r1,r2,r3,r4⟩:=writes_did l (d.write (i:Int) s).1 n (i+1) hw hdw (by omega) (fun x hx=>hs x (by simp [hx]));rw [e]
      have hww:(d.write (i:Int) s).1.wait=d.wait++[(i,fullS s)]:=by rw [h1]
      have hnn:(d.write (i:Int) s).1.now=d.now.set i (fullS s):=by rw [h1]
      refine ⟨r1,r2.trans hk,?_,?_⟩
      · intro hf
        refine r3 ?_;rw [h1];show d.stepped.fuse=-1;unfold Disk.stepped;rw [if_neg (by rw [hd];simp),if_neg (by omega),hf];rfl
      · rcases r4 with ⟨q1,q2,l',q3,q4⟩|⟨q1,q2,q3,q4⟩
        · refine Or.inl ⟨q1,q2,(i,fullS s) :: l',?_,?_⟩
          · rw [q3,hww,List.append_assoc];rfl
          · intro t ht
            simp only [List.length_cons]
            rcases List.mem_cons.1 ht with rfl|ht
            · simp
            · have:=q4 t ht;omega
        · refine Or.inr ⟨q1,q2,?_,?_⟩
          · rw [q3,hww,List.append_assoc];rfl
          · rw [q4,hnn];rfl
theorem eJ (keep:Nat):∀ (l:List (Nat×ByteArray)) (i:Nat) (k:List ByteArray) (j:Nat),(∀ t∈l,t.1≠j)→(keptOf keep i l k)[j]? = k[j]?
 | [],_,_,_,_=>rfl
 | t :: l,i,k,j,h=>by
  rw [keptOf,eJ keep l (i+1) _ j (fun x hx=>h x (by simp [hx]))]
  split
  ·rw [List.getElem?_set_ne (h t (by simp))]
  ·rfl
theorem flush_up {d:Disk} (hd:d.down=false):
  (d.flush=(d.stepped,9)∧d.stepped.down=true∧d.fuse=0)∨(d.flush.2=0∧d.flush.1={ d.stepped with kept:=d.now,wait:=[] }∧d.stepped.down=false∧(d.fuse=-1→d.stepped.fuse=-1)):=by
 unfold Disk.flush
 split
 ·rename_i h
  refine Or.inl ⟨rfl,h,?_⟩;unfold Disk.stepped at h;rw [if_neg (by rw [hd];simp)] at h
  split at h
  ·assumption
  ·dsimp only at h;rw [hd] at h;cases h
 ·rename_i h
  refine Or.inr ⟨rfl,rfl,by simpa using h,?_⟩;intro hf;unfold Disk.stepped;rw [if_neg (by rw [hd];simp),if_neg (by omega),hf];rfl
theorem Holds.fallen {d:Disk} {levels:Int} {e:Nat} {b:Book} (h:Holds d.kept levels e b) (hw:∀ t∈d.wait,2+(e+1) % 2 * 10≤t.1∧t.1<2+(e+1) % 2 * 10+10) (keep:Nat):Holds (d.restart keep).now levels e b:=by
 refine h.congr (eJ keep _ _ _ 0 ?_) (eJ keep _ _ _ 1 ?_) (fun k h1 h2=>eJ keep _ _ _ k ?_)
 ·intro t ht;have:=hw t ht;omega
 ·intro t ht;have:=hw t ht;omega
 ·intro t ht;have:=hw t ht;omega
theorem keep_law {d:Disk} {n:Nat} {levels:Int} {e:Nat} {b b':Book} (hc:d.Calm n) (hn:22≤n) (h:Holds d.now levels e b) (hl:levels≤4) (hb:bookFault b' levels=0) (he:e+1<4294967296):
    (d.keep (e+1) b').1.WF n∧(d.fuse=-1→(d.keep (e+1) b').2=0∧(d.keep (e+1) b').1.fuse=-1) ∧
    (((d.keep (e+1) b').2=0∧(d.keep (e+1) b').1.Calm n∧Holds (d.keep (e+1) b').1.now levels (e+1) b') ∨
     ((d.keep (e+1) b').2=9∧(d.keep (e+1) b').1.down=true∧∀ keep,Holds ((d.keep (e+1) b').1.restart keep).now levels e b∨Holds ((d.keep (e+1) b').1.restart keep).now levels (e+1) b')):=by
  have ht:=text_len hb hl;have hcl:=chunksB_len (bookText b')
  have hk:Holds d.kept levels e b:=by rw [hc.all];exact h
  obtain ⟨r1,r2,r3,r4⟩:=writes_did (chunksB (bookText b')) d n (2+(e+1) % 2 * 10) hc.wf hc.up (by omega) (fun s hs=>chunksB_small hs);unfold Disk.keep;generalize writes d (2+(e+1) % 2 * 10) (chunksB (bookText b'))=r at *
  rcases r4 with ⟨q1,q2,l',q3,q4⟩|⟨q1,q2,q3,q4⟩
  · rw [if_neg (by rw [q1];decide)]
    refine ⟨r1,fun hf=>by have:=(r3 hf).1;omega,Or.inr ⟨q1,q2,fun keep=>Or.inl (Holds.fallen (by rw [r2];exact hk) ?_ keep)⟩⟩;intro t ht;rw [q3,hc.none,List.nil_append] at ht;have:=q4 t ht;omega
  · rw [if_pos q1]
    have hwait:∀ t∈r.1.wait,2+(e+1) % 2 * 10≤t.1∧t.1<2+(e+1) % 2 * 10+10:=by
      intro t ht;rw [q3,hc.none,List.nil_append] at ht;have:=queued_in _ _ t ht;omega
    have hN:Holds r.1.now levels e b:=by
      rw [q4];refine h.congr (uH _ _ _ 0 (by omega)) (uH _ _ _ 1 (by omega)) (fun k h1 h2=>uH _ _ _ k ?_);omega
    have hT:(halfOf r.1.now (e+1)).take (bookText b').length=bookText b':=by
      rw [q4];exact half_text (by rw [hc.wf.now];exact hn) ht
    have hfl:=r1.flush
    rcases flush_up q2 with ⟨f1,f2,f3⟩|⟨f1,f2,f3,f4⟩
    · rw [f1] at hfl ⊢
      rw [if_neg (show ¬ (9:Int)=0 by decide)];refine ⟨hfl,fun hf=>by have:=(r3 hf).2;omega,Or.inr ⟨rfl,f2,fun keep=>Or.inl (Holds.fallen ?_ ?_ keep)⟩⟩
      · show Holds r.1.stepped.kept levels e b
        rw [fF,r2];exact hk
      · show ∀ t∈r.1.stepped.wait,_
        rw [stepped_wait];exact hwait
    · rw [if_pos f1]
      generalize hF:r.1.flush.1=F at *
      have hFn:F.now=r.1.now:=by rw [f2];exact stepped_now _
      have hFk:F.kept=r.1.now:=by rw [f2]
      have hFw:F.wait=[]:=by rw [f2]
      have hFd:F.down=false:=by rw [f2];exact f3
      have hFf:d.fuse=-1→F.fuse=-1:=fun hf=>by rw [f2];exact f4 (r3 hf).2
      clear f2
      have hsz:(⟨(head (e+1) (bookText b').length).toArray⟩:ByteArray).size≤64:=by show 9≤64;decide
      have hlen:22≤r.1.now.length:=by rw [r1.now];exact hn
      have hnew:=hN.next hl hlen hb he hT
      have hwr:=hfl.write ((((e+1) % 2:Nat)):Int) ⟨(head (e+1) (bookText b').length).toArray⟩
      rcases write_up hfl ((e+1) % 2) ⟨(head (e+1) (bookText b').length).toArray⟩ (by omega) hsz with ⟨g1,g2⟩|⟨g1,g2,g3⟩
      · rw [g1] at hwr ⊢
        rw [if_neg (show ¬ (9:Int)=0 by decide)]
        have hz:F.fuse=0:=by
          unfold Disk.stepped at g2;rw [if_neg (by rw [hFd];simp)] at g2
          split at g2
          · assumption
          · dsimp only at g2;rw [hFd] at g2;cases g2
        refine ⟨hwr,fun hf=>by have:=hFf hf;omega,Or.inr ⟨rfl,g2,fun keep=>Or.inl (Holds.fallen ?_ ?_ keep)⟩⟩
        · show Holds F.stepped.kept levels e b
          rw [fF,hFk];exact hN
        · show ∀ t∈F.stepped.wait,_
          rw [stepped_wait,hFw];simp
      · rw [if_pos g1]
        generalize hG:(F.write ((((e+1) % 2:Nat)):Int) ⟨(head (e+1) (bookText b').length).toArray⟩).1=G at *
        have hGn:G.now=r.1.now.set ((e+1) % 2) (fullS ⟨(head (e+1) (bookText b').length).toArray⟩):=by rw [g2,←hFn]
        have hGk:G.kept=r.1.now:=by rw [g2];show F.stepped.kept=_;rw [fF,hFk]
        have hGw:G.wait=[((e+1) % 2,fullS ⟨(head (e+1) (bookText b').length).toArray⟩)]:=by rw [g2];show F.wait++_=_;rw [hFw];rfl
        have hGd:G.down=false:=by rw [g2];exact g3
        have hGf:d.fuse=-1→G.fuse=-1:=fun hf=>by
          rw [g2];show F.stepped.fuse=-1;unfold Disk.stepped;rw [if_neg (by rw [hFd];simp),if_neg (by rw [hFf hf];omega),hFf hf];rfl
        clear g2;have hgl:=hwr.flush
        rcases flush_up hGd with ⟨k1,k2,k3⟩|⟨k1,k2,k3,k4⟩
        · rw [k1] at hgl ⊢
          refine ⟨hgl,fun hf=>by have:=hGf hf;omega,Or.inr ⟨rfl,k2,fun keep=>?_⟩⟩
          have e1:(G.stepped.restart keep).now=if keepBit keep 0 then r.1.now.set ((e+1) % 2) (fullS ⟨(head (e+1) (bookText b').length).toArray⟩) else r.1.now:=by
            show keptOf keep 0 G.stepped.wait G.stepped.kept=_;rw [stepped_wait,fF,hGw,hGk];rfl
          rw [e1]
          split
          · exact Or.inr hnew
          · exact Or.inl hN
        · refine ⟨hgl,fun hf=>⟨k1,?_⟩,Or.inl ⟨k1,⟨hgl,?_,?_,?_⟩,?_⟩⟩
          · rw [k2];exact k4 (hGf hf)
          · rw [k2];exact k3
          · rw [k2]
          · rw [k2];show G.now=G.stepped.now;rw [stepped_now]
          · rw [k2];show Holds G.stepped.now _ _ _;rw [stepped_now,hGn];exact hnew
theorem write_calm {d:Disk} {n:Nat} (h:d.WF n) (hd:d.down=false) (hf:d.fuse=-1) (i:Nat) (s:ByteArray) (hi:i<n) (hs:s.size≤64):
  d.write (i:Int) s=({ d with now:=d.now.set i (fullS s),wait:=d.wait++[(i,fullS s)] },0):=by
 have e:d.stepped=d:=by
  unfold Disk.stepped;rw [if_neg (by rw [hd];simp),if_neg (by omega),hf];cases d
  dsimp only at hf ⊢
  rw [hf];rfl
 unfold Disk.write;rw [if_neg (by have:=h.now;omega),e,if_neg (by rw [hd];simp)];rfl
theorem flush_calm {d:Disk} (hd:d.down=false) (hf:d.fuse=-1):d.flush=({ d with kept:=d.now,wait:=[] },0):=by
 have e:d.stepped=d:=by
  unfold Disk.stepped;rw [if_neg (by rw [hd];simp),if_neg (by omega),hf];cases d
  dsimp only at hf ⊢
  rw [hf];rfl
 unfold Disk.flush;rw [e,if_neg (by rw [hd];simp)]
theorem text_empty:bookText ⟨0,[],[]⟩=[48,32,48,32,48]:=by
 have e:Lib.itoa 0=[48]:=by
  unfold Lib.itoa;rw [if_neg (by omega)];exact Lib.decDigits_one (by decide)
 show joinWords [Lib.itoa 0,Lib.itoa 0,Lib.itoa 0]=_;rw [e];rfl
theorem zero_tells (x:Nat×Nat):tells (zeros 64).data.toList x=x:=by
 unfold tells;rw [if_neg];rintro ⟨h,_⟩;simp [byteOf,zeros] at h
theorem format_law {d:Disk} {n:Nat} (hc:d.Calm n) (hf:d.fuse=-1) (hn:22≤n) (levels:Int):d.format.2=0∧d.format.1.Calm n∧d.format.1.fuse=-1∧Holds d.format.1.now levels 2 ⟨0,[],[]⟩:=by
 have e0:d.write 1 ⟨#[]⟩=({ d with now:=d.now.set 1 (fullS ⟨#[]⟩),wait:=d.wait++[(1,fullS ⟨#[]⟩)] },0):=write_calm hc.wf hc.up hf 1 ⟨#[]⟩ (by omega) (by decide);have w0:=hc.wf.write 1 ⟨#[]⟩;unfold Disk.format
 rw [e0] at w0 ⊢
 rw [if_pos rfl]
 dsimp only at w0 ⊢
 have s1:(⟨(bookText ⟨0,[],[]⟩).toArray⟩:ByteArray).size≤64:=by rw [text_empty];decide
 have w1:=w0.write 2 ⟨(bookText ⟨0,[],[]⟩).toArray⟩;have e1:=write_calm w0 hc.up hf 2 ⟨(bookText ⟨0,[],[]⟩).toArray⟩ (by omega) s1;rw [show ((2:Nat):Int)=2 from rfl] at e1
 rw [e1] at w1 ⊢
 rw [if_pos rfl]
 dsimp only at w1 ⊢
 have w2:=w1.flush
 rw [flush_calm (by exact hc.up) (by exact hf)] at w2 ⊢
 rw [if_pos rfl]
 dsimp only at w2 ⊢
 have s2:(⟨(head 2 (bookText ⟨0,[],[]⟩).length).toArray⟩:ByteArray).size≤64:=by show 9≤64;decide
 have w3:=w2.write 0 ⟨(head 2 (bookText ⟨0,[],[]⟩).length).toArray⟩;have e2:=write_calm w2 hc.up hf 0 ⟨(head 2 (bookText ⟨0,[],[]⟩).length).toArray⟩ (by omega) s2;rw [show ((0:Nat):Int)=0 from rfl] at e2
 rw [e2] at w3 ⊢
 rw [if_pos rfl]
 dsimp only at w3 ⊢
 have w4:=w3.flush
 rw [flush_calm (by exact hc.up) (by exact hf)] at w4 ⊢
 dsimp only at w4 ⊢
 have hl:=hc.wf.now;refine ⟨rfl,⟨w4,hc.up,rfl,rfl⟩,hf,?_⟩
 have hb:bookFault ⟨0,[],[]⟩ levels=0:=by simp [bookFault,staysFault,jobsFault]
 refine ⟨by decide,by decide,hb,?_,?_,?_⟩
 ·refine ⟨List.replicate (64 - 9) 0,?_⟩
  rw [List.getD_eq_getElem?_getD];show ((((d.now.set 1 _).set 2 _).set 0 _)[0]?.getD _).data.toList=_;rw [List.getElem?_set_self (by first|(simp;done)|(simp;omega))];simp only [Option.getD_some];rw [iJ];rfl
 ·unfold halfOf
  show ((List.take 10 (List.drop 2 (((d.now.set 1 _).set 2 _).set 0 _))).flatMap _).take _=_
  have hlt:2<(((d.now.set 1 (fullS ⟨#[]⟩)).set 2 (fullS ⟨(bookText ⟨0,[],[]⟩).toArray⟩)).set 0 (fullS ⟨(head 2 (bookText ⟨0,[],[]⟩).length).toArray⟩)).length:=by simp;omega
  have he:(((d.now.set 1 (fullS ⟨#[]⟩)).set 2 (fullS ⟨(bookText ⟨0,[],[]⟩).toArray⟩)).set 0 (fullS ⟨(head 2 (bookText ⟨0,[],[]⟩).length).toArray⟩))[2]=fullS ⟨(bookText ⟨0,[],[]⟩).toArray⟩:=by
   have h2:(((d.now.set 1 (fullS ⟨#[]⟩)).set 2 (fullS ⟨(bookText ⟨0,[],[]⟩).toArray⟩)).set 0 (fullS ⟨(head 2 (bookText ⟨0,[],[]⟩).length).toArray⟩))[2]? = some (fullS ⟨(bookText ⟨0,[],[]⟩).toArray⟩):=by
    rw [List.getElem?_set_ne (by decide),List.getElem?_set_self (by first|(simp;done)|(simp;omega))]
   rw [List.getElem?_eq_getElem hlt] at h2;exact Option.some.inj h2
  rw [List.drop_eq_getElem_cons hlt,he,List.take_succ_cons,List.flatMap_cons,iJ,List.append_assoc];show (((bookText ⟨0,[],[]⟩).toArray.toList++_)).take _=_;rw [List.toList_toArray,List.take_append_of_le_length (Nat.le_refl _),List.take_length]
 ·show (tells ((((d.now.set 1 (fullS ⟨#[]⟩)).set 2 _).set 0 _).getD 1 _).data.toList (0,0)).1<2
  rw [List.getD_eq_getElem?_getD,List.getElem?_set_ne (by decide),List.getElem?_set_ne (by decide),List.getElem?_set_self (by omega)];simp only [Option.getD_some]
  rw [show fullS ⟨#[]⟩=zeros 64 by
   unfold fullS
   show (⟨#[]⟩:ByteArray)++zeros 64=zeros 64
   apply ByteArray.ext
   rw [ByteArray.data_append];simp]
  rw [zero_tells];decide
theorem calm_new (n:Nat):(Disk.new n).Calm n:=⟨Disk.WF.new n,rfl,rfl,rfl⟩
end Ch
namespace Go.Proofs.YtplomeacjbkgnabGreatDoor
open Go.RowKit
theorem toList_loop (s:ByteArray):∀ (n i:Nat) (r:List UInt8),s.size - i=n→ByteArray.toList.loop s i r=r.reverse++s.data.toList.drop i:=by
 intro n
 induction n with
 | zero=>
  intro i r h;unfold ByteArray.toList.loop;rw [if_neg (by omega),List.drop_of_length_le (by simp only [Array.length_toList];show s.size≤i;omega),List.append_nil]
 | succ n ih=>
  intro i r h;unfold ByteArray.toList.loop;rw [if_pos (by omega),ih (i+1) _ (by omega)]
  have hi:i<s.data.toList.length:=by simp only [Array.length_toList];show i<s.size;omega
  rw [List.drop_eq_getElem_cons hi]
  have:s.get! i=s.data.toList[i]:=by
   unfold ByteArray.get!;rw [Array.getElem_toList];exact getElem!_pos s.data i (by show i<s.size;omega)
  rw [this];simp
theorem toList_data (s:ByteArray):s.toList=s.data.toList:=by
 unfold ByteArray.toList;rw [toList_loop s _ 0 [] rfl];rfl
theorem str_ne {s t:ByteArray} (h:s≠t):(s.toList==t.data.toList)=false:=by
 rw [toList_data];apply Classical.byContradiction;intro hc
 have hc:s.data.toList=t.data.toList:=by simpa using hc
 apply h;cases s;cases t;simp only at hc
 congr 1
 exact Array.toList_inj.1 hc
def kI (n:Nat):ByteArray:=⟨(Ch.four n).toArray⟩
def yE (e k:Nat):ByteArray:=⟨(Ch.head e k).toArray⟩
theorem conv_four (w:World) (a:Nat) (x0 x1 x2 x3:Int) (h0:w.cell? ⟨a,0,none⟩=some (.int .u8 x0)) (h1:w.cell? ⟨a,1,none⟩=some (.int .u8 x1)) (h2:w.cell? ⟨a,2,none⟩=some (.int .u8 x2)) (h3:w.cell? ⟨a,3,none⟩=some (.int .u8 x3)):
  (convert 155 9 (.slice (some ⟨a,0,none⟩) 4 4)).run Tryz.prog w = .ok (.string ⟨#[UInt8.ofNat x0.toNat,UInt8.ofNat x1.toNat,UInt8.ofNat x2.toNat,UInt8.ofNat x3.toNat]⟩) w:=by
 refine run_convert_bytes_arg w 155 5 Tryz.underlying155 Tryz.underlying5 a 0 4 4 [x0,x1,x2,x3] rfl ?_ 9 Tryz.underlying9;intro i hi
 match i,hi with
 | 0,_=>exact h0
 | 1,_=>exact h1
 | 2,_=>exact h2
 | 3,_=>exact h3
theorem fourS_is (n:Nat) (hn:n<4294967296):(⟨#[UInt8.ofNat ((n:Int) % 256).toNat,UInt8.ofNat ((n:Int) / 256 % 256).toNat,UInt8.ofNat ((n:Int) / 65536 % 256).toNat,UInt8.ofNat ((n:Int) / 16777216).toNat]⟩:ByteArray)=kI n:=by
 unfold kI Ch.four
 congr 1
 have h:∀ a b:Nat,a % 256=b % 256→UInt8.ofNat a=UInt8.ofNat b:=fun a b e=>by
  apply UInt8.toNat_inj.1
  simpa using e
 rw [h ((n:Int) % 256).toNat n (by omega),h ((n:Int) / 256 % 256).toNat (n / 256) (by omega),h ((n:Int) / 65536 % 256).toNat (n / 65536) (by omega),h ((n:Int) / 16777216).toNat (n / 16777216) (by omega)]
theorem four_any (n:Nat) (w:World) (hn:n<4294967296):Calls Tryz.prog 86 #[vi (n:Int)] w fun e w'=>e = .returned (.string (kI n))∧Ext w w':=by
 rw [←fourS_is n hn];go_enter Tryz.func86,Tryz.ntmps86;go_wp2_with fail;rw [conv_four (x0:=(n:Int) % 256) (x1:=(n:Int) / 256 % 256) (x2:=(n:Int) / 65536 % 256) (x3:=(n:Int) / 16777216)]
 rotate_left 1
 ·simp [go_sem]
 ·simp [go_sem]
 ·simp [go_sem]
 ·simp [go_sem]
 go_wp2_with fail;go_ret;exact ⟨rfl,eX⟩
theorem headBS_is (e k:Nat):yE e k=(⟨#[66]⟩++kI e)++kI k:=by
 apply ByteArray.ext;simp [yE,kI,Ch.head,ByteArray.data_append]
theorem head_any (e k:Nat) (w:World) (he:e<4294967296) (hk:k<4294967296):Calls Tryz.prog 46 #[vi (e:Int),vi (k:Int)] w fun x w'=>x = .returned (.string (yE e k))∧Ext w w':=by
 have c1:∀ w,(Op.stringOp .add ⟨#[66]⟩ (kI e)).run Tryz.prog w = .ok (.string (⟨#[66]⟩++kI e)) w:=fun w=>by
  rw [run_string_add_sum w _ _ (by show 1+4≤9223372036854775807;decide)]
 have c2:∀ w,(Op.stringOp .add (⟨#[66]⟩++kI e) (kI k)).run Tryz.prog w = .ok (.string (yE e k)) w:=fun w=>by
  rw [headBS_is,run_string_add_sum w _ _ (by rw [ByteArray.size_append];show 1+4+4≤9223372036854775807;decide)]
 have F1:Hid (∀ w,Calls Tryz.prog 86 #[vi (e:Int)] w fun x w'=>x = .returned (.string (kI e))∧Ext w w'):=fun w=>four_any e w he
 have F2:Hid (∀ w,Calls Tryz.prog 86 #[vi (k:Int)] w fun x w'=>x = .returned (.string (kI k))∧Ext w w'):=fun w=>four_any k w hk
 generalize kI e=X at *;generalize kI k=Y at *;go_enter Tryz.func46,Tryz.ntmps46
 go_wp2_with (first
  | (go_at_call 86;(with_reducible refine (F1.out _).mono ?_);rintro e w1 ⟨rfl,o1,n1,rfl⟩)
  | (go_at_call 86;(with_reducible refine (F2.out _).mono ?_);rintro e w2 ⟨rfl,o2,n2,rfl⟩))
 go_ret;exact ⟨rfl,eX⟩
theorem or_i64 (a b i:Nat) (ha:a<2 ^ i) (hs:a+b * 2 ^ i<9223372036854775808):bits .or .i64 (a:Int) ((b * 2 ^ i:Nat):Int)=((a+b * 2 ^ i:Nat):Int):=by
 have hx:a ||| b * 2 ^ i=a+b * 2 ^ i:=by
  have:=Nat.shiftLeft_add_eq_or_of_lt ha b;rw [Nat.shiftLeft_eq] at this;rw [Nat.or_comm,←this,Nat.add_comm]
 have h1:(BitVec.ofInt 64 (a:Int)).toNat=a:=by
  rw [BitVec.ofInt_natCast,BitVec.toNat_ofNat];exact Nat.mod_eq_of_lt (by omega)
 have h2:(BitVec.ofInt 64 ((b * 2 ^ i:Nat):Int)).toNat=b * 2 ^ i:=by
  rw [BitVec.ofInt_natCast,BitVec.toNat_ofNat];exact Nat.mod_eq_of_lt (by omega)
 show IntKind.i64.wrap ((BitVec.ofInt 64 (a:Int) ||| BitVec.ofInt 64 ((b * 2 ^ i:Nat):Int)).toNat:Int)=_;rw [BitVec.toNat_or,h1,h2,hx];exact IntWalk.i64_in _ (by omega)
theorem unfour_is (a b c d:Nat) (h0:a<256) (h1:b<256) (h2:c<256) (h3:d<256):
  bits .or .i64 (bits .or .i64 (bits .or .i64 (wrap64 (a:Int)) (wrap64 (wrap64 (b:Int) * 256))) (wrap64 (wrap64 (c:Int) * 65536))) (wrap64 (wrap64 (d:Int) * 16777216))=((a+256 * b+65536 * c+16777216 * d:Nat):Int):=by
 have w:∀ n:Nat,n<9223372036854775808→wrap64 (n:Int)=(n:Int):=fun n hn=>IntWalk.wrap64_in (n:Int) (by omega)
 have e1:wrap64 (wrap64 (b:Int) * 256)=((b * 2 ^ 8:Nat):Int):=by rw [w b (by omega),show (b:Int) * 256=((b * 256:Nat):Int) from (Int.natCast_mul b 256).symm,w _ (by omega)]
 have e2:wrap64 (wrap64 (c:Int) * 65536)=((c * 2 ^ 16:Nat):Int):=by rw [w c (by omega),show (c:Int) * 65536=((c * 65536:Nat):Int) from (Int.natCast_mul c 65536).symm,w _ (by omega)]
 have e3:wrap64 (wrap64 (d:Int) * 16777216)=((d * 2 ^ 24:Nat):Int):=by rw [w d (by omega),show (d:Int) * 16777216=((d * 16777216:Nat):Int) from (Int.natCast_mul d 16777216).symm,w _ (by omega)]
 rw [w a (by omega),e1,e2,e3,or_i64 a b 8 (by omega) (by omega),or_i64 (a+b * 2 ^ 8) c 16 (by omega) (by omega),or_i64 (a+b * 2 ^ 8+c * 2 ^ 16) d 24 (by omega) (by omega)]
 congr 1
 omega
theorem unfour_s (s:ByteArray) (h:s.size=4):Ch.unfour s.data.toList 0=s[0].toNat+256 * s[1].toNat+65536 * s[2].toNat+16777216 * s[3].toNat:=by
 have g:∀ (i:Nat) (hi:i<s.size),Ch.byteOf s.data.toList i=s[i].toNat:=fun i hi=>by
  unfold Ch.byteOf;rw [List.getD_eq_getElem?_getD,List.getElem?_eq_getElem (by rw [Array.length_toList];exact hi)];rfl
 unfold Ch.unfour;rw [g 0 (by omega),g 1 (by omega),g 2 (by omega),g 3 (by omega)]
theorem unfour_any (s:ByteArray) (w:World) (hs:s.size=4):Calls Tryz.prog 91 #[.string s] w fun x w'=>x = .returned (vi ((Ch.unfour s.data.toList 0:Nat):Int))∧Ext w w':=by
 have i0:(0:Int)<((s.size:Nat):Int):=by omega
 have i1:(1:Int)<((s.size:Nat):Int):=by omega
 have i2:(2:Int)<((s.size:Nat):Int):=by omega
 have i3:(3:Int)<((s.size:Nat):Int):=by omega
 have HU:=aA (unfour_is s[0].toNat s[1].toNat s[2].toNat s[3].toNat s[0].toNat_lt s[1].toNat_lt s[2].toNat_lt s[3].toNat_lt);have HV:=aA (unfour_s s hs);go_enter Tryz.func91,Tryz.ntmps91
 go_upto_region 1 with fail
 (refine fA kR kR ?_;(repeat (first|go_big_quiet_step (fail)|quiet_step (fail)));refine wpQuiet_nil ?_;rintro _ ⟨oq,nq,rfl⟩)
 go_wp2_with fail;go_ret;exact ⟨by rw [HV.out];exact congrArg (fun z=>Ending.returned (Value.int .i64 z)) HU.out,eX⟩
def kB (n:Int):Value:=if n=0 then .nilIface else .iface 92 (vi n)
@[simp] theorem errV_0:kB 0 = .nilIface:=rfl
theorem errV_pos {n:Int} (h:n≠0):kB n = .iface 92 (vi n):=by simp [kB,h]
theorem place_ok {p:Ch.Place} {n:Int}:Ch.placeFault p n=0↔(1≤p.level∧p.level≤n∧0≤p.side∧p.side≤1∧0≤p.depth∧p.depth≤1):=by
 unfold Ch.placeFault
 split <;> simp <;> omega
theorem place_bad {p:Ch.Place} {n:Int} (h:¬ Ch.placeFault p n=0):Ch.placeFault p n=1:=by
 unfold Ch.placeFault at *
 split <;> simp_all
theorem checkSize_any (s:Ch.Size) (w:World):Calls Tryz.prog 87 #[sizeA s] w fun e w'=>e = .returned (kB (Ch.sizeFault s))∧Ext w w':=by
 obtain ⟨a,b,c⟩:=s;go_enter Tryz.func87,Tryz.ntmps87;go_wp2
 go_rounds 4
 all_goals
  go_ret;go_light;refine ⟨?_,eX⟩;simp only [Ch.sizeFault]
  first|(rw [if_pos (by omega)];rfl)|(rw [if_neg (by omega)];rfl)
theorem rsizeFault_any (s:Ch.Size) (w:World):Calls Tryz.prog 37 #[sizeA s] w fun e w'=>e = .returned (vi (Ch.sizeFault s))∧Ext w w':=by
 obtain ⟨a,b,c⟩:=s;go_enter Tryz.func37,Tryz.ntmps37;go_wp2
 all_goals
  go_ret;go_light;refine ⟨?_,eX⟩;simp only [Ch.sizeFault]
  first|(rw [if_pos (by omega)];rfl)|(rw [if_neg (by omega)];rfl)
theorem fits_any (s r:Ch.Size) (w:World):Calls Tryz.prog 88 #[sizeA s,sizeA r] w fun e w'=>e = .returned (.bool (Ch.fits s r))∧Ext w w':=by
 obtain ⟨a,b,c⟩:=s;obtain ⟨a',b',c'⟩:=r;go_enter Tryz.func88,Tryz.ntmps88;go_wp2
 all_goals
  go_ret;go_light;refine ⟨?_,eX⟩;refine congrArg (fun b=>Ending.returned (.bool b)) ?_;simp only [Ch.fits]
  grind
theorem rfits_any (s r:Ch.Size) (w:World):Calls Tryz.prog 38 #[sizeA s,sizeA r] w fun e w'=>e = .returned (.bool (Ch.fits s r))∧Ext w w':=by
 obtain ⟨a,b,c⟩:=s;obtain ⟨a',b',c'⟩:=r;go_enter Tryz.func38,Tryz.ntmps38;go_wp2
 all_goals
  go_ret;go_light;refine ⟨?_,eX⟩;refine congrArg (fun b=>Ending.returned (.bool b)) ?_;simp only [Ch.fits]
  grind
theorem checkPlace_any (p:Ch.Place) (n:Int) (w:World):Calls Tryz.prog 189 #[eC p,vi n] w fun e w'=>e = .returned (kB (Ch.placeFault p n))∧Ext w w':=by
 obtain ⟨a,b,c⟩:=p;go_enter Tryz.func189,Tryz.ntmps189;go_wp2
 all_goals
  go_ret;go_light;refine ⟨?_,eX⟩;simp only [Ch.placeFault]
  first|(rw [if_pos (by omega)];rfl)|(rw [if_neg (by omega)];rfl)
theorem rplaceFault_any (p:Ch.Place) (n:Int) (w:World):Calls Tryz.prog 134 #[eC p,vi n] w fun e w'=>e = .returned (vi (Ch.placeFault p n))∧Ext w w':=by
 obtain ⟨a,b,c⟩:=p;go_enter Tryz.func134,Tryz.ntmps134;go_wp2
 all_goals
  go_ret;go_light;refine ⟨?_,eX⟩;simp only [Ch.placeFault]
  first|(rw [if_pos (by omega)];rfl)|(rw [if_neg (by omega)];rfl)
theorem ext_any (p:Ch.Place) (w:World) (h0:0≤p.depth) (h1:p.depth≤1):Calls Tryz.prog 192 #[eC p] w fun e w'=>e = .returned (vi (Ch.extOf p))∧Ext w w':=by
 go_enter Tryz.func192,Tryz.ntmps192;go_wp2
 all_goals
  go_ret;go_light;rename_i hx;refine ⟨?_,eX⟩;simp at hx;simp [Ch.extOf,hx]
theorem rext_any (p:Ch.Place) (w:World) (h0:0≤p.depth) (h1:p.depth≤1):Calls Tryz.prog 174 #[eC p] w fun e w'=>e = .returned (vi (Ch.extOf p))∧Ext w w':=by
 go_enter Tryz.func174,Tryz.ntmps174;go_wp2
 all_goals
  go_ret;go_light;rename_i hx;refine ⟨?_,eX⟩;simp at hx;simp [Ch.extOf,hx]
  try omega
theorem front_any (p:Ch.Place) (w:World):Calls Tryz.prog 156 #[eC p] w fun e w'=>e = .returned (eC (Ch.front p))∧Ext w w':=by
 go_enter Tryz.func156,Tryz.ntmps156;go_wp2;refine bodyPost_ret (v:=eC (Ch.front p)) (by simp [results,Tryz.results156,go_sem,Ch.front]) rfl ⟨rfl,eX⟩
theorem spare_any (n:Int) (w:World):Calls Tryz.prog 114 #[vi n] w fun e w'=>e = .returned (eC (Ch.spare n))∧Ext w w':=by
 go_enter Tryz.func114,Tryz.ntmps114;go_wp2;refine bodyPost_ret (v:=eC (Ch.spare n)) (by simp [results,Tryz.results114,go_sem,Ch.spare]) rfl ⟨rfl,eX⟩
theorem rspare_any (n:Int) (w:World):Calls Tryz.prog 124 #[vi n] w fun e w'=>e = .returned (eC (Ch.spare n))∧Ext w w':=by
 go_enter Tryz.func124,Tryz.ntmps124;go_wp2;refine bodyPost_ret (v:=eC (Ch.spare n)) (by simp [results,Tryz.results124,go_sem,Ch.spare]) rfl ⟨rfl,eX⟩
/-! ### the same, at structs written out -/
theorem lI (a b c:Int) (w:World):Calls Tryz.prog 87 #[.agg #[vi a,vi b,vi c]] w fun e w'=>e = .returned (kB (Ch.sizeFault ⟨a,b,c⟩))∧Ext w w':=checkSize_any ⟨a,b,c⟩ w
theorem kH (a b c:Int) (w:World):Calls Tryz.prog 37 #[.agg #[vi a,vi b,vi c]] w fun e w'=>e = .returned (vi (Ch.sizeFault ⟨a,b,c⟩))∧Ext w w':=rsizeFault_any ⟨a,b,c⟩ w
theorem fits_f (a b c a' b' c':Int) (w:World):Calls Tryz.prog 88 #[.agg #[vi a,vi b,vi c],.agg #[vi a',vi b',vi c']] w fun e w'=>e = .returned (.bool (Ch.fits ⟨a,b,c⟩ ⟨a',b',c'⟩))∧Ext w w':=fits_any ⟨a,b,c⟩ ⟨a',b',c'⟩ w
theorem rfits_f (a b c a' b' c':Int) (w:World):Calls Tryz.prog 38 #[.agg #[vi a,vi b,vi c],.agg #[vi a',vi b',vi c']] w fun e w'=>e = .returned (.bool (Ch.fits ⟨a,b,c⟩ ⟨a',b',c'⟩))∧Ext w w':=rfits_any ⟨a,b,c⟩ ⟨a',b',c'⟩ w
theorem jD (a b c n:Int) (w:World):Calls Tryz.prog 189 #[.agg #[vi a,vi b,vi c],vi n] w fun e w'=>e = .returned (kB (Ch.placeFault ⟨a,b,c⟩ n))∧Ext w w':=checkPlace_any ⟨a,b,c⟩ n w
theorem rplaceFault_f (a b c n:Int) (w:World):Calls Tryz.prog 134 #[.agg #[vi a,vi b,vi c],vi n] w fun e w'=>e = .returned (vi (Ch.placeFault ⟨a,b,c⟩ n))∧Ext w w':=rplaceFault_any ⟨a,b,c⟩ n w
theorem jJ (a b c:Int) (w:World):Calls Tryz.prog 156 #[.agg #[vi a,vi b,vi c]] w fun e w'=>e = .returned (.agg #[vi a,vi b,vi 0])∧Ext w w':=front_any ⟨a,b,c⟩ w
theorem lD (n:Int) (w:World):Calls Tryz.prog 124 #[vi n] w fun e w'=>e = .returned (.agg #[vi n,vi 1,vi 0])∧Ext w w':=rspare_any n w
