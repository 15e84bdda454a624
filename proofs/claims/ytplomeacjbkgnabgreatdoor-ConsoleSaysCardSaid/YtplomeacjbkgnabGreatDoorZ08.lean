import Derived.Test.YtplomeacjbkgnabGreatDoorZ07
set_option linter.all false
set_option maxRecDepth 100000
set_option maxHeartbeats 16000000
namespace Ch
open Go
theorem wordsFrom_head (w s:List UInt8):∃ h t,eC [] s=h :: t/\eC w s=(w++h) :: t:=by
 induction s generalizing w with
 | nil=>exact ⟨[],[],rfl,by simp [eC]⟩
 | cons b s ih=>
  by_cases hb:b=32
  ·exact ⟨[],eC [] s,by simp [eC,hb],by simp [eC,hb]⟩
  ·obtain ⟨h1,t1,e1,e2⟩:=ih [b]
   obtain ⟨h2,t2,e3,e4⟩:=ih (w++[b]);rw [e1] at e3;cases e3;refine ⟨b :: h1,t1,by simp [eC,hb,e2],?_⟩;simp only [eC,hb,if_false,e4];simp
theorem split_words:∀ (s:List UInt8) (k:Nat),Lib.count s [32]=k->Lib.splitK [32] 0 k s=eC [] s:=by
 have idx0:∀ (b:UInt8) (l:List UInt8),b=32->Lib.index (b :: l) [32]=0:=by
  intro b l hb;unfold Lib.index;rw [if_pos];simp [List.isPrefixOf,hb]
 have idx1:∀ (b:UInt8) (l:List UInt8),b≠32->Lib.index (b :: l) [32]=if Lib.index l [32] == -1 then -1 else Lib.index l [32]+1:=by
  intro b l hb
  conv=>lhs;unfold Lib.index
  rw [if_neg];simp only [List.isPrefixOf];simp
  exact fun h=>hb h.symm
 intro s
 induction s with
 | nil=>
  intro k hk;have:Lib.index [] [32]=-1:=rfl
  cases k with
  | zero=>rfl
  | succ k=>simp [Lib.splitK,this,eC]
 | cons b s ih=>
  intro k hk
  by_cases hb:b=32
  ·subst hb
   have hc:=Lib.count_cons_eq 32 s;rw [hk] at hc
   obtain ⟨m,rfl⟩:∃ m,k=m+1:=⟨k - 1,om⟩
   have hi:=idx0 32 s rfl;unfold Lib.splitK;rw [hi];simp only [eC,if_true];rw [if_neg dc];simp only [Int.toNat_zero,Nat.zero_add,List.take_zero,List.length_cons,List.length_nil,List.drop_one,List.tail_cons];rw [ih m om]
  ·have hc:=Lib.count_cons_ne b 32 s hb
   rw [hk] at hc;have hi:=idx1 b s hb;obtain ⟨h,t,e1,e2⟩:=wordsFrom_head [b] s;simp only [eC,hb,if_false,List.nil_append];rw [e2];have ih':=ih k hc.symm;rw [e1] at ih'
   cases k with
   | zero=>
    simp only [Lib.splitK] at ih' ⊢
    cases ih';simp
   | succ m=>
    unfold Lib.splitK at ih' ⊢
    rw [hi]
    by_cases hx:Lib.index s [32] == -1
    ·rw [if_pos hx] at ih'
     cases ih';rw [if_pos (by simp [hx])];simp
    ·rw [if_neg hx] at ih'
     have hg:=Lib.index_ge s [32]
     have hne:Lib.index s [32]≠-1:=by simpa using hx
     cases ih';rw [if_neg hx,if_neg so]
     have e:(Lib.index s [32]+1).toNat=(Lib.index s [32]).toNat+1:=om
     rw [e];simp only [List.length_cons,List.length_nil]
     have e3:(Lib.index s [32]).toNat+1+0=(Lib.index s [32]).toNat+0+1:=om
     rw [e3,List.take_succ_cons]
     have e4:(Lib.index s [32]).toNat+1+(0+1)=(Lib.index s [32]).toNat+(0+1)+1:=om
     rw [e4,List.drop_succ_cons];rfl
def bD (s:ByteArray):List ByteArray:=Lib.splitB ⟨#[32]⟩ 0 (Lib.countB s ⟨#[32]⟩) s
theorem xM (s:ByteArray):(bD s).map (·.data.toList)=kI s.data.toList:=by
 unfold bD kI;rw [Lib.splitB_data];exact split_words _ _ rfl
theorem eJ (s:ByteArray):(bD s).length=Lib.countB s ⟨#[32]⟩+1:=Lib.splitB_all _ dc 0 _ s rfl
theorem nJ (s:ByteArray):Lib.countB s ⟨#[32]⟩<=s.size:=Lib.countB_le _ dc s.size s (Nat.le_refl _)
def iH (x:ByteArray):Option Int:=bK x.data.toList
theorem numsOf_words (s:ByteArray):numsOf s.data.toList=(bD s).mapM iH:=by
 unfold numsOf;rw [<-xM]
 induction bD s with
 | nil=>rfl
 | cons x l ih=>simp only [List.map_cons,List.mapM_cons,ih];rfl
theorem mapM_take {l:List ByteArray} {k:Nat} {N:List Int} {x:ByteArray} {v:Int} (h:(l.take k).mapM iH=some N) (hx:l[k]? = some x) (hv:iH x=some v):(l.take (k+1)).mapM iH=some (N++[v]):=by
 rw [List.take_add_one,hx];simp [List.mapM_append,h,hv]
theorem mapM_bad {l:List ByteArray} {k:Nat} {x:ByteArray} (hx:l[k]? = some x) (hv:iH x=none):l.mapM iH=none:=by
 induction l generalizing k with
 | nil=>cases hx
 | cons y l ih=>
  simp only [List.mapM_cons]
  cases k with
  | zero=>
   simp at hx;subst hx;rw [hv];rfl
  | succ k=>
   simp at hx;rw [ih hx]
   cases iH y <;> rfl
theorem mapM_range {l:List ByteArray} {N:List Int} (h:l.mapM iH=some N):∀ v∈N,0<=v/\v<=999999:=by
 induction l generalizing N with
 | nil=>simp at h;subst h;intro v hv;cases hv
 | cons y l ih=>
  simp only [List.mapM_cons] at h
  cases hy:iH y with
  | none=>rw [hy] at h;cases h
  | some a=>
   rw [hy] at h
   cases hl:l.mapM iH with
   | none=>rw [hl] at h;cases h
   | some M=>
    rw [hl] at h;cases h;intro v hv
    rcases List.mem_cons.1 hv with rfl|hv
    ·have:=lH.1 hy;exact ⟨this.1,this.2.1⟩
    ·exact ih hl v hv
def bM (N:List Int) (k:Nat):sA:=⟨N.getD (3+8 * k) 0,⟨N.getD (3+8 * k+1) 0,⟨N.getD (3+8 * k+2) 0,N.getD (3+8 * k+3) 0,N.getD (3+8 * k+4) 0⟩⟩,⟨N.getD (3+8 * k+5) 0,N.getD (3+8 * k+6) 0,N.getD (3+8 * k+7) 0⟩⟩
theorem staysOf_at:∀ (n:Nat) (M N:List Int) (k:Nat),M=N.drop (3+8 * k)->8 * n<=M.length->zM n M=(List.range n).map fun i=>bM N (k+i)
 | 0,_,_,_,_,_=>rfl
 | n + 1,M,N,k,hM,hl=>by
  rw [zM,staysOf_at n (M.drop 8) N (k+1) (by rw [hM,List.drop_drop];first|rfl|(congr 1;omega)|(congr 1)) (by rw [List.length_drop];omega),List.range_succ_eq_map,List.map_cons,List.map_map]
  congr 1
  ·match M,hM,hl with
   | a :: b :: c :: d :: e :: f :: g :: h :: r,hM,hl=>
    have key:∀ j x,(a :: b :: c :: d :: e :: f :: g :: h :: r)[j]? = some x->N.getD (3+8 * k+j) 0=x:=by
     intro j x hx;rw [hM,List.getElem?_drop] at hx;rw [List.getD_eq_getElem?_getD,hx];rfl
    unfold bM;rw [Nat.add_zero,key 1 b rfl,key 2 c rfl,key 3 d rfl,key 4 e rfl,key 5 f rfl,key 6 g rfl,key 7 h rfl];have:=key 0 a rfl;rw [Nat.add_zero] at this;rw [this];rfl
   | [],_,hl=>simp at hl
   | [_],_,hl=>simp at hl;omega
   | [_,_],_,hl=>simp at hl;omega
   | [_,_,_],_,hl=>simp at hl;omega
   | [_,_,_,_],_,hl=>simp at hl;omega
   | [_,_,_,_,_],_,hl=>simp at hl;omega
   | [_,_,_,_,_,_],_,hl=>simp at hl;omega
   | [_,_,_,_,_,_,_],_,hl=>simp at hl;omega
  ·apply List.map_congr_left
   intro i _;show bM N (k+1+i)=bM N (k+(i+1));rw [show k+1+i=k+(i+1) by omega]
def nM (N:List Int) (a:Nat):Job:=⟨N.getD a 0,N.getD (a+1) 0==1⟩
theorem jobsOf_at:∀ (n:Nat) (M N:List Int) (a:Nat),M=N.drop a->2 * n<=M.length->jobsOf n M=if (∀ i<n,N.getD (a+2 * i+1) 0<=1) then some ((List.range n).map fun i=>nM N (a+2 * i)) else none
 | 0,_,_,_,_,_=>by simp [jobsOf]
 | n + 1,M,N,a,hM,hl=>by
  match M,hM,hl with
  | t :: f :: r,hM,hl=>
   have key:∀ j x,(t :: f :: r)[j]? = some x->N.getD (a+j) 0=x:=by
    intro j x hx;rw [hM,List.getElem?_drop] at hx;rw [List.getD_eq_getElem?_getD,hx];rfl
   have k0:=key 0 t rfl;have k1:=key 1 f rfl;rw [Nat.add_zero] at k0
   rw [jobsOf,jobsOf_at n r N (a+2) (by
    have:=congrArg (List.drop 2) hM
    rw [List.drop_drop] at this
    exact this) (by simp at hl;omega)]
   by_cases hf:1<f
   ·rw [if_pos hf,if_neg]
    intro h;have:=h 0 om;rw [Nat.mul_zero,Nat.add_zero,k1] at this;omega
   ·rw [if_neg hf]
    by_cases hr:∀ i<n,N.getD (a+2+2 * i+1) 0<=1
    ·rw [if_pos hr,if_pos]
     ·simp only [Option.map_some]
      rw [List.range_succ_eq_map,List.map_cons,List.map_map]
      congr 2
      ·unfold nM
       rw [Nat.mul_zero,Nat.add_zero,k0,k1]
      ·apply List.map_congr_left
       intro i _;show nM N (a+2+2 * i)=nM N (a+2 * (i+1));rw [show a+2+2 * i=a+2 * (i+1) by omega]
     ·intro i hi
      cases i with
      | zero=>rw [Nat.mul_zero,Nat.add_zero,k1];omega
      | succ i=>
       have:=hr i om;rw [show a+2 * (i+1)+1=a+2+2 * i+1 by omega];exact this
    ·rw [if_neg hr,if_neg]
     ·rfl
     ·intro h
      apply hr;intro i hi;have:=h (i+1) om;rw [show a+2 * (i+1)+1=a+2+2 * i+1 by omega] at this;exact this
  | [],_,hl=>simp at hl
  | [_],_,hl=>simp at hl;omega
theorem bookOfNums_at {N:List Int} {levels:Int} (hr:∀ v∈N,0<=v/\v<=999999):kJ N levels =
  if N.length<3\/(N.length:Int)≠3+8 * N.getD 1 0+2 * N.getD 2 0 then none
  else if (∀ i<(N.getD 2 0).toNat,N.getD (3+8 * (N.getD 1 0).toNat+2 * i+1) 0<=1) then
   if fC ⟨N.getD 0 0,(List.range (N.getD 1 0).toNat).map (fun i=>bM N i),(List.range (N.getD 2 0).toNat).map (fun i=>nM N (3+8 * (N.getD 1 0).toNat+2 * i))⟩ levels=0 then
    some ⟨N.getD 0 0,(List.range (N.getD 1 0).toNat).map (fun i=>bM N i),(List.range (N.getD 2 0).toNat).map (fun i=>nM N (3+8 * (N.getD 1 0).toNat+2 * i))⟩
   else none
  else none:=by
 match N,hr with
 | [],_=>rfl
 | [_],_=>rfl
 | [_,_],_=>rfl
 | a :: b :: c :: r,hr=>
  have hb:=hr b sp;have hc:=hr c sp;unfold kJ;dsimp only
  by_cases hl:((a :: b :: c :: r).length:Int)=3+8 * b+2 * c
  ·rw [if_pos hl,if_neg (by simp only [List.length_cons] at hl ⊢;simp;omega)]
   have e1:zM b.toNat r=(List.range b.toNat).map fun i=>bM (a :: b :: c :: r) i:=by
    have:=staysOf_at b.toNat r (a :: b :: c :: r) 0 rfl (by simp only [List.length_cons] at hl;omega)
    simpa using this
   have e2:=jobsOf_at c.toNat (r.drop (8 * b.toNat)) (a :: b :: c :: r) (3+8 * b.toNat) (by
    rw [show 3+8 * b.toNat=8 * b.toNat+1+1+1 by omega,List.drop_succ_cons,List.drop_succ_cons,List.drop_succ_cons]) (by rw [List.length_drop];simp only [List.length_cons] at hl;omega)
   rw [e1,e2]
   show _=if ∀ i<c.toNat,(a :: b :: c :: r).getD (3+8 * b.toNat+2 * i+1) 0<=1 then _ else _
   by_cases hf:∀ i<c.toNat,(a :: b :: c :: r).getD (3+8 * b.toNat+2 * i+1) 0<=1
   ·rw [if_pos hf,if_pos hf];rfl
   ·rw [if_neg hf,if_neg hf]
  ·rw [if_neg hl,if_pos]
   right;exact hl
end Ch
namespace Go.Proofs.YtplomeacjbkgnabGreatDoor
open Go.RowKit Tryz Ch
theorem step_next {F F1 F2:Nat->Prop} {w w1 w2:World} (h1:∀ k,F1 k->F k\/w.heap.size<=k) (k1:fA F w w1) (h2:∀ k,F2 k->F1 k\/w1.heap.size<=k) (k2:fA F1 w1 w2):
  (∀ k,F2 k->F k\/w.heap.size<=k)/\fA F w w2:=by
 have hs:=k1.size;refine ⟨fun k hk=>?_,k2.os.trans k1.os,k2.tape.trans k1.tape,k2.output.trans k1.output,Nat.le_trans hs k2.size,fun k hk hn=>?_⟩
 ·rcases h2 k hk with h|h
  ·exact h1 k h
  ·exact Or.inr om
 ·rw [k2.block k om (fun h=>?_),k1.block k hk hn]
  rcases h1 k h with h|h
  ·exact hn h
  ·omega
def pH (F:Nat->Prop) (db n:Nat) (w:World) (d:aB) (w':World):Prop:=
 ∃ F',gH w' F' db n d/\(∀ k,F' k->F k\/w.heap.size<=k)/\fA F w w'
theorem pH.ext {F:Nat->Prop} {db n:Nat} {w w1 w2:World} {d:aB} (h:pH F db n w d w1) (x:Ext w1 w2):pH F db n w d w2:=by
 obtain ⟨F',h1,h2,h3⟩:=h;exact ⟨F',h1.ext x,h2,h3.ext x⟩
theorem pH.start {F:Nat->Prop} {db n:Nat} {w:World} {d:aB} (h:gH w F db n d):pH F db n w d w:=⟨F,h,fun _ hk=>Or.inl hk,fA.refl F w⟩
theorem pH.call {F:Nat->Prop} {db n:Nat} {w w1:World} {d d':aB} {r:Value} {f:FuncId} {args:Array Value} (h:pH F db n w d w1) (hs:∀ F',gH w1 F' db n d->Calls prog f args w1 (DDid F' db n w1 d' r)):
  Calls prog f args w1 fun e w2=>e = .returned r/\pH F db n w d' w2:=by
 obtain ⟨F1,h1,h2,h3⟩:=h;refine (hs F1 h1).mono ?_;rintro e w2 ⟨he,⟨F2,g1,g2⟩,g3⟩;obtain ⟨k1,k2⟩:=step_next h2 h3 g2 g3;exact ⟨he,F2,g1,k1,k2⟩
theorem pH.write {F:Nat->Prop} {db n:Nat} {w w1:World} {d:aB} (k:Int) (s:ByteArray) (v:Value) (h:pH F db n w d w1) (hs:s.size<=1000) (hl:d.wait.length<=1000000) (hv:Hid (aC (d.write k s).2=v)):
  Calls prog 44 #[.pointer (some ⟨db,0,none⟩),vi k,.string s] w1 fun e w2=>e = .returned v/\pH F db n w (d.write k s).1 w2:=by
 rw [<-hv.out]
 exact h.call fun F' h'=>write_any h' k s (Nat.le_trans hs dc) hl
theorem pH.flush {F:Nat->Prop} {db n:Nat} {w w1:World} {d:aB} (v:Value) (h:pH F db n w d w1) (hv:Hid (aC d.flush.2=v)):
  Calls prog 45 #[.pointer (some ⟨db,0,none⟩)] w1 fun e w2=>e = .returned v/\pH F db n w d.flush.1 w2:=by
 rw [<-hv.out]
 exact h.call fun F' h'=>flush_any h'
theorem zN (d:aB) (k:Int) (s:ByteArray):(d.write k s).1.wait.length<=d.wait.length+1:=by
 unfold aB.write
 split
 ·simp
 ·split
  ·simp [fG]
  ·simp
theorem wait_flush (d:aB):d.flush.1.wait.length<=d.wait.length:=by
 unfold aB.flush
 split
 ·simp [fG]
 ·simp
def zL:ByteArray:=⟨(mB ⟨0,[],[]⟩).toArray⟩
theorem eD (w:World) (ht:Tab w):Calls prog 43 #[lC 0 none 0 0 none 0 0] w fun e w'=>e = .returned (.string zL)/\Ext w w':=by
 have e:textS ⟨0,[],[]⟩=zL:=by apply ba_ext;rw [textS_list];rfl
 rw [<-e];exact text_any 0 none 0 0 none 0 0 [] [] w (Sl.nil _ _ _) (Sl.nil _ _ _) ht (by intro k hk;simp [oD] at hk;omega)
theorem dK:zL.size=5:=by unfold zL;rw [text_empty];rfl
theorem oH {f:Int} (h:¬ f=0):aC f = .iface 92 (vi f):=by unfold aC;rw [if_neg h]
theorem sM {f:Int} (h:f=0):aC f = .nilIface:=by subst h;rfl
theorem text0E:(⟨(mB ⟨0,[],[]⟩).toArray⟩:ByteArray)=zL:=rfl
theorem sH (w:World):Calls prog 46 #[vi 2,vi 5] w fun x w'=>x = .returned (.string (bI 2 5))/\Ext w w':=head_any 2 5 w dc dc
theorem head0:(⟨(head 2 (mB ⟨0,[],[]⟩).length).toArray⟩:ByteArray)=bI 2 5:=by rw [text_empty];rfl
theorem format_any {F:Nat->Prop} {db n:Nat} {d:aB} {w:World} (h:gH w F db n d) (hn:22<=n) (hl:d.wait.length<=1000) (ht:Tab w):
  Calls prog 10 #[.pointer (some ⟨db,0,none⟩)] w fun e w'=>e = .returned (aC d.format.2)/\pH F db n w d.format.1 w':=by
 obtain ⟨kb,kc,nb,nc,wv,hI⟩:=h;have HI:=aA hI;have HD:Hid (pH F db n w d w):=pH.start ⟨kb,kc,nb,nc,wv,hI⟩;have HT:=aA ht;have hz:=dK
 have i22:¬ ((n:Int)<22):=om
 have tz:(((zL.size:Nat):Int))=5:=om
 clear hI ht hz;have L1:=zN d 1 ⟨#[]⟩
 obtain ⟨d1,f1,E1⟩:∃ x f,Hid (d.write 1 ⟨#[]⟩=(x,f)):=⟨_,_,rfl⟩
 rw [E1.out] at L1;dsimp only at L1
 by_cases z1:f1=0
 ·have V1:Hid (aC (d.write 1 ⟨#[]⟩).2 = .nilIface):=by unfold Hid;rw [E1.out];exact sM z1
  have L2:=zN d1 2 zL
  obtain ⟨d2,f2,E2⟩:∃ x f,Hid (d1.write 2 zL=(x,f)):=⟨_,_,rfl⟩
  rw [E2.out] at L2;dsimp only at L2
  by_cases z2:f2=0
  ·have V2:Hid (aC (d1.write 2 zL).2 = .nilIface):=by unfold Hid;rw [E2.out];exact sM z2
   have L3:=wait_flush d2
   obtain ⟨d3,f3,E3⟩:∃ x f,Hid (d2.flush=(x,f)):=⟨_,_,rfl⟩
   rw [E3.out] at L3;dsimp only at L3
   by_cases z3:f3=0
   ·have V3:Hid (aC (d2.flush).2 = .nilIface):=by unfold Hid;rw [E3.out];exact sM z3
    have L4:=zN d3 0 (bI 2 5)
    obtain ⟨d4,f4,E4⟩:∃ x f,Hid (d3.write 0 (bI 2 5)=(x,f)):=⟨_,_,rfl⟩
    rw [E4.out] at L4;dsimp only at L4
    by_cases z4:f4=0
    ·have V4:Hid (aC (d3.write 0 (bI 2 5)).2 = .nilIface):=by unfold Hid;rw [E4.out];exact sM z4
     have L5:=wait_flush d4
     obtain ⟨d5,f5,E5⟩:∃ x f,Hid (d4.flush=(x,f)):=⟨_,_,rfl⟩
     rw [E5.out] at L5;dsimp only at L5
     by_cases z5:f5=0
     ·have V5:Hid (aC (d4.flush).2 = .nilIface):=by unfold Hid;rw [E5.out];exact sM z5
      have EE:Hid (aC d.format.2 = .nilIface/\d.format.1=d5):=by
       unfold Hid aB.format;rw [E1.out];dsimp only;rw [if_pos z1,text0E,E2.out];dsimp only;rw [if_pos z2,E3.out];dsimp only;rw [if_pos z3,head0,E4.out];dsimp only;rw [if_pos z4,E5.out];exact ⟨sM z5,rfl⟩
      go_enter func10,ntmps10
      go_upto_region 6 with (first
       | (go_at_call 42;with_reducible refine mo (rC (HI.out.ext eX)) fun o1 n1=>?_)
       | (go_at_call 43;with_reducible refine mo (eD _ (HT.out.ext eX)) fun o1 n1=>?_)
       | (go_at_call 46;with_reducible refine mo (sH _) fun o1 n1=>?_)
       | (go_at_call 44;(with_reducible refine (pH.write (F:=F) (n:=n) (w:=w) (d:=d) 1 ⟨#[]⟩ .nilIface (HD.out.ext eX) dc om V1).mono ?_);rintro e wa1 ⟨rfl,hD1⟩;rw [E1.out] at hD1;replace hD1:=aA hD1))
      go_upto_region 8 with (first
       | (go_at_call 42;with_reducible refine mo (rC (HI.out.ext eX)) fun o1 n1=>?_)
       | (go_at_call 43;with_reducible refine mo (eD _ (HT.out.ext eX)) fun o1 n1=>?_)
       | (go_at_call 46;with_reducible refine mo (sH _) fun o1 n1=>?_)
       | (go_at_call 44;(with_reducible refine (pH.write (F:=F) (n:=n) (w:=w) (d:=d1) 2 zL .nilIface (hD1.out.ext eX) (by rw [dK];decide) om V2).mono ?_);rintro e wa2 ⟨rfl,hD2⟩;rw [E2.out] at hD2;replace hD2:=aA hD2))
      go_upto_region 10 with (first
       | (go_at_call 42;with_reducible refine mo (rC (HI.out.ext eX)) fun o1 n1=>?_)
       | (go_at_call 43;with_reducible refine mo (eD _ (HT.out.ext eX)) fun o1 n1=>?_)
       | (go_at_call 46;with_reducible refine mo (sH _) fun o1 n1=>?_)
       | (go_at_call 45;(with_reducible refine (pH.flush (F:=F) (n:=n) (w:=w) (d:=d2) .nilIface (hD2.out.ext eX) V3).mono ?_);rintro e wa3 ⟨rfl,hD3⟩;rw [E3.out] at hD3;replace hD3:=aA hD3))
      go_upto_region 12 with (first
       | (go_at_call 42;with_reducible refine mo (rC (HI.out.ext eX)) fun o1 n1=>?_)
       | (go_at_call 43;with_reducible refine mo (eD _ (HT.out.ext eX)) fun o1 n1=>?_)
       | (go_at_call 46;with_reducible refine mo (sH _) fun o1 n1=>?_)
       | (go_at_call 44;(with_reducible refine (pH.write (F:=F) (n:=n) (w:=w) (d:=d3) 0 (bI 2 5) .nilIface (hD3.out.ext eX) dc om V4).mono ?_);rintro e wa4 ⟨rfl,hD4⟩;rw [E4.out] at hD4;replace hD4:=aA hD4))
      go_wp2_with (first
       | (go_at_call 42;with_reducible refine mo (rC (HI.out.ext eX)) fun o1 n1=>?_)
       | (go_at_call 43;with_reducible refine mo (eD _ (HT.out.ext eX)) fun o1 n1=>?_)
       | (go_at_call 46;with_reducible refine mo (sH _) fun o1 n1=>?_)
       | (go_at_call 45;(with_reducible refine (pH.flush (F:=F) (n:=n) (w:=w) (d:=d4) .nilIface (hD4.out.ext eX) V5).mono ?_);rintro e wa5 ⟨rfl,hD5⟩;rw [E5.out] at hD5;replace hD5:=aA hD5))
      go_ret;rw [EE.out.1,EE.out.2];exact ⟨rfl,hD5.out⟩
     ·have V5:Hid (aC (d4.flush).2 = .iface 92 (vi f5)):=by unfold Hid;rw [E5.out];exact oH z5
      have EE:Hid (aC d.format.2 = .iface 92 (vi f5)/\d.format.1=d5):=by
       unfold Hid aB.format;rw [E1.out];dsimp only;rw [if_pos z1,text0E,E2.out];dsimp only;rw [if_pos z2,E3.out];dsimp only;rw [if_pos z3,head0,E4.out];dsimp only;rw [if_pos z4,E5.out];exact ⟨oH z5,rfl⟩
      go_enter func10,ntmps10
      go_upto_region 6 with (first
       | (go_at_call 42;with_reducible refine mo (rC (HI.out.ext eX)) fun o1 n1=>?_)
       | (go_at_call 43;with_reducible refine mo (eD _ (HT.out.ext eX)) fun o1 n1=>?_)
       | (go_at_call 46;with_reducible refine mo (sH _) fun o1 n1=>?_)
       | (go_at_call 44;(with_reducible refine (pH.write (F:=F) (n:=n) (w:=w) (d:=d) 1 ⟨#[]⟩ .nilIface (HD.out.ext eX) dc om V1).mono ?_);rintro e wa1 ⟨rfl,hD1⟩;rw [E1.out] at hD1;replace hD1:=aA hD1))
      go_upto_region 8 with (first
       | (go_at_call 42;with_reducible refine mo (rC (HI.out.ext eX)) fun o1 n1=>?_)
       | (go_at_call 43;with_reducible refine mo (eD _ (HT.out.ext eX)) fun o1 n1=>?_)
       | (go_at_call 46;with_reducible refine mo (sH _) fun o1 n1=>?_)
       | (go_at_call 44;(with_reducible refine (pH.write (F:=F) (n:=n) (w:=w) (d:=d1) 2 zL .nilIface (hD1.out.ext eX) (by rw [dK];decide) om V2).mono ?_);rintro e wa2 ⟨rfl,hD2⟩;rw [E2.out] at hD2;replace hD2:=aA hD2))
      go_upto_region 10 with (first
       | (go_at_call 42;with_reducible refine mo (rC (HI.out.ext eX)) fun o1 n1=>?_)
       | (go_at_call 43;with_reducible refine mo (eD _ (HT.out.ext eX)) fun o1 n1=>?_)
       | (go_at_call 46;with_reducible refine mo (sH _) fun o1 n1=>?_)
       | (go_at_call 45;(with_reducible refine (pH.flush (F:=F) (n:=n) (w:=w) (d:=d2) .nilIface (hD2.out.ext eX) V3).mono ?_);rintro e wa3 ⟨rfl,hD3⟩;rw [E3.out] at hD3;replace hD3:=aA hD3))
      go_upto_region 12 with (first
       | (go_at_call 42;with_reducible refine mo (rC (HI.out.ext eX)) fun o1 n1=>?_)
       | (go_at_call 43;with_reducible refine mo (eD _ (HT.out.ext eX)) fun o1 n1=>?_)
       | (go_at_call 46;with_reducible refine mo (sH _) fun o1 n1=>?_)
       | (go_at_call 44;(with_reducible refine (pH.write (F:=F) (n:=n) (w:=w) (d:=d3) 0 (bI 2 5) .nilIface (hD3.out.ext eX) dc om V4).mono ?_);rintro e wa4 ⟨rfl,hD4⟩;rw [E4.out] at hD4;replace hD4:=aA hD4))
      go_wp2_with (first
       | (go_at_call 42;with_reducible refine mo (rC (HI.out.ext eX)) fun o1 n1=>?_)
       | (go_at_call 43;with_reducible refine mo (eD _ (HT.out.ext eX)) fun o1 n1=>?_)
       | (go_at_call 46;with_reducible refine mo (sH _) fun o1 n1=>?_)
       | (go_at_call 45;(with_reducible refine (pH.flush (F:=F) (n:=n) (w:=w) (d:=d4) (.iface 92 (vi f5)) (hD4.out.ext eX) V5).mono ?_);rintro e wa5 ⟨rfl,hD5⟩;rw [E5.out] at hD5;replace hD5:=aA hD5))
      go_ret;rw [EE.out.1,EE.out.2];exact ⟨rfl,hD5.out⟩
    ·have V4:Hid (aC (d3.write 0 (bI 2 5)).2 = .iface 92 (vi f4)):=by unfold Hid;rw [E4.out];exact oH z4
     have EE:Hid (aC d.format.2 = .iface 92 (vi f4)/\d.format.1=d4):=by
      unfold Hid aB.format;rw [E1.out];dsimp only;rw [if_pos z1,text0E,E2.out];dsimp only;rw [if_pos z2,E3.out];dsimp only;rw [if_pos z3,head0,E4.out];dsimp only;rw [if_neg z4];exact ⟨oH z4,rfl⟩
     go_enter func10,ntmps10
     go_upto_region 6 with (first
      | (go_at_call 42;with_reducible refine mo (rC (HI.out.ext eX)) fun o1 n1=>?_)
      | (go_at_call 43;with_reducible refine mo (eD _ (HT.out.ext eX)) fun o1 n1=>?_)
      | (go_at_call 46;with_reducible refine mo (sH _) fun o1 n1=>?_)
      | (go_at_call 44;(with_reducible refine (pH.write (F:=F) (n:=n) (w:=w) (d:=d) 1 ⟨#[]⟩ .nilIface (HD.out.ext eX) dc om V1).mono ?_);rintro e wa1 ⟨rfl,hD1⟩;rw [E1.out] at hD1;replace hD1:=aA hD1))
     go_upto_region 8 with (first
      | (go_at_call 42;with_reducible refine mo (rC (HI.out.ext eX)) fun o1 n1=>?_)
      | (go_at_call 43;with_reducible refine mo (eD _ (HT.out.ext eX)) fun o1 n1=>?_)
      | (go_at_call 46;with_reducible refine mo (sH _) fun o1 n1=>?_)
      | (go_at_call 44;(with_reducible refine (pH.write (F:=F) (n:=n) (w:=w) (d:=d1) 2 zL .nilIface (hD1.out.ext eX) (by rw [dK];decide) om V2).mono ?_);rintro e wa2 ⟨rfl,hD2⟩;rw [E2.out] at hD2;replace hD2:=aA hD2))
     go_upto_region 10 with (first
      | (go_at_call 42;with_reducible refine mo (rC (HI.out.ext eX)) fun o1 n1=>?_)
      | (go_at_call 43;with_reducible refine mo (eD _ (HT.out.ext eX)) fun o1 n1=>?_)
      | (go_at_call 46;with_reducible refine mo (sH _) fun o1 n1=>?_)
      | (go_at_call 45;(with_reducible refine (pH.flush (F:=F) (n:=n) (w:=w) (d:=d2) .nilIface (hD2.out.ext eX) V3).mono ?_);rintro e wa3 ⟨rfl,hD3⟩;rw [E3.out] at hD3;replace hD3:=aA hD3))
     go_wp2_with (first
      | (go_at_call 42;with_reducible refine mo (rC (HI.out.ext eX)) fun o1 n1=>?_)
      | (go_at_call 43;with_reducible refine mo (eD _ (HT.out.ext eX)) fun o1 n1=>?_)
      | (go_at_call 46;with_reducible refine mo (sH _) fun o1 n1=>?_)
      | (go_at_call 44;(with_reducible refine (pH.write (F:=F) (n:=n) (w:=w) (d:=d3) 0 (bI 2 5) (.iface 92 (vi f4)) (hD3.out.ext eX) dc om V4).mono ?_);rintro e wa4 ⟨rfl,hD4⟩;rw [E4.out] at hD4;replace hD4:=aA hD4))
     go_ret;rw [EE.out.1,EE.out.2];exact ⟨rfl,hD4.out⟩
   ·have V3:Hid (aC (d2.flush).2 = .iface 92 (vi f3)):=by unfold Hid;rw [E3.out];exact oH z3
    have EE:Hid (aC d.format.2 = .iface 92 (vi f3)/\d.format.1=d3):=by
     unfold Hid aB.format;rw [E1.out];dsimp only;rw [if_pos z1,text0E,E2.out];dsimp only;rw [if_pos z2,E3.out];dsimp only;rw [if_neg z3];exact ⟨oH z3,rfl⟩
    go_enter func10,ntmps10
    go_upto_region 6 with (first
     | (go_at_call 42;with_reducible refine mo (rC (HI.out.ext eX)) fun o1 n1=>?_)
     | (go_at_call 43;with_reducible refine mo (eD _ (HT.out.ext eX)) fun o1 n1=>?_)
     | (go_at_call 44;(with_reducible refine (pH.write (F:=F) (n:=n) (w:=w) (d:=d) 1 ⟨#[]⟩ .nilIface (HD.out.ext eX) dc om V1).mono ?_);rintro e wa1 ⟨rfl,hD1⟩;rw [E1.out] at hD1;replace hD1:=aA hD1))
    go_upto_region 8 with (first
     | (go_at_call 42;with_reducible refine mo (rC (HI.out.ext eX)) fun o1 n1=>?_)
     | (go_at_call 43;with_reducible refine mo (eD _ (HT.out.ext eX)) fun o1 n1=>?_)
     | (go_at_call 44;(with_reducible refine (pH.write (F:=F) (n:=n) (w:=w) (d:=d1) 2 zL .nilIface (hD1.out.ext eX) (by rw [dK];decide) om V2).mono ?_);rintro e wa2 ⟨rfl,hD2⟩;rw [E2.out] at hD2;replace hD2:=aA hD2))
    go_wp2_with (first
     | (go_at_call 42;with_reducible refine mo (rC (HI.out.ext eX)) fun o1 n1=>?_)
     | (go_at_call 43;with_reducible refine mo (eD _ (HT.out.ext eX)) fun o1 n1=>?_)
     | (go_at_call 45;(with_reducible refine (pH.flush (F:=F) (n:=n) (w:=w) (d:=d2) (.iface 92 (vi f3)) (hD2.out.ext eX) V3).mono ?_);rintro e wa3 ⟨rfl,hD3⟩;rw [E3.out] at hD3;replace hD3:=aA hD3))
    go_ret;rw [EE.out.1,EE.out.2];exact ⟨rfl,hD3.out⟩
  ·have V2:Hid (aC (d1.write 2 zL).2 = .iface 92 (vi f2)):=by unfold Hid;rw [E2.out];exact oH z2
   have EE:Hid (aC d.format.2 = .iface 92 (vi f2)/\d.format.1=d2):=by
    unfold Hid aB.format;rw [E1.out];dsimp only;rw [if_pos z1,text0E,E2.out];dsimp only;rw [if_neg z2];exact ⟨oH z2,rfl⟩
   go_enter func10,ntmps10
   go_upto_region 6 with (first
    | (go_at_call 42;with_reducible refine mo (rC (HI.out.ext eX)) fun o1 n1=>?_)
    | (go_at_call 43;with_reducible refine mo (eD _ (HT.out.ext eX)) fun o1 n1=>?_)
    | (go_at_call 44;(with_reducible refine (pH.write (F:=F) (n:=n) (w:=w) (d:=d) 1 ⟨#[]⟩ .nilIface (HD.out.ext eX) dc om V1).mono ?_);rintro e wa1 ⟨rfl,hD1⟩;rw [E1.out] at hD1;replace hD1:=aA hD1))
   go_wp2_with (first
    | (go_at_call 42;with_reducible refine mo (rC (HI.out.ext eX)) fun o1 n1=>?_)
    | (go_at_call 43;with_reducible refine mo (eD _ (HT.out.ext eX)) fun o1 n1=>?_)
    | (go_at_call 44;(with_reducible refine (pH.write (F:=F) (n:=n) (w:=w) (d:=d1) 2 zL (.iface 92 (vi f2)) (hD1.out.ext eX) (by rw [dK];decide) om V2).mono ?_);rintro e wa2 ⟨rfl,hD2⟩;rw [E2.out] at hD2;replace hD2:=aA hD2))
   go_ret;rw [EE.out.1,EE.out.2];exact ⟨rfl,hD2.out⟩
 ·have V1:Hid (aC (d.write 1 ⟨#[]⟩).2 = .iface 92 (vi f1)):=by unfold Hid;rw [E1.out];exact oH z1
  have EE:Hid (aC d.format.2 = .iface 92 (vi f1)/\d.format.1=d1):=by
   unfold Hid aB.format;rw [E1.out];dsimp only;rw [if_neg z1];exact ⟨oH z1,rfl⟩
  go_enter func10,ntmps10
  go_wp2_with (first
   | (go_at_call 42;with_reducible refine mo (rC (HI.out.ext eX)) fun o1 n1=>?_)
   | (go_at_call 43;with_reducible refine mo (eD _ (HT.out.ext eX)) fun o1 n1=>?_)
   | (go_at_call 44;(with_reducible refine (pH.write (F:=F) (n:=n) (w:=w) (d:=d) 1 ⟨#[]⟩ (.iface 92 (vi f1)) (HD.out.ext eX) dc om V1).mono ?_);rintro e wa1 ⟨rfl,hD1⟩;rw [E1.out] at hD1;replace hD1:=aA hD1))
  go_ret;rw [EE.out.1,EE.out.2];exact ⟨rfl,hD1.out⟩
def oG (F:Nat->Prop) (B db n:Nat) (d:aB) (w:World):Prop:=
 ∃ F',gH w F' db n d/\(∀ k,F' k->F k\/B<=k)/\(∀ k,F' k->∃ cs t fr,w.heap[k]? = some (.cells cs t fr))
structure zJ (F:Nat->Prop) (B:Nat) (w w':World):Prop where
 os:w'.os=w.os
 tape:w'.tape=w.tape
 output:w'.output=w.output
 size:w.heap.size<=w'.heap.size
 old:∀ k,k<B->¬ F k->w'.heap[k]? = w.heap[k]?
 others:∀ (k:Nat) (o:Obj),w.heap[k]? = some o->o.isCells=false->w'.heap[k]? = some o
def foot (db kb nb:Nat) (wv:Value) (k:Nat):Prop:=k=db\/k=kb\/k=nb\/wv.ownBlock=some k
theorem kC.tight {T TT:TypeId} {w:World} {F:Nat->Prop} {db kb kc nb nc n:Nat} {wv:Value} {d:aB} (h:kC T TT w F db kb kc nb nc n wv d):
  kC T TT w (foot db kb nb wv) db kb kc nb nc n wv d/\(∀ k,foot db kb nb wv k->F k)/\(∀ k,foot db kb nb wv k->∃ cs t fr,w.heap[k]? = some (.cells cs t fr)):=by
 have hF:∀ k,foot db kb nb wv k->F k:=by
  rintro k (rfl|rfl|rfl|hk)
  ·exact h.f1
  ·exact h.f2
  ·exact h.f3
  ·exact h.f4 k hk
 refine ⟨{ h with f1:=Or.inl rfl,f2:=Or.inr (Or.inl rfl),f3:=Or.inr (Or.inr (Or.inl rfl)),f4:=fun k hk=>Or.inr (Or.inr (Or.inr hk)),lt:=fun k hk=>h.lt k (hF k hk) },hF,?_⟩;rintro k (rfl|rfl|rfl|hk)
 ·exact ⟨_,_,_,h.blk⟩
 ·obtain ⟨cur,hc,-⟩:=h.kept.heap;exact ⟨_,_,_,hc⟩
 ·obtain ⟨cur,hc,-⟩:=h.now.heap;exact ⟨_,_,_,hc⟩
 ·rcases h.wait.2 with ⟨e,-⟩|⟨g,cap,cur,e,_,hg,_⟩
  ·rw [e] at hk;cases hk
  ·rw [e] at hk;cases hk;exact ⟨_,_,_,hg⟩
theorem oG.start {F:Nat->Prop} {B db n:Nat} {d:aB} {w:World} (h:gH w F db n d):oG F B db n d w:=by
 obtain ⟨kb,kc,nb,nc,wv,hI⟩:=h;obtain ⟨h1,h2,h3⟩:=hI.tight;exact ⟨_,⟨kb,kc,nb,nc,wv,h1⟩,fun k hk=>Or.inl (h2 k hk),h3⟩
theorem oG.kept {F S:Nat->Prop} {B db n:Nat} {d:aB} {w w':World} (h:oG F B db n d w) (k:fA S w w') (hs:∀ i,S i->(∃ o:Obj,w.heap[i]? = some o/\o.isCells=false)\/(¬ F i/\i<B)\/w.heap.size<=i):oG F B db n d w':=by
 obtain ⟨F',h1,h2,h3⟩:=h
 have hn:∀ i,F' i->¬ S i:=by
  intro i hi hS;obtain ⟨cs,t,fr,hc⟩:=h3 i hi
  rcases hs i hS with ⟨o,ho,hf⟩|⟨ha,hb⟩|hb
  ·rw [hc] at ho;cases ho;cases hf
  ·rcases h2 i hi with h|h
   ·exact ha h
   ·omega
  ·have:=tI hc;omega
 refine ⟨F',cJ.kept h1 k hn,h2,fun i hi=>?_⟩;obtain ⟨cs,t,fr,hc⟩:=h3 i hi;exact ⟨cs,t,fr,(k.block i (tI hc) (hn i hi)).trans hc⟩
theorem oG.ext {F:Nat->Prop} {B db n:Nat} {d:aB} {w w':World} (h:oG F B db n d w) (x:Ext w w'):oG F B db n d w':=
 h.kept (S:=fun _=>False) (fA.of_ext x) (fun _ hf=>hf.elim)
theorem oG.set {F:Nat->Prop} {B db n:Nat} {d:aB} {w:World} (h:oG F B db n d w) {b i:Nat} (v:Value) (hb:b<B) (hF:¬ F b):oG F B db n d (w.setCell ⟨b,i,none⟩ v):=
 h.kept (S:=fun k=>k=b) ((fA.refl (fun k=>k=b) w).setCell (a:=⟨b,i,none⟩) (Or.inl rfl) v) (fun k hk=>by cases hk;exact Or.inr (Or.inl ⟨hF,hb⟩))
theorem oG.call {F:Nat->Prop} {B db n:Nat} {w:World} {d d':aB} {r:Value} {f:FuncId} {args:Array Value} (h:oG F B db n d w) (hB:B<=w.heap.size) (hs:∀ F',gH w F' db n d->Calls prog f args w (DDid F' db n w d' r)):
  Calls prog f args w fun e w2=>e = .returned r/\oG F B db n d' w2/\zJ F B w w2:=by
 obtain ⟨F1,h1,h2,h3⟩:=h;refine (hs F1 h1).mono ?_;rintro e w2 ⟨he,⟨F2,⟨kb,kc,nb,nc,wv,hI⟩,g2⟩,g3⟩;obtain ⟨t1,t2,t3⟩:=hI.tight;refine ⟨he,⟨_,⟨kb,kc,nb,nc,wv,t1⟩,fun k hk=>?_,t3⟩,g3.os,g3.tape,g3.output,g3.size,fun k hk hn=>?_,fun k o ho hc=>?_⟩
 ·rcases g2 k (t2 k hk) with h|h
  ·exact h2 k h
  ·exact Or.inr om
 ·refine g3.block k om (fun hf=>?_)
  rcases h2 k hf with h|h
  ·exact hn h
  ·omega
 ·refine (g3.block k (tI ho) (fun hf=>?_)).trans ho
  obtain ⟨cs,t,fr,hcs⟩:=h3 k hf;rw [hcs] at ho;cases ho;cases hc
theorem oG.write {F:Nat->Prop} {B db n:Nat} {w:World} {d:aB} (k:Int) (s:ByteArray) (v:Value) (h:oG F B db n d w) (hB:B<=w.heap.size) (hs:s.size<=1000) (hl:d.wait.length<=1000000) (hv:Hid (aC (d.write k s).2=v)):
  Calls prog 44 #[.pointer (some ⟨db,0,none⟩),vi k,.string s] w fun e w2=>e = .returned v/\oG F B db n (d.write k s).1 w2/\zJ F B w w2:=by
 rw [<-hv.out]
 exact h.call hB fun F' h'=>write_any h' k s (Nat.le_trans hs dc) hl
theorem oG.flush {F:Nat->Prop} {B db n:Nat} {w:World} {d:aB} (v:Value) (h:oG F B db n d w) (hB:B<=w.heap.size) (hv:Hid (aC d.flush.2=v)):
  Calls prog 45 #[.pointer (some ⟨db,0,none⟩)] w fun e w2=>e = .returned v/\oG F B db n d.flush.1 w2/\zJ F B w w2:=by
 rw [<-hv.out]
 exact h.call hB fun F' h'=>flush_any h'
theorem zJ.cell {F:Nat->Prop} {B:Nat} {w w':World} (h:zJ F B w w') {b o:Nat} {v:Value} (hc:w.cell? ⟨b,o,none⟩=some v) (hb:b<B) (hF:¬ F b):w'.cell? ⟨b,o,none⟩=some v:=by
 have e:=h.old b hb hF;unfold World.cell? at *;simp only [e];exact hc
theorem zJ.free {F:Nat->Prop} {B:Nat} {w w':World} (h:zJ F B w w') {b o:Nat} (hc:w.frozen? ⟨b,o,none⟩=false) (hb:b<B) (hF:¬ F b):w'.frozen? ⟨b,o,none⟩=false:=by
 have e:=h.old b hb hF;unfold World.frozen? at *;simp only [e];exact hc
theorem zJ.since {F S:Nat->Prop} {w0 w w':World} {B:Nat} (k:fA S w0 w) (h:zJ F B w w') (hB:w0.heap.size<=B) (hF:∀ i,F i->S i):fA S w0 w':=
 ⟨h.os.trans k.os,h.tape.trans k.tape,h.output.trans k.output,Nat.le_trans k.size h.size,fun i hi hn=>(h.old i om (fun hf=>hn (hF i hf))).trans (k.block i hi hn)⟩
