import Derived.Test.YtplomeacjbkgnabGreatDoorZ48
set_option linter.all false
set_option maxRecDepth 100000
set_option maxHeartbeats 16000000
namespace Go.Proofs.YtplomeacjbkgnabGreatDoor
open Go.RowKit Tryz Ch
abbrev FR (XB:Nat) (Q:Nat->Prop) (w:World):Nat->Prop:=fun i=>i<w.heap.size/\i≠XB/\¬ Q i
structure RSH (w0:World) (XB:Nat) (Q:Nat->Prop) (h:House) (w:World) (hb rb:Nat):Prop where
 inv:h.Inv'
 blk:w.heap[XB]? = some (.cells #[.pointer (some ⟨hb,0,none⟩)] 82 (0,0))
 rn:RN (FR XB Q w) hb rb h w
 n1:w0.heap.size<=hb
 n2:w0.heap.size<=rb
def dL (w0:World) (XB:Nat) (Q:Nat->Prop) (o:Option House) (w:World):Prop:=
 pK w0 XB Q w/\match o with
  | none=>w.heap[XB]? = some (.cells #[.pointer none] 82 (0,0))
  | some h=>∃ hb rb,RSH w0 XB Q h w hb rb
def RSayR (w0:World) (XB:Nat) (Q:Nat->Prop) (o':Option House) (w:World) (r:ByteArray) (e:Ending) (w':World):Prop:=
 e = .returned (.string r)/\dL w0 XB Q o' w'/\fA (SK w0 Q) w w'
section
variable {w0:World} {XB:Nat} {Q:Nat->Prop} {o:Option House} {h h':House} {w w' w2:World} {hb rb:Nat}
theorem RSH.ext (s:RSH w0 XB Q h w hb rb) (x:Ext w w'):RSH w0 XB Q h w' hb rb:=
 ⟨s.inv,kF s.blk x,(s.rn.ext x).mono (fun i hi=>⟨Nat.lt_of_lt_of_le hi.1 x.below.size,hi.2⟩),s.n1,s.n2⟩
theorem dL.ext (s:dL w0 XB Q o w) (x:Ext w w'):dL w0 XB Q o w':=by
 obtain ⟨b,s⟩:=s;refine ⟨b.ext x,?_⟩
 cases o with
 | none=>exact kF s x
 | some h=>
  obtain ⟨hb,rb,s⟩:=s;exact ⟨hb,rb,s.ext x⟩
theorem dL.said (s:dL w0 XB Q o w) (x:Ext w w'):dL w0 XB Q o w'/\fA (SK w0 Q) w w':=⟨s.ext x,fA.of_ext x⟩
theorem dL.grow {S:Nat->Prop} (s:dL w0 XB Q o w) (kk:fA S w w') (hs:∀ i,S i->Q i/\w0.heap.size<=i):dL w0 XB (fun i=>Q i\/(w.heap.size<=i/\i<w'.heap.size)) o w':=by
 obtain ⟨b,s⟩:=s;have hlt:=b.lt;refine ⟨⟨Ext.of_below (bF b.ex.below (Nat.le_refl _) kk (fun i hi=>(hs i hi).2)),b.sb,Nat.lt_of_lt_of_le b.lt kk.size,?_,?_⟩,?_⟩
 ·rintro (hq|hq)
  ·exact b.qn hq
  ·omega
 ·rintro i (hq|hq)
  ·exact Nat.lt_of_lt_of_le (b.ql i hq) kk.size
  ·exact hq.2
 ·cases o with
  | none=>exact (kk.block XB b.lt (fun e=>b.qn (hs _ e).1)).trans s
  | some h=>
   obtain ⟨hb,rb,s⟩:=s;refine ⟨hb,rb,s.inv,(kk.block XB b.lt (fun e=>b.qn (hs _ e).1)).trans s.blk,(s.rn.kept kk (fun i hi hf=>hf.2.2 (hs i hi).1)).mono (fun i hi=>⟨Nat.lt_of_lt_of_le hi.1 kk.size,hi.2.1,?_⟩),s.n1,s.n2⟩;rintro (hq|hq)
   ·exact hi.2.2 hq
   ·have:=hi.1;omega
theorem dL.less {Q':Nat->Prop} (s:dL w0 XB Q' o w) (hq:∀ i,Q i->Q' i):dL w0 XB Q o w:=by
 obtain ⟨b,s⟩:=s;refine ⟨⟨b.ex,b.sb,b.lt,fun h=>b.qn (hq _ h),fun i hi=>b.ql i (hq i hi)⟩,?_⟩
 cases o with
 | none=>exact s
 | some h=>
  obtain ⟨hb,rb,s⟩:=s;exact ⟨hb,rb,s.inv,s.blk,s.rn.mono (fun i hi=>⟨hi.1,hi.2.1,fun e=>hi.2.2 (hq i e)⟩),s.n1,s.n2⟩
theorem RSH.ses (s:RSH w0 XB Q h w hb rb) (b:pK w0 XB Q w):dL w0 XB Q (some h) w:=⟨b,hb,rb,s⟩
theorem RSH.wide (s:RSH w0 XB Q h w hb rb):∀ i,rN hb rb i->SK w0 Q i:=by
 have:=s.rn.own;rintro i (rfl|rfl)
 ·exact ⟨s.n1,this.1.2.2⟩
 ·exact ⟨s.n2,this.2.2.2⟩
theorem RSH.next (s:RSH w0 XB Q h w hb rb) (b:pK w0 XB Q w) (kk:fA (rN hb rb) w w') (r:RN (xN (FR XB Q w) w w') hb rb h' w') (hi:h'.Inv'):RSH w0 XB Q h' w' hb rb/\pK w0 XB Q w':=by
 have ho:=s.rn.own;have hlt:=b.lt;refine ⟨⟨hi,(kk.block XB b.lt (by rintro (e|e);exact ho.1.2.1 e.symm;exact ho.2.2.1 e.symm)).trans s.blk,r.mono (fun i hi=>?_),s.n1,s.n2⟩,b.next kk (fun i hi=>(s.wide i hi).1)⟩
 rcases hi with hi|hi
 ·exact ⟨Nat.lt_of_lt_of_le hi.1 kk.size,hi.2⟩
 ·exact ⟨hi.2,om,fun hq=>by have:=b.ql i hq;omega⟩
theorem RSH.did (s:RSH w0 XB Q h w hb rb) (b:pK w0 XB Q w) (kk:fA (rN hb rb) w w') (r:RN (xN (FR XB Q w) w w') hb rb h' w') (hi:h'.Inv') (x:Ext w' w2):dL w0 XB Q (some h') w2/\fA (SK w0 Q) w w2:=
 ⟨((s.next b kk r hi).1.ses (s.next b kk r hi).2).ext x,(kk.wide s.wide).trans (fA.of_ext x)⟩
theorem RSH.plant {p':dA} (s:RSH w0 XB Q h w hb rb) (b:pK w0 XB Q w) (kk:fA (Is rb) w w') (hp:bB w' rb p') (hw:p'.WF) (x:Ext w' w2):dL w0 XB Q (some { h with p:=p' }) w2/\fA (SK w0 Q) w w2:=
 s.did b (kk.wide (fun i hi=>Or.inr hi)) ((s.rn.plant kk hp).mono (fun i hi=>Or.inl hi)) (s.inv.plant hw) x
theorem RSH.same (s:RSH w0 XB Q h w hb rb) (b:pK w0 XB Q w) (x:Ext w w2):dL w0 XB Q (some h) w2/\fA (SK w0 Q) w w2:=(s.ses b).said x
end
theorem joinB_ne {D:List ByteArray} (h:∀ x∈D,0<x.size) (hD:D≠[]):eE rI D≠⟨#[]⟩:=by
 intro e
 cases D with
 | nil=>exact hD rfl
 | cons y r=>
  have h1:=h y sp
  have h2:(eE rI (y :: r)).data.toList=[]:=by rw [e]
  unfold eE at h2;rw [List.map_cons,Lib.join_cons] at h2;have h3:y.data.toList=[]:=(List.append_eq_nil_iff.1 (by simpa using h2)).1;rw [<-bsize,h3] at h1;simp at h1
theorem joinB_big {D:List ByteArray} {M:Nat} (h:∀ x∈D,x.size<=M) (hM:M<=1000) (hn:D.length<=100):(eE rI D).size<=1000000:=by
 have h1:=kM (sep:=rI) h;have h2:D.length * (rI.size+M)<=100 * 1002:=Nat.mul_le_mul hn (by show 2+M<=1002;omega);omega
theorem rjoin_list (D:List ByteArray) (t:ByteArray) (w:World) (M:Nat) (h0:∀ x∈D,0<x.size/\x.size<=M) (hM:M<=1000) (hn:D.length<=100) (ht:t.size<=M):
  Calls prog 142 #[.string (eE rI D),.string t] w fun e w'=>e = .returned (.string (eE rI (D++[t])))/\Ext w w':=by
 refine rjoin_any _ t _ w ?_ (joinB_big (fun x hx=>(h0 x hx).2) hM hn) om
 by_cases hD:D=[]
 ·subst hD
  rw [joinB_nil,if_pos rfl,List.nil_append,joinB_one]
 ·rw [if_neg (joinB_ne (fun x hx=>(h0 x hx).1) hD),jO hD]
theorem rdash_list (D:List ByteArray) (w:World) (h0:∀ x∈D,0<x.size):
  Calls prog 144 #[.string (eE rI D)] w fun e w'=>e = .returned (.string (sJ D))/\Ext w w':=by
 refine rdash_any _ _ w ?_;unfold sJ
 by_cases hD:D=[]
 ·subst hD
  rw [if_pos rfl,joinB_nil,if_pos rfl]
 ·rw [if_neg hD,if_neg (joinB_ne h0 hD)]
theorem stayB_size {s:sA} (h:(0<=s.ticket/\s.ticket<=999999)/\(0<=s.car.id/\s.car.id<=999999)/\(0<=s.home.level/\s.home.level<=999)/\(0<=s.home.side/\s.home.side<=999)/\(0<=s.home.depth/\s.home.depth<=999)):0<(aK s).size/\(aK s).size<=700:=by
 obtain ⟨h1,h2,h3,h4,h5⟩:=h;have z1:=lB (n:=s.ticket) om;have z2:=lB (n:=s.car.id) om;have z3:=lB (n:=s.home.level) om;have z4:=lB (n:=s.home.side) om;have z5:=lB (n:=s.home.depth) om;have z6:spS.size=1:=rfl;have z7:dotS.size=1:=rfl;unfold aK aI;simp only [ByteArray.size_append];omega
theorem jobB_size {j:Job} (h:0<=j.ticket/\j.ticket<=999999):0<(lM j).size/\(lM j).size<=700:=by
 have z1:=lB (n:=j.ticket) om;unfold lM;rw [ByteArray.size_append,kind_size];omega
theorem carsN_pos {p:dA}:∀ i,∀ x∈jI p i,0<x.size
 | 0,x,h=>by cases h
 | i+1,x,h=>by
  rw [jI,List.mem_append] at h
  rcases h with h|h
  ·exact carsN_pos i x h
  ·split at h
   ·cases h
   ·obtain rfl:=List.mem_singleton.1 h
    have z7:spS.size=1:=rfl;simp only [ByteArray.size_append];omega
theorem carsN_len {p:dA}:∀ i,(jI p i).length<=i
 | 0=>Nat.le_refl _
 | i+1=>by
  have:=carsN_len (p:=p) i;rw [jI,List.length_append]
  split <;> simp <;> omega
section
variable {w0:World} {XB:Nat} {Q:Nat->Prop} {h:House} {w:World} {hb rb:Nat}
theorem ralone_any (s:RSH w0 XB Q h w hb rb) (b:pK w0 XB Q w) (wd:ByteArray):
  Calls prog 79 #[.pointer (some ⟨XB,0,none⟩),.string wd] w (RSayR w0 XB Q (some (xJ h wd).1) w ((xJ h wd).2.getD (zG 4))):=by
 have c0:cV w XB 0 (.pointer (some ⟨hb,0,none⟩)):=tA s.blk rfl;obtain ⟨la,ln,lc,a1,m1,d1,a2,m2,d2,ga,gn,gc,r⟩:=s.rn;obtain ⟨k0,k1,k2,k3,k4,-⟩:=r.at_.cells;obtain ⟨p0,p1,p2,p3,p4,p5,p6,-⟩:=r.pl.cells;have hc:=cA c0;have hk:=cA k0;have hp:=cA p0;have HWF:Hid (h.p.WF):=s.inv.core.safe.wf;have HP:=aA r.pl;have HS:=aA s;have HB:=aA b;have hlv:=jD s.inv.lv;have HOK:=aA s.inv.core.book;have HT:=aA r.st;have HJ:=aA r.jb;have hm1:=r.st.len;have hm2:=r.jb.len;have hln:=r.lv.len;have hb1:=r.st.bound;have hb2:=r.jb.bound;have hs16:=HOK.out.s16;have hj8:=HOK.out.j8;have HLF:=aA (leave_f HWF.out);have HSH:=aA (wf_shown HWF.out)
 have HSV:Hid (∀ x,0<=h.p.slots x/\h.p.slots x<=999999):=fun x=>by have:=HWF.out.sv x;omega
 have HJR:Hid (∀ j∈h.b.jobs,0<=j.ticket/\j.ticket<=999999):=book_jr HOK.out;have HSR:=aA (book_sr HOK.out (show ((h.sizes.length:Nat):Int)<=4 by have:=hlv.2;omega))
 have hl4:ln<=4:=by rw [<-hln];exact hlv.2
 have HLN:=aA hln;unfold xJ;clear s b r hlv k2 hln
 by_cases hk0:wd=wLeave
 ·rw [if_pos hk0]
  subst hk0;clear k3 k4 p1 p2 p3 p4 p5 p6
  obtain ⟨v1,HV1⟩:∃ v,Hid (h.p.leave.2.1=v):=⟨_,rfl⟩
  obtain ⟨f,HFE⟩:∃ v,Hid (h.p.leave.2.2=v):=⟨_,rfl⟩
  have HR1:=aA HLF.out.1;have HR2:=aA HLF.out.2;rw [HV1.out] at HR1;rw [HFE.out] at HR2
  by_cases hf:f=0
  ·subst hf
   go_enter func79,ntmps79
   go_wp2_with (first
    | (go_at_call 62;refine (rleave_any (HP.out.ext eX)).mono ?_;rw [HV1.out,HFE.out];rintro e w1 ⟨rfl,hq1,hk1⟩;have HK1:Hid (fA (Is rb) w w1):=(fA.of_ext eX:fA (Is rb) w _).trans hk1;have HQ1:=aA hq1;clear hq1 hk1)
    | (go_at_call 81;with_reducible refine mo (mG v1 _ HR1) fun o1 n1=>?_))
   go_ret;exact ⟨by rw [HV1.out,HFE.out];rfl,HS.out.plant HB.out HK1.out HQ1.out HWF.out.leave eX⟩
  ·have hf0:0<f:=by have:=HR2.out;omega
   go_enter func79,ntmps79
   go_wp2_with (first
    | (go_at_call 62;refine (rleave_any (HP.out.ext eX)).mono ?_;rw [HV1.out,HFE.out];rintro e w1 ⟨rfl,hq1,hk1⟩;have HK1:Hid (fA (Is rb) w w1):=(fA.of_ext eX:fA (Is rb) w _).trans hk1;have HQ1:=aA hq1;clear hq1 hk1)
    | (go_at_call 76;with_reducible refine mo (eF f _ HR2) fun o1 n1=>?_))
   go_ret;exact ⟨by rw [HV1.out,HFE.out];unfold toldB;rw [if_neg hf];rfl,HS.out.plant HB.out HK1.out HQ1.out HWF.out.leave eX⟩
 rw [if_neg hk0];have n0:(wd.toList==[108,101,97,118,101])=false:=wD hk0
 by_cases hk1:wd=wPlant
 ·rw [if_pos hk1]
  clear n0 hk0 k3 k4;subst hk1
  obtain ⟨D,HD⟩:∃ D,Hid (h.p.door=D):=⟨_,rfl⟩
  rw [HD.out] at p3;have P1:Hid (-999999<=h.p.height/\h.p.height<=999999):=HSH.out _ sp;have P2:Hid (-999999<=h.p.ext/\h.p.ext<=999999):=HSH.out _ sp;have P3:Hid (-999999<=h.p.people/\h.p.people<=999999):=HSH.out _ sp;have P4:Hid (-999999<=h.p.lift/\h.p.lift<=999999):=HSH.out _ sp;have P5:Hid (-999999<=h.p.bay/\h.p.bay<=999999):=HSH.out _ sp;have y1:=lB (n:=h.p.height) (by have:=P1.out;omega);have y2:=lB (n:=h.p.ext) (by have:=P2.out;omega);have y3:=lB (n:=h.p.people) (by have:=P3.out;omega);have y4:=lB (n:=h.p.lift) (by have:=P4.out;omega);have y5:=lB (n:=h.p.bay) (by have:=P5.out;omega);have zs:(⟨#[32]⟩:ByteArray).size=1:=rfl
  obtain ⟨dt,e0⟩:∃ c:ByteArray,(if D then ⟨#[32,111,112,101,110,32]⟩ else ⟨#[32,115,104,117,116,32]⟩:ByteArray)=c:=⟨_,rfl⟩
  obtain ⟨dr,e00⟩:∃ c:ByteArray,(if D then ⟨#[111,112,101,110,32]⟩ else ⟨#[115,104,117,116,32]⟩:ByteArray)=c:=⟨_,rfl⟩
  have zd:dr.size=5:=by rw [<-e00];cases D <;> rfl
  have hdd:dt=(⟨#[32]⟩:ByteArray)++dr:=by rw [<-e0,<-e00];cases D <;> rfl
  obtain ⟨t1,e1⟩:∃ c,c=fB h.p.height++(⟨#[32]⟩:ByteArray):=⟨_,rfl⟩
  have z1:t1.size<=101:=by rw [e1,ByteArray.size_append];omega
  have r1:=rB _ _ t1 e1 om
  obtain ⟨t2,e2⟩:∃ c,c=t1++fB h.p.ext:=⟨_,rfl⟩
  have z2:t2.size<=201:=by rw [e2,ByteArray.size_append];omega
  have r2:=rB _ _ t2 e2 om
  obtain ⟨t3,e3⟩:∃ c,c=t2++(⟨#[32]⟩:ByteArray):=⟨_,rfl⟩
  have z3:t3.size<=202:=by rw [e3,ByteArray.size_append];omega
  have r3:=rB _ _ t3 e3 om
  obtain ⟨t4,e4⟩:∃ c,c=t3++dr:=⟨_,rfl⟩
  have z4:t4.size<=207:=by rw [e4,ByteArray.size_append];omega
  have r4:=rB _ _ t4 e4 om
  obtain ⟨t5,e5⟩:∃ c,c=t4++fB h.p.people:=⟨_,rfl⟩
  have z5:t5.size<=307:=by rw [e5,ByteArray.size_append];omega
  have r5:=rB _ _ t5 e5 om
  obtain ⟨t6,e6⟩:∃ c,c=t5++(⟨#[32]⟩:ByteArray):=⟨_,rfl⟩
  have z6:t6.size<=308:=by rw [e6,ByteArray.size_append];omega
  have r6:=rB _ _ t6 e6 om
  obtain ⟨t7,e7⟩:∃ c,c=t6++fB h.p.lift:=⟨_,rfl⟩
  have z7:t7.size<=408:=by rw [e7,ByteArray.size_append];omega
  have r7:=rB _ _ t7 e7 om
  obtain ⟨t8,e8⟩:∃ c,c=t7++(⟨#[32]⟩:ByteArray):=⟨_,rfl⟩
  have z8:t8.size<=409:=by rw [e8,ByteArray.size_append];omega
  have r8:=rB _ _ t8 e8 om
  obtain ⟨t9,e9⟩:∃ c,c=t8++fB h.p.bay:=⟨_,rfl⟩
  have r9:=rB _ _ t9 e9 om
  have HE:Hid (plantB h.p=t9):=by
   unfold Hid plantB;rw [HD.out,e0,hdd,e9,e8,e7,e6,e5,e4,e3,e2,e1];apply ba_ext;simp [oK,spS]
  have E0:=aA e00;clear e0 e00 hdd e1 e2 e3 e4 e5 e6 e7 e8 e9 z1 z2 z3 z4 z5 z6 z7 z8 y1 y2 y3 y4 y5 zs zd;cases D
  all_goals
   have hdr:=E0.out;simp only [Bool.false_eq_true,if_false,if_true] at hdr;subst hdr;go_enter func79,ntmps79
   go_upto_region 11 with fail
   (refine rA kR kR ?_;(repeat (first|go_big_quiet_step ((intro _;go_at_call 81;exact qC (decimal_int _ _ (by assumption))))|quiet_step (fail)));refine wpQuiet_nil ?_;rintro _ ⟨oq,nq,rfl⟩)
   go_upto_region 15 with fail
   (refine rA kR kR ?_;(repeat (first|go_big_quiet_step ((intro _;go_at_call 81;exact qC (decimal_int _ _ (by assumption))))|quiet_step (fail)));refine wpQuiet_nil ?_;rintro _ ⟨oq,nq,rfl⟩)
   go_wp2_with fail;go_ret;exact ⟨by rw [HE.out];rfl,HS.out.same HB.out eX⟩
 rw [if_neg hk1];have n1:(wd.toList==[112,108,97,110,116])=false:=wD hk1;clear p0 p1 p2 p3 p4 p5 p6
 by_cases hk2:wd=wCars
 ·rw [if_pos hk2]
  clear n0 hk0 n1 hk1 k3 k4;subst hk2;go_enter func79,ntmps79;go_wp2
  go_loopw [7,10] (fun v i wr=>∃ (m:Nat) (T:ByteArray),m<=ln/\i = .int .i64 ((m:Int)+1)/\v = .string T/\Hid (T=eE rI (jI h.p (4 * m)))/\Hid (Ext w wr)) (fun _ i _=>ln+1 - (intOf i).toNat)
  case atStart=>exact ⟨0,_,om,rfl,rfl,rfl,Ext.trans eX (Ext.refl _)⟩
  case round=>
   obtain ⟨m,T,hm,rfl,rfl,HT2,HX⟩:=hrel;have e0:=gA HX.out k0;have zx:=cA e0;have hsz:=HX.out.below.size
   by_cases hlt:m<ln
   ·have hmi:(m:Int)+1<=(ln:Int):=om
    go_wp2
    go_loopw [7,11] (fun v i wr=>∃ (k:Nat) (T:ByteArray),k<=4/\i = .int .i64 (k:Int)/\v = .string T/\Hid (T=eE rI (jI h.p (4 * m+k)))/\Hid (Ext w wr)) (fun _ i _=>4 - (intOf i).toNat)
    case atStart=>exact ⟨0,T,om,rfl,rfl,HT2.out,HX.out.trans eX⟩
    case round=>
     obtain ⟨k,T,hk,rfl,rfl,HT3,HX3⟩:=hrel;have hsz3:=HX3.out.below.size
     by_cases hk4:k<4
     ·have hki:(k:Int)<4:=om
      obtain ⟨a,ha⟩:∃ a:Nat,k / 2=a:=⟨_,rfl⟩
      obtain ⟨b,hb'⟩:∃ b:Nat,k % 2=b:=⟨_,rfl⟩
      have hab:a<=1/\b<=1:=om
      have q1:(k:Int).tdiv 2=(a:Int):=by rw [Int.tdiv_eq_ediv_of_nonneg om];omega
      have q2:(k:Int).tmod 2=(b:Int):=by rw [Int.tmod_eq_emod_of_nonneg om];omega
      have q3:(k:Int) / 2=(a:Int):=om
      have q4:(k:Int) % 2=(b:Int):=om
      obtain ⟨v,HV⟩:∃ v,Hid (h.p.slots ⟨(m:Int)+1,a,b⟩=v):=⟨_,rfl⟩
      have HPN:Hid (zH (4 * m+k)=⟨(m:Int)+1,(a:Int),(b:Int)⟩):=by unfold Hid;rw [placeN_at hk4,ha,hb']
      clear ha hb';have hv9:=HSV.out ⟨(m:Int)+1,a,b⟩;rw [HV.out] at hv9;have HVR:=aA hv9
      have HPR:Hid (0<=(m:Int)+1/\(m:Int)+1<=999/\0<=(a:Int)/\(a:Int)<=999/\0<=(b:Int)/\(b:Int)<=999):=by unfold Hid;omega
      by_cases hv0:v=0
      ·subst hv0
       have HN:Hid (T=eE rI (jI h.p (4 * m+(k+1)))):=by unfold Hid;rw [<-Nat.add_assoc,jI,HPN.out,HV.out,if_pos rfl,List.append_nil];exact HT3.out
       clear hv9;go_wp2_with (go_at_call 74;with_reducible refine mo (cD (HP.out.ext (HX3.out.trans eX)) HWF.out _ _ _ 0 HV) fun o1 n1=>?_);go_roundw
       case rel=>exact ⟨k+1,T,om,by go_num,rfl,HN.out,HX3.out.trans eX⟩
       case measure=>simp [intOf];omega
      ·have y1:=lB (n:=(m:Int)+1) om
       have y2:=lB (n:=(a:Int)) om;have y3:=lB (n:=(b:Int)) om;have y4:=lB (n:=v) om;have hsp:(⟨#[32]⟩:ByteArray).size=1:=rfl;have hdt:dotS.size=1:=rfl
       obtain ⟨t1,f1⟩:∃ c,aI ((m:Int)+1) a b=c:=⟨_,rfl⟩
       have z1:t1.size<=400:=by rw [<-f1];unfold aI;simp only [ByteArray.size_append];omega
       obtain ⟨t2,f2⟩:∃ c,c=t1++(⟨#[32]⟩:ByteArray):=⟨_,rfl⟩
       have z2:t2.size<=401:=by rw [f2,ByteArray.size_append];omega
       have r1:=rB t1 (⟨#[32]⟩:ByteArray) t2 f2 om
       obtain ⟨t3,f3⟩:∃ c,c=t2++fB v:=⟨_,rfl⟩
       have r2:=rB t2 (fB v) t3 f3 om
       have z3:t3.size<=600:=by rw [f3,ByteArray.size_append];omega
       obtain ⟨T2,HT4⟩:∃ c,Hid (eE rI (jI h.p (4 * m+(k+1)))=c):=⟨_,rfl⟩
       have HJN:Hid (∀ w,Calls prog 142 #[.string T,.string t3] w fun e w'=>e = .returned (.string T2)/\Ext w w'):=fun w=>by
        have:=rjoin_list (jI h.p (4 * m+k)) t3 w 600 (fun x hx=>⟨carsN_pos _ x hx,carsN_size HSV.out hl4 _ om x hx⟩) dc (by have:=carsN_len (p:=h.p) (4 * m+k);omega) z3;rw [<-HT3.out] at this;rw [<-HT4.out,<-Nat.add_assoc,jI,HPN.out,HV.out,if_neg hv0];rw [f3,f2,<-f1] at this;rw [f3,f2,<-f1];exact this
       have HPT:Hid (∀ w,Calls prog 143 #[.agg #[vi ((m:Int)+1),vi (a:Int),vi (b:Int)]] w fun e w'=>e = .returned (.string t1)/\Ext w w'):=fun w=>by rw [<-f1];exact rplaceText_any _ _ _ _ HPR
       clear f1 f2 f3 y1 y2 y3 y4 hsp hdt z1 z2 z3 hv9
       go_upto_region 25 with (go_at_call 74;with_reducible refine mo (cD (HP.out.ext (HX3.out.trans eX)) HWF.out _ _ _ v HV) fun o1 n1=>?_)
       (refine rA kR kR ?_;(repeat (first|go_big_quiet_step ((first|(intro _;go_at_call 74;exact qC (cD (HP.out.ext (HX3.out.trans eX)) HWF.out _ _ _ v HV))|(intro _;go_at_call 143;exact qC (HPT.out _))|(intro _;go_at_call 81;exact qC (mG v _ HVR))|(intro _;go_at_call 142;exact qC (HJN.out _))))|quiet_step (fail)));refine wpQuiet_nil ?_;rintro _ ⟨oq,nq,rfl⟩)
       go_wp2_with fail;go_roundw
       case rel=>exact ⟨k+1,T2,om,by go_num,rfl,HT4.out.symm,HX3.out.trans eX⟩
       case measure=>simp [intOf];omega
     ·have hkn:k=4:=om
      subst hkn;go_wp2;go_roundw
      case rel=>exact ⟨m+1,T,om,by go_num,rfl,HT3.out,HX3.out.trans eX⟩
      case measure=>simp [intOf];omega
   ·have hkn:m=ln:=om
    subst hkn
    have hmi:¬ (m:Int)+1<=(m:Int):=om
    have HDA:=aA (fun w=>rdash_list (jI h.p (4 * m)) w (fun x hx=>carsN_pos _ x hx));rw [<-HT2.out] at HDA;go_wp2_with (go_at_call 144;with_reducible refine mo (HDA.out _) fun o1 n1=>?_);go_ret;exact ⟨by rw [HLN.out];rfl,HS.out.same HB.out (HX.out.trans eX)⟩
 rw [if_neg hk2];have n2:(wd.toList==[99,97,114,115])=false:=wD hk2
 by_cases hk3:wd=wStays
 ·rw [if_pos hk3]
  clear n0 hk0 n1 hk1 n2 hk2 k0 k4;subst hk3;go_enter func79,ntmps79;go_wp2
  go_loopw [7,13] (fun v i wr=>∃ (k:Nat) (T:ByteArray),k<=m1/\i = .int .i64 (k:Int)/\v = .string T/\Hid (T=eE rI ((h.b.stays.take k).map aK))/\Hid (Ext w wr)) (fun _ i _=>m1 - (intOf i).toNat)
  case atStart=>exact ⟨0,_,om,rfl,rfl,by simp [Hid,joinB_nil],Ext.trans eX (Ext.refl _)⟩
  case round=>
   obtain ⟨k,T,hk',rfl,rfl,HT2,HX⟩:=hrel;have e3:=gA HX.out k3;have zx:=cA e3;have hsz:=HX.out.below.size
   by_cases hlt:k<m1
   ·obtain ⟨bb,q,x,rfl,hx,dx⟩:=(Sl.below HT.out HX.out.below).get hlt
    have dx:=at8 dx;obtain ⟨t,⟨ci,⟨cx,cy,cz⟩⟩,⟨u1,u2,u3⟩⟩:=x;dsimp only at dx;obtain ⟨dx0,dx1,dx2,dx3,dx4,dx5,dx6,dx7⟩:=dx;have zq:=cA dx0
    have hki:(k:Int)<(m1:Int):=om
    have hR:=HSR.out _ (List.mem_of_getElem? hx);dsimp only at hR;have R1:Hid (0<=t/\t<=999999):=hR.1;have R2:Hid (0<=ci/\ci<=999999):=hR.2.1
    have R3:Hid (0<=u1/\u1<=999/\0<=u2/\u2<=999/\0<=u3/\u3<=999):=by unfold Hid;omega
    have y1:=lB (n:=t) om;have y2:=lB (n:=ci) om;have hsp:(⟨#[32]⟩:ByteArray).size=1:=rfl
    obtain ⟨t1,f1⟩:∃ c,c=fB t++(⟨#[32]⟩:ByteArray):=⟨_,rfl⟩
    have z1:t1.size<=101:=by rw [f1,ByteArray.size_append];omega
    have r1:=rB _ _ t1 f1 om
    obtain ⟨t2,f2⟩:∃ c,c=t1++fB ci:=⟨_,rfl⟩
    have z2:t2.size<=201:=by rw [f2,ByteArray.size_append];omega
    have r2:=rB _ _ t2 f2 om
    obtain ⟨t3,f3⟩:∃ c,c=t2++(⟨#[32]⟩:ByteArray):=⟨_,rfl⟩
    have z3:t3.size<=202:=by rw [f3,ByteArray.size_append];omega
    have r3:=rB _ _ t3 f3 om
    obtain ⟨pt,f4⟩:∃ c,aI u1 u2 u3=c:=⟨_,rfl⟩
    obtain ⟨t5,f5⟩:∃ c,c=t3++pt:=⟨_,rfl⟩
    have HS5:t5=aK ⟨t,⟨ci,⟨cx,cy,cz⟩⟩,⟨u1,u2,u3⟩⟩:=by rw [f5,<-f4,f3,f2,f1];rfl
    have z5:=(stayB_size (s:=⟨t,⟨ci,⟨cx,cy,cz⟩⟩,⟨u1,u2,u3⟩⟩) hR).2;rw [<-HS5] at z5
    have z6:t3.size+pt.size=t5.size:=by rw [f5,ByteArray.size_append]
    have r4:=rB t3 pt t5 f5 om
    obtain ⟨T2,HT4⟩:∃ c,Hid (eE rI ((h.b.stays.take (k+1)).map aK)=c):=⟨_,rfl⟩
    have HJN:Hid (∀ w,Calls prog 142 #[.string T,.string t5] w fun e w'=>e = .returned (.string T2)/\Ext w w'):=fun w=>by
     have:=rjoin_list ((h.b.stays.take k).map aK) t5 w 700 (fun x hx=>by obtain ⟨y,hy,rfl⟩:=List.mem_map.1 hx;exact stayB_size (HSR.out y (List.mem_of_mem_take hy))) dc (by rw [List.length_map,List.length_take];omega) z5;rw [<-HT2.out] at this;rw [<-HT4.out,List.take_add_one,hx,List.map_append]
     rw [HS5] at this ⊢
     exact this
    have HPT:Hid (∀ w,Calls prog 143 #[.agg #[vi u1,vi u2,vi u3]] w fun e w'=>e = .returned (.string pt)/\Ext w w'):=fun w=>by rw [<-f4];exact rplaceText_any _ _ _ _ R3
    clear f1 f2 f3 f4 f5 y1 y2 hsp z1 z2 z3 z5 z6 HS5 hR hx
    go_upto_region 32 with fail
    (refine rA kR kR ?_;(repeat (first|go_big_quiet_step ((first|(intro _;go_at_call 143;exact qC (HPT.out _))|(intro _;go_at_call 81;exact qC (mG _ _ (by assumption)))|(intro _;go_at_call 142;exact qC (HJN.out _))))|quiet_step (fail)));refine wpQuiet_nil ?_;rintro _ ⟨oq,nq,rfl⟩)
    go_wp2_with fail;go_roundw
    case rel=>exact ⟨k+1,T2,om,by go_num,rfl,HT4.out.symm,HX.out.trans eX⟩
    case measure=>simp [intOf];omega
   ·have hkn:k=m1:=om
    subst hkn;have HDA:=aA (fun w=>rdash_list (h.b.stays.map aK) w (fun x hx=>by obtain ⟨y,hy,rfl⟩:=List.mem_map.1 hx;exact (stayB_size (HSR.out y hy)).1));rw [show eE rI (h.b.stays.map aK)=T by rw [HT2.out,List.take_of_length_le om]] at HDA;go_wp2_with (go_at_call 144;with_reducible refine mo (HDA.out _) fun o1 n1=>?_);go_ret;exact ⟨rfl,HS.out.same HB.out (HX.out.trans eX)⟩
 rw [if_neg hk3];have n3:(wd.toList==[115,116,97,121,115])=false:=wD hk3
 by_cases hk4:wd=wJobs
 ·rw [if_pos hk4]
  clear n0 hk0 n1 hk1 n2 hk2 n3 hk3 k0 k3;subst hk4;go_enter func79,ntmps79;go_wp2
  go_loopw [7,15] (fun v i wr=>∃ (k:Nat) (T:ByteArray),k<=m2/\i = .int .i64 (k:Int)/\v = .string T/\Hid (T=eE rI ((h.b.jobs.take k).map lM))/\Hid (Ext w wr)) (fun _ i _=>m2 - (intOf i).toNat)
  case atStart=>exact ⟨0,_,om,rfl,rfl,by simp [Hid,joinB_nil],Ext.trans eX (Ext.refl _)⟩
  case round=>
   obtain ⟨k,T,hk',rfl,rfl,HT2,HX⟩:=hrel;have e4:=gA HX.out k4;have zx:=cA e4;have hsz:=HX.out.below.size
   by_cases hlt:k<m2
   ·obtain ⟨bb,q,x,rfl,hx,dx⟩:=(Sl.below HJ.out HX.out.below).get hlt
    have dx:=at2 dx;obtain ⟨t,f⟩:=x;dsimp only at dx;obtain ⟨dx0,dx1⟩:=dx;have zq:=cA dx0
    have hki:(k:Int)<(m2:Int):=om
    have hR:=HJR.out _ (List.mem_of_getElem? hx);have R1:Hid (0<=t/\t<=999999):=hR;have hz:=lB (n:=t) (by dsimp only at hR;omega)
    have rc:∀ w,(Op.stringOp .add (if f then ⟨#[102,101,116,99,104,32]⟩ else ⟨#[115,116,111,114,101,32]⟩) (fB t)).run prog w = .ok (.string (lM ⟨t,f⟩)) w:=rB _ _ _ rfl (by rw [kind_size];omega)
    obtain ⟨T2,HT4⟩:∃ c,Hid (eE rI ((h.b.jobs.take (k+1)).map lM)=c):=⟨_,rfl⟩
    have HJN:Hid (∀ w,Calls prog 142 #[.string T,.string (lM ⟨t,f⟩)] w fun e w'=>e = .returned (.string T2)/\Ext w w'):=fun w=>by
     have:=rjoin_list ((h.b.jobs.take k).map lM) (lM ⟨t,f⟩) w 700 (fun x hx=>by obtain ⟨y,hy,rfl⟩:=List.mem_map.1 hx;exact jobB_size (HJR.out y (List.mem_of_mem_take hy))) dc (by rw [List.length_map,List.length_take];omega) (jobB_size hR).2;rw [<-HT2.out] at this;rw [<-HT4.out,List.take_add_one,hx,List.map_append];exact this
    have HRC:=aA rc;clear rc hR hx hz;cases f
    all_goals
     have rc:=HRC.out;simp only [Bool.false_eq_true,if_false,if_true] at rc;go_wp2_with (first|(go_at_call 81;with_reducible refine mo (mG _ _ R1) fun o1 n1=>?_)|(go_at_call 142;with_reducible refine mo (HJN.out _) fun o1 n1=>?_));go_roundw
     case rel=>exact ⟨k+1,T2,om,by go_num,rfl,HT4.out.symm,HX.out.trans eX⟩
     case measure=>simp [intOf];omega
   ·have hkn:k=m2:=om
    subst hkn;have HDA:=aA (fun w=>rdash_list (h.b.jobs.map lM) w (fun x hx=>by obtain ⟨y,hy,rfl⟩:=List.mem_map.1 hx;exact (jobB_size (HJR.out y hy)).1));rw [show eE rI (h.b.jobs.map lM)=T by rw [HT2.out,List.take_of_length_le om]] at HDA;go_wp2_with (go_at_call 144;with_reducible refine mo (HDA.out _) fun o1 n1=>?_);go_ret;exact ⟨rfl,HS.out.same HB.out (HX.out.trans eX)⟩
 rw [if_neg hk4];have n4:(wd.toList==[106,111,98,115])=false:=wD hk4;clear hk0 hk1 hk2 hk3 hk4 k0 k3 k4
 have H4:Hid ((0:Int)<=4/\(4:Int)<=999999):=⟨dc,dc⟩
 go_enter func79,ntmps79;go_wp2_with (go_at_call 76;with_reducible refine mo (eF 4 _ H4) fun o1 n1=>?_);go_ret;exact ⟨rfl,HS.out.same HB.out eX⟩
end
