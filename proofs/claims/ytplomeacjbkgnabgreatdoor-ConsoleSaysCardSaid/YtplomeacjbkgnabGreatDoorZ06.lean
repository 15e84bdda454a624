import Derived.Test.YtplomeacjbkgnabGreatDoorZ05
import Derived.StillTail
set_option linter.all false
set_option maxRecDepth 100000
set_option maxHeartbeats 16000000
namespace Go.Proofs.YtplomeacjbkgnabGreatDoor
open Go.RowKit Tryz
open Ch hiding Act
def fB (n:Int):ByteArray:=⟨(Lib.itoa n).toArray⟩
def spS:ByteArray:=⟨#[32]⟩
def headS (last:Int) (n m:Nat):ByteArray:=fB last++spS++fB (n:Int)++spS++fB (m:Int)
def stayS (s:sA):ByteArray:=spS++fB s.ticket++spS++fB s.car.id++spS++fB s.car.size.long++spS++fB s.car.size.high++spS++fB s.car.size.heavy++spS++fB s.home.level++spS++fB s.home.side++spS++fB s.home.depth
def jobS (j:Job):ByteArray:=spS++fB j.ticket++spS++fB (if j.fetch then 1 else 0)
def aM:ByteArray->List sA->ByteArray
 | a,[]=>a
 | a,s :: l=>aM (a++stayS s) l
def jobsS:ByteArray->List Job->ByteArray
 | a,[]=>a
 | a,j :: l=>jobsS (a++jobS j) l
def textS (b:gB):ByteArray:=jobsS (aM (headS b.last b.stays.length b.jobs.length) b.stays) b.jobs
theorem ba_ext {a b:ByteArray} (h:a.data.toList=b.data.toList):a=b:=by
 cases a with
 | mk x=>cases b with
  | mk y=>congr 1;exact Array.toList_inj.1 h
theorem oK (a b:ByteArray):(a++b).data.toList=a.data.toList++b.data.toList:=by simp [ByteArray.data_append]
theorem oF (n:Int):(fB n).data.toList=Lib.itoa n:=by simp [fB]
theorem join_cons (w:List UInt8) (l:List (List UInt8)):mE (w :: l)=w++l.flatMap (fun v=>32 :: v):=by
 induction l generalizing w with
 | nil=>simp [mE]
 | cons v r ih=>
  show w++32 :: mE (v :: r)=_;rw [ih];simp
theorem staysS_list:∀ (l:List sA) (a:ByteArray),(aM a l).data.toList=a.data.toList++((l.flatMap tC).map Lib.itoa).flatMap (fun v=>32 :: v)
 | [],a=>by simp [aM]
 | s :: l,a=>by
  rw [aM,staysS_list l,oK,List.append_assoc]
  congr 1
  simp [stayS,tC,oF,spS]
theorem jobsS_list:∀ (l:List Job) (a:ByteArray),(jobsS a l).data.toList=a.data.toList++((l.flatMap sG).map Lib.itoa).flatMap (fun v=>32 :: v)
 | [],a=>by simp [jobsS]
 | j :: l,a=>by
  rw [jobsS,jobsS_list l,oK,List.append_assoc]
  congr 1
  simp [jobS,sG,oF,spS]
theorem textS_list (b:gB):(textS b).data.toList=mB b:=by
 unfold textS mB oD;rw [jobsS_list,staysS_list];simp only [List.map_append,List.map_cons,List.cons_append,List.nil_append];rw [join_cons];simp [headS,oF,spS]
theorem staysS_snoc:∀ (l:List sA) (a:ByteArray) (s:sA),aM a (l++[s])=aM a l++stayS s
 | [],_,_=>rfl
 | _ :: l,a,s=>by rw [List.cons_append,aM,aM,staysS_snoc l]
theorem jobsS_snoc:∀ (l:List Job) (a:ByteArray) (s:Job),jobsS a (l++[s])=jobsS a l++jobS s
 | [],_,_=>rfl
 | _ :: l,a,s=>by rw [List.cons_append,jobsS,jobsS,jobsS_snoc l]
def Tab (w:World):Prop:=∃ t fr,w.heap[0]? = some (.cells (Lib.pow10Tab.map fun z=>Value.int .u64 z).toArray t fr)
theorem Tab.ext {w w':World} (h:Tab w) (x:Ext w w'):Tab w':=by
 obtain ⟨t,fr,h⟩:=h;obtain ⟨o,n,rfl⟩:=x
 have hlt:0<w.heap.size:=by
  rcases Nat.lt_or_ge 0 w.heap.size with k|k
  ·exact k
  ·rw [Array.getElem?_eq_none k] at h;cases h
 exact ⟨t,fr,by rw [dB w o n _ hlt];exact h⟩
theorem tabIs_of {w:World} {name:String} (hg:prog.globalNamed name=some 0) (h:Tab w):Lib.TabIs prog w name .u64 Lib.pow10Tab:=by
 obtain ⟨t,fr,h⟩:=h;unfold Lib.TabIs World.var?;rw [hg];simp [h]
theorem itoa_any (n:Int) (w:World) (hn:Hid (0<=n/\n<=999999)) (ht:Tab w):Calls prog 84 #[vi n] w fun e w'=>e = .returned (.string (fB n))/\Ext w w':=by
 refine (Any.strconv_Itoa Tryz.laysM171 n (by have:=hn.out;omega) (by have:=hn.out;omega) w (tabIs_of kR ht)).mono ?_;rintro e w' ⟨rfl,k,os,rfl⟩;exact ⟨rfl,os,w.drawn+k,rfl⟩
theorem num_stay {last:Int} {l:List sA} {js:List Job} (hr:∀ k∈oD ⟨last,l,js⟩,0<=k/\k<=999999) {k:Nat} {s:sA} (hs:l[k]? = some s):∀ x∈tC s,0<=x/\x<=999999:=by
 intro x hx;refine hr x ?_;unfold oD;exact List.mem_append_left _ (List.mem_append_right _ (List.mem_flatMap.2 ⟨s,List.mem_of_getElem? hs,hx⟩))
theorem num_job {last:Int} {l:List sA} {js:List Job} (hr:∀ k∈oD ⟨last,l,js⟩,0<=k/\k<=999999) {k:Nat} {j:Job} (hs:js[k]? = some j):∀ x∈sG j,0<=x/\x<=999999:=by
 intro x hx;refine hr x ?_;unfold oD;exact List.mem_append_right _ (List.mem_flatMap.2 ⟨j,List.mem_of_getElem? hs,hx⟩)
theorem take_at {α:Type} {l:List α} {k:Nat} {s:α} (hs:l[k]? = some s):l.take (k+1)=l.take k++[s]:=by
 rw [List.take_add_one,hs];rfl
theorem rB (a b c:ByteArray) (hc:c=a++b) (h:a.size+b.size<=1000000000):∀ w,(Op.stringOp .add a b).run prog w = .ok (.string c) w:=fun w=>by
 rw [hc,run_string_add_sum w _ _ om]
theorem wC:(⟨#[32]⟩:ByteArray).size=1:=rfl
theorem jE {n:Int} (h:0<=n/\n<=999999):(fB n).size<=6:=by
 show (Lib.itoa n).toArray.size<=6;rw [List.size_toArray];exact yF (k:=5) h.1 om
theorem text_any (last:Int) (a1:Option Addr) (m1 c1:Nat) (a2:Option Addr) (m2 c2:Nat) (l:List sA) (js:List Job) (w:World)
  (h:Sl w 8 iA l a1 m1 c1) (h2:Sl w 2 jA js a2 m2 c2) (ht:Tab w) (hr:∀ k∈oD ⟨last,l,js⟩,0<=k/\k<=999999):
  Calls prog 43 #[lC last a1 m1 c1 a2 m2 c2] w fun e w'=>e = .returned (.string (textS ⟨last,l,js⟩))/\Ext w w':=by
 have b1:=h.bound;have b2:=h2.bound;have HF:=aA h;have HJ:=aA h2;have E1:=aA h.len;have E2:=aA h2.len;have HR:=aA hr;have N0:Hid (0<=last/\last<=999999):=hr last (by simp [oD])
 have N1:Hid (0<=(m1:Int)/\(m1:Int)<=999999):=by rw [<-h.len];exact hr _ (by simp [oD])
 have N2:Hid (0<=(m2:Int)/\(m2:Int)<=999999):=by rw [<-h2.len];exact hr _ (by simp [oD])
 have M1:=aA (show m1<=999999 by have:=N1.out;omega);have M2:=aA (show m2<=999999 by have:=N2.out;omega);clear h h2 hr;go_enter func43,ntmps43
 go_upto_region 2 with fail
 generalize hW:World.alloc _ _=w0;have k0:cI w0 w.heap.size 0 last:=cQ hW;have k1:cV w0 w.heap.size 1 (.slice a1 m1 c1):=cQ hW;have k2:cV w0 w.heap.size 2 (.slice a2 m2 c2):=cQ hW;have hx:Ext w w0:=xQ hW;have HX:=aA hx;have HT:=aA (ht.ext hx);have G1:=aA (Sl.below HF.out hx.below);have G2:=aA (Sl.below HJ.out hx.below);have z1:=cA k0;clear hW hx HF HJ ht;have y0:=jE N0.out;have y1:=jE N1.out;have y2:=jE N2.out
 obtain ⟨t1,et1⟩:∃ c,c=fB last++(⟨#[32]⟩:ByteArray):=⟨_,rfl⟩
 have zt1:t1.size=(fB last).size+(⟨#[32]⟩:ByteArray).size:=by rw [et1,ByteArray.size_append]
 have rt1:=rB (fB last) (⟨#[32]⟩:ByteArray) t1 et1 (by have:=wC;omega);replace et1:=aA et1
 obtain ⟨t2,et2⟩:∃ c,c=t1++fB (m1:Int):=⟨_,rfl⟩
 have zt2:t2.size=t1.size+(fB (m1:Int)).size:=by rw [et2,ByteArray.size_append]
 have rt2:=rB t1 (fB (m1:Int)) t2 et2 (by have:=wC;omega);replace et2:=aA et2
 obtain ⟨t3,et3⟩:∃ c,c=t2++(⟨#[32]⟩:ByteArray):=⟨_,rfl⟩
 have zt3:t3.size=t2.size+(⟨#[32]⟩:ByteArray).size:=by rw [et3,ByteArray.size_append]
 have rt3:=rB t2 (⟨#[32]⟩:ByteArray) t3 et3 (by have:=wC;omega);replace et3:=aA et3
 obtain ⟨t4,et4⟩:∃ c,c=t3++fB (m2:Int):=⟨_,rfl⟩
 have zt4:t4.size=t3.size+(fB (m2:Int)).size:=by rw [et4,ByteArray.size_append]
 have rt4:=rB t3 (fB (m2:Int)) t4 et4 (by have:=wC;omega);replace et4:=aA et4
 have HH:Hid (t4=headS last m1 m2):=by
  show t4=_;rw [et4.out,et3.out,et2.out,et1.out];rfl
 have HS:Hid (t4.size<=30):=by show t4.size<=30;have:=wC;omega
 clear zt1 zt2 zt3 zt4 et1 et2 et3 et4 y0 y1 y2
 (refine rA kR kR ?_;(repeat (first|go_big_quiet_step ((intro _;go_at_call 84;exact qC (itoa_any _ _ (by assumption) (HT.out.ext eX))))|quiet_step (fail)));refine wpQuiet_nil ?_;rintro _ ⟨oq,nq,rfl⟩)
 clear rt1 rt2 rt3 rt4;go_wp2
 go_loopw [4,31] (fun v i wr=>∃ (k:Nat) (T:ByteArray),k<=m1/\i = .int .i64 k/\v = .string T/\Hid (T=aM (headS last m1 m2) (l.take k)/\T.size<=30+60 * k)/\Ext w0 wr) (fun _ i _=>m1 - (intOf i).toNat)
 case atStart=>exact ⟨0,t4,om,rfl,rfl,⟨by rw [HH.out];rfl,by have:=HS.out;omega⟩,eX⟩
 case round=>
  obtain ⟨k,T,hk,rfl,rfl,HV,o,m,rfl⟩:=hrel
  by_cases hlt:k<m1
  ·obtain ⟨b,q,s,rfl,hs,ds⟩:=G1.out.get hlt
   have ds:=at8 ds;have hq0:=cA ds.1;have hn:=num_stay HR.out hs;have HSS:=aA hs;obtain ⟨x0,⟨x1,⟨x2,x3,x4⟩⟩,⟨x5,x6,x7⟩⟩:=s;dsimp only at ds
   have hkj:(k:Int)<(m1:Int):=om
   have P0:Hid (0<=x0/\x0<=999999):=hn x0 (by simp [tC]);have y0:=jE P0.out;have P1:Hid (0<=x1/\x1<=999999):=hn x1 (by simp [tC]);have y1:=jE P1.out;have P2:Hid (0<=x2/\x2<=999999):=hn x2 (by simp [tC]);have y2:=jE P2.out;have P3:Hid (0<=x3/\x3<=999999):=hn x3 (by simp [tC]);have y3:=jE P3.out;have P4:Hid (0<=x4/\x4<=999999):=hn x4 (by simp [tC]);have y4:=jE P4.out;have P5:Hid (0<=x5/\x5<=999999):=hn x5 (by simp [tC]);have y5:=jE P5.out;have P6:Hid (0<=x6/\x6<=999999):=hn x6 (by simp [tC]);have y6:=jE P6.out;have P7:Hid (0<=x7/\x7<=999999):=hn x7 (by simp [tC]);have y7:=jE P7.out;clear hs hn
   go_upto_region 6 with fail
   generalize hW:World.alloc _ _=wd;generalize hD:w0.heap.size+o.size=D;have hxd:Ext w0 wd:=xQ hW;have s0:cI wd D 0 x0:=cR hW hD;have s1:cI wd D 1 x1:=cR hW hD;have s2:cI wd D 2 x2:=cR hW hD;have s3:cI wd D 3 x3:=cR hW hD;have s4:cI wd D 4 x4:=cR hW hD;have s5:cI wd D 5 x5:=cR hW hD;have s6:cI wd D 6 x6:=cR hW hD;have s7:cI wd D 7 x7:=cR hW hD;have zd:=cA s0;have HXD:=aA hxd;clear hW hD hxd ds hq0;have zT:=HV.out.2;have mM:=M1.out
   obtain ⟨u1,eu1⟩:∃ c,c=(⟨#[32]⟩:ByteArray)++(fB x0):=⟨_,rfl⟩
   have zu1:u1.size=(⟨#[32]⟩:ByteArray).size+(fB x0).size:=by rw [eu1,ByteArray.size_append]
   have ru1:=rB (⟨#[32]⟩:ByteArray) (fB x0) u1 eu1 (by have:=wC;omega);replace eu1:=aA eu1
   obtain ⟨u2,eu2⟩:∃ c,c=u1++(⟨#[32]⟩:ByteArray):=⟨_,rfl⟩
   have zu2:u2.size=u1.size+(⟨#[32]⟩:ByteArray).size:=by rw [eu2,ByteArray.size_append]
   have ru2:=rB u1 (⟨#[32]⟩:ByteArray) u2 eu2 (by have:=wC;omega);replace eu2:=aA eu2
   obtain ⟨u3,eu3⟩:∃ c,c=u2++(fB x1):=⟨_,rfl⟩
   have zu3:u3.size=u2.size+(fB x1).size:=by rw [eu3,ByteArray.size_append]
   have ru3:=rB u2 (fB x1) u3 eu3 (by have:=wC;omega);replace eu3:=aA eu3
   obtain ⟨u4,eu4⟩:∃ c,c=u3++(⟨#[32]⟩:ByteArray):=⟨_,rfl⟩
   have zu4:u4.size=u3.size+(⟨#[32]⟩:ByteArray).size:=by rw [eu4,ByteArray.size_append]
   have ru4:=rB u3 (⟨#[32]⟩:ByteArray) u4 eu4 (by have:=wC;omega);replace eu4:=aA eu4
   obtain ⟨u5,eu5⟩:∃ c,c=u4++(fB x2):=⟨_,rfl⟩
   have zu5:u5.size=u4.size+(fB x2).size:=by rw [eu5,ByteArray.size_append]
   have ru5:=rB u4 (fB x2) u5 eu5 (by have:=wC;omega);replace eu5:=aA eu5
   obtain ⟨u6,eu6⟩:∃ c,c=u5++(⟨#[32]⟩:ByteArray):=⟨_,rfl⟩
   have zu6:u6.size=u5.size+(⟨#[32]⟩:ByteArray).size:=by rw [eu6,ByteArray.size_append]
   have ru6:=rB u5 (⟨#[32]⟩:ByteArray) u6 eu6 (by have:=wC;omega);replace eu6:=aA eu6
   obtain ⟨u7,eu7⟩:∃ c,c=u6++(fB x3):=⟨_,rfl⟩
   have zu7:u7.size=u6.size+(fB x3).size:=by rw [eu7,ByteArray.size_append]
   have ru7:=rB u6 (fB x3) u7 eu7 (by have:=wC;omega);replace eu7:=aA eu7
   obtain ⟨u8,eu8⟩:∃ c,c=u7++(⟨#[32]⟩:ByteArray):=⟨_,rfl⟩
   have zu8:u8.size=u7.size+(⟨#[32]⟩:ByteArray).size:=by rw [eu8,ByteArray.size_append]
   have ru8:=rB u7 (⟨#[32]⟩:ByteArray) u8 eu8 (by have:=wC;omega);replace eu8:=aA eu8
   obtain ⟨u9,eu9⟩:∃ c,c=u8++(fB x4):=⟨_,rfl⟩
   have zu9:u9.size=u8.size+(fB x4).size:=by rw [eu9,ByteArray.size_append]
   have ru9:=rB u8 (fB x4) u9 eu9 (by have:=wC;omega);replace eu9:=aA eu9
   obtain ⟨u10,eu10⟩:∃ c,c=u9++(⟨#[32]⟩:ByteArray):=⟨_,rfl⟩
   have zu10:u10.size=u9.size+(⟨#[32]⟩:ByteArray).size:=by rw [eu10,ByteArray.size_append]
   have ru10:=rB u9 (⟨#[32]⟩:ByteArray) u10 eu10 (by have:=wC;omega);replace eu10:=aA eu10
   obtain ⟨u11,eu11⟩:∃ c,c=u10++(fB x5):=⟨_,rfl⟩
   have zu11:u11.size=u10.size+(fB x5).size:=by rw [eu11,ByteArray.size_append]
   have ru11:=rB u10 (fB x5) u11 eu11 (by have:=wC;omega);replace eu11:=aA eu11
   obtain ⟨u12,eu12⟩:∃ c,c=u11++(⟨#[32]⟩:ByteArray):=⟨_,rfl⟩
   have zu12:u12.size=u11.size+(⟨#[32]⟩:ByteArray).size:=by rw [eu12,ByteArray.size_append]
   have ru12:=rB u11 (⟨#[32]⟩:ByteArray) u12 eu12 (by have:=wC;omega);replace eu12:=aA eu12
   obtain ⟨u13,eu13⟩:∃ c,c=u12++(fB x6):=⟨_,rfl⟩
   have zu13:u13.size=u12.size+(fB x6).size:=by rw [eu13,ByteArray.size_append]
   have ru13:=rB u12 (fB x6) u13 eu13 (by have:=wC;omega);replace eu13:=aA eu13
   obtain ⟨u14,eu14⟩:∃ c,c=u13++(⟨#[32]⟩:ByteArray):=⟨_,rfl⟩
   have zu14:u14.size=u13.size+(⟨#[32]⟩:ByteArray).size:=by rw [eu14,ByteArray.size_append]
   have ru14:=rB u13 (⟨#[32]⟩:ByteArray) u14 eu14 (by have:=wC;omega);replace eu14:=aA eu14
   obtain ⟨u15,eu15⟩:∃ c,c=u14++(fB x7):=⟨_,rfl⟩
   have zu15:u15.size=u14.size+(fB x7).size:=by rw [eu15,ByteArray.size_append]
   have ru15:=rB u14 (fB x7) u15 eu15 (by have:=wC;omega);replace eu15:=aA eu15
   obtain ⟨tt,ett⟩:∃ c,c=T++u15:=⟨_,rfl⟩
   have ztt:tt.size=T.size+u15.size:=by rw [ett,ByteArray.size_append]
   have rtt:=rB T u15 tt ett (by have:=wC;omega);replace ett:=aA ett
   have HU:Hid (u15=stayS ⟨x0,⟨x1,⟨x2,x3,x4⟩⟩,⟨x5,x6,x7⟩⟩):=by
    show u15=_;rw [eu15.out,eu14.out,eu13.out,eu12.out,eu11.out,eu10.out,eu9.out,eu8.out,eu7.out,eu6.out,eu5.out,eu4.out,eu3.out,eu2.out,eu1.out];rfl
   have HZ:Hid (tt.size<=30+60 * (k+1)):=by
    show tt.size<=30+60 * (k+1);have:=wC;omega
   clear zu1 eu1 zu2 eu2 zu3 eu3 zu4 eu4 zu5 eu5 zu6 eu6 zu7 eu7 zu8 eu8 zu9 eu9 zu10 eu10 zu11 eu11 zu12 eu12 zu13 eu13 zu14 eu14 zu15 eu15 ztt zT mM y0 y1 y2 y3 y4 y5 y6 y7
   (refine rA kR kR ?_;(repeat (first|go_big_quiet_step ((intro _;go_at_call 84;exact qC (itoa_any _ _ (by assumption) (HT.out.ext (HXD.out.trans eX)))))|quiet_step (fail)));refine wpQuiet_nil ?_;rintro _ ⟨oq,nq,rfl⟩)
   go_wp2;go_roundw
   case rel=>
    refine ⟨k+1,tt,om,by go_num,rfl,⟨?_,HZ.out⟩,HXD.out.trans eX⟩;rw [ett.out,HU.out,take_at HSS.out,staysS_snoc,HV.out.1]
   case measure=>simp [intOf];omega
  ·have hkn:k=m1:=om
   subst hkn
   have HV2:Hid (T=aM (headS last k m2) l/\T.size<=30+60 * k):=by
    have:=HV.out;rw [List.take_of_length_le (by rw [E1.out];omega)] at this;exact this
   clear HV;go_wp2
   go_loopw [4,98] (fun v i wr=>∃ (j:Nat) (V:ByteArray),j<=m2/\i = .int .i64 j/\v = .string V/\Hid (V=jobsS T (js.take j)/\V.size<=30+60 * k+20 * j)/\Ext w0 wr) (fun _ i _=>m2 - (intOf i).toNat)
   case atStart=>exact ⟨0,T,om,rfl,rfl,⟨rfl,by have:=HV2.out.2;omega⟩,eX⟩
   case round=>
    obtain ⟨j,V,hj,rfl,rfl,HV,o',m',rfl⟩:=hrel
    by_cases hlt:j<m2
    ·obtain ⟨b,q,s,rfl,hs,ds⟩:=G2.out.get hlt
     have ds:=at2 ds;have hq0:=cA ds.1;have hn:=num_job HR.out hs;have HSS:=aA hs;obtain ⟨x0,f⟩:=s;dsimp only at ds
     have hkj:(j:Int)<(m2:Int):=om
     have P0:Hid (0<=x0/\x0<=999999):=hn x0 (by simp [sG]);have y0:=jE P0.out;clear hs hn;cases f
     ·have P1:Hid (0<=(0:Int)/\(0:Int)<=999999):=(by decide:0<=(0:Int)/\(0:Int)<=999999)
      have y1:=jE P1.out
      go_upto_region 14 with fail
      generalize hW:World.alloc _ _=wd;generalize hD:w0.heap.size+o'.size=D;have hxd:Ext w0 wd:=xQ hW;have s0:cI wd D 0 x0:=cR hW hD;have zd:=cA s0;have HXD:=aA hxd;clear hW hD hxd ds hq0;have zT:=HV.out.2;have mM:=M1.out;have mN:=M2.out
      obtain ⟨u1,eu1⟩:∃ c,c=(⟨#[32]⟩:ByteArray)++(fB x0):=⟨_,rfl⟩
      have zu1:u1.size=(⟨#[32]⟩:ByteArray).size+(fB x0).size:=by rw [eu1,ByteArray.size_append]
      have ru1:=rB (⟨#[32]⟩:ByteArray) (fB x0) u1 eu1 (by have:=wC;omega);replace eu1:=aA eu1
      obtain ⟨u2,eu2⟩:∃ c,c=u1++(⟨#[32]⟩:ByteArray):=⟨_,rfl⟩
      have zu2:u2.size=u1.size+(⟨#[32]⟩:ByteArray).size:=by rw [eu2,ByteArray.size_append]
      have ru2:=rB u1 (⟨#[32]⟩:ByteArray) u2 eu2 (by have:=wC;omega);replace eu2:=aA eu2
      obtain ⟨u3,eu3⟩:∃ c,c=u2++(fB 0):=⟨_,rfl⟩
      have zu3:u3.size=u2.size+(fB 0).size:=by rw [eu3,ByteArray.size_append]
      have ru3:=rB u2 (fB 0) u3 eu3 (by have:=wC;omega);replace eu3:=aA eu3
      obtain ⟨tt,ett⟩:∃ c,c=V++u3:=⟨_,rfl⟩
      have ztt:tt.size=V.size+u3.size:=by rw [ett,ByteArray.size_append]
      have rtt:=rB V u3 tt ett (by have:=wC;omega);replace ett:=aA ett
      have HU:Hid (u3=jobS ⟨x0,false⟩):=by
       show u3=_;rw [eu3.out,eu2.out,eu1.out];rfl
      have HZ:Hid (tt.size<=30+60 * k+20 * (j+1)):=by
       show tt.size<=30+60 * k+20 * (j+1);have:=wC;omega
      clear zu1 zu2 zu3 ztt eu1 eu2 eu3 zT mM mN y0 y1;go_wp2_with (first|(go_at_call 84;with_reducible refine mo (itoa_any _ _ (by assumption) (HT.out.ext (HXD.out.trans eX))) fun o1 n1=>?_));go_roundw
      case rel=>
       refine ⟨j+1,tt,om,by go_num,rfl,⟨?_,HZ.out⟩,HXD.out.trans eX⟩;rw [ett.out,HU.out,take_at HSS.out,jobsS_snoc,HV.out.1]
      case measure=>simp [intOf];omega
     ·have P1:Hid (0<=(1:Int)/\(1:Int)<=999999):=(by decide:0<=(1:Int)/\(1:Int)<=999999)
      have y1:=jE P1.out
      go_upto_region 14 with fail
      generalize hW:World.alloc _ _=wd;generalize hD:w0.heap.size+o'.size=D;have hxd:Ext w0 wd:=xQ hW;have s0:cI wd D 0 x0:=cR hW hD;have zd:=cA s0;have HXD:=aA hxd;clear hW hD hxd ds hq0;have zT:=HV.out.2;have mM:=M1.out;have mN:=M2.out
      obtain ⟨u1,eu1⟩:∃ c,c=(⟨#[32]⟩:ByteArray)++(fB x0):=⟨_,rfl⟩
      have zu1:u1.size=(⟨#[32]⟩:ByteArray).size+(fB x0).size:=by rw [eu1,ByteArray.size_append]
      have ru1:=rB (⟨#[32]⟩:ByteArray) (fB x0) u1 eu1 (by have:=wC;omega);replace eu1:=aA eu1
      obtain ⟨u2,eu2⟩:∃ c,c=u1++(⟨#[32]⟩:ByteArray):=⟨_,rfl⟩
      have zu2:u2.size=u1.size+(⟨#[32]⟩:ByteArray).size:=by rw [eu2,ByteArray.size_append]
      have ru2:=rB u1 (⟨#[32]⟩:ByteArray) u2 eu2 (by have:=wC;omega);replace eu2:=aA eu2
      obtain ⟨u3,eu3⟩:∃ c,c=u2++(fB 1):=⟨_,rfl⟩
      have zu3:u3.size=u2.size+(fB 1).size:=by rw [eu3,ByteArray.size_append]
      have ru3:=rB u2 (fB 1) u3 eu3 (by have:=wC;omega);replace eu3:=aA eu3
      obtain ⟨tt,ett⟩:∃ c,c=V++u3:=⟨_,rfl⟩
      have ztt:tt.size=V.size+u3.size:=by rw [ett,ByteArray.size_append]
      have rtt:=rB V u3 tt ett (by have:=wC;omega);replace ett:=aA ett
      have HU:Hid (u3=jobS ⟨x0,true⟩):=by
       show u3=_;rw [eu3.out,eu2.out,eu1.out];rfl
      have HZ:Hid (tt.size<=30+60 * k+20 * (j+1)):=by
       show tt.size<=30+60 * k+20 * (j+1);have:=wC;omega
      clear zu1 zu2 zu3 ztt eu1 eu2 eu3 zT mM mN y0 y1;go_wp2_with (first|(go_at_call 84;with_reducible refine mo (itoa_any _ _ (by assumption) (HT.out.ext (HXD.out.trans eX))) fun o1 n1=>?_));go_roundw
      case rel=>
       refine ⟨j+1,tt,om,by go_num,rfl,⟨?_,HZ.out⟩,HXD.out.trans eX⟩;rw [ett.out,HU.out,take_at HSS.out,jobsS_snoc,HV.out.1]
      case measure=>simp [intOf];omega
    ·have hjn:j=m2:=om
     subst hjn;go_wp2;go_ret;refine ⟨?_,HX.out.trans eX⟩;show Ending.returned (Value.string V)=_;unfold textS;dsimp only;rw [E1.out,E2.out,<-HV2.out.1];have:=HV.out.1;rw [List.take_of_length_le (by rw [E2.out];omega)] at this;rw [<-this]
section
variable {P:Program} {ops:Array Oper} {md:Region.Mode} {C:World->Prop}
def anyHead (P:Program) (md:Region.Mode) (ops:Array Oper) (C:World->Prop) (n:Nat) (L:Array Bool->Act->Prop):Nat->Array Bool->Act->Prop
 | 0,listed,a=>L listed a
 | f+1,listed,a=>Region.ready md ops listed≠[]/\∀ i∈Region.ready md ops listed,i<n/\qOp P ops C i (anyHead P md ops C n L f (listed.setIfInBounds i true)) a
theorem any_of_head {n g:Nat} {L:Array Bool->Act->Prop} {Q':Exit->Act->World->Prop} (hL:∀ listed a w,C w->L listed a->wpAny P md ops Q' g listed a w):
  ∀ (f:Nat) (listed:Array Bool) (a:Act) (w:World),C w->anyHead P md ops C n L f listed a->wpAny P md ops Q' (f+g) listed a w
 | 0,listed,a,w,hw,h=>by rw [Nat.zero_add];exact hL _ _ _ hw h
 | f+1,listed,a,w,hw,h=>by
  rw [Nat.add_right_comm];exact ⟨fun h0=>absurd h0 h.1,fun i hi=>wpOp_of_qOp hw (fun a' w' hw' h'=>any_of_head hL f _ a' w' hw' h') (h.2 i hi).2⟩
theorem anyHead_first {n i:Nat} {oi:Oper} {v:Value} {L:Array Bool->Act->Prop} (hi:ops[i]? = some oi) (hsel:∀ (j:Nat) (o:Oper) cs b,ops[j]? = some o->o.op≠.select cs b)
  (hs:Region.sinkB md ops n=true) (hc:Region.chainB md ops n=true) (hn:n<ops.size) (hin:i<n) (hdone:∀ listed a,L listed a->∀ j∈Region.ready md ops listed,n<=j):
  ∀ (f:Nat) (listed:Array Bool) (a:Act),HeadInv md ops n listed ->
   (∀ j oj,ops[j]? = some oj->j≠i->listed.getD j true=false->(∀ e∈oj.after,Region.binds md e=true->e.on≠i)->oi.apart ops oj=true) ->
   i∈Region.ready md ops listed->YieldsIn P ops C oi v a ->
   anyHead P md ops C n L f (listed.setIfInBounds i true) (a.put oi.dst v)->anyHead P md ops C n L (f+1) listed a:=by
 intro f
 induction f with
 | zero=>
  intro listed a inv _ hr hy H;refine ⟨(fun h=>by rw [h] at hr;cases hr),fun j hj=>?_⟩
  have hjn:j<n:=Nat.lt_of_not_le fun h=>tail_waits hs hc hn inv _ i rfl hin (mem_ready.1 hr).1 j h hj
  refine ⟨hjn,?_⟩
  by_cases hji:j=i
  ·subst hji;exact hy.qOp hi H
  ·exact absurd hjn (Nat.not_lt.2 (hdone _ _ H j (ready_mono hj hji)))
 | succ f ih=>
  intro listed a inv hfree hr hy H;have hun:=(mem_ready.1 hr).1;refine ⟨(fun h=>by rw [h] at hr;cases hr),fun j hj=>?_⟩
  have hjn:j<n:=Nat.lt_of_not_le fun h=>tail_waits hs hc hn inv _ i rfl hin hun j h hj
  refine ⟨hjn,?_⟩
  by_cases hji:j=i
  ·subst hji;exact hy.qOp hi H
  ·obtain ⟨hjun,oj,hoj,hall⟩:=mem_ready.1 hj
   have hnot:∀ e∈oj.after,Region.binds md e=true->e.on≠i:=fun e he hb heq=>by
    have:=hall e he hb;rw [heq,getD_both hun] at this;cases this
   refine qOp_mono (fun a' h3=>ih (listed.setIfInBounds j true) a' (inv.set hj hjn) ?_ (ready_mono hr (Ne.symm hji)) h3.1 ?_)
    (qOp_put hoj (hfree j oj hoj hji hjun hnot) (fun cs b=>hsel i oi cs b hi) (fun cs b=>hsel j oj cs b hoj) hy (H.2 j (ready_mono hj hji)).2)
   ·intro k ok hk hki hkun hno
    refine hfree k ok hk hki ?_ hno
    by_cases hjk:j=k
    ·subst hjk;exact hjun
    ·rwa [getD_set_ne true hjk] at hkun
   ·rw [Array.setIfInBounds_comm _ _ hji]
    exact h3.2
theorem anyHead_lex {n g:Nat} {Lq:Act->Prop} (hsel:Region.noSelect ops=true) (hs:Region.sinkB md ops n=true) (hc:Region.chainB md ops n=true) (hn:n<ops.size):
  ∀ (l:List Oper) (k:Nat) (listed:Array Bool) (a:Act),(∀ j,j<l.length->l[j]? = ops[k+j]?)->k+l.length=n->HeadInv md ops n listed ->
  Region.lexHead md ops g l.length k listed=true->wpQuiet P ops C Lq l a->anyHead P md ops C n (fun listed' a'=>Region.seqB md ops g n listed'=true/\Lq a') l.length listed a
 | [],k,listed,a,_,hk,_,hB,h=>by
  obtain rfl:k=n:=by simpa using hk
  exact ⟨by simpa [Region.lexHead] using hB,h⟩
 | o :: l,k,listed,a,hl,hk,inv,hB,h=>by
  have h0:ops[k]? = some o:=by simpa using (hl 0 sp).symm
  simp only [List.length_cons] at hk;simp only [List.length_cons,Region.lexHead,Bool.and_eq_true] at hB
  have hr:k∈Region.ready md ops listed:=by simpa using hB.1.1
  have hq:qOp P ops C k (wpQuiet P ops C Lq l) a:=by unfold qOp;simp only [h0];exact h
  obtain ⟨v,hy,hK⟩:=yieldsIn_of_qOp h0 hq;refine anyHead_first h0 (Region.noSelect_spec hsel) hs hc hn om (fun listed' a' hL=>seqB_ready hL.1) l.length listed a inv (Region.free_spec h0 hB.1.2) hr hy ?_;refine anyHead_lex hsel hs hc hn l (k+1) _ _ (fun j hj=>?_) om (inv.set hr om) hB.2 hK;have:=hl (j+1) (by simpa using hj)
  simpa [Nat.add_assoc,Nat.add_comm 1 j] using this
theorem wp_region_tail {id:Nat} {Q:Exit->Act->World->Prop} {a:Act} {w:World} {l:List Oper} (n:Nat) (hm:P.follows .mixedOrders=true) (hB:Region.lexTailB .any l.toArray n=true) (hC:C { w with drawn:=w.drawn+1 })
  (h:wpQuiet P l.toArray C (fun a'=>∀ w',C w'->wpList P l.toArray Q (l.drop n) a' w') (l.take n) a):(Code.region id l.toArray true).wp P Q a w:=by
 simp only [Region.lexTailB,Bool.and_eq_true,decide_eq_true_eq] at hB;obtain ⟨⟨⟨⟨hsel,hn⟩,hs⟩,hc⟩,hlex⟩:=hB
 have hn':n<l.length:=by simpa using hn
 have htl:(l.take n).length=n:=by rw [List.length_take];omega
 have hdl:(l.drop n).length=l.toArray.size - n:=sp
 have inv0:HeadInv .any l.toArray n (Array.replicate l.toArray.size false):=
  ⟨sp,(fun j oj _ hl=>by rw [getD_replicate_false] at hl;cases hl),fun t _ ht=>getD_in (by simpa using ht) (getD_replicate_false _ _)⟩
 have H:=anyHead_lex (P:=P) (C:=C) (md:=.any) (g:=l.toArray.size - n) hsel hs hc hn (l.take n) 0 _ a (fun j hj=>by rw [htl] at hj;simp [hj]) (by simpa using htl) inv0 (by rw [htl];exact hlex) h;refine wp_region_any hm ?_
 have:=any_of_head (Q':=Q) (g:=l.toArray.size - n) (fun listed a' w' hw' hL=>by
  have:=wpAny_of_seq (md:=.any) (Q':=Q) (l.drop n) n listed a' w' (fun j=>by simp [List.getElem?_drop]) (by rw [hdl];exact hL.1) (hL.2 w' hw')
  rwa [hdl] at this) _ _ _ _ hC H
 rw [htl,show n+(l.toArray.size - n)=l.toArray.size by omega] at this;exact this
theorem iD {id:Nat} {Q:Exit->Act->World->Prop} {a:Act} {w:World} {l:List Oper} (n:Nat) (hm:P.follows .mixedOrders=true) (hB:Region.lexTailB .any l.toArray n=true)
  (h:wpQuiet P l.toArray (fun w'=>∃ o n,w'=w.plus o n) (fun a'=>∀ w',(∃ o n,w'=w.plus o n)->wpList P l.toArray Q (l.drop n) a' w') (l.take n) a):(Code.region id l.toArray true).wp P Q a w:=
 wp_region_tail (C:=fun w'=>∃ o n,w'=w.plus o n) n hm hB ⟨#[],w.drawn+1,by simp [World.plus]⟩ h
end
