import Derived.Test.YtplomeacjbkgnabGreatDoorZ23
set_option linter.all false
set_option maxRecDepth 100000
set_option maxHeartbeats 16000000
namespace Go.Proofs.YtplomeacjbkgnabGreatDoor
open Go.RowKit Tryz
open Ch hiding Act
theorem three_cells {w a:World} {R:Nat} {x y z x' y' z':Value} (hx:Ext w a) (hR:w.heap.size<=R) (c0:a.cell? ⟨R,0,none⟩=some x') (c1:a.cell? ⟨R,1,none⟩=some y') (c2:a.cell? ⟨R,2,none⟩=some z'):
  (((a.setCell ⟨R,0,none⟩ x).setCell ⟨R,1,none⟩ y).setCell ⟨R,2,none⟩ z).cell? ⟨R,0,none⟩=some x/\(((a.setCell ⟨R,0,none⟩ x).setCell ⟨R,1,none⟩ y).setCell ⟨R,2,none⟩ z).cell? ⟨R,1,none⟩=some y /\
  (((a.setCell ⟨R,0,none⟩ x).setCell ⟨R,1,none⟩ y).setCell ⟨R,2,none⟩ z).cell? ⟨R,2,none⟩=some z/\Ext w (((a.setCell ⟨R,0,none⟩ x).setCell ⟨R,1,none⟩ y).setCell ⟨R,2,none⟩ z):=by
 have n01:(⟨R,0,none⟩:Addr)≠⟨R,1,none⟩:=by intro e;cases e
 have n02:(⟨R,0,none⟩:Addr)≠⟨R,2,none⟩:=by intro e;cases e
 have n12:(⟨R,1,none⟩:Addr)≠⟨R,2,none⟩:=by intro e;cases e
 refine ⟨?_,?_,?_,?_⟩
 ·rw [World.cell?_setCell_other (h:=n02.symm),World.cell?_setCell_other (h:=n01.symm),World.cell?_setCell_same (h:=c0)]
 ·rw [World.cell?_setCell_other (h:=n12.symm),World.cell?_setCell_same (h:=(show (a.setCell ⟨R,0,none⟩ x).cell? ⟨R,1,none⟩=some y' by rw [World.cell?_setCell_other (h:=n01)];exact c1))]
 ·rw [World.cell?_setCell_same (h:=(show ((a.setCell ⟨R,0,none⟩ x).setCell ⟨R,1,none⟩ y).cell? ⟨R,2,none⟩=some z' by rw [World.cell?_setCell_other (h:=n12),World.cell?_setCell_other (h:=n02)];exact c2))]
 ·exact Ext.of_below (bF (S:=fun i=>w.heap.size<=i) (Ext.refl w).below (Nat.le_refl _) ((((fA.of_ext hx).setCell (Or.inl hR) _).setCell (Or.inl hR) _).setCell (Or.inl hR) _) (fun _ h=>h))
theorem owns_three {a:World} {base base' e size n R:Nat} {v x y z:Value} {xs:List Value} (h:a.ownsRow base e size v n xs) (hb:base'<=base) (hne:v.ownBlock≠some R):
  (((a.setCell ⟨R,0,none⟩ x).setCell ⟨R,1,none⟩ y).setCell ⟨R,2,none⟩ z).ownsRow base' e size v n xs:=
 mA (lA (lA (lA h _ hne) _ hne) _ hne) hb
abbrev ledCells (db:Nat) (lv e last:Int) (v1 v2:Value):Array Value:=#[.pointer (some ⟨db,0,none⟩),vi lv,vi e,vi last,v1,v2]
def kE (w:World) (lb db:Nat) (lv e last:Int) (v1 v2:Value):Prop:=w.heap[lb]? = some (.cells (ledCells db lv e last v1 v2) 160 (0,0))
theorem kE.cells {w:World} {lb db:Nat} {lv e last:Int} {v1 v2:Value} (h:kE w lb db lv e last v1 v2):
  w.cell? ⟨lb,0,none⟩=some (.pointer (some ⟨db,0,none⟩))/\w.cell? ⟨lb,1,none⟩=some (vi lv)/\w.cell? ⟨lb,2,none⟩=some (vi e)/\w.cell? ⟨lb,3,none⟩=some (vi last)/\w.cell? ⟨lb,4,none⟩=some v1/\w.cell? ⟨lb,5,none⟩=some v2/\∀ i,w.frozen? ⟨lb,i,none⟩=false:=
 ⟨kD h rfl,kD h rfl,kD h rfl,kD h rfl,kD h rfl,kD h rfl,wJ h⟩
theorem kE.lt {w:World} {lb db:Nat} {lv e last:Int} {v1 v2:Value} (h:kE w lb db lv e last v1 v2):lb<w.heap.size:=tI h
theorem kE.ext {w w':World} {lb db:Nat} {lv e last:Int} {v1 v2:Value} (h:kE w lb db lv e last v1 v2) (x:Ext w w'):kE w' lb db lv e last v1 v2:=
 (x.below.block lb (tI h)).trans h
theorem kE.setEpoch {w:World} {lb db:Nat} {lv e last:Int} {v1 v2:Value} (h:kE w lb db lv e last v1 v2) (e':Int):kE (w.setCell ⟨lb,2,none⟩ (vi e')) lb db lv e' last v1 v2:=by
 unfold kE;rw [tB h];rfl
theorem sector_read {F:Nat->Prop} {db kb kc nb nc n:Nat} {wv:Value} {d:aB} {w:World} (h:lL w F db kb kc nb nc n wv d) (hd:d.down=false) (z:Int) (j:Nat) (s:ByteArray) (hz:Hid (z=(j:Int))) (hs:Hid (d.now[j]? = some s)):
  Calls prog 90 #[.pointer (some ⟨db,0,none⟩),vi z] w fun e w'=>e = .returned (.tuple #[.string s,.nilIface])/\Ext w w':=by
 have hj:j<d.now.length:=(List.getElem?_eq_some_iff.1 hs.out).1
 have hr:d.read z=(s,0):=by
  unfold aB.read;rw [hd,if_neg sp,if_neg (by have:=hz.out;omega),hz.out,List.getD_eq_getElem?_getD];rw [show ((j:Int)).toNat=j by omega,hs.out];rfl
 have:=read_any h z;rw [hr] at this;exact this
def yK (l:List ByteArray):Nat->Nat×Nat
 | 0=>(0,0)
 | k+1=>mL (l.getD k ⟨#[]⟩).data.toList (yK l k)
theorem unfour_part (s:ByteArray) (i:Nat) (h:i+4<=s.size):uH (s.extract i (i+4)).data.toList 0=uH s.data.toList i:=by
 have g:∀ j,j<4->vJ (s.extract i (i+4)).data.toList j=vJ s.data.toList (i+j):=by
  intro j hj;unfold vJ;have hz:s.data.size=s.size:=rfl;rw [List.getD_eq_getElem?_getD,List.getD_eq_getElem?_getD];simp only [ByteArray.data_extract,Array.toList_extract,List.extract_eq_take_drop];rw [List.getElem?_take_of_lt om,List.getElem?_drop]
 unfold uH;rw [g 0 om,g 1 om,g 2 om,g 3 om];rfl
theorem unfour_at (s:ByteArray) (v:Nat) (w:World) (hs:Hid (s.size=4)) (hv:Hid (uH s.data.toList 0=v)):Calls prog 91 #[.string s] w fun x w'=>x = .returned (vi (v:Int))/\Ext w w':=by
 have:=unfour_any s w hs.out;rw [hv.out] at this;exact this
theorem book_led {w:World} {lb db:Nat} {lv e last:Int} {a1 a2:Option Addr} {m1 c1 m2 c2:Nat} (l:List sA) (js:List Job) (h:kE w lb db lv e last (.slice a1 m1 c1) (.slice a2 m2 c2)) (h1:Sl w 8 iA l a1 m1 c1) (h2:Sl w 2 jA js a2 m2 c2) (hm1:m1<=1000) (hm2:m2<=1000):
  Calls prog 51 #[.pointer (some ⟨lb,0,none⟩)] w fun e w'=>∃ v1 v2,e = .returned (.agg #[vi last,v1,v2])/\mF w w' last l js v1 v2/\Ext w w':=by
 obtain ⟨c0,c1,c2,c3,c4,c5,fz⟩:=h.cells;have hb:=h.lt;have H1:=aA h1;have H2:=aA h2;clear h h1 h2;go_enter func51,ntmps51;go_wp2_with (go_at_call 96;(with_reducible refine (copy_any last a1 m1 _ a2 m2 _ l js _ (Sl.below H1.out (Ext.below eX)) (Sl.below H2.out (Ext.below eX)) hm1 hm2).mono ?_);rintro e w1 ⟨v1,v2,rfl,hob,hx⟩;obtain ⟨y1,d1,rfl,-⟩:=Sl.of_owns (c:=8) (enc:=iA) hob.stays dc (fun _=>rfl);obtain ⟨y2,d2,rfl,-⟩:=Sl.of_owns (c:=2) (enc:=jA) hob.jobs dc (fun _=>rfl);replace hob:=aA hob;replace hx:=aA hx;have r0:=gA hx.out (show World.cell? _ ⟨w.heap.size,0,none⟩=some (vi 0) by simp [go_sem]);have r1:=gA hx.out (show World.cell? _ ⟨w.heap.size,1,none⟩=some (.slice none 0 0) by simp [go_sem]);have r2:=gA hx.out (show World.cell? _ ⟨w.heap.size,2,none⟩=some (.slice none 0 0) by simp [go_sem]);have fr:=fun i=>kA hx.out (b:=w.heap.size) (o:=i) sp (by simp [go_sem]);have zr:=cA r0);have hx1:Ext w w1:=(show Ext w _ from eX:Ext w _).trans hx.out;obtain ⟨p0,p1,p2,px⟩:=three_cells (x:=vi last) (y:=.slice y1 l.length d1) (z:=.slice y2 js.length d2) hx1 (Nat.le_refl _) r0 r1 r2
 have g1:(Value.slice y1 l.length d1).ownBlock≠some w.heap.size:=fun e=>by have:=(rE hob.out.stays e).1;rw [World.size_alloc] at this;omega
 have g2:(Value.slice y2 js.length d2).ownBlock≠some w.heap.size:=fun e=>by have:=(rE hob.out.jobs e).1;rw [World.size_alloc] at this;omega
 refine bodyPost_ret (v:=.agg #[vi last,.slice y1 l.length d1,.slice y2 js.length d2]) (by simp [results,results51,go_sem,p0,p1,p2]) rfl ?_;exact ⟨_,_,rfl,⟨owns_three hob.out.stays sp g1,owns_three hob.out.jobs sp g2,hob.out.apart⟩,px⟩
def Opened (db:Nat) (lv:Int) (w:World) (r:Option (Nat×gB)) (e:Ending) (w':World):Prop:=
 match r with
 | none=>e = .returned (.tuple #[.pointer none,aC 4])/\Ext w w'
 | some (ep,b)=>∃ lb v1 v2,e = .returned (.tuple #[.pointer (some ⟨lb,0,none⟩),.nilIface])/\w.heap.size<=lb/\kE w' lb db lv (ep:Int) b.last v1 v2 /\
   w'.ownsRow (lb+1) 141 8 v1 b.stays.length (b.stays.flatMap iA)/\w'.ownsRow (lb+1) 143 2 v2 b.jobs.length (b.jobs.flatMap jA)/\Ext w w'
theorem tells_le (s:List UInt8) (x:Nat×Nat) (h:x.2<=640):(mL s x).2<=640:=by
 unfold mL
 split
 ·rename_i hc;exact hc.2.2
 ·exact h
theorem newest_le (l:List ByteArray):(newest l).2<=640:=tells_le _ _ (tells_le _ _ dc)
theorem kE.setBook {w:World} {lb db:Nat} {lv e last:Int} {v1 v2:Value} (h:kE w lb db lv e last v1 v2) (l':Int) (v1' v2':Value):
  kE (((w.setCell ⟨lb,3,none⟩ (vi l')).setCell ⟨lb,4,none⟩ v1').setCell ⟨lb,5,none⟩ v2') lb db lv e l' v1' v2':=by
 unfold kE;rw [tB (tB (tB h))];rfl
theorem ledOpen_any {F:Nat->Prop} {db kb kc nb nc n:Nat} {wv:Value} {d:aB} {w:World} (h:lL w F db kb kc nb nc n wv d) (hd:d.down=false) (hn:22<=n) (lv:Int) (l1:1<=lv) (l4:lv<=4) (L:kL w):
  Calls prog 48 #[.pointer (some ⟨db,0,none⟩),vi lv] w (Opened db lv w (fO d.now lv)):=by
 have HD:=aA h;have HL:=aA L;have hdd:Hid (d.down=false):=hd
 have i22:¬ ((n:Int)<22):=om
 have HN:Hid (d.now.length=n):=h.wf.now;have HS:Hid (∀ s∈d.now,s.size=64):=h.wf.nowS;clear h L;go_enter func48,ntmps48
 go_upto_region 10 with (first
  | (go_at_call 89;with_reducible refine mo (down_any (HD.out.ext eX)) fun o1 n1=>?_)
  | (go_at_call 42;with_reducible refine mo (rC (HD.out.ext eX)) fun o1 n1=>?_))
 generalize hW:World.alloc _ _=w0;generalize hlb:w.heap.size+_=lb
 have hB:kE w0 lb db lv 0 0 (.slice none 0 0) (.slice none 0 0):=by
  rw [<-hW,<-hlb];unfold kE;exact pA _ _ _ sp
 have hx:Ext w w0:=xQ hW;have HX:=aA hx;have HB:=aA hB
 have hle:w.heap.size<=lb:=om
 clear hW hlb hx hB
 go_loopw [7,37] (fun sz i wr=>∃ (k E S:Nat),k<=2/\i = .int .i64 (k:Int)/\sz = .int .i64 (S:Int)/\Hid (yK d.now k=(E,S))/\Hid (kE wr lb db lv (E:Int) 0 (.slice none 0 0) (.slice none 0 0))/\Hid (Ext w wr)) (fun _ i _=>2 - (intOf i).toNat)
 case atStart=>exact ⟨0,0,0,om,rfl,rfl,rfl,HB,HX⟩
 case round=>
  obtain ⟨k,E,S,hk,rfl,rfl,HE,HBr,HXr⟩:=hrel
  by_cases hlt:k<2
  ·obtain ⟨s,hs⟩:∃ s,d.now[k]? = some s:=⟨_,List.getElem?_eq_getElem (by have:=HN.out;omega)⟩
   have hz:s.size=64:=HS.out s (List.mem_of_getElem? hs);have HSK:=aA hs
   have i0:(0:Int)<((s.size:Nat):Int):=om
   have i5:(5:Int)<=((s.size:Nat):Int):=om
   have i9:(9:Int)<=((s.size:Nat):Int):=om
   obtain ⟨nn,hnn⟩:∃ nn,nn=uH s.data.toList 1:=⟨_,rfl⟩
   obtain ⟨kk,hkk⟩:∃ kk,kk=uH s.data.toList 5:=⟨_,rfl⟩
   have U1:Hid (uH (s.extract 1 5).data.toList 0=nn):=by unfold Hid;rw [hnn];exact unfour_part s 1 om
   have U2:Hid (uH (s.extract 5 9).data.toList 0=kk):=by unfold Hid;rw [hkk];exact unfour_part s 5 om
   have Z1:Hid ((s.extract 1 5).size=4):=by unfold Hid;rw [ByteArray.size_extract];omega
   have Z2:Hid ((s.extract 5 9).size=4):=by unfold Hid;rw [ByteArray.size_extract];omega
   have hz0:0<s.size:=om
   have HB0:Hid (vJ s.data.toList 0=s[0].toNat):=by
    unfold Hid vJ;rw [List.getD_eq_getElem?_getD,List.getElem?_eq_getElem (by rw [Array.length_toList];exact hz0)];rfl
   have HT:Hid (yK d.now (k+1)=if s[0].toNat=66/\E<nn/\kk<=640 then (nn,kk) else (E,S)):=by
    unfold Hid;rw [yK,HE.out,List.getD_eq_getElem?_getD,HSK.out];simp only [Option.getD_some];unfold mL;rw [HB0.out,<-hnn,<-hkk]
   have HZZ:=aA hz;have HNN:=aA hnn;have HKK:=aA hkk;clear hs hz hnn hkk;obtain ⟨c0,c1,c2,c3,c4,c5,fz⟩:=HBr.out.cells;have hbl:=HBr.out.lt
   go_upto_region 15 with (first
    | (go_at_call 90;with_reducible refine mo (sector_read (HD.out.ext (HXr.out.trans eX)) hdd.out _ k s (by unfold Hid;rfl) HSK) fun o1 n1=>?_))
   (refine rA kR kR ?_;(repeat (first|go_big_quiet_step ((first|(intro _;go_at_call_of 91 (Value.string (s.extract 1 5));exact qC (unfour_at (s.extract 1 5) nn _ Z1 U1))|(intro _;go_at_call_of 91 (Value.string (s.extract 5 9));exact qC (unfour_at (s.extract 5 9) kk _ Z2 U2))))|quiet_step (fail)));refine wpQuiet_nil ?_;rintro _ ⟨oq,nq,rfl⟩)
   by_cases q1:s[0].toNat=66
   ·by_cases q2:E<nn
    ·by_cases q3:kk<=640
     ·have HR:Hid (yK d.now (k+1)=(nn,kk)):=by unfold Hid;rw [HT.out,if_pos ⟨q1,q2,q3⟩]
      have j1:((s[0].toNat:Nat):Int)=66:=by rw [q1];rfl
      have j2:(E:Int)<(nn:Int):=om
      have j3:(kk:Int)<=640:=om
      clear q1;go_wp2_with fail;exact ⟨⟨k+1,nn,kk,om,by go_num,rfl,HR,aA ((HBr.out.ext eX).setEpoch nn),aA (Ext.setCell (HXr.out.trans eX) hle _)⟩,by simp [intOf];omega⟩
     ·have HR:Hid (yK d.now (k+1)=(E,S)):=by unfold Hid;rw [HT.out,if_neg (fun h=>q3 h.2.2)]
      have j1:((s[0].toNat:Nat):Int)=66:=by rw [q1];rfl
      have j2:(E:Int)<(nn:Int):=om
      have j3:¬ (kk:Int)<=640:=om
      clear q1;go_wp2_with fail;exact ⟨⟨k+1,E,S,om,by go_num,rfl,HR,aA (HBr.out.ext eX),aA (HXr.out.trans eX)⟩,by simp [intOf];omega⟩
    ·have HR:Hid (yK d.now (k+1)=(E,S)):=by unfold Hid;rw [HT.out,if_neg (fun h=>q2 h.2.1)]
     have j1:((s[0].toNat:Nat):Int)=66:=by rw [q1];rfl
     have j2:¬ (E:Int)<(nn:Int):=om
     clear q1;go_wp2_with fail;exact ⟨⟨k+1,E,S,om,by go_num,rfl,HR,aA (HBr.out.ext eX),aA (HXr.out.trans eX)⟩,by simp [intOf];omega⟩
   ·have HR:Hid (yK d.now (k+1)=(E,S)):=by unfold Hid;rw [HT.out,if_neg (fun h=>q1 h.1)]
    have j1:¬ ((s[0].toNat:Nat):Int)=66:=om
    clear q1;go_wp2_with fail;exact ⟨⟨k+1,E,S,om,by go_num,rfl,HR,aA (HBr.out.ext eX),aA (HXr.out.trans eX)⟩,by simp [intOf];omega⟩
  ·have HE2:Hid (newest d.now=(E,S)):=by
    have e:k=2:=om
    have:=HE.out;rw [e] at this;exact this
   have hk2:¬ ((k:Int)<2):=om
   obtain ⟨c0,c1,c2,c3,c4,c5,fz⟩:=HBr.out.cells;have hbl:=HBr.out.lt
   by_cases hE0:E=0
   ·have j0:(E:Int)=0:=om
    have HO:Hid (fO d.now lv=none):=by unfold Hid fO;rw [HE2.out,if_pos hE0]
    go_wp2_with fail;refine bodyPost_ret (v:=.tuple #[.pointer none,.iface 92 (vi 4)]) (by simp [results,results48,go_sem]) rfl ?_;rw [HO.out];exact ⟨rfl,HXr.out.trans eX⟩
   ·have j0:¬ (E:Int)=0:=om
    have HO:Hid (fO d.now lv=(uD ((uJ d.now E).take S) lv).map fun b=>(E,b)):=by unfold Hid fO;rw [HE2.out,if_neg hE0]
    have hS:S<=640:=by have:=newest_le d.now;rw [HE2.out] at this;exact this
    obtain ⟨hh,hhe⟩:∃ hh,hh=E % 2:=⟨_,rfl⟩
    have hh1:(hh:Int)<=1:=om
    have hh0:(0:Int)<=(hh:Int):=om
    have e2:(E:Int).tmod 2=(hh:Int):=by rw [Int.tmod_eq_emod_of_nonneg om];omega
    have e3:(E:Int) % 2=(hh:Int):=om
    have HHE:=aA hhe;clear hhe hE0
    go_upto_region 23 with fail
    go_loopw [13,82] (fun t i wr=>∃ (k:Nat) (T:ByteArray),k<=10/\t = .string T/\i = .int .i64 (k:Int)/\Hid (T.data.toList=((d.now.drop (2+hh * 10)).take k).flatMap (·.data.toList))/\Hid (T.size=64 * k)/\Hid (kE wr lb db lv (E:Int) 0 (.slice none 0 0) (.slice none 0 0))/\Hid (Ext w wr)) (fun _ i _=>10 - (intOf i).toNat)
    case atStart=>exact ⟨0,⟨#[]⟩,om,rfl,rfl,rfl,rfl,HBr,HXr⟩
    case round=>
     obtain ⟨k',T,hk,rfl,rfl,HT,HTz,HBs,HXs⟩:=hrel;obtain ⟨c0,c1,c2,c3,c4,c5,fz⟩:=HBs.out.cells;have hbl:=HBs.out.lt
     by_cases hlt:k'<10
     ·have hh9:hh<=1:=om
      obtain ⟨s,hs⟩:∃ s,d.now[2+hh * 10+k']? = some s:=⟨_,List.getElem?_eq_getElem (by have:=HN.out;omega)⟩
      have hz:s.size=64:=HS.out s (List.mem_of_getElem? hs);have HSK:=aA hs
      have cr:∀ w,(Op.stringOp .add T s).run prog w = .ok (.string (T++s)) w:=rB _ _ _ rfl (by have:=HTz.out;omega)
      have HT1:Hid ((T++s).data.toList=((d.now.drop (2+hh * 10)).take (k'+1)).flatMap (·.data.toList)):=by
       unfold Hid;rw [oK,HT.out,List.take_add_one,List.getElem?_drop,HSK.out];simp
      have HT2:Hid ((T++s).size=64 * (k'+1)):=by unfold Hid;rw [ByteArray.size_append,HTz.out];omega
      have hk0:(0:Int)<=(k':Int):=om
      have hk9:(k':Int)<=9:=om
      clear hs hz;generalize T++s=T2 at *
      go_wp2_with (first
       | (go_at_call 90;with_reducible refine mo (sector_read (HD.out.ext (HXs.out.trans eX)) hdd.out _ (2+hh * 10+k') s (by unfold Hid;first|rfl|omega|(push_cast;omega)) HSK) fun o1 n1=>?_))
      refine ⟨?_,?_⟩
      ·exact ⟨k'+1,T2,om,rfl,by go_num,HT1,HT2,aA (HBs.out.ext eX),aA (HXs.out.trans eX)⟩
      ·simp [intOf]
       omega
     ·obtain rfl:k'=10:=om
      have HTT:Hid ((T.extract 0 S).data.toList=(uJ d.now E).take S):=by
       unfold Hid uJ;have e:=HT.out;rw [HHE.out] at e;rw [<-e];simp only [ByteArray.data_extract,Array.toList_extract,List.extract_eq_take_drop,List.drop_zero,Nat.sub_zero]
      have hz:=HTz.out
      have HZ:Hid ((T.extract 0 S).size<=10000):=by unfold Hid;rw [ByteArray.size_extract];omega
      have s0:(0:Int)<=(S:Int):=om
      have s1:(S:Int)<=((T.size:Nat):Int):=om
      clear hz
      rcases hp:uD ((uJ d.now E).take S) lv with _|b
      ·have HOO:Hid (fO d.now lv=none):=by unfold Hid;rw [HO.out,hp];rfl
       have HP:Hid (parseV (uD (T.extract 0 S).data.toList lv)=(⟨0,[],[]⟩,4)):=by unfold Hid;rw [HTT.out,hp];rfl
       clear hp
       go_wp2_with (first
        | (go_at_call 92;(with_reducible refine (parse_any (T.extract 0 S) lv _ HZ.out (HL.out.ext (HXs.out.trans eX)) l4).mono ?_);rintro e wp ⟨v1,v2,rfl,o1',o2',-,hxp⟩;rw [HP.out] at o1' o2' ⊢;obtain ⟨y1,d1,rfl,-⟩:=Sl.of_owns (c:=8) (enc:=iA) o1' dc (fun _=>rfl);obtain ⟨y2,d2,rfl,-⟩:=Sl.of_owns (c:=2) (enc:=jA) o2' dc (fun _=>rfl);clear o1' o2';replace hxp:=aA hxp;dsimp only;rw [show aC 4=Value.iface 92 (vi 4) from rfl]))
       refine bodyPost_ret (v:=.tuple #[.pointer none,.iface 92 (vi 4)]) (by simp [results,results48,go_sem]) rfl ?_;rw [HOO.out];exact ⟨rfl,(HXs.out.trans hxp.out).trans eX⟩
      ·have HOO:Hid (fO d.now lv=some (E,b)):=by unfold Hid;rw [HO.out,hp];rfl
       have HP:Hid (parseV (uD (T.extract 0 S).data.toList lv)=(b,0)):=by unfold Hid;rw [HTT.out,hp];rfl
       clear hp
       go_upto_region 33 with (first
        | (go_at_call 92;(with_reducible refine (parse_any (T.extract 0 S) lv _ HZ.out (HL.out.ext (HXs.out.trans eX)) l4).mono ?_);rintro e wp ⟨v1,v2,rfl,o1',o2',-,hxp⟩;rw [HP.out] at o1' o2' ⊢;obtain ⟨y1,d1,rfl,-⟩:=Sl.of_owns (c:=8) (enc:=iA) o1' dc (fun _=>rfl);obtain ⟨y2,d2,rfl,-⟩:=Sl.of_owns (c:=2) (enc:=jA) o2' dc (fun _=>rfl);replace o1':=aA o1';replace o2':=aA o2';replace hxp:=aA hxp;dsimp only;rw [show aC 0=Value.nilIface from rfl]))
       generalize hW:World.alloc _ _=w4;generalize hA:wp.heap.size=A;have b0:cI w4 A 0 b.last:=cR hW hA;have b1:cV w4 A 1 (.slice y1 b.stays.length d1):=cR hW hA;have b2:cV w4 A 2 (.slice y2 b.jobs.length d2):=cR hW hA;have hx4:Ext wp w4:=xQ hW;have HX4:=aA ((HXs.out.trans hxp.out).trans hx4);have HB4:=aA (HBs.out.ext (hxp.out.trans hx4));have O1:=aA (zC o1'.out hx4);have O2:=aA (zC o2'.out hx4);have zl:lb<wr.heap.size:=HBs.out.lt
       have zA:lb<A:=by rw [<-hA];have:=hxp.out.below.size;omega
       have h4:=HB4.out.cells;obtain ⟨e0,e1,e2',e3',e4,e5,fz4⟩:=h4;clear hW hA hx4;go_wp2_with fail;refine bodyPost_ret (v:=.tuple #[.pointer (some ⟨lb,0,none⟩),.nilIface]) (by simp [results,results48,go_sem]) rfl ?_;rw [HOO.out]
       have n1':(Value.slice y1 b.stays.length d1).ownBlock≠some lb:=fun e=>by have:=(rE O1.out e).1;omega
       have n2':(Value.slice y2 b.jobs.length d2).ownBlock≠some lb:=fun e=>by have:=(rE O2.out e).1;omega
       exact ⟨lb,_,_,rfl,hle,HB4.out.setBook _ _ _,mA (lA (lA (lA O1.out _ n1') _ n1') _ n1') om,mA (lA (lA (lA O2.out _ n2') _ n2') _ n2') om,Ext.setCell (Ext.setCell (Ext.setCell HX4.out hle _) hle _) hle _⟩
section
variable {P:Program} (w:World)
def SrcAt (w:World) (sv:Value) (m size:Nat) (news:List Value):Prop:=
 news.length=m * size/\((m=0/\∃ c,sv = .slice none 0 c)\/∃ ad c,sv = .slice (some ad) m c/\∀ j u,news[j]? = some u->w.cell? (ad.add j)=some u)
theorem run_append_none (base:Nat) (t ty e:TypeId) (i:TypeInfo) (size:Nat) (ht:P.underlying t=some (.slice e)) (hi:P.info? e=some i)
  (v:Value) (n:Nat) (xs:List Value) (hown:w.ownsRow base e size v n xs) (c:Nat):
  (Builtin.append_ #[t,t] ty #[v,.slice none 0 c]).run P w = .ok v w:=by
 rcases hown.2 with ⟨rfl,rfl⟩|⟨g,cap,cur,rfl,hbg,hg,hnc,hcm,hcs,htake⟩
 ·simp [Builtin.append_,run_underlying ht,sizeOf,typeInfo,hi,Builtin.lenOf,Builtin.firstCells]
 ·simp [Builtin.append_,run_underlying ht,sizeOf,typeInfo,hi,Builtin.lenOf,Builtin.firstCells,storeCells,hnc]
theorem run_append_all (base:Nat) (t ty e:TypeId) (i:TypeInfo) (z:Value) (size bytes:Nat) (ht:P.underlying t=some (.slice e)) (hi:P.info? e=some i) (hz:i.zero=some z)
  (hsize:i.size=size) (hby:i.bytes=bytes) (hzs:z.cells.size=size) (hsz:0<size)
  (v:Value) (n:Nat) (xs:List Value) (hown:w.ownsRow base e size v n xs)
  (sv:Value) (m:Nat) (news:List Value) (hsrc:SrcAt w sv m size news) (h1:∀ u∈news,u.oneCell'=true)
  (h63:n+m<=maxLen) (hbytes:(n+m) * bytes<=140737488355328) (hbase:base<=w.heap.size):
  ∃ v' w',(Builtin.append_ #[t,t] ty #[v,sv]).run P w = .ok v' w'/\w'.ownsRow base e size v' (n+m) (xs++news)/\w.grownBy w' v.ownBlock /\
   (v'.ownBlock=v.ownBlock\/v'.ownBlock=some w.heap.size):=by
 obtain ⟨hl,⟨rfl,c,rfl⟩|⟨ad,c,rfl,hc⟩⟩:=hsrc
 ·have hn:news=[]:=List.eq_nil_of_length_eq_zero (by simpa using hl)
  subst hn;refine ⟨v,w,run_append_none w base t ty e i size ht hi v n xs hown c,by simpa using hown,⟨rfl,rfl,rfl,Nat.le_refl _,fun _ _ _=>rfl⟩,Or.inl rfl⟩
 ·obtain ⟨v',w',hr,h2,h3,_,h5⟩:=run_append_own_at (P:=P) w base t ty e i z size bytes ht hi hz hsize hby hzs hsz v n xs hown ad m c news hl hc h1 h63 hbytes hbase
  exact ⟨v',w',hr,h2,h3,h5⟩
theorem wp_append_all {o:Oper} {a:Act} {K:Act->World->Prop} {Q:Exit->Act->World->Prop} (s x:Operand) (t:TypeId)
  (ho:o.op = .call { callee:=.builtin .append,args:=#[s,x],argTypes:=#[t,t] })
  (base:Nat) (e:TypeId) (i:TypeInfo) (z:Value) (size bytes:Nat) (ht:P.underlying t=some (.slice e)) (hi:P.info? e=some i) (hz:i.zero=some z)
  (hsize:i.size=size) (hby:i.bytes=bytes) (hzs:z.cells.size=size) (hsz:0<size)
  (v:Value) (n:Nat) (xs:List Value) (hs:a.eval s=v) (hown:w.ownsRow base e size v n xs)
  (sv:Value) (m:Nat) (news:List Value) (hx:a.eval x=sv) (hsrc:SrcAt w sv m size news) (h1:∀ u∈news,u.oneCell'=true)
  (h63:n+m<=maxLen) (hbytes:(n+m) * bytes<=140737488355328) (hbase:base<=w.heap.size)
  (h:∀ v' w',w'.ownsRow base e size v' (n+m) (xs++news)->w.grownBy w' v.ownBlock->(v'.ownBlock=v.ownBlock\/v'.ownBlock=some w.heap.size)->K (a.put o.dst v') w'):o.wp P a w K Q:=by
 obtain ⟨v',w',hr,h2,h3,h4⟩:=run_append_all (P:=P) w base t o.type e i z size bytes ht hi hz hsize hby hzs hsz v n xs hown sv m news hsrc h1 h63 hbytes hbase;unfold Oper.wp execOp;simp only [ho,resolve,invoke,builtin,Sem.run_bind,Sem.run_pure,Result.andThen_ok,List.map_toArray,List.map_cons,List.map_nil,hs,hx,hr];exact h v' w' h2 h3 h4
theorem cG {ops:Array Oper} {o:Oper} {a:Act} {K:Act->World->Prop} {Q:Exit->Act->World->Prop} {E:Prop} (hgd:o.guard=none) (s x:Operand) (t:TypeId)
  (ho:o.op = .call { callee:=.builtin .append,args:=#[s,x],argTypes:=#[t,t] })
  (base:Nat) (e:TypeId) (i:TypeInfo) (z:Value) (size bytes:Nat) (ht:P.underlying t=some (.slice e)) (hi:P.info? e=some i) (hz:i.zero=some z)
  (hsize:i.size=size) (hby:i.bytes=bytes) (hzs:z.cells.size=size) (hsz:0<size)
  (v:Value) (n:Nat) (xs:List Value) (hs:a.eval s=v) (hown:w.ownsRow base e size v n xs)
  (sv:Value) (m:Nat) (news:List Value) (hx:a.eval x=sv) (hsrc:SrcAt w sv m size news) (h1:∀ u∈news,u.oneCell'=true)
  (h63:n+m<=maxLen) (hbytes:(n+m) * bytes<=140737488355328) (hbase:base<=w.heap.size)
  (h:∀ v' w',w'.ownsRow base e size v' (n+m) (xs++news)->w.grownBy w' v.ownBlock->(v'.ownBlock=v.ownBlock\/v'.ownBlock=some w.heap.size)->K (a.put o.dst v') w'):
  if Region.wanted o (yielded ops a.tmps)=true then Oper.wp P o a w K Q else E:=by
 have hw:Region.wanted o (yielded ops a.tmps)=true:=by simp [Region.wanted,hgd]
 rw [if_pos hw];exact wp_append_all w s x t ho base e i z size bytes ht hi hz hsize hby hzs hsz v n xs hs hown sv m news hx hsrc h1 h63 hbytes hbase h
end
theorem SrcAt.of {α:Type} {w:World} {c:Nat} {enc:α->List Value} {l:List α} {a:Option Addr} {n cap:Nat} (h:Sl w c enc l a n cap) (he:∀ x,(enc x).length=c):SrcAt w (.slice a n cap) n c (l.flatMap enc):=by
 have hn:=h.len;refine ⟨by rw [flat_len he,hn],?_⟩
 cases a with
 | none=>
  refine Or.inl ⟨?_,cap,?_⟩
  ·by_cases h0:n=0
   ·exact h0
   ·obtain ⟨_,_,_,e,_⟩:=h.get (k:=0) om;cases e
  ·have h0:n=0:=by
    by_cases h0:n=0
    ·exact h0
    ·obtain ⟨_,_,_,e,_⟩:=h.get (k:=0) om;cases e
   rw [h0]
 | some ad=>
  refine Or.inr ⟨ad,cap,rfl,?_⟩
  by_cases h0:n=0
  ·have hl:l=[]:=by cases l <;> simp_all
   subst hl;intro j u hj;simp at hj
  ·obtain ⟨b,o,x,e,hx,_⟩:=h.get (k:=0) om
   cases e;exact Sl.cells h he
theorem SrcAt.ext {w w':World} {sv:Value} {m size:Nat} {news:List Value} (h:SrcAt w sv m size news) (x:Ext w w') (hlt:∀ k,sv.ownBlock=some k->k<w.heap.size):SrcAt w' sv m size news:=by
 obtain ⟨hl,⟨rfl,c,rfl⟩|⟨ad,c,rfl,hc⟩⟩:=h
 ·exact ⟨hl,Or.inl ⟨rfl,c,rfl⟩⟩
 ·obtain ⟨o,n,rfl⟩:=x
  exact ⟨hl,Or.inr ⟨ad,c,rfl,fun j u hj=>by rw [cB _ _ _ _ _ _ (by have:=hlt ad.block rfl;unfold Addr.add;split <;> simpa using this)];exact hc j u hj⟩⟩
theorem put3r {w a:World} {R:Nat} {x y z x' y' z':Value} (hx:Ext w a) (hR:w.heap.size<=R) (c0:a.cell? ⟨R,0,none⟩=some x') (c1:a.cell? ⟨R,1,none⟩=some y') (c2:a.cell? ⟨R,2,none⟩=some z'):
  (((a.setCell ⟨R,0,none⟩ x).setCell ⟨R,1,none⟩ y).setCell ⟨R,2,none⟩ z).cell? ⟨R,0,none⟩=some x/\(((a.setCell ⟨R,0,none⟩ x).setCell ⟨R,1,none⟩ y).setCell ⟨R,2,none⟩ z).cell? ⟨R,1,none⟩=some y /\
  (((a.setCell ⟨R,0,none⟩ x).setCell ⟨R,1,none⟩ y).setCell ⟨R,2,none⟩ z).cell? ⟨R,2,none⟩=some z/\Ext w (((a.setCell ⟨R,0,none⟩ x).setCell ⟨R,1,none⟩ y).setCell ⟨R,2,none⟩ z):=by
 have n01:(⟨R,0,none⟩:Addr)≠⟨R,1,none⟩:=by intro e;cases e
 have n02:(⟨R,0,none⟩:Addr)≠⟨R,2,none⟩:=by intro e;cases e
 have n12:(⟨R,1,none⟩:Addr)≠⟨R,2,none⟩:=by intro e;cases e
 refine ⟨?_,?_,?_,?_⟩
 ·rw [World.cell?_setCell_other (h:=n02.symm),World.cell?_setCell_other (h:=n01.symm),World.cell?_setCell_same (h:=c0)]
 ·rw [World.cell?_setCell_other (h:=n12.symm),World.cell?_setCell_same (h:=(show (a.setCell ⟨R,0,none⟩ x).cell? ⟨R,1,none⟩=some y' by rw [World.cell?_setCell_other (h:=n01)];exact c1))]
 ·rw [World.cell?_setCell_same (h:=(show ((a.setCell ⟨R,0,none⟩ x).setCell ⟨R,1,none⟩ y).cell? ⟨R,2,none⟩=some z' by rw [World.cell?_setCell_other (h:=n12),World.cell?_setCell_other (h:=n02)];exact c2))]
 ·exact Ext.of_below (bF (S:=fun i=>w.heap.size<=i) (Ext.refl w).below (Nat.le_refl _) ((((fA.of_ext hx).setCell (Or.inl hR) _).setCell (Or.inl hR) _).setCell (Or.inl hR) _) (fun _ h=>h))
def RWant (w:World) (r:Except Int gB) (a1:Option Addr) (m1 c1:Nat) (e:Ending) (w':World):Prop:=
 match r with
 | .error f=>e = .returned (.tuple #[lC 0 none 0 0 none 0 0,vi f])/\Ext w w'
 | .ok x=>∃ v2,e = .returned (.tuple #[.agg #[vi x.last,.slice a1 m1 c1,v2],vi 0])/\w'.ownsRow w.heap.size 143 2 v2 x.jobs.length (x.jobs.flatMap jA)/\Ext w w'
theorem grown_none {a b:World} (h:a.grownBy b (Value.ownBlock (.slice none 0 0))):Ext a b:=by
 refine Ext.of_below ⟨h.os,h.tape,h.output,h.size,fun k hk=>h.block k hk (by simp [Value.ownBlock])⟩
theorem rwant_any (last t:Int) (a1:Option Addr) (m1 c1:Nat) (a2:Option Addr) (m2 c2:Nat) (l:List sA) (js:List Job) (w:World)
  (h:Sl w 8 iA l a1 m1 c1) (h2:Sl w 2 jA js a2 m2 c2) (hm2:m2<=100):
  Calls prog 55 #[lC last a1 m1 c1 a2 m2 c2,vi t] w (RWant w (want ⟨last,l,js⟩ t) a1 m1 c1):=by
 obtain ⟨j0,hj0,hy0,hy1,hy2⟩:=info_parts kO;have b1:=h.bound;have b2:=h2.bound;have HF:=aA h;have HJ:=aA h2;have E1:=aA h.len;have E2:=aA h2.len;clear h h2;go_enter func55,ntmps55
 go_upto_region 1 with fail
 generalize hW:World.alloc _ _=w0;have k0:cI w0 w.heap.size 0 last:=cQ hW;have k1:cV w0 w.heap.size 1 (.slice a1 m1 c1):=cQ hW;have k2:cV w0 w.heap.size 2 (.slice a2 m2 c2):=cQ hW;have r0:cI w0 (w.heap.size+1) 0 0:=cQ hW;have r1:cV w0 (w.heap.size+1) 1 (.slice none 0 0):=cQ hW;have r2:cV w0 (w.heap.size+1) 2 (.slice none 0 0):=cQ hW
 have fz:∀ i,w0.frozen? ⟨w.heap.size+1,i,none⟩=false:=by intro i;rw [<-hW];simp [go_sem]
 have hx:Ext w w0:=xQ hW;have HX:=aA hx;have FZ:=aA fz;have z0:=cA k0;have hR0:=cA r0;have HS:=aA (Sl.below HF.out hx.below);have HK:=aA (Sl.below HJ.out hx.below);clear hW hx fz;go_wp2
 go_loopw [6,7] (fun fv i wr=>∃ k:Nat,k<=m1/\i = .int .i64 k/\fv = .bool ((l.take k).any (fun s:sA=>s.ticket==t))/\Ext w0 wr) (fun _ i _=>m1 - (intOf i).toNat)
 case atStart=>exact ⟨0,om,rfl,rfl,eX⟩
 case round=>
  obtain ⟨k,hk,rfl,rfl,o,m,rfl⟩:=hrel
  by_cases hlt:k<m1
  ·obtain ⟨b,q,s,rfl,hs,ds⟩:=HS.out.get hlt
   have ds:=at8 ds;obtain ⟨xt,⟨xi,⟨xx,xy,xz⟩⟩,⟨x0,x1,x2⟩⟩:=s;dsimp only at ds;have hq0:=cA ds.1;have HXX:=aA hs
   have hkj:(k:Int)<(m1:Int):=om
   generalize hFK:(l.take k).any (fun s:sA=>s.ticket==t)=FK;have HFK:=aA hFK;clear hs hFK;cases FK
   ·cases hte:(xt==t)
    ·have hst:(l.take (k+1)).any (fun s:sA=>s.ticket==t)=false:=by rw [any_takeF _ HXX.out,HFK.out];simp [hte]
     have HST:=aA hst;clear hst;go_wp2;go_roundw
     case rel=>first|exact ⟨k+1,om,by go_num,congrArg Value.bool HST.out.symm,eX⟩|(repeat apply Exists.intro;refine ⟨?_,rfl⟩;exact ⟨k+1,om,by go_num,congrArg Value.bool HST.out.symm,eX⟩)
     case measure=>simp [intOf];omega
    ·have hst:(l.take (k+1)).any (fun s:sA=>s.ticket==t)=true:=by rw [any_takeF _ HXX.out,HFK.out];simp [hte]
     have HST:=aA hst;clear hst;go_wp2;go_roundw
     case rel=>first|exact ⟨k+1,om,by go_num,congrArg Value.bool HST.out.symm,eX⟩|(repeat apply Exists.intro;refine ⟨?_,rfl⟩;exact ⟨k+1,om,by go_num,congrArg Value.bool HST.out.symm,eX⟩)
     case measure=>simp [intOf];omega
   ·have hst:(l.take (k+1)).any (fun s:sA=>s.ticket==t)=true:=by rw [any_takeF _ HXX.out,HFK.out];simp
    have HST:=aA hst;clear hst;go_wp2;go_roundw
    case rel=>first|exact ⟨k+1,om,by go_num,congrArg Value.bool HST.out.symm,eX⟩|(repeat apply Exists.intro;refine ⟨?_,rfl⟩;exact ⟨k+1,om,by go_num,congrArg Value.bool HST.out.symm,eX⟩)
    case measure=>simp [intOf];omega
  ·have hall:(l.take k).any (fun s:sA=>s.ticket==t)=l.any (fun s:sA=>s.ticket==t):=by rw [List.take_of_length_le (by have:=E1.out;omega)]
   rw [hall];clear hall;cases hF:l.any (fun s:sA=>s.ticket==t)
   ·have HW:Hid (want ⟨last,l,js⟩ t = .error 5):=by
     unfold Hid want gB.find;rw [if_pos];simp only [Option.isNone_iff_eq_none,List.find?_eq_none];intro x hx;have:=List.any_eq_false.1 hF x hx
     simpa using this
    clear hF;have y0:=kA (w:=w0) (w':=w0.plus o m) eX hR0 (FZ.out 0);have y1:=kA (w:=w0) (w':=w0.plus o m) eX hR0 (FZ.out 1);have y2:=kA (w:=w0) (w':=w0.plus o m) eX hR0 (FZ.out 2);have t0:=gA (w:=w0) (w':=w0.plus o m) eX r0;have t1:=gA (w:=w0) (w':=w0.plus o m) eX r1;have t2:=gA (w:=w0) (w':=w0.plus o m) eX r2;go_wp2;obtain ⟨p0,p1,p2,px⟩:=put3r (w:=w) (R:=w.heap.size+1) (x:=vi 0) (y:=.slice none 0 0) (z:=.slice none 0 0) (HX.out.trans (c:=w0.plus o m) eX) om t0 t1 t2;refine bodyPost_ret (v:=.tuple #[lC 0 none 0 0 none 0 0,vi 5]) (by simp [results,results55,go_sem,p0,p1,p2]) rfl ?_;unfold RWant;rw [HW.out];exact ⟨rfl,px⟩
   ·have HFD:Hid ((({ last:=last,stays:=l,jobs:=js }:gB).find t).isNone=false):=by
     unfold Hid gB.find;obtain ⟨x,hx,hp⟩:=List.any_eq_true.1 hF
     cases hf:l.find? (fun s=>s.ticket==t) with
     | none=>rw [List.find?_eq_none] at hf;exact absurd hp (hf x hx)
     | some y=>rfl
    clear hF
    go_upto_region 9 with fail
    generalize hW:World.alloc _ _=wj;generalize hD:w0.heap.size+o.size=D;have hxj:Ext w0 wj:=xQ hW;have d0:cI wj D 0 t:=cR hW hD;have d1:cV wj D 1 (.bool true):=cR hW hD;obtain ⟨kj0,kj1,kj2⟩:=xe3 hxj k0 k1 k2;have zj0:=cA kj0;have zd:=cA d0;have zrj:=cA (gA hxj r0);have HXJ:=aA hxj;have HKJ:=aA (Sl.below HK.out hxj.below)
    have hD1:¬ D=w.heap.size+1:=om
    have hD2:¬ w.heap.size+1=D:=om
    clear hW hD hxj k0 k1 k2;go_wp2
    go_loopw [9] (fun i wr=>∃ n:Nat,n<=m2/\i = .int .i64 n/\Hid ((js.take n).any (fun x:Job=>decide (x=⟨t,true⟩))=false)/\Ext wj wr) (fun i _=>m2 - (intOf i).toNat)
    case atStart=>exact ⟨0,om,rfl,rfl,eX⟩
    case round=>
     obtain ⟨n,hn,rfl,HN,o',m',rfl⟩:=hrel
     by_cases hln:n<m2
     ·obtain ⟨b,q,s,rfl,hs,ds⟩:=HKJ.out.get hln
      have ds:=at2 ds;obtain ⟨jt,jf⟩:=s;dsimp only at ds;have hq0:=cA ds.1;have HXX:=aA hs
      have hnj:(n:Int)<(m2:Int):=om
      clear hs
      by_cases hxe:(⟨jt,jf⟩:Job)=⟨t,true⟩
      ·have hq:∀ w,(Go.binOp .eql 143 (.agg #[vi jt,.bool jf]) (.agg #[vi t,.bool true])).run prog w = .ok (.bool true) w:=fun w=>by rw [mJ w (eqJob w 9998 ⟨jt,jf⟩ ⟨t,true⟩)];simp [hxe]
       have HW:Hid (want ⟨last,l,js⟩ t = .error 6):=by
        unfold Hid want;rw [if_neg (by rw [HFD.out];simp),if_pos];rw [List.contains_iff_mem];rw [<-hxe];exact List.mem_of_getElem? HXX.out
       clear hxe
       go_upto_region 12 with fail
       (refine qF ?_;rintro _ ⟨oq,nq,rfl⟩)
       go_upto_region 13 with fail
       have y0:=kA (w:=w0) (w':=wj.plus (o'++oq) nq) (HXJ.out.trans eX) hR0 (FZ.out 0);have y1:=kA (w:=w0) (w':=wj.plus (o'++oq) nq) (HXJ.out.trans eX) hR0 (FZ.out 1);have y2:=kA (w:=w0) (w':=wj.plus (o'++oq) nq) (HXJ.out.trans eX) hR0 (FZ.out 2);have t0:=gA (w:=w0) (w':=wj.plus (o'++oq) nq) (HXJ.out.trans eX) r0;have t1:=gA (w:=w0) (w':=wj.plus (o'++oq) nq) (HXJ.out.trans eX) r1;have t2:=gA (w:=w0) (w':=wj.plus (o'++oq) nq) (HXJ.out.trans eX) r2;go_wp2;obtain ⟨p0,p1,p2,px⟩:=put3r (w:=w) (R:=w.heap.size+1) (x:=vi 0) (y:=.slice none 0 0) (z:=.slice none 0 0) (HX.out.trans (c:=wj.plus (o'++oq) nq) (HXJ.out.trans eX)) om t0 t1 t2;refine bodyPost_ret (v:=.tuple #[lC 0 none 0 0 none 0 0,vi 6]) (by simp [results,results55,go_sem,p0,p1,p2]) rfl ?_;unfold RWant;rw [HW.out];exact ⟨rfl,px⟩
      ·have hq:∀ w,(Go.binOp .eql 143 (.agg #[vi jt,.bool jf]) (.agg #[vi t,.bool true])).run prog w = .ok (.bool false) w:=fun w=>by rw [mJ w (eqJob w 9998 ⟨jt,jf⟩ ⟨t,true⟩)];simp [hxe]
       have HST:Hid ((js.take (n+1)).any (fun x:Job=>decide (x=⟨t,true⟩))=false):=by unfold Hid;rw [any_takeF _ HXX.out,HN.out,decide_eq_false hxe];rfl
       clear hxe
       go_upto_region 12 with fail
       (refine qF ?_;rintro _ ⟨oq,nq,rfl⟩)
       go_wp2;go_roundw
       case rel=>first|exact ⟨n+1,om,by go_num,HST,eX⟩|(repeat apply Exists.intro;refine ⟨?_,rfl⟩;exact ⟨n+1,om,by go_num,HST,eX⟩)
       case measure=>simp [intOf];omega
     ·have hnc:Hid (js.contains ⟨t,true⟩=false):=by
       have e:=HN.out;rw [List.take_of_length_le (by have:=E2.out;omega),List.any_eq_false] at e;unfold Hid;rw [<-Bool.not_eq_true,List.contains_iff_mem];intro hm;exact e _ hm sp
      by_cases h8:m2=8
      ·have h8i:((m2:Int)==8)=true:=by simp;omega
       have HW:Hid (want ⟨last,l,js⟩ t = .error 8):=by
        unfold Hid want;rw [if_neg (by rw [HFD.out];simp),if_neg (by rw [hnc.out];simp),if_pos (by dsimp only;rw [E2.out];exact h8)]
       clear h8;have y0:=kA (w:=w0) (w':=wj.plus o' m') (HXJ.out.trans eX) hR0 (FZ.out 0);have y1:=kA (w:=w0) (w':=wj.plus o' m') (HXJ.out.trans eX) hR0 (FZ.out 1);have y2:=kA (w:=w0) (w':=wj.plus o' m') (HXJ.out.trans eX) hR0 (FZ.out 2);have t0:=gA (w:=w0) (w':=wj.plus o' m') (HXJ.out.trans eX) r0;have t1:=gA (w:=w0) (w':=wj.plus o' m') (HXJ.out.trans eX) r1;have t2:=gA (w:=w0) (w':=wj.plus o' m') (HXJ.out.trans eX) r2;go_wp2;obtain ⟨p0,p1,p2,px⟩:=put3r (w:=w) (R:=w.heap.size+1) (x:=vi 0) (y:=.slice none 0 0) (z:=.slice none 0 0) (HX.out.trans (c:=wj.plus o' m') (HXJ.out.trans eX)) om t0 t1 t2;refine bodyPost_ret (v:=.tuple #[lC 0 none 0 0 none 0 0,vi 8]) (by simp [results,results55,go_sem,p0,p1,p2]) rfl ?_;unfold RWant;rw [HW.out];exact ⟨rfl,px⟩
      ·have h8i:((m2:Int)==8)=false:=by simp;omega
       have HW:Hid (want ⟨last,l,js⟩ t = .ok ⟨last,l,js++[⟨t,true⟩]⟩):=by
        unfold Hid want;rw [if_neg (by rw [HFD.out];simp),if_neg (by rw [hnc.out];simp),if_neg (by dsimp only;rw [E2.out];exact h8)]
       clear h8
       go_upto_region 16 with fail
       generalize hW:World.plus _ _ _=wz;have hxz:Ext wj wz:=xQ hW;clear hW;obtain ⟨kz0,kz1,kz2,dz0,dz1⟩:=xe5 hxz kj0 kj1 kj2 d0 d1;have zz:=cA kz0;have zdz:=cA dz0;have y0:=kA (w:=w0) (HXJ.out.trans hxz) hR0 (FZ.out 0);have y1:=kA (w:=w0) (HXJ.out.trans hxz) hR0 (FZ.out 1);have y2:=kA (w:=w0) (HXJ.out.trans hxz) hR0 (FZ.out 2);have t0:=gA (w:=w0) (HXJ.out.trans hxz) r0;have t1:=gA (w:=w0) (HXJ.out.trans hxz) r1;have t2:=gA (w:=w0) (HXJ.out.trans hxz) r2;have zR:=cA t0;have HXZ:=aA (HXJ.out.trans hxz);have HKZ:=aA (Sl.below HKJ.out hxz.below);clear hxz kj0 kj1 kj2 d0 d1 zj0 zd HKJ;have HKJ:=HKZ;clear HKZ
       go_region_held3 (fun w'=>w'.cell? ⟨w.heap.size,0,none⟩=some (vi last)/\w'.cell? ⟨w.heap.size,1,none⟩=some (.slice a1 m1 c1)/\w'.cell? ⟨w.heap.size,2,none⟩=some (.slice a2 m2 c2)/\w'.cell? ⟨D,0,none⟩=some (vi t)/\w'.cell? ⟨D,1,none⟩=some (.bool true))
        (first|go_keep|((try dsimp only);(repeat' apply And.intro) <;> (simp (disch:=(first|assumption|(simp;done)|(simp;omega))) [cB,go_sem, *];done)))
        (first
         | (refine cG _ rfl _ _ _ rfl wz.heap.size 143 j0 _ 2 16 underlying47 hj0 hy0 hy1 hy2 rfl dc (.slice none 0 0) 0 [] rfl (World.ownsRow_nil _ _ _ _) (.slice a2 m2 c2) m2 (js.flatMap jA) rfl (SrcAt.of (Sl.below HKJ.out (Ext.below eX)) (fun _=>rfl)) (by intro u hu;obtain ⟨y,_,hy⟩:=List.mem_flatMap.1 hu;simp only [jA,List.mem_cons,List.not_mem_nil,or_false] at hy;rcases hy with rfl|rfl <;> rfl) (by unfold maxLen;omega) om so ?_;intro v1 w5 hown1 hgrow1 hat1;obtain ⟨o3,n3,rfl⟩:=grown_none hgrow1)
         | (refine cG _ rfl _ _ _ rfl wz.heap.size 143 j0 _ 2 16 underlying47 hj0 hy0 hy1 hy2 rfl dc v1 (0+m2) ([]++js.flatMap jA) rfl (by first|exact hown1|exact zC hown1 eX) _ 1 [vi t,.bool true] rfl ⟨rfl,Or.inr ⟨_,1,rfl,by first|exact World.news_of_block (pA _ _ _ sp)|exact World.news_of_block ((dB _ _ _ _ sp).trans (pA _ _ _ sp))⟩⟩ (by simp [Value.oneCell']) (by unfold maxLen;omega) om so ?_;intro v2 w6 hown2 hgrow2 hat2;obtain ⟨o4,n4,rfl⟩:=vB (w:=wz) eX hgrow2 (qA hown1);rw [Nat.zero_add,List.nil_append,show js.flatMap jA++[vi t,.bool true]=(js++[(⟨t,true⟩:Job)]).flatMap jA by simp [jA]] at hown2;obtain ⟨x2,e2,rfl,sl2⟩:=Sl.of_owns (c:=2) (enc:=jA) hown2 dc (fun _=>rfl)))
       all_goals
        have hR2:=qA hown2
        have zx:w.heap.size<=wz.heap.size:=om
        obtain ⟨p0,p1,p2,px⟩:=put3r (w:=w) (a:=wz.plus o4 n4) (R:=w.heap.size+1) (x:=vi last) (y:=.slice a1 m1 c1) (z:=.slice x2 (m2+1) e2) ((HX.out.trans HXZ.out).trans eX) om (gA (w:=wz) eX t0) (gA (w:=wz) eX t1) (gA (w:=wz) eX t2);go_wp2;refine bodyPost_ret (v:=.tuple #[.agg #[vi last,.slice a1 m1 c1,.slice x2 (m2+1) e2],vi 0]) (by simp [results,results55,go_sem,p0,p1,p2]) rfl ?_;unfold RWant;rw [HW.out];refine ⟨_,rfl,?_,px⟩;dsimp only;rw [show (js++[(⟨t,true⟩:Job)]).length=m2+1 by rw [List.length_append,E2.out];rfl]
        refine mA (lA (lA (lA hown2 _ ?_) _ ?_) _ ?_) zx <;> (intro e;have:=hR2 _ e;(try dsimp only at this);omega)
