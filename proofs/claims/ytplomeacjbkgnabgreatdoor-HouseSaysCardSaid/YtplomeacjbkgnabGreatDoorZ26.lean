import Derived.Test.YtplomeacjbkgnabGreatDoorZ25
set_option linter.all false
set_option maxRecDepth 100000
set_option maxHeartbeats 16000000
namespace Go.Proofs.YtplomeacjbkgnabGreatDoor
open Go.RowKit
theorem three_cells {w a:World} {R:Nat} {x y z x' y' z':Value} (hx:Ext w a) (hR:w.heap.size≤R) (c0:a.cell? ⟨R,0,none⟩=some x') (c1:a.cell? ⟨R,1,none⟩=some y') (c2:a.cell? ⟨R,2,none⟩=some z'):
  (((a.setCell ⟨R,0,none⟩ x).setCell ⟨R,1,none⟩ y).setCell ⟨R,2,none⟩ z).cell? ⟨R,0,none⟩=some x∧(((a.setCell ⟨R,0,none⟩ x).setCell ⟨R,1,none⟩ y).setCell ⟨R,2,none⟩ z).cell? ⟨R,1,none⟩=some y ∧
  (((a.setCell ⟨R,0,none⟩ x).setCell ⟨R,1,none⟩ y).setCell ⟨R,2,none⟩ z).cell? ⟨R,2,none⟩=some z∧Ext w (((a.setCell ⟨R,0,none⟩ x).setCell ⟨R,1,none⟩ y).setCell ⟨R,2,none⟩ z):=by
 have n01:(⟨R,0,none⟩:Addr)≠⟨R,1,none⟩:=by intro e;cases e
 have n02:(⟨R,0,none⟩:Addr)≠⟨R,2,none⟩:=by intro e;cases e
 have n12:(⟨R,1,none⟩:Addr)≠⟨R,2,none⟩:=by intro e;cases e
 refine ⟨?_,?_,?_,?_⟩
 ·rw [World.cell?_setCell_other (h:=n02.symm),World.cell?_setCell_other (h:=n01.symm),World.cell?_setCell_same (h:=c0)]
 ·rw [World.cell?_setCell_other (h:=n12.symm),World.cell?_setCell_same (h:=(show (a.setCell ⟨R,0,none⟩ x).cell? ⟨R,1,none⟩=some y' by rw [World.cell?_setCell_other (h:=n01)];exact c1))]
 ·rw [World.cell?_setCell_same (h:=(show ((a.setCell ⟨R,0,none⟩ x).setCell ⟨R,1,none⟩ y).cell? ⟨R,2,none⟩=some z' by rw [World.cell?_setCell_other (h:=n12),World.cell?_setCell_other (h:=n02)];exact c2))]
 ·exact Ext.of_below (xD (S:=fun i=>w.heap.size≤i) (Ext.refl w).below (Nat.le_refl _) ((((mA.of_ext hx).setCell (Or.inl hR) _).setCell (Or.inl hR) _).setCell (Or.inl hR) _) (fun _ h=>h))
theorem owns_three {a:World} {base base' e size n R:Nat} {v x y z:Value} {xs:List Value} (h:a.ownsRow base e size v n xs) (hb:base'≤base) (hne:v.ownBlock≠some R):
  (((a.setCell ⟨R,0,none⟩ x).setCell ⟨R,1,none⟩ y).setCell ⟨R,2,none⟩ z).ownsRow base' e size v n xs:=
 rA (pA (pA (pA h _ hne) _ hne) _ hne) hb
abbrev ledCells (db:Nat) (lv e last:Int) (v1 v2:Value):Array Value:=#[.pointer (some ⟨db,0,none⟩),vi lv,vi e,vi last,v1,v2]
def pC (w:World) (lb db:Nat) (lv e last:Int) (v1 v2:Value):Prop:=w.heap[lb]? = some (.cells (ledCells db lv e last v1 v2) 160 (0,0))
theorem pC.cells {w:World} {lb db:Nat} {lv e last:Int} {v1 v2:Value} (h:pC w lb db lv e last v1 v2):
  w.cell? ⟨lb,0,none⟩=some (.pointer (some ⟨db,0,none⟩))∧w.cell? ⟨lb,1,none⟩=some (vi lv)∧w.cell? ⟨lb,2,none⟩=some (vi e)∧w.cell? ⟨lb,3,none⟩=some (vi last)∧w.cell? ⟨lb,4,none⟩=some v1∧w.cell? ⟨lb,5,none⟩=some v2∧∀ i,w.frozen? ⟨lb,i,none⟩=false:=
 ⟨cC h rfl,cC h rfl,cC h rfl,cC h rfl,cC h rfl,cC h rfl,aH h⟩
theorem pC.lt {w:World} {lb db:Nat} {lv e last:Int} {v1 v2:Value} (h:pC w lb db lv e last v1 v2):lb<w.heap.size:=dG h
theorem pC.ext {w w':World} {lb db:Nat} {lv e last:Int} {v1 v2:Value} (h:pC w lb db lv e last v1 v2) (x:Ext w w'):pC w' lb db lv e last v1 v2:=
 (x.below.block lb (dG h)).trans h
theorem pC.setEpoch {w:World} {lb db:Nat} {lv e last:Int} {v1 v2:Value} (h:pC w lb db lv e last v1 v2) (e':Int):pC (w.setCell ⟨lb,2,none⟩ (vi e')) lb db lv e' last v1 v2:=by
 unfold pC;rw [mB h];rfl
theorem sector_read {F:Nat→Prop} {db kb kc nb nc n:Nat} {wv:Value} {d:Ch.Disk} {w:World} (h:iH w F db kb kc nb nc n wv d) (hd:d.down=false) (z:Int) (j:Nat) (s:ByteArray) (hz:Hid (z=(j:Int))) (hs:Hid (d.now[j]? = some s)):
  Calls Tryz.prog 90 #[.pointer (some ⟨db,0,none⟩),vi z] w fun e w'=>e = .returned (.tuple #[.string s,.nilIface])∧Ext w w':=by
 have hj:j<d.now.length:=(List.getElem?_eq_some_iff.1 hs.out).1
 have hr:d.read z=(s,0):=by
  unfold Ch.Disk.read;rw [hd,if_neg (by simp),if_neg (by have:=hz.out;omega),hz.out,List.getD_eq_getElem?_getD];rw [show ((j:Int)).toNat=j by omega,hs.out];rfl
 have:=read_any h z;rw [hr] at this;exact this
def yG (l:List ByteArray):Nat→Nat×Nat
 | 0=>(0,0)
 | k+1=>Ch.tells (l.getD k ⟨#[]⟩).data.toList (yG l k)
theorem unfour_part (s:ByteArray) (i:Nat) (h:i+4≤s.size):Ch.unfour (s.extract i (i+4)).data.toList 0=Ch.unfour s.data.toList i:=by
 have g:∀ j,j<4→Ch.byteOf (s.extract i (i+4)).data.toList j=Ch.byteOf s.data.toList (i+j):=by
  intro j hj;unfold Ch.byteOf;have hz:s.data.size=s.size:=rfl;rw [List.getD_eq_getElem?_getD,List.getD_eq_getElem?_getD];simp only [ByteArray.data_extract,Array.toList_extract,List.extract_eq_take_drop];rw [List.getElem?_take_of_lt (by omega),List.getElem?_drop]
 unfold Ch.unfour;rw [g 0 (by omega),g 1 (by omega),g 2 (by omega),g 3 (by omega)];rfl
theorem unfour_at (s:ByteArray) (v:Nat) (w:World) (hs:Hid (s.size=4)) (hv:Hid (Ch.unfour s.data.toList 0=v)):Calls Tryz.prog 91 #[.string s] w fun x w'=>x = .returned (vi (v:Int))∧Ext w w':=by
 have:=unfour_any s w hs.out;rw [hv.out] at this;exact this
theorem book_led {w:World} {lb db:Nat} {lv e last:Int} {a1 a2:Option Addr} {m1 c1 m2 c2:Nat} (l:List Ch.Stay) (js:List Ch.Job) (h:pC w lb db lv e last (.slice a1 m1 c1) (.slice a2 m2 c2)) (h1:Sl w 8 gA l a1 m1 c1) (h2:Sl w 2 jA js a2 m2 c2) (hm1:m1≤1000) (hm2:m2≤1000):
  Calls Tryz.prog 51 #[.pointer (some ⟨lb,0,none⟩)] w fun e w'=>∃ v1 v2,e = .returned (.agg #[vi last,v1,v2])∧eD w w' last l js v1 v2∧Ext w w':=by
 obtain ⟨c0,c1,c2,c3,c4,c5,fz⟩:=h.cells;have hb:=h.lt;have H1:=aA h1;have H2:=aA h2;clear h h1 h2;go_enter Tryz.func51,Tryz.ntmps51;go_wp2_with (go_at_call 96;(with_reducible refine (copy_any last a1 m1 _ a2 m2 _ l js _ (Sl.below H1.out (Ext.below eX)) (Sl.below H2.out (Ext.below eX)) hm1 hm2).mono ?_);rintro e w1 ⟨v1,v2,rfl,hob,hx⟩;obtain ⟨y1,d1,rfl,-⟩:=Sl.of_owns (c:=8) (enc:=gA) hob.stays (by decide) (fun _=>rfl);obtain ⟨y2,d2,rfl,-⟩:=Sl.of_owns (c:=2) (enc:=jA) hob.jobs (by decide) (fun _=>rfl);replace hob:=aA hob;replace hx:=aA hx;have r0:=eA hx.out (show World.cell? _ ⟨w.heap.size,0,none⟩=some (vi 0) by simp [go_sem]);have r1:=eA hx.out (show World.cell? _ ⟨w.heap.size,1,none⟩=some (.slice none 0 0) by simp [go_sem]);have r2:=eA hx.out (show World.cell? _ ⟨w.heap.size,2,none⟩=some (.slice none 0 0) by simp [go_sem]);have fr:=fun i=>kA hx.out (b:=w.heap.size) (o:=i) (by simp) (by simp [go_sem]);have zr:=dA r0);have hx1:Ext w w1:=(show Ext w _ from eX:Ext w _).trans hx.out;obtain ⟨p0,p1,p2,px⟩:=three_cells (x:=vi last) (y:=.slice y1 l.length d1) (z:=.slice y2 js.length d2) hx1 (Nat.le_refl _) r0 r1 r2
 have g1:(Value.slice y1 l.length d1).ownBlock≠some w.heap.size:=fun e=>by have:=(iD hob.out.stays e).1;rw [World.size_alloc] at this;omega
 have g2:(Value.slice y2 js.length d2).ownBlock≠some w.heap.size:=fun e=>by have:=(iD hob.out.jobs e).1;rw [World.size_alloc] at this;omega
 refine bodyPost_ret (v:=.agg #[vi last,.slice y1 l.length d1,.slice y2 js.length d2]) (by simp [results,Tryz.results51,go_sem,p0,p1,p2]) rfl ?_;exact ⟨_,_,rfl,⟨owns_three hob.out.stays (by simp) g1,owns_three hob.out.jobs (by simp) g2,hob.out.apart⟩,px⟩
def Opened (db:Nat) (lv:Int) (w:World) (r:Option (Nat×Ch.Book)) (e:Ending) (w':World):Prop:=
 match r with
 | none=>e = .returned (.tuple #[.pointer none,kB 4])∧Ext w w'
 | some (ep,b)=>∃ lb v1 v2,e = .returned (.tuple #[.pointer (some ⟨lb,0,none⟩),.nilIface])∧w.heap.size≤lb∧pC w' lb db lv (ep:Int) b.last v1 v2 ∧
   w'.ownsRow (lb+1) 141 8 v1 b.stays.length (b.stays.flatMap gA)∧w'.ownsRow (lb+1) 143 2 v2 b.jobs.length (b.jobs.flatMap jA)∧Ext w w'
theorem tells_le (s:List UInt8) (x:Nat×Nat) (h:x.2≤640):(Ch.tells s x).2≤640:=by
 unfold Ch.tells
 split
 ·rename_i hc;exact hc.2.2
 ·exact h
theorem newest_le (l:List ByteArray):(Ch.newest l).2≤640:=tells_le _ _ (tells_le _ _ (by decide))
theorem pC.setBook {w:World} {lb db:Nat} {lv e last:Int} {v1 v2:Value} (h:pC w lb db lv e last v1 v2) (l':Int) (v1' v2':Value):
  pC (((w.setCell ⟨lb,3,none⟩ (vi l')).setCell ⟨lb,4,none⟩ v1').setCell ⟨lb,5,none⟩ v2') lb db lv e l' v1' v2':=by
 unfold pC;rw [mB (mB (mB h))];rfl
theorem ledOpen_any {F:Nat→Prop} {db kb kc nb nc n:Nat} {wv:Value} {d:Ch.Disk} {w:World} (h:iH w F db kb kc nb nc n wv d) (hd:d.down=false) (hn:22≤n) (lv:Int) (l1:1≤lv) (l4:lv≤4) (L:Libs w):
  Calls Tryz.prog 48 #[.pointer (some ⟨db,0,none⟩),vi lv] w (Opened db lv w (Ch.openOf d.now lv)):=by
 have HD:=aA h;have HL:=aA L;have hdd:Hid (d.down=false):=hd
 have i22:¬ ((n:Int)<22):=by omega
 have HN:Hid (d.now.length=n):=h.wf.now;have HS:Hid (∀ s∈d.now,s.size=64):=h.wf.nowS;clear h L;go_enter Tryz.func48,Tryz.ntmps48
 go_upto_region 10 with (first
  | (go_at_call 89;(with_reducible refine (down_any (HD.out.ext eX)).mono ?_);rintro e w1 ⟨rfl,o1,n1,rfl⟩)
  | (go_at_call 42;(with_reducible refine (sB (HD.out.ext eX)).mono ?_);rintro e w1 ⟨rfl,o1,n1,rfl⟩))
 generalize hW:World.alloc _ _=w0;generalize hlb:w.heap.size+_=lb
 have hB:pC w0 lb db lv 0 0 (.slice none 0 0) (.slice none 0 0):=by
  rw [←hW,←hlb];unfold pC;exact sA _ _ _ (by simp)
 have hx:Ext w w0:=xQ hW;have HX:=aA hx;have HB:=aA hB
 have hle:w.heap.size≤lb:=by omega
 clear hW hlb hx hB
 go_loopw [7,37] (fun sz i wr=>∃ (k E S:Nat),k≤2∧i = .int .i64 (k:Int)∧sz = .int .i64 (S:Int)∧Hid (yG d.now k=(E,S))∧Hid (pC wr lb db lv (E:Int) 0 (.slice none 0 0) (.slice none 0 0))∧Hid (Ext w wr)) (fun _ i _=>2 - (intOf i).toNat)
 case atStart=>exact ⟨0,0,0,by omega,rfl,rfl,rfl,HB,HX⟩
 case round=>
  obtain ⟨k,E,S,hk,rfl,rfl,HE,HBr,HXr⟩:=hrel
  by_cases hlt:k<2
  ·obtain ⟨s,hs⟩:∃ s,d.now[k]? = some s:=⟨_,List.getElem?_eq_getElem (by have:=HN.out;omega)⟩
   have hz:s.size=64:=HS.out s (List.mem_of_getElem? hs);have HSK:=aA hs
   have i0:(0:Int)<((s.size:Nat):Int):=by omega
   have i5:(5:Int)≤((s.size:Nat):Int):=by omega
   have i9:(9:Int)≤((s.size:Nat):Int):=by omega
   obtain ⟨nn,hnn⟩:∃ nn,nn=Ch.unfour s.data.toList 1:=⟨_,rfl⟩
   obtain ⟨kk,hkk⟩:∃ kk,kk=Ch.unfour s.data.toList 5:=⟨_,rfl⟩
   have U1:Hid (Ch.unfour (s.extract 1 5).data.toList 0=nn):=by unfold Hid;rw [hnn];exact unfour_part s 1 (by omega)
   have U2:Hid (Ch.unfour (s.extract 5 9).data.toList 0=kk):=by unfold Hid;rw [hkk];exact unfour_part s 5 (by omega)
   have Z1:Hid ((s.extract 1 5).size=4):=by unfold Hid;rw [ByteArray.size_extract];omega
   have Z2:Hid ((s.extract 5 9).size=4):=by unfold Hid;rw [ByteArray.size_extract];omega
   have hz0:0<s.size:=by omega
   have HB0:Hid (Ch.byteOf s.data.toList 0=s[0].toNat):=by
    unfold Hid Ch.byteOf;rw [List.getD_eq_getElem?_getD,List.getElem?_eq_getElem (by rw [Array.length_toList];exact hz0)];rfl
   have HT:Hid (yG d.now (k+1)=if s[0].toNat=66∧E<nn∧kk≤640 then (nn,kk) else (E,S)):=by
    unfold Hid;rw [yG,HE.out,List.getD_eq_getElem?_getD,HSK.out];simp only [Option.getD_some];unfold Ch.tells;rw [HB0.out,←hnn,←hkk]
   have HZZ:=aA hz;have HNN:=aA hnn;have HKK:=aA hkk;clear hs hz hnn hkk;obtain ⟨c0,c1,c2,c3,c4,c5,fz⟩:=HBr.out.cells;have hbl:=HBr.out.lt
   go_upto_region 15 with (first
    | (go_at_call 90;(with_reducible refine (sector_read (HD.out.ext (HXr.out.trans eX)) hdd.out _ k s (by unfold Hid;rfl) HSK).mono ?_);rintro e w1 ⟨rfl,o1,n1,rfl⟩))
   (refine fA kR kR ?_;(repeat (first|go_big_quiet_step ((first|(intro _;go_at_call_of 91 (Value.string (s.extract 1 5));exact qC (unfour_at (s.extract 1 5) nn _ Z1 U1))|(intro _;go_at_call_of 91 (Value.string (s.extract 5 9));exact qC (unfour_at (s.extract 5 9) kk _ Z2 U2))))|quiet_step (fail)));refine wpQuiet_nil ?_;rintro _ ⟨oq,nq,rfl⟩)
   by_cases q1:s[0].toNat=66
   ·by_cases q2:E<nn
    ·by_cases q3:kk≤640
     ·have HR:Hid (yG d.now (k+1)=(nn,kk)):=by unfold Hid;rw [HT.out,if_pos ⟨q1,q2,q3⟩]
      have j1:((s[0].toNat:Nat):Int)=66:=by rw [q1];rfl
      have j2:(E:Int)<(nn:Int):=by omega
      have j3:(kk:Int)≤640:=by omega
      clear q1;go_wp2_with fail;exact ⟨⟨k+1,nn,kk,by omega,by go_num,rfl,HR,aA ((HBr.out.ext eX).setEpoch nn),aA (Ext.setCell (HXr.out.trans eX) hle _)⟩,by simp [intOf];omega⟩
     ·have HR:Hid (yG d.now (k+1)=(E,S)):=by unfold Hid;rw [HT.out,if_neg (fun h=>q3 h.2.2)]
      have j1:((s[0].toNat:Nat):Int)=66:=by rw [q1];rfl
      have j2:(E:Int)<(nn:Int):=by omega
      have j3:¬ (kk:Int)≤640:=by omega
      clear q1;go_wp2_with fail;exact ⟨⟨k+1,E,S,by omega,by go_num,rfl,HR,aA (HBr.out.ext eX),aA (HXr.out.trans eX)⟩,by simp [intOf];omega⟩
    ·have HR:Hid (yG d.now (k+1)=(E,S)):=by unfold Hid;rw [HT.out,if_neg (fun h=>q2 h.2.1)]
     have j1:((s[0].toNat:Nat):Int)=66:=by rw [q1];rfl
     have j2:¬ (E:Int)<(nn:Int):=by omega
     clear q1;go_wp2_with fail;exact ⟨⟨k+1,E,S,by omega,by go_num,rfl,HR,aA (HBr.out.ext eX),aA (HXr.out.trans eX)⟩,by simp [intOf];omega⟩
   ·have HR:Hid (yG d.now (k+1)=(E,S)):=by unfold Hid;rw [HT.out,if_neg (fun h=>q1 h.1)]
    have j1:¬ ((s[0].toNat:Nat):Int)=66:=by omega
    clear q1;go_wp2_with fail;exact ⟨⟨k+1,E,S,by omega,by go_num,rfl,HR,aA (HBr.out.ext eX),aA (HXr.out.trans eX)⟩,by simp [intOf];omega⟩
  ·have HE2:Hid (Ch.newest d.now=(E,S)):=by
    have e:k=2:=by omega
    have:=HE.out;rw [e] at this;exact this
   have hk2:¬ ((k:Int)<2):=by omega
   obtain ⟨c0,c1,c2,c3,c4,c5,fz⟩:=HBr.out.cells;have hbl:=HBr.out.lt
   by_cases hE0:E=0
   ·have j0:(E:Int)=0:=by omega
    have HO:Hid (Ch.openOf d.now lv=none):=by unfold Hid Ch.openOf;rw [HE2.out,if_pos hE0]
    go_wp2_with fail;refine bodyPost_ret (v:=.tuple #[.pointer none,.iface 92 (vi 4)]) (by simp [results,Tryz.results48,go_sem]) rfl ?_;rw [HO.out];exact ⟨rfl,HXr.out.trans eX⟩
   ·have j0:¬ (E:Int)=0:=by omega
    have HO:Hid (Ch.openOf d.now lv=(Ch.parseBook ((Ch.halfOf d.now E).take S) lv).map fun b=>(E,b)):=by unfold Hid Ch.openOf;rw [HE2.out,if_neg hE0]
    have hS:S≤640:=by have:=newest_le d.now;rw [HE2.out] at this;exact this
    obtain ⟨hh,hhe⟩:∃ hh,hh=E % 2:=⟨_,rfl⟩
    have hh1:(hh:Int)≤1:=by omega
    have hh0:(0:Int)≤(hh:Int):=by omega
    have e2:(E:Int).tmod 2=(hh:Int):=by rw [Int.tmod_eq_emod_of_nonneg (by omega)];omega
    have e3:(E:Int) % 2=(hh:Int):=by omega
    have HHE:=aA hhe;clear hhe hE0
    go_upto_region 23 with fail
    go_loopw [13,82] (fun t i wr=>∃ (k:Nat) (T:ByteArray),k≤10∧t = .string T∧i = .int .i64 (k:Int)∧Hid (T.data.toList=((d.now.drop (2+hh * 10)).take k).flatMap (·.data.toList))∧Hid (T.size=64 * k)∧Hid (pC wr lb db lv (E:Int) 0 (.slice none 0 0) (.slice none 0 0))∧Hid (Ext w wr)) (fun _ i _=>10 - (intOf i).toNat)
    case atStart=>exact ⟨0,⟨#[]⟩,by omega,rfl,rfl,rfl,rfl,HBr,HXr⟩
    case round=>
     obtain ⟨k',T,hk,rfl,rfl,HT,HTz,HBs,HXs⟩:=hrel;obtain ⟨c0,c1,c2,c3,c4,c5,fz⟩:=HBs.out.cells;have hbl:=HBs.out.lt
     by_cases hlt:k'<10
     ·have hh9:hh≤1:=by omega
      obtain ⟨s,hs⟩:∃ s,d.now[2+hh * 10+k']? = some s:=⟨_,List.getElem?_eq_getElem (by have:=HN.out;omega)⟩
      have hz:s.size=64:=HS.out s (List.mem_of_getElem? hs);have HSK:=aA hs
      have cr:∀ w,(Op.stringOp .add T s).run Tryz.prog w = .ok (.string (T++s)) w:=yB _ _ _ rfl (by have:=HTz.out;omega)
      have HT1:Hid ((T++s).data.toList=((d.now.drop (2+hh * 10)).take (k'+1)).flatMap (·.data.toList)):=by
       unfold Hid;rw [ba_append,HT.out,List.take_add_one,List.getElem?_drop,HSK.out];simp
      have HT2:Hid ((T++s).size=64 * (k'+1)):=by unfold Hid;rw [ByteArray.size_append,HTz.out];omega
      have hk0:(0:Int)≤(k':Int):=by omega
      have hk9:(k':Int)≤9:=by omega
      clear hs hz;generalize T++s=T2 at *
      go_wp2_with (first
       | (go_at_call 90;(with_reducible refine (sector_read (HD.out.ext (HXs.out.trans eX)) hdd.out _ (2+hh * 10+k') s (by unfold Hid;first|rfl|omega|(push_cast;omega)) HSK).mono ?_);rintro e w1 ⟨rfl,o1,n1,rfl⟩))
      refine ⟨?_,?_⟩
      ·exact ⟨k'+1,T2,by omega,rfl,by go_num,HT1,HT2,aA (HBs.out.ext eX),aA (HXs.out.trans eX)⟩
      ·simp [intOf]
       omega
     ·obtain rfl:k'=10:=by omega
      have HTT:Hid ((T.extract 0 S).data.toList=(Ch.halfOf d.now E).take S):=by
       unfold Hid Ch.halfOf;have e:=HT.out;rw [HHE.out] at e;rw [←e];simp only [ByteArray.data_extract,Array.toList_extract,List.extract_eq_take_drop,List.drop_zero,Nat.sub_zero]
      have hz:=HTz.out
      have HZ:Hid ((T.extract 0 S).size≤10000):=by unfold Hid;rw [ByteArray.size_extract];omega
      have s0:(0:Int)≤(S:Int):=by omega
      have s1:(S:Int)≤((T.size:Nat):Int):=by omega
      clear hz
      rcases hp:Ch.parseBook ((Ch.halfOf d.now E).take S) lv with _|b
      ·have HOO:Hid (Ch.openOf d.now lv=none):=by unfold Hid;rw [HO.out,hp];rfl
       have HP:Hid (parseV (Ch.parseBook (T.extract 0 S).data.toList lv)=(⟨0,[],[]⟩,4)):=by unfold Hid;rw [HTT.out,hp];rfl
       clear hp
       go_wp2_with (first
        | (go_at_call 92;(with_reducible refine (parse_any (T.extract 0 S) lv _ HZ.out (HL.out.ext (HXs.out.trans eX)) l4).mono ?_);rintro e wp ⟨v1,v2,rfl,o1',o2',-,hxp⟩;rw [HP.out] at o1' o2' ⊢;obtain ⟨y1,d1,rfl,-⟩:=Sl.of_owns (c:=8) (enc:=gA) o1' (by decide) (fun _=>rfl);obtain ⟨y2,d2,rfl,-⟩:=Sl.of_owns (c:=2) (enc:=jA) o2' (by decide) (fun _=>rfl);clear o1' o2';replace hxp:=aA hxp;dsimp only;rw [show kB 4=Value.iface 92 (vi 4) from rfl]))
       refine bodyPost_ret (v:=.tuple #[.pointer none,.iface 92 (vi 4)]) (by simp [results,Tryz.results48,go_sem]) rfl ?_;rw [HOO.out];exact ⟨rfl,(HXs.out.trans hxp.out).trans eX⟩
      ·have HOO:Hid (Ch.openOf d.now lv=some (E,b)):=by unfold Hid;rw [HO.out,hp];rfl
       have HP:Hid (parseV (Ch.parseBook (T.extract 0 S).data.toList lv)=(b,0)):=by unfold Hid;rw [HTT.out,hp];rfl
       clear hp
       go_upto_region 33 with (first
        | (go_at_call 92;(with_reducible refine (parse_any (T.extract 0 S) lv _ HZ.out (HL.out.ext (HXs.out.trans eX)) l4).mono ?_);rintro e wp ⟨v1,v2,rfl,o1',o2',-,hxp⟩;rw [HP.out] at o1' o2' ⊢;obtain ⟨y1,d1,rfl,-⟩:=Sl.of_owns (c:=8) (enc:=gA) o1' (by decide) (fun _=>rfl);obtain ⟨y2,d2,rfl,-⟩:=Sl.of_owns (c:=2) (enc:=jA) o2' (by decide) (fun _=>rfl);replace o1':=aA o1';replace o2':=aA o2';replace hxp:=aA hxp;dsimp only;rw [show kB 0=Value.nilIface from rfl]))
       generalize hW:World.alloc _ _=w4;generalize hA:wp.heap.size=A;have b0:w4.cell? ⟨A,0,none⟩=some (vi b.last):=cR hW hA;have b1:w4.cell? ⟨A,1,none⟩=some (.slice y1 b.stays.length d1):=cR hW hA;have b2:w4.cell? ⟨A,2,none⟩=some (.slice y2 b.jobs.length d2):=cR hW hA;have hx4:Ext wp w4:=xQ hW;have HX4:=aA ((HXs.out.trans hxp.out).trans hx4);have HB4:=aA (HBs.out.ext (hxp.out.trans hx4));have O1:=aA (mD o1'.out hx4);have O2:=aA (mD o2'.out hx4);have zl:lb<wr.heap.size:=HBs.out.lt
       have zA:lb<A:=by rw [←hA];have:=hxp.out.below.size;omega
       have h4:=HB4.out.cells;obtain ⟨e0,e1,e2',e3',e4,e5,fz4⟩:=h4;clear hW hA hx4;go_wp2_with fail;refine bodyPost_ret (v:=.tuple #[.pointer (some ⟨lb,0,none⟩),.nilIface]) (by simp [results,Tryz.results48,go_sem]) rfl ?_;rw [HOO.out]
       have n1':(Value.slice y1 b.stays.length d1).ownBlock≠some lb:=fun e=>by have:=(iD O1.out e).1;omega
       have n2':(Value.slice y2 b.jobs.length d2).ownBlock≠some lb:=fun e=>by have:=(iD O2.out e).1;omega
       exact ⟨lb,_,_,rfl,hle,HB4.out.setBook _ _ _,rA (pA (pA (pA O1.out _ n1') _ n1') _ n1') (by omega),rA (pA (pA (pA O2.out _ n2') _ n2') _ n2') (by omega),Ext.setCell (Ext.setCell (Ext.setCell HX4.out hle _) hle _) hle _⟩
