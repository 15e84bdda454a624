import Derived.Test.YtplomeacjbkgnabGreatDoorZ25
import Derived.Test.YtplomeacjbkgnabGreatDoorZ12
set_option linter.all false
set_option maxRecDepth 100000
set_option maxHeartbeats 16000000
namespace Go.Proofs.YtplomeacjbkgnabGreatDoor
open Go.RowKit Tryz Ch
abbrev rhCells (lv:Value) (rb:Nat) (last:Int) (a1:Option Addr) (m1 c1:Nat) (a2:Option Addr) (m2 c2:Nat) (gv:Value):Array Value:=#[lv,.pointer (some ⟨rb,0,none⟩),vi last,.slice a1 m1 c1,.slice a2 m2 c2,gv]
structure eL (w:World) (hb rb:Nat) (lv:Value) (last:Int) (a1:Option Addr) (m1 c1:Nat) (a2:Option Addr) (m2 c2:Nat) (gv:Value) (l:List sA) (js:List Job) (p:dA):Prop where
 blk:w.heap[hb]? = some (.cells (rhCells lv rb last a1 m1 c1 a2 m2 c2 gv) 52 (0,0))
 st:Sl w 8 iA l a1 m1 c1
 jb:Sl w 2 jA js a2 m2 c2
 pl:bB w rb p
theorem eL.ext {w w':World} {hb rb:Nat} {lv:Value} {last:Int} {a1:Option Addr} {m1 c1:Nat} {a2:Option Addr} {m2 c2:Nat} {gv:Value} {l:List sA} {js:List Job} {p:dA} (h:eL w hb rb lv last a1 m1 c1 a2 m2 c2 gv l js p) (x:Ext w w'):eL w' hb rb lv last a1 m1 c1 a2 m2 c2 gv l js p:=
 ⟨wN h.blk x,Sl.below h.st x.below,Sl.below h.jb x.below,h.pl.ext x⟩
theorem eL.cells {w:World} {hb rb:Nat} {lv:Value} {last:Int} {a1:Option Addr} {m1 c1:Nat} {a2:Option Addr} {m2 c2:Nat} {gv:Value} {l:List sA} {js:List Job} {p:dA} (h:eL w hb rb lv last a1 m1 c1 a2 m2 c2 gv l js p):
  w.cell? ⟨hb,0,none⟩=some lv/\w.cell? ⟨hb,1,none⟩=some (.pointer (some ⟨rb,0,none⟩))/\w.cell? ⟨hb,2,none⟩=some (vi last)/\w.cell? ⟨hb,3,none⟩=some (.slice a1 m1 c1)/\w.cell? ⟨hb,4,none⟩=some (.slice a2 m2 c2)/\w.cell? ⟨hb,5,none⟩=some gv:=
 ⟨tA h.blk rfl,tA h.blk rfl,tA h.blk rfl,tA h.blk rfl,tA h.blk rfl,tA h.blk rfl⟩
theorem find_ticket {last t:Int} {l:List sA} {js:List Job} {s:sA} (ht:t≠0) (hm:∃ x∈l,x.ticket=t) (hs:(⟨last,l,js⟩:gB).stay t=s):l.find? (rD t 0)=some s:=by
 obtain ⟨i,s',-,hl,h1,h2⟩:=stay_at (last:=last) (js:=js) hm
 have e:l.find? (rD t 0)=l.find? (fun s=>s.ticket==t):=by
  congr 1
  funext x
  unfold rD
  have:(t==0)=false:=by simpa using ht
  rw [this];simp
 rw [e];unfold gB.stay gB.find at hs;dsimp only at hs
 cases hf:l.find? (fun s=>s.ticket==t) with
 | none=>
  obtain ⟨x,hx,hxt⟩:=hm;have:=List.find?_eq_none.1 hf x hx;simp [hxt] at this
 | some y=>rw [hf] at hs;exact congrArg some hs
theorem aN (st si x1 x2 x3 u1 u2 u3:Int) (last t:Int) (a1:Option Addr) (m1 c1:Nat) (a2:Option Addr) (m2 c2:Nat) (l:List sA) (js:List Job) (w:World) (h:Sl w 8 iA l a1 m1 c1) (ht:Hid (t≠0)) (hm:Hid (∃ x∈l,x.ticket=t))
  (hs:Hid ((⟨last,l,js⟩:gB).stay t=⟨st,⟨si,⟨x1,x2,x3⟩⟩,⟨u1,u2,u3⟩⟩)):
  Calls prog 100 #[lC last a1 m1 c1 a2 m2 c2,vi t,vi 0] w fun e w'=>e = .returned (.tuple #[.agg #[vi st,vi si,vi x1,vi x2,vi x3,vi u1,vi u2,vi u3],.bool true])/\Ext w w':=by
 have:=bO last t 0 a1 m1 c1 a2 m2 c2 l w h;rw [find_ticket ht.out hm.out hs.out] at this;exact this
theorem iE (jt:Int) (jf is:Bool) {w:World} {hb rb:Nat} {lv:Value} {last:Int} {a1:Option Addr} {m1 c1:Nat} {a2:Option Addr} {m2 c2:Nat} {gv:Value} {l:List sA} {js:List Job} {p:dA} (hh:eL w hb rb lv last a1 m1 c1 a2 m2 c2 gv l js p)
    (hj:Hid (∀ j∈js,∃ s∈l,s.ticket=j.ticket)) (h0:Hid (∀ s∈l,s.ticket≠0)) (ba:Int) (hba:Hid (p.bay=ba)) (hv:Hid (pC (sB ⟨last,l,js⟩ ba)=(jt,jf,is))):
    Calls prog 125 #[.pointer (some ⟨hb,0,none⟩)] w fun e w'=>e = .returned (.tuple #[.agg #[vi jt,.bool jf],.bool is])/\Ext w w':=by
  obtain ⟨c0,q1',q2',q3',q4',q5'⟩:=hh.cells;have b1:=hh.st.bound;have b2:=hh.jb.bound;have hbl:=cA q2';have E1:=aA hh.st.len;have E2:=aA hh.jb.len;have HH:=aA hh;have pb6:=hh.pl.cells.2.2.2.2.2.2.1;clear hh c0 q5';rw [hba.out] at pb6;go_enter func125,ntmps125
  go_upto_region 2 with fail
  generalize hW:World.alloc _ _=w0;have hx:Ext w w0:=xQ hW;obtain ⟨k1,k2,k3,k4,k6⟩:=xe5 hx q1' q2' q3' q4' pb6;have r0:cI w0 w.heap.size 0 0:=cQ hW;have r1:cV w0 w.heap.size 1 (.bool false):=cQ hW
  have fz:∀ i,w0.frozen? ⟨w.heap.size,i,none⟩=false:=by intro i;rw [<-hW];simp [go_sem]
  have FZ:=aA fz;have HS:=aA (Sl.below HH.out.st hx.below);have HK:=aA (Sl.below HH.out.jb hx.below);have HX:=aA hx;have z1:=cA k1;have z2:=cA r0;have z3:=cA k6;clear hW hx HH fz q1' q2' q3' q4' pb6
  go_loopw [4] (fun i wr=>∃ k:Nat,k<=m2/\i = .int .i64 k/\Hid (js.find? (wM ⟨last,l,js⟩ ba)=(js.drop k).find? (wM ⟨last,l,js⟩ ba))/\Ext w0 wr) (fun i _=>m2 - (intOf i).toNat)
  case atStart=>exact ⟨0,om,rfl,by simp [Hid],eX⟩
  case round =>
    obtain ⟨k,hk,rfl,HT,o,m,rfl⟩:=hrel
    by_cases hlt:k<m2
    · obtain ⟨b,q,j,rfl,hj',dj⟩:=HK.out.get hlt
      have dj:=at2 dj;have hq:=cA dj.1;obtain ⟨t,f⟩:=j;dsimp only at dj
      have hk0:(0:Int)<=(k:Int):=om
      have hk1:(k:Int)<=(m2:Int):=om
      have hk2:(k:Int)<=(c2:Int):=om
      have HT2:=find_drop (P:=wM ⟨last,l,js⟩ ba) hj';have HTM:Hid (∃ s∈l,s.ticket=t):=hj.out _ (List.mem_of_getElem? hj')
      have HT0:Hid (t≠0):=by
        obtain ⟨s,hs,e⟩:=HTM.out;rw [<-e];exact h0.out s hs
      obtain ⟨⟨st,⟨sid,⟨sl1,sl2,sl3⟩⟩,⟨sp1,sp2,sp3⟩⟩,HST⟩:∃ s,Hid ((⟨last,l,js⟩:gB).stay t=s):=⟨_,rfl⟩
      cases f
      · cases hb':decide (sid=ba)
        · have hbb:¬ sid=ba:=of_decide_eq_false hb'
          have HR:Hid (js.find? (wM ⟨last,l,js⟩ ba)=(js.drop (k+1)).find? (wM ⟨last,l,js⟩ ba)):=by
            unfold Hid;rw [HT.out,HT2,if_neg];simp [wM,HST.out,hbb]
          clear HT2 hj' HT;clear hb'
          go_upto_region 5 with fail
          generalize hW:World.alloc _ _=w3;generalize hJ:w0.heap.size+o.size=J;have f0':cI w3 J 0 t:=cR hW hJ;have f1':cV w3 J 1 (.bool false):=cR hW hJ;have hx3:Ext w0 w3:=xQ hW;have HX3:=aA hx3;obtain ⟨g1,g2,g3,g4,g6,y0,y1⟩:=xe7 hx3 k1 k2 k3 k4 k6 r0 r1;have fy0:=kA hx3 (cA r0) (FZ.out 0);have fy1:=kA hx3 (cA r0) (FZ.out 1);have gz:=cA f0';have gz0:=cA g1;have gz1:=cA y0;have gz3:=cA g6;clear hW hJ hx3
          go_region_held3 (fun w'=>w'.cell? ⟨hb,2,none⟩=some (vi last)/\w'.cell? ⟨hb,3,none⟩=some (.slice a1 m1 c1)/\w'.cell? ⟨hb,4,none⟩=some (.slice (some ⟨b,q,none⟩) m2 c2)/\w'.cell? ⟨J,0,none⟩=some (vi t)) (first|((try dsimp only);(repeat' apply And.intro) <;> exact xC (w:=w3))) (first|(go_at_call 100;with_reducible refine mo (aN st sid sl1 sl2 sl3 sp1 sp2 sp3 _ _ _ _ _ _ _ _ l js _ (Sl.below HS.out (HX3.out.trans eX).below) HT0 HTM HST) fun o1 n1=>?_))
          all_goals
            first
            | (generalize hW:World.setCell _ _ _=w5
               obtain ⟨-,s1,-,-,-,-,-,-,hx5⟩:=rJ (w:=w3) hW eX sp (by rw [dB _ _ _ _ sp];exact pA _ _ _ sp) rfl
               clear hW)
            | (generalize hW:World.alloc _ _=w5
               generalize hA:w3.heap.size+_=A
               have hx5:Ext w3 w5:=xQ hW
               have s1:cI w5 A 1 sid:=cR hW hA
               clear hW hA)
            have HX5:=aA hx5;obtain ⟨v1,v6,vf0,vf1,vy0,vy1⟩:=xe6 hx5 g1 g6 f0' f1' y0 y1;have vz0:=kA hx5 gz1 fy0;have vz1:=kA hx5 gz1 fy1;have vl1:=cA v1;have vl6:=cA v6;have vlf:=cA vf0;have vly:=cA vy0;have vls:=cA s1;clear hx5 g1 g2 g3 g4 g6 f0' f1' y0 y1 fy0 fy1 gz gz0 gz1 gz3
            go_upto_region 6 with fail
            (refine qF ?_;rintro _ ⟨oq,nq,rfl⟩)
            go_wp2;go_roundw
            case rel=>first|exact ⟨k+1,om,by go_num,by unfold Hid;rw [HR.out],HX3.out.trans (HX5.out.trans eX)⟩|(repeat apply Exists.intro;refine ⟨?_,rfl⟩;exact ⟨k+1,om,by go_num,by unfold Hid;rw [HR.out],HX3.out.trans (HX5.out.trans eX)⟩)
            case measure=>simp [intOf];omega
        · have hbb:sid=ba:=of_decide_eq_true hb'
          have hF:=hv.out;rw [first_hit (j:=⟨t,false⟩) (by rw [HT.out,HT2,if_pos];simp [wM,HST.out,hbb])] at hF;simp only [pC,Prod.mk.injEq] at hF;obtain ⟨rfl,rfl,rfl⟩:=hF;subst hbb;clear hb' HT2 hj' HT
          go_upto_region 5 with fail
          generalize hW:World.alloc _ _=w3;generalize hJ:w0.heap.size+o.size=J;have f0':cI w3 J 0 t:=cR hW hJ;have f1':cV w3 J 1 (.bool false):=cR hW hJ;have hx3:Ext w0 w3:=xQ hW;have HX3:=aA hx3;obtain ⟨g1,g2,g3,g4,g6,y0,y1⟩:=xe7 hx3 k1 k2 k3 k4 k6 r0 r1;have fy0:=kA hx3 (cA r0) (FZ.out 0);have fy1:=kA hx3 (cA r0) (FZ.out 1);have gz:=cA f0';have gz0:=cA g1;have gz1:=cA y0;have gz3:=cA g6;clear hW hJ hx3
          go_region_held3 (fun w'=>w'.cell? ⟨hb,2,none⟩=some (vi last)/\w'.cell? ⟨hb,3,none⟩=some (.slice a1 m1 c1)/\w'.cell? ⟨hb,4,none⟩=some (.slice (some ⟨b,q,none⟩) m2 c2)/\w'.cell? ⟨J,0,none⟩=some (vi t)) (first|((try dsimp only);(repeat' apply And.intro) <;> exact xC (w:=w3))) (first|(go_at_call 100;with_reducible refine mo (aN st sid sl1 sl2 sl3 sp1 sp2 sp3 _ _ _ _ _ _ _ _ l js _ (Sl.below HS.out (HX3.out.trans eX).below) HT0 HTM HST) fun o1 n1=>?_))
          all_goals
            first
            | (generalize hW:World.setCell _ _ _=w5
               obtain ⟨-,s1,-,-,-,-,-,-,hx5⟩:=rJ (w:=w3) hW eX sp (by rw [dB _ _ _ _ sp];exact pA _ _ _ sp) rfl
               clear hW)
            | (generalize hW:World.alloc _ _=w5
               generalize hA:w3.heap.size+_=A
               have hx5:Ext w3 w5:=xQ hW
               have s1:cI w5 A 1 sid:=cR hW hA
               clear hW hA)
            have HX5:=aA hx5;obtain ⟨v1,v6,vf0,vf1,vy0,vy1⟩:=xe6 hx5 g1 g6 f0' f1' y0 y1;have vz0:=kA hx5 gz1 fy0;have vz1:=kA hx5 gz1 fy1;have vl1:=cA v1;have vl6:=cA v6;have vlf:=cA vf0;have vly:=cA vy0;have vls:=cA s1;clear hx5 g1 g2 g3 g4 g6 f0' f1' y0 y1 fy0 fy1 gz gz0 gz1 gz3
            go_upto_region 6 with fail
            (refine qF ?_;rintro _ ⟨oq,nq,rfl⟩)
            go_wp2;obtain ⟨p0,p1,px⟩:=put2 (w:=w) (x:=vi t) (y:=.bool false) (HX.out.trans (HX3.out.trans (HX5.out.trans (show Ext w5 (w5.plus oq nq) from eX)))) (Nat.le_refl _) (gA (show Ext w5 (w5.plus oq nq) from eX) vy0) (gA (show Ext w5 (w5.plus oq nq) from eX) vy1);refine bodyPost_ret (v:=.tuple #[.agg #[vi t,.bool false],.bool true]) (by simp [results,results125,go_sem,p0,p1]) rfl ⟨rfl,px⟩
      · have HR:Hid (js.find? (wM ⟨last,l,js⟩ ba)=(js.drop (k+1)).find? (wM ⟨last,l,js⟩ ba)):=by
          unfold Hid;rw [HT.out,HT2,if_neg];simp [wM]
        clear HT2 hj' HT
        go_upto_region 5 with fail
        generalize hW:World.alloc _ _=w3;generalize hJ:w0.heap.size+o.size=J;have f0':cI w3 J 0 t:=cR hW hJ;have f1':cV w3 J 1 (.bool true):=cR hW hJ;have hx3:Ext w0 w3:=xQ hW;have HX3:=aA hx3;obtain ⟨g1,g2,g3,g4,g6,y0,y1⟩:=xe7 hx3 k1 k2 k3 k4 k6 r0 r1;have fy0:=kA hx3 (cA r0) (FZ.out 0);have fy1:=kA hx3 (cA r0) (FZ.out 1);have gz:=cA f0';have gz0:=cA g1;have gz1:=cA y0;have gz3:=cA g6;clear hW hJ hx3
        go_region_held3 (fun w'=>w'.cell? ⟨hb,2,none⟩=some (vi last)/\w'.cell? ⟨hb,3,none⟩=some (.slice a1 m1 c1)/\w'.cell? ⟨hb,4,none⟩=some (.slice (some ⟨b,q,none⟩) m2 c2)/\w'.cell? ⟨J,0,none⟩=some (vi t)) (first|((try dsimp only);(repeat' apply And.intro) <;> exact xC (w:=w3))) (first|(go_at_call 100;with_reducible refine mo (aN st sid sl1 sl2 sl3 sp1 sp2 sp3 _ _ _ _ _ _ _ _ l js _ (Sl.below HS.out (HX3.out.trans eX).below) HT0 HTM HST) fun o1 n1=>?_))
        all_goals
          first
          | (generalize hW:World.setCell _ _ _=w5
             obtain ⟨-,s1,-,-,-,-,-,-,hx5⟩:=rJ (w:=w3) hW eX sp (by rw [dB _ _ _ _ sp];exact pA _ _ _ sp) rfl
             clear hW)
          | (generalize hW:World.alloc _ _=w5
             generalize hA:w3.heap.size+_=A
             have hx5:Ext w3 w5:=xQ hW
             have s1:cI w5 A 1 sid:=cR hW hA
             clear hW hA)
          have HX5:=aA hx5;obtain ⟨v1,v6,vf0,vf1,vy0,vy1⟩:=xe6 hx5 g1 g6 f0' f1' y0 y1;have vz0:=kA hx5 gz1 fy0;have vz1:=kA hx5 gz1 fy1;have vl1:=cA v1;have vl6:=cA v6;have vlf:=cA vf0;have vly:=cA vy0;have vls:=cA s1;clear hx5 g1 g2 g3 g4 g6 f0' f1' y0 y1 fy0 fy1 gz gz0 gz1 gz3
          go_upto_region 6 with fail
          (refine qF ?_;rintro _ ⟨oq,nq,rfl⟩)
          go_wp2;go_roundw
          case rel=>first|exact ⟨k+1,om,by go_num,by unfold Hid;rw [HR.out],HX3.out.trans (HX5.out.trans eX)⟩|(repeat apply Exists.intro;refine ⟨?_,rfl⟩;exact ⟨k+1,om,by go_num,by unfold Hid;rw [HR.out],HX3.out.trans (HX5.out.trans eX)⟩)
          case measure=>simp [intOf];omega
    · have y0:=FZ.out 0
      have y1:=FZ.out 1
      have hk':k=m2:=om
      have hF:=hv.out;rw [first_miss (by rw [HT.out,List.drop_of_length_le (by have:=E2.out;omega)];rfl)] at hF;clear HT
      cases js with
      | nil=>
        have hm0:m2=0:=by have:=E2.out;simpa using this.symm
        simp only [List.head?_nil,pC,Prod.mk.injEq] at hF;obtain ⟨rfl,rfl,rfl⟩:=hF;subst hm0;go_wp2;obtain ⟨p0,p1,px⟩:=put2 (w:=w) (x:=vi 0) (y:=.bool false) (HX.out.trans (show Ext w0 (w0.plus o m) from eX)) (Nat.le_refl _) (gA (show Ext w0 (w0.plus o m) from eX) r0) (gA (show Ext w0 (w0.plus o m) from eX) r1);refine bodyPost_ret (v:=.tuple #[.agg #[vi 0,.bool false],.bool false]) (by simp [results,results125,go_sem,p0,p1]) rfl ⟨rfl,px⟩
      | cons j js=>
        have hm0:0<m2:=by have:=E2.out;simp at this;omega
        simp only [List.head?_cons,pC,Prod.mk.injEq] at hF;obtain ⟨b,q,j',rfl,hj',dj⟩:=HK.out.get hm0;simp only [List.getElem?_cons_zero,Option.some.injEq] at hj';subst hj';obtain ⟨t,f⟩:=j;dsimp only at hF;obtain ⟨rfl,rfl,rfl⟩:=hF;have dj:=at2 dj;have hq:=cA dj.1
        have hmi:(0:Int)<(m2:Int):=om
        have hmn:¬ (m2:Int)=0:=om
        have hmc:(m2:Int)<=(c2:Int):=om
        simp only [Nat.zero_mul,Nat.add_zero] at dj;go_wp2;obtain ⟨p0,p1,px⟩:=put2 (w:=w) (x:=vi t) (y:=.bool f) (HX.out.trans (show Ext w0 (w0.plus o m) from eX)) (Nat.le_refl _) (gA (show Ext w0 (w0.plus o m) from eX) r0) (gA (show Ext w0 (w0.plus o m) from eX) r1);refine bodyPost_ret (v:=.tuple #[.agg #[vi t,.bool f],.bool true]) (by simp [results,results125,go_sem,p0,p1]) rfl ⟨rfl,px⟩
theorem cD {rb:Nat} {p:dA} {w:World} (h:bB w rb p) (hp:p.WF) (a b c v:Int) (hv:Hid (p.slots ⟨a,b,c⟩=v)):
  Calls prog 74 #[.pointer (some ⟨rb,0,none⟩),.agg #[vi a,vi b,vi c]] w fun r w'=>r = .returned (vi v)/\Ext w w':=by
 have:=rat_any h hp a b c;rw [hv.out] at this;exact this
theorem tD (V:Bool) (xt xi x1 x2 x3 u1 u2 u3 jt:Int) (jf:Bool) {w:World} {hb rb:Nat} {lv:Value} {last:Int} {a1:Option Addr} {m1 c1:Nat} {a2:Option Addr} {m2 c2:Nat} {gv:Value} {l:List sA} {js:List Job} {p:dA} (hh:eL w hb rb lv last a1 m1 c1 a2 m2 c2 gv l js p) (hwf:p.WF)
    (hj:Hid (∃ s∈l,s.ticket=jt)) (h0:Hid (jt≠0)) (hv:Hid (bE ⟨last,l,js⟩ p ⟨xt,⟨xi,⟨x1,x2,x3⟩⟩,⟨u1,u2,u3⟩⟩ ⟨jt,jf⟩=V)):
    Calls prog 128 #[.pointer (some ⟨hb,0,none⟩),.agg #[vi xt,vi xi,vi x1,vi x2,vi x3,vi u1,vi u2,vi u3],.agg #[vi jt,.bool jf]] w fun e w'=>e = .returned (.bool V)/\Ext w w':=by
  obtain ⟨c0,q1',q2',q3',q4',q5'⟩:=hh.cells;have b1:=hh.st.bound;have HH:=aA hh
  obtain ⟨⟨yt,⟨yi,⟨y1,y2,y3⟩⟩,⟨v1,v2,v3⟩⟩,HST⟩:∃ s,Hid ((⟨last,l,js⟩:gB).stay jt=s):=⟨_,rfl⟩
  have HV:Hid ((jf&&v3==1&&decide ((⟨v1,v2,0⟩:pB)=⟨u1,u2,u3⟩)&&p.slots ⟨v1,v2,v3⟩==yi)=V):=by
    unfold Hid;rw [<-hv.out];unfold bE aH;rw [HST.out];rfl
  clear hh c0 q5' hv;go_enter func128,ntmps128
  go_upto_region 1 with fail
  generalize hW:World.alloc _ _=w0;have xx0:cI w0 w.heap.size 0 xt:=cQ hW;have xx1:cI w0 w.heap.size 1 xi:=cQ hW;have xx2:cI w0 w.heap.size 2 x1:=cQ hW;have xx3:cI w0 w.heap.size 3 x2:=cQ hW;have xx4:cI w0 w.heap.size 4 x3:=cQ hW;have xx5:cI w0 w.heap.size 5 u1:=cQ hW;have xx6:cI w0 w.heap.size 6 u2:=cQ hW;have xx7:cI w0 w.heap.size 7 u3:=cQ hW;have jj0:cI w0 (w.heap.size+1) 0 jt:=cQ hW;have jj1:cV w0 (w.heap.size+1) 1 (.bool jf):=cQ hW;have hx:Ext w w0:=xQ hW;obtain ⟨k1,k2,k3,k4⟩:=xe4 hx q1' q2' q3' q4';have HS:=aA (Sl.below HH.out.st hx.below);have HP1:=aA (HH.out.pl.ext hx);have HX:=aA hx;have z1:=cA k1;have z2:=cA xx0;have z3:=cA jj0;clear hW hx HH q1' q2' q3' q4'
  go_region_held3 (fun w'=>w'.cell? ⟨hb,2,none⟩=some (vi last)/\w'.cell? ⟨hb,3,none⟩=some (.slice a1 m1 c1)/\w'.cell? ⟨hb,4,none⟩=some (.slice a2 m2 c2)/\w'.cell? ⟨w.heap.size+1,0,none⟩=some (vi jt)) (first|((try dsimp only);(repeat' apply And.intro) <;> exact xC (w:=w0))) (first|(go_at_call 100;with_reducible refine mo (aN yt yi y1 y2 y3 v1 v2 v3 _ _ _ _ _ _ _ _ l js _ (Sl.below HS.out (Ext.below eX)) h0 hj HST) fun o1 n1=>?_))
  all_goals
    first
    | (generalize hW:World.setCell _ _ _=w2
       obtain ⟨yy0,yy1,yy2,yy3,yy4,yy5,yy6,yy7,hx2⟩:=rJ (w:=w0) hW eX (Nat.le_refl _) (by rw [dB _ _ _ _ sp];exact pA _ _ _ rfl) rfl
       clear hW)
    | (generalize hW:World.alloc _ _=w2
       generalize hA:w0.heap.size+_=A
       have hx2:Ext w0 w2:=xQ hW
       have yy0:cI w2 A 0 yt:=cR hW hA
       have yy1:cI w2 A 1 yi:=cR hW hA
       have yy2:cI w2 A 2 y1:=cR hW hA
       have yy3:cI w2 A 3 y2:=cR hW hA
       have yy4:cI w2 A 4 y3:=cR hW hA
       have yy5:cI w2 A 5 v1:=cR hW hA
       have yy6:cI w2 A 6 v2:=cR hW hA
       have yy7:cI w2 A 7 v3:=cR hW hA
       clear hW hA)
    obtain ⟨r1,rx5,rx6,rx7,rj0,rj1⟩:=xe6 hx2 k1 xx5 xx6 xx7 jj0 jj1;have HX2:=aA (HX.out.trans hx2);have HP2:=aA (HP1.out.ext hx2);clear hx2 HS HP1 HX k1 k2 k3 k4 xx0 xx1 xx2 xx3 xx4 xx5 xx6 xx7 jj0 jj1 z1 z2 z3;have w1:=cA r1;have w2':=cA rx5;have w3:=cA rj0;have w4:=cA yy0
    go_upto_region 3 with fail
    generalize hW:World.alloc _ _=w5;generalize hF:w2.heap.size=F;have hx5:Ext w2 w5:=xQ hW;have ff0:cI w5 F 0 v1:=cR hW hF;have ff1:cI w5 F 1 v2:=cR hW hF;have ff2:cI w5 F 2 v3:=cR hW hF
    have fff:w5.frozen? ⟨F,2,none⟩=false:=by rw [<-hW,<-hF];simp [go_sem]
    have hFl:w2.heap.size<=F:=om
    clear hW hF
    go_upto_region 4 with fail
    generalize hW:World.setCell _ _ _=w6
    have n20:(⟨F,2,none⟩:Addr)≠⟨F,0,none⟩:=by intro e;cases e
    have n21:(⟨F,2,none⟩:Addr)≠⟨F,1,none⟩:=by intro e;cases e
    have gf0:w6.cell? ⟨F,0,none⟩=some (vi v1):=by rw [<-hW,World.cell?_setCell_other (h:=n20)];exact ff0
    have gf1:w6.cell? ⟨F,1,none⟩=some (vi v2):=by rw [<-hW,World.cell?_setCell_other (h:=n21)];exact ff1
    have gf2:w6.cell? ⟨F,2,none⟩=some (vi 0):=by rw [<-hW,World.cell?_setCell_same (h:=ff2)]
    have hx6:Ext w2 w6:=by rw [<-hW];exact Ext.setCell hx5 hFl _
    clear hW ff0 ff1 ff2 fff hx5 n20 n21;obtain ⟨t1,tx5,tx6,tx7,tj1,ty1,ty5,ty6,ty7⟩:=xe9 hx6 r1 rx5 rx6 rx7 rj1 yy1 yy5 yy6 yy7;have HX6:=aA (HX2.out.trans hx6);have HP6:=aA (HP2.out.ext hx6);have l1:=cA t1;have l2:=cA tx5;have l3:=cA tj1;have l4:=cA ty1;have l5:=cA gf0;clear hx6 r1 rx5 rx6 rx7 rj0 rj1 yy0 yy1 yy2 yy3 yy4 yy5 yy6 yy7 w1 w2' w3 w4 HP2 HX2;cases jf
    · (refine qF ?_;rintro _ ⟨oq,nq,rfl⟩)
      go_wp2;go_ret;exact ⟨by rw [<-HV.out];simp,HX6.out.trans eX⟩
    · by_cases h3:v3=1
      · subst h3
        cases hc:decide ((⟨v1,v2,0⟩:pB)=⟨u1,u2,u3⟩)
        · have hq:∀ w,(Go.binOp .eql 89 (.agg #[vi v1,vi v2,vi 0]) (.agg #[vi u1,vi u2,vi u3])).run prog w = .ok (.bool false) w:=fun w=>by rw [mJ w (fN w 9998 ⟨v1,v2,0⟩ ⟨u1,u2,u3⟩),hc]
          (refine qF ?_;rintro _ ⟨oq,nq,rfl⟩)
          go_wp2;go_ret;exact ⟨by rw [<-HV.out,hc];simp,HX6.out.trans eX⟩
        · have hq:∀ w,(Go.binOp .eql 89 (.agg #[vi v1,vi v2,vi 0]) (.agg #[vi u1,vi u2,vi u3])).run prog w = .ok (.bool true) w:=fun w=>by rw [mJ w (fN w 9998 ⟨v1,v2,0⟩ ⟨u1,u2,u3⟩),hc]
          obtain ⟨sv,HSV⟩:∃ sv,Hid (p.slots ⟨v1,v2,1⟩=sv):=⟨_,rfl⟩
          by_cases hy:sv=yi
          · subst hy
            (refine rA kR kR ?_;(repeat (first|go_big_quiet_step ((first|(intro _;go_at_call 74;exact qC (cD (HP6.out.ext eX) hwf _ _ _ sv HSV))))|quiet_step (fail)));refine wpQuiet_nil ?_;rintro _ ⟨oq,nq,rfl⟩)
            go_wp2;go_ret;exact ⟨by rw [<-HV.out,hc,HSV.out];simp,HX6.out.trans eX⟩
          · (refine rA kR kR ?_;(repeat (first|go_big_quiet_step ((first|(intro _;go_at_call 74;exact qC (cD (HP6.out.ext eX) hwf _ _ _ sv HSV))))|quiet_step (fail)));refine wpQuiet_nil ?_;rintro _ ⟨oq,nq,rfl⟩)
            go_wp2;go_ret;exact ⟨by rw [<-HV.out,hc,HSV.out];simp [hy],HX6.out.trans eX⟩
      · (refine qF ?_;rintro _ ⟨oq,nq,rfl⟩)
        go_wp2;go_ret;exact ⟨by rw [<-HV.out];simp [h3],HX6.out.trans eX⟩
