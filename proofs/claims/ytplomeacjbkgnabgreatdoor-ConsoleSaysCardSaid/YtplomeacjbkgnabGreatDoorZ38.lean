import Derived.Test.YtplomeacjbkgnabGreatDoorZ37
set_option linter.all false
set_option maxRecDepth 100000
set_option maxHeartbeats 16000000
namespace Go.Proofs.YtplomeacjbkgnabGreatDoor
open Go.RowKit Tryz
open Ch hiding Act
attribute [local go_sem] Oper.semAt_some
structure LedIn (w:World) (F:Nat->Prop) (lb db n:Nat) (lv:Int) (e:Nat) (b:gB) (v1 v2:Value) (d:aB):Prop where
 blk:kE w lb db lv (e:Int) b.last v1 v2
 disk:gH w F db n d
 far:¬ F lb
theorem gen_err {w0:World} {Q:Exit->Act->World->Prop} {e:Exit} {a:Act} {W:World} {E:Nat} {v:Value} (hp:Ext w0 W/\W.cell? ⟨E,0,none⟩=some v/\W.frozen? ⟨E,0,none⟩=false)
  (h:∀ w3,Ext w0 w3/\w3.cell? ⟨E,0,none⟩=some v/\w3.frozen? ⟨E,0,none⟩=false->Q e a w3):Q e a W:=h W hp
theorem new_cell1 (w0:World) (o:Array Obj) (n:Nat) (v:Value) (t:TypeId):
  Ext w0 ((w0.drew.plus o n).alloc (.cells #[v] t))/\((w0.drew.plus o n).alloc (.cells #[v] t)).cell? ⟨w0.heap.size+o.size,0,none⟩=some v/\((w0.drew.plus o n).alloc (.cells #[v] t)).frozen? ⟨w0.heap.size+o.size,0,none⟩=false:=by
 have h:((w0.drew.plus o n).alloc (.cells #[v] t)).heap[w0.heap.size+o.size]? = some (.cells #[v] t (0,0)):=pA _ _ _ sp;exact ⟨eX,kD h rfl,wJ h 0⟩
theorem new_cell2 (w0:World) (o:Array Obj) (n:Nat) (u v:Value) (t:TypeId):
  Ext w0 (((w0.alloc (.cells #[u] t)).drew.plus o n).setCell ⟨w0.heap.size,0,none⟩ v)/\(((w0.alloc (.cells #[u] t)).drew.plus o n).setCell ⟨w0.heap.size,0,none⟩ v).cell? ⟨w0.heap.size,0,none⟩=some v/\(((w0.alloc (.cells #[u] t)).drew.plus o n).setCell ⟨w0.heap.size,0,none⟩ v).frozen? ⟨w0.heap.size,0,none⟩=false:=by
 have h0:(w0.alloc (.cells #[u] t)).heap[w0.heap.size]? = some (.cells #[u] t (0,0)):=pA _ _ _ rfl;have h1:((w0.alloc (.cells #[u] t)).drew.plus o n).heap[w0.heap.size]? = some (.cells #[u] t (0,0)):=(dB _ _ _ _ sp).trans h0;have h:(((w0.alloc (.cells #[u] t)).drew.plus o n).setCell ⟨w0.heap.size,0,none⟩ v).heap[w0.heap.size]? = some (.cells #[v] t (0,0)):=tB h1;exact ⟨Ext.setCell eX (Nat.le_refl _) _,kD h rfl,wJ h 0⟩
theorem keep_walk {F:Nat->Prop} {w:World} {lb db n:Nat} {lv:Int} {e0:Nat} {la:Int} {v1 v2:Value} {d:aB} (hB:kE w lb db lv (e0:Int) la v1 v2) (hD:gH w F db n d) (hF:¬ F lb) (l4:lv<=4) (he:e0+1<4294967296) (hw:d.wait.length<=1000) (hT:Tab w)
    (last:Int) (a1:Option Addr) (m1 c1:Nat) (a2:Option Addr) (m2 c2:Nat) (l:List sA) (js:List Job)
    (h:Sl w 8 iA l a1 m1 c1) (h2:Sl w 2 jA js a2 m2 c2) (ha:∀ b o,(0<m1/\a1=some ⟨b,o,none⟩)\/(0<m2/\a2=some ⟨b,o,none⟩)->¬ F b) (hc:fC ⟨last,l,js⟩ lv=0):
    Calls prog 52 #[.pointer (some ⟨lb,0,none⟩),lC last a1 m1 c1 a2 m2 c2] w (KeepPost F w lb db n lv (e0:Int) la v1 v2 (e0+1) last l js (d.keep (e0+1) ⟨last,l,js⟩)):=by
  obtain ⟨ep,hep⟩:∃ ep,ep=e0+1:=⟨_,rfl⟩
  have hrg:-9223372036854775808<=(e0:Int)+1/\(e0:Int)+1<=9223372036854775807:=om
  have hcast:(e0:Int)+1=(ep:Int):=om
  obtain ⟨hh,hhe⟩:∃ hh,hh=ep % 2:=⟨_,rfl⟩
  have hh1:(hh:Int)<=1:=om
  have hh0:(0:Int)<=(hh:Int):=om
  have e2:(ep:Int).tmod 2=(hh:Int):=by rw [Int.tmod_eq_emod_of_nonneg om];omega
  have e3:(ep:Int) % 2=(hh:Int):=om
  have ep0:(0:Int)<=(ep:Int):=om
  have iw1:IntKind.i64.wrap ((e0:Int)+1)=(ep:Int):=(IntWalk.i64_in _ hrg).trans hcast;have iw2:wrap64 ((e0:Int)+1)=(ep:Int):=(IntWalk.wrap64_in _ hrg).trans hcast;obtain ⟨p0,p1,p2,p3,p4,p5,fz⟩:=hB.cells;have hlt:=hB.lt
  have HC:Hid (∀ w',Sl w' 8 iA l a1 m1 c1->Sl w' 2 jA js a2 m2 c2->Calls prog 97 #[lC last a1 m1 c1 a2 m2 c2,vi lv] w' fun e w''=>e = .returned .nilIface/\Ext w' w''):=fun w' g1 g2=>by
    have:=bookcheck_any last lv a1 m1 c1 a2 m2 c2 l js w' g1 g2 l4;rw [hc] at this;exact this
  have hok:=uF.1 hc;have hbr:=book_range hok l4;have htl:=text_len hc l4
  obtain ⟨T,hTe⟩:∃ T,textS ⟨last,l,js⟩=T:=⟨_,rfl⟩
  have hTl:T.data.toList=mB ⟨last,l,js⟩:=by rw [<-hTe];exact textS_list _
  have hTz:T.size<=640:=by
    have:T.data.toList.length=T.size:=by rw [Array.length_toList];rfl
    rw [<-this,hTl];exact htl
  have HTX:Hid (∀ w',Sl w' 8 iA l a1 m1 c1->Sl w' 2 jA js a2 m2 c2->Tab w'->Calls prog 43 #[lC last a1 m1 c1 a2 m2 c2] w' fun e w''=>e = .returned (.string T)/\Ext w' w''):=fun w' g1 g2 g3=>by
    rw [<-hTe];exact text_any last a1 m1 c1 a2 m2 c2 l js w' g1 g2 g3 hbr
  have HM:Hid (m1<=1000/\m2<=1000):=⟨by have h1:=hok.s16;have h3:=h.len;dsimp only at h1;omega,by have h1:=hok.j8;have h3:=h2.len;dsimp only at h1;omega⟩
  have HTL:=aA hTl;have H1:=aA h;have H2:=aA h2;have H3:=aA hT;have HB:=aA hB;have HD:=aA hD;have HEP:=aA hep;have HHE:=aA hhe;have HE0:=aA he;replace ha:=aA ha;clear h h2 hB hD hT hTe hTl htl hok hbr hc he hep hhe hrg hcast;refine (callsIn_wide (n:=8)).1 (callsIn_of_wp_marks func52 rfl trivial ((wpIn_wide (n:=8)).2 ?_));simp only [ntmps52,List.size_toArray,List.length_cons,List.length_nil,Nat.reduceAdd,Nat.reduceSub,Array.replicate_succ,Array.replicate_zero,List.push_toArray,List.append_toArray,List.nil_append,List.cons_append]
  go_upto_region 1 with fail
  generalize hW:World.alloc _ _=w0;have k0:cV w0 w.heap.size 0 (.pointer (some ⟨lb,0,none⟩)):=cQ hW;have k1:cI w0 (w.heap.size+1) 0 last:=cQ hW;have k2:cV w0 (w.heap.size+1) 1 (.slice a1 m1 c1):=cQ hW;have k3:cV w0 (w.heap.size+1) 2 (.slice a2 m2 c2):=cQ hW;have k4:w0.cell? ⟨w.heap.size+1+1,0,none⟩=some .nilIface:=cQ hW
  have k5:w0.frozen? ⟨w.heap.size+1+1,0,none⟩=false:=by rw [<-hW];simp [go_sem]
  have hx:Ext w w0:=xQ hW;have HX:=aA hx;have HS:=aA (Sl.below H1.out hx.below);have HK:=aA (Sl.below H2.out hx.below);have q1:=gA hx p1;have z0:=cA k0;have z1:=cA k1;have z2:=cA k4;have z3:=cA q1;clear hW hx p1 p3 p4 p5 fz
  go_region_held3 (fun w'=>w'.cell? ⟨w.heap.size,0,none⟩=some (.pointer (some ⟨lb,0,none⟩))/\w'.cell? ⟨w.heap.size+1,0,none⟩=some (vi last)/\w'.cell? ⟨w.heap.size+1,1,none⟩=some (.slice a1 m1 c1)/\w'.cell? ⟨w.heap.size+1,2,none⟩=some (.slice a2 m2 c2)/\w'.cell? ⟨lb,1,none⟩=some (vi lv))
    (first|((try dsimp only);(repeat' apply And.intro) <;> first|(with_reducible assumption)|(refine gA (w:=w0) ?_ (by with_reducible assumption);simp (maxDischargeDepth:=60);done)))
    (first|(go_at_call 97;with_reducible refine mo (HC.out _ (Sl.below HS.out (Ext.below eX)) (Sl.below HK.out (Ext.below eX))) fun o1 n1=>?_))
  all_goals
    first
    | (obtain ⟨E,hE⟩:∃ E,E=w0.heap.size+o1.size:=⟨_,rfl⟩
       have hN:=new_cell1 w0 o1 n1 .nilIface 29
       rw [<-hE] at hN ⊢
       refine gen_err hN ?_
       rintro w3 ⟨hx3,r0,r1⟩)
    | (obtain ⟨E,hE⟩:∃ E,E=w0.heap.size:=⟨_,rfl⟩
       have hN:=new_cell2 w0 o1 n1 .nilIface .nilIface 29
       rw [<-hE] at hN ⊢
       refine gen_err hN ?_
       rintro w3 ⟨hx3,r0,r1⟩)
    have zE:w.heap.size+1+1<E:=om
    clear hE hN;obtain ⟨j0,j1,j2,j3,j4⟩:=xe5 hx3 k0 k1 k2 k3 k4;have j5:=kA hx3 z2 k5;have jp0:=gA HX.out p0;have jp0:=gA hx3 jp0;have jp2:=gA HX.out p2;have jp2:=gA hx3 jp2;have zr:=cA r0;have zl:=cA jp0;have y0:=cA j0;have y1:=cA j1;have y4:=cA j4;have HX3:=aA (HX.out.trans hx3);have HS3:=aA (Sl.below HS.out hx3.below);have HK3:=aA (Sl.below HK.out hx3.below);clear hx3 k0 k1 k2 k3 k4 k5 q1 z0 z1 z2 z3 HS HK HX p0 p2
    go_upto_region 4 with fail
    go_upto_region 5 with (first|(go_at_call 43;with_reducible refine mo (HTX.out _ (Sl.below HS3.out (Ext.below eX)) (Sl.below HK3.out (Ext.below eX)) (H3.out.ext (HX3.out.trans eX))) fun o1 n1=>?_))
    go_upto_region 7 with fail
    clear iw1 iw2;generalize hW4:World.alloc _ _=w4;generalize hA5:w3.heap.size+o1.size=A5;have hx4:Ext w3 w4:=xQ hW4;have i0:cI w4 A5 0 (2+(hh:Int) * 10):=cR hW4 hA5
    have i1:w4.frozen? ⟨A5,0,none⟩=false:=by rw [<-hW4,<-hA5];simp [go_sem]
    have zA:E<A5:=om
    obtain ⟨l0,l1,l2,l3,l4'⟩:=xe5 hx4 j0 j1 j2 j3 j4;have l5:=kA hx4 y4 j5;have l6:=gA hx4 r0;have l7:=kA hx4 zr r1;have l8:=gA hx4 jp0;have HX4:=aA (HX3.out.trans hx4);have zz:=cA i0;clear hW4 hA5 j0 j1 j2 j3 j4 j5 r0 r1 jp0 jp2 y0 y1 y4 zr zl
    have hcv:∀ w',(convert 9 155 (.string T)).run prog w' = .ok (.slice (some ⟨w'.heap.size,0,none⟩) T.size (grownCap w' T.size 0 5)) (w'.drew.alloc (.cells (bytesRow T (grownCap w' T.size 0 5)) 5 ((bytesRow T (grownCap w' T.size 0 5)).size,(bytesRow T (grownCap w' T.size 0 5)).size+1))):=fun w'=>run_bytes_of_string w' _ _ _ T underlying9 underlying155 underlying5
    have hcap:=aA (⟨grownCap_ge w4 T.size 0 5,grownCap_le_maxLen w4 T.size 0 5 (Nat.le_trans hTz dc)⟩:T.size<=grownCap w4 T.size 0 5/\grownCap w4 T.size 0 5<=maxLen)
    go_upto_region 8 with (go_at_call 98;refine (chunk_any _ _ _ _).mono ?_;rintro e w5 ⟨rfl,rfl⟩)
    clear hcv
    obtain ⟨G,hG⟩:∃ G,G=w4.heap.size:=⟨_,rfl⟩
    simp only [World.size_alloc,World.size_drew,<-hG];have hcap1:=hcap.out.1;have hcap2:=hcap.out.2;clear hcap;generalize grownCap w4 T.size 0 5=cc at *;generalize hW5:World.drew _=w5;have hx5:Ext w4 w5:=xQ hW5;obtain ⟨b0,b1,b2,hsz⟩:=three_new w4 (.cells (bytesRow T cc) 5 ((bytesRow T cc).size,(bytesRow T cc).size+1)) (.cells #[.slice (some ⟨G,0,none⟩) T.size cc] 155) (.cells #[.int .i64 64] 3);rw [hW5,<-hG] at b0 b1 b2 hsz
    have zz2:A5<G:=om
    have HG:=aA hG;have HBY:=aA (bytes_new T cc _ _ w5 G b0);have s0:=kD b1 (i:=0) rfl;have s1:=kD b2 (i:=0) rfl;obtain ⟨m0,m1',m2',m3',m4⟩:=xe5 hx5 l0 l1 l2 l3 l4';have m5:=kA hx5 (cA l4') l5;have m6:=gA hx5 l6;have m7:=kA hx5 (cA l6) l7;have m8:=gA hx5 l8;have m9:=gA hx5 i0;have m10:=kA hx5 zz i1;have HX5:=aA (HX4.out.trans hx5)
    have hFlt:∀ k,F k->k<w.heap.size:=by obtain ⟨kb,kc,nb,nc,wv,hI⟩:=HD.out;exact fun k hk=>hI.lt k hk
    have HFL:=aA hFlt;have hsw:w.heap.size<=w5.heap.size:=HX5.out.below.size;clear hG hW5 b0 b1 b2 l0 l1 l2 l3 l4' l5 l6 l7 l8 i0 i1 hFlt;refine (wpIn_wide (n:=8)).1 ?_
    refine range_set (v:=9) rfl dc (gf:=161) (lb:=#[.pointer (some ⟨G+1,0,none⟩),.pointer (some ⟨G+1+1,0,none⟩)]) rfl trivial (enters_of func161 kR rfl)
      (chunk_stops Fence.wide 7 trivial rfl dc (G+1) (G+1+1) G T.size cc om hcap1 hcap2 w5 om om s0 s1) keepTwo_t (keepTwo_b om om)
      (KI F w5 db n d (2+hh * 10) (w.heap.size+1+1) E A5 T) (KX F w5 db n d (2+hh * 10) (w.heap.size+1+1) E A5 T) (KI.own om om om) (fun c=>KX.own om) ?_ ?assign ?body ?done ?stop
    · exact ⟨rfl,oG.ext (oG.start HD.out) HX5.out,fA.refl _ _,m4,m5,m6,m7,by rw [m9];simp,m10⟩
    case assign=>
      intro l x W K hK
      simp only [bA] at hK ⊢
      gi_wp2
      exact hK
    case body=>
      rintro l pre ⟨k,hk⟩ W hI hlen;simp only [bA];have HI:=aA hI
      have nS:∀ b,w.heap.size<=b->b≠w.heap.size+1+1->b≠E->b≠A5->¬ jM F (w.heap.size+1+1) E A5 b:=by
        rintro b hb e1 e2 e3 (h|h|h|h)
        · have:=HFL.out b h;omega
        · exact e1 h
        · exact e2 h
        · exact e3 h
      have nL:¬ jM F (w.heap.size+1+1) E A5 lb:=by
        rintro (h|h|h|h)
        · exact hF h
        · omega
        · omega
        · omega
      have n0:=qB hI.kept m0 (nS _ om om om om);have n8:=qB hI.kept m8 nL
      have hby:Lib.Bytes W G 0 T:=fun i hi=>qB hI.kept (HBY.out i hi) (nS _ om om om om)
      have n6:=hI.cE;have n7:=hI.fE;have n4:=hI.c3;have n5:=hI.f3;have n9:=hI.c5;have n10:=hI.f5;have hsW:=hI.kept.size
      have e65:E≠A5:=om
      have e35:w.heap.size+1+1≠A5:=om
      have e36:w.heap.size+1+1≠E:=om
      have bd3:w.heap.size+1+1<w5.heap.size:=om
      have bdE:E<w5.heap.size:=om
      have bd5:A5<w5.heap.size:=om
      have nF1:¬ F w.heap.size:=fun h=>by have:=HFL.out _ h;omega
      have nFG:¬ F G:=fun h=>by have:=HFL.out _ h;omega
      have bd1:w.heap.size<w5.heap.size:=om
      have bdL:lb<w5.heap.size:=om
      have bdG:G<w5.heap.size:=om
      have nF3:¬ F (w.heap.size+1+1):=fun h=>by have:=HFL.out _ h;omega
      have nFE:¬ F E:=fun h=>by have:=HFL.out _ h;omega
      have nF5:¬ F A5:=fun h=>by have:=HFL.out _ h;omega
      have y0:=cA n0;have y6:=cA n6;have y4:=cA n4;have y9:=cA n9;have y8:=cA n8;have hpz:=partOf_size T k
      have hwt:(wrote d (2+hh * 10) T pre).1.wait.length<=d.wait.length+pre.length:=by
        have h:=wrote_wait d (pre.map fun x=>sI T x.1) (2+hh * 10);rw [List.length_map] at h;exact h
      obtain ⟨j,hj⟩:∃ j,j=2+hh * 10+pre.length:=⟨_,rfl⟩
      obtain ⟨pm,hpm⟩:∃ pm,pm=min 64 (T.size - 64 * k):=⟨_,rfl⟩
      rw [<-hj] at n9
      have hcv:∀ W':World,W'.heap[G]? = W.heap[G]?->(convert 155 9 (.slice (some ⟨G,64 * k,none⟩) pm pm)).run prog W' = .ok (.string (sI T k)) W':=fun W' e=>by
        have h:=Lib.run_convert_window (P:=prog) W' 155 5 9 underlying155 underlying5 underlying9 G 0 T (fun i hi=>by have:=hby i hi;unfold World.cell? at *;simp only [e];exact this) (64 * k) pm pm om;rw [Nat.zero_add] at h;rw [h,hpm];rfl
      have hcv1:=hcv W.drew rfl;replace hcv:=aA hcv
      have j9:j<=100000:=om
      have hw2:(wrote d (2+hh * 10) T pre).1.wait.length<=1000000:=om
      have hp2:(sI T k).size<=1000:=om
      have HSN:Hid (wrote d (2+hh * 10) T (pre++[⟨k,hk⟩])=(wrote d (2+hh * 10) T pre).1.write (j:Int) (sI T k)):=by unfold Hid;rw [wrote_snoc _ hI.ok,hj]
      have HJ:=aA hj;have HPM:=aA hpm;have HOK:=aA hI.ok;have HDK:=aA hI.disk;have HKK:=aA hI.kept;unfold partV;rw [<-hpm];clear nS nL hby hI HI hj hpm hpz hwt hlen m0 m1' m2' m3' m4 m5 m6 m7 m8 m9 m10 s0 s1 hTz hw hcap1 hcap2
      obtain ⟨s,hs⟩:∃ s,Hid (s=sI T k):=⟨_,rfl⟩
      obtain ⟨dk,hdk⟩:∃ dk,Hid (dk=(wrote d (2+hh * 10) T pre).1):=⟨_,rfl⟩
      have hw2:Hid (dk.wait.length<=1000000):=by unfold Hid;rw [hdk.out];exact hw2
      have hp2:Hid (s.size<=1000):=by unfold Hid;rw [hs.out];exact hp2
      rw [<-hs.out] at hcv1 hcv HSN;rw [<-hdk.out] at HDK HSN
      by_cases hz:(dk.write (j:Int) s).2=0
      · have HV:Hid (aC (dk.write (j:Int) s).2 = .nilIface):=by unfold Hid;exact sM hz
        have HZ:=aA hz;clear hz
        gi_wp2
        refine wpIn_region_T 8 (fun w'=>w'.cell? ⟨w.heap.size,0,none⟩=some (.pointer (some ⟨lb,0,none⟩))/\w'.cell? ⟨lb,0,none⟩=some (.pointer (some ⟨db,0,none⟩))/\w'.cell? ⟨A5,0,none⟩=some (vi (j:Int))/\(convert 155 9 (.slice (some ⟨G,64 * k,none⟩) pm pm)).run prog w' = .ok (.string s) w') kR (by rintro ⟨a,w,h⟩;exact h) kR ⟨n0,n8,n9,hcv1⟩ ?_;intro hS
        (refine tT (i:=0) (D:=34) ?_;try simp only [Act.put,bA])
        (refine tT (i:=1) (D:=35) ?_;try simp only [Act.put,bA])
        (refine tT (i:=2) (D:=36) ?_;try simp only [Act.put,bA])
        (refine tT (i:=3) (D:=37) ?_;try simp only [Act.put,bA])
        (refine tT (i:=4) (D:=38) ?_;try simp only [Act.put,bA])
        (refine tT (i:=5) (D:=39) ?_;try simp only [Act.put,bA])
        (refine tT (i:=6) (D:=40) ?_;try simp only [Act.put,bA])
        refine xB (i:=7) kR rfl (fun K hK=>?_);go_simp
        go_at_call 44
        refine (oG.write (F:=F) (B:=w5.heap.size) (n:=n) (w:=W.drew) (d:=dk) (j:Int) s .nilIface (HDK.out.ext (show Ext W W.drew from eX)) (show w5.heap.size<=W.drew.heap.size from hsW) hp2.out hw2.out HV).mono ?_;rintro e W1 ⟨rfl,hd1,hk1⟩;obtain ⟨t4,t5,t6,t7,t9,t10⟩:=zJ.three hk1 bd3 bdE bd5 nF3 nFE nF5 n4 n5 n6 n7 n9 n10;have u0:=hk1.cell (show W.drew.cell? ⟨w.heap.size,0,none⟩=_ from n0) bd1 nF1;have u8:=hk1.cell (show W.drew.cell? ⟨lb,0,none⟩=_ from n8) bdL hF;have ucv:=hcv.out W1 (hk1.old G bdG nFG);refine hK _ _ ⟨fun _=>⟨u0,u8,t9,ucv⟩,?_⟩;have x6:=cA t6;have x4:=cA t4;have x9:=cA t9;replace hd1:=aA hd1;replace hk1:=aA hk1;clear hK K hS ucv u0 u8 n0 n8 n9 n6 n4 n7 n5 n10 hcv1 hcv
        (try simp only [Act.put,bA])
        refine xB (i:=8) kR rfl (fun K hK=>?_);go_simp;refine hK _ _ ⟨fun h=>absurd rfl h,?_⟩;clear hK K
        (try simp only [Act.put,bA])
        refine eG kR ?_ _
        have aE5:(⟨E,0,none⟩:Addr)≠⟨A5,0,none⟩:=by intro e;cases e;exact e65 rfl
        have w6:(W1.setCell ⟨E,0,none⟩ .nilIface).cell? ⟨E,0,none⟩=some .nilIface:=World.cell?_setCell_same W1 _ _ t6
        have w9:(W1.setCell ⟨E,0,none⟩ .nilIface).cell? ⟨A5,0,none⟩=some (vi (j:Int)):=by rw [World.cell?_setCell_other (h:=aE5)];exact t9
        have w10:(W1.setCell ⟨E,0,none⟩ .nilIface).frozen? ⟨A5,0,none⟩=false:=by rw [World.frozen?_setCell];exact t10
        have HR:=aA (round_on (g1:=G+1) (g2:=G+1+1) bd3 bdE bd5 om om nF3 nFE nF5 (fun h=>by have:=HFL.out _ h;omega) (fun h=>by have:=HFL.out _ h;omega) e35 e36 e65 om om om om HSN.out HZ.out HJ.out HKK.out hd1.out hk1.out t4 t5 t6 t7 t9 t10);clear hd1 hk1 t4 t5 t6 t7 t9 t10 x6 x4 x9;generalize W1.setCell ⟨E,0,none⟩ .nilIface=W2 at *;have x6:=cA w6;have x9:=cA w9;have jw:=aA (next_num j j9);have jw1:=jw.out.1;have jw2:=jw.out.2
        gi_wp2
        exact HR.out
      · obtain ⟨f,hff⟩:∃ f,Hid ((dk.write (j:Int) s).2=f):=⟨_,rfl⟩
        have hfz:¬ f=0:=by rw [<-hff.out];exact hz
        have HV:Hid (aC (dk.write (j:Int) s).2 = .iface 92 (vi f)):=by unfold Hid;rw [hff.out];exact oH hfz
        clear hz
        gi_wp2
        refine wpIn_region_T 8 (fun w'=>w'.cell? ⟨w.heap.size,0,none⟩=some (.pointer (some ⟨lb,0,none⟩))/\w'.cell? ⟨lb,0,none⟩=some (.pointer (some ⟨db,0,none⟩))/\w'.cell? ⟨A5,0,none⟩=some (vi (j:Int))/\(convert 155 9 (.slice (some ⟨G,64 * k,none⟩) pm pm)).run prog w' = .ok (.string s) w') kR (by rintro ⟨a,w,h⟩;exact h) kR ⟨n0,n8,n9,hcv1⟩ ?_;intro hS
        (refine tT (i:=0) (D:=34) ?_;try simp only [Act.put,bA])
        (refine tT (i:=1) (D:=35) ?_;try simp only [Act.put,bA])
        (refine tT (i:=2) (D:=36) ?_;try simp only [Act.put,bA])
        (refine tT (i:=3) (D:=37) ?_;try simp only [Act.put,bA])
        (refine tT (i:=4) (D:=38) ?_;try simp only [Act.put,bA])
        (refine tT (i:=5) (D:=39) ?_;try simp only [Act.put,bA])
        (refine tT (i:=6) (D:=40) ?_;try simp only [Act.put,bA])
        refine xB (i:=7) kR rfl (fun K hK=>?_);go_simp
        go_at_call 44
        refine (oG.write (F:=F) (B:=w5.heap.size) (n:=n) (w:=W.drew) (d:=dk) (j:Int) s (.iface 92 (vi f)) (HDK.out.ext (show Ext W W.drew from eX)) (show w5.heap.size<=W.drew.heap.size from hsW) hp2.out hw2.out HV).mono ?_;rintro e W1 ⟨rfl,hd1,hk1⟩;obtain ⟨t4,t5,t6,t7,t9,t10⟩:=zJ.three hk1 bd3 bdE bd5 nF3 nFE nF5 n4 n5 n6 n7 n9 n10;have u0:=hk1.cell (show W.drew.cell? ⟨w.heap.size,0,none⟩=_ from n0) bd1 nF1;have u8:=hk1.cell (show W.drew.cell? ⟨lb,0,none⟩=_ from n8) bdL hF;have ucv:=hcv.out W1 (hk1.old G bdG nFG);refine hK _ _ ⟨fun _=>⟨u0,u8,t9,ucv⟩,?_⟩;have x6:=cA t6;have x4:=cA t4;have x9:=cA t9;replace hd1:=aA hd1;replace hk1:=aA hk1;clear hK K hS ucv u0 u8 n0 n8 n9 n6 n4 n7 n5 n10 hcv1 hcv
        (try simp only [Act.put,bA])
        refine xB (i:=8) kR rfl (fun K hK=>?_);go_simp;refine hK _ _ ⟨fun h=>absurd rfl h,?_⟩;clear hK K
        (try simp only [Act.put,bA])
        refine eG kR ?_ _
        have a3E:(⟨E,0,none⟩:Addr)≠⟨w.heap.size+1+1,0,none⟩:=by intro e;cases e;exact e36 rfl
        have w6:(W1.setCell ⟨E,0,none⟩ (.iface 92 (vi f))).cell? ⟨E,0,none⟩=some (.iface 92 (vi f)):=World.cell?_setCell_same W1 _ _ t6
        have w4':(W1.setCell ⟨E,0,none⟩ (.iface 92 (vi f))).cell? ⟨w.heap.size+1+1,0,none⟩=some .nilIface:=by rw [World.cell?_setCell_other (h:=a3E)];exact t4
        have w5':(W1.setCell ⟨E,0,none⟩ (.iface 92 (vi f))).frozen? ⟨w.heap.size+1+1,0,none⟩=false:=by rw [World.frozen?_setCell];exact t5
        have HR:=aA (round_off (A5:=A5) bd3 bdE nF3 nFE e36 HSN.out hff.out hfz HKK.out hd1.out hk1.out t4 t5);clear hd1 hk1 t4 t5 t6 t7 t9 t10 x6 x4 x9;generalize W1.setCell ⟨E,0,none⟩ (.iface 92 (vi f))=W2 at *;have x6:=cA w6;have x4:=cA w4'
        gi_wp2
        exact HR.out
    case done=>
      rintro D xs W hD hxs hI hK
      have hLies:Lies F w w5 lb w.heap.size (w.heap.size+1) (w.heap.size+1+1) E A5 D:=⟨HX5.out,HFL.out,hlt,hF,om,om,om,om,om,om,om,om,om,om,om,om,hD⟩
      have P0:=aA (KI.pack hLies hI HB.out m0 m1' m2' m3' ⟨om,om⟩ ⟨om,om⟩ hK);have HLI:=aA hLies;have HALL:=aA (wrote_all (d:=d) (i0:=2+hh * 10) hxs);have HOK:=aA hI.ok
      have HKEEP:Hid (d.keep (e0+1) ⟨last,l,js⟩=if (wrote d (2+hh * 10) T xs).1.flush.2=0 then (if ((wrote d (2+hh * 10) T xs).1.flush.1.write (hh:Int) (bI ep T.size)).2=0 then ((wrote d (2+hh * 10) T xs).1.flush.1.write (hh:Int) (bI ep T.size)).1.flush else (wrote d (2+hh * 10) T xs).1.flush.1.write (hh:Int) (bI ep T.size)) else (wrote d (2+hh * 10) T xs).1.flush):=by
        have hz:(mB ⟨last,l,js⟩).length=T.size:=by rw [<-HTL.out,Array.length_toList];rfl
        unfold Hid aB.keep;rw [<-HEP.out,<-HHE.out,hz,<-HTL.out,<-HALL.out];dsimp only;rw [if_pos HOK.out];rfl
      have HTZ:=aA hTz
      have HWZ:Hid ((wrote d (2+hh * 10) T xs).1.wait.length<=10000):=by
        have h1:=wrote_wait d (xs.map fun x=>sI T x.1) (2+hh * 10);rw [List.length_map] at h1;have h2:=partsUpto_len hxs;show (aD d (2+hh * 10) (xs.map fun x=>sI T x.1)).1.wait.length<=10000;omega
      have hsW:w5.heap.size<=W.heap.size:=hI.kept.size;clear hxs hI hLies hK m0 m1' m2' m3' m4 m5 m6 m7 m8 m9 m10 s0 s1 hcap1 hcap2 zz zz2 zA zE hsz hTz hw;generalize hd1:(wrote d (2+hh * 10) T xs).1=d1 at *
      obtain ⟨d2,f2,E2⟩:∃ x f,Hid (d1.flush=(x,f)):=⟨_,_,rfl⟩
      have KE:=P0.out.cE;have KF:=P0.out.fE;have q1:=P0.out.c1;have q2:=P0.out.blk.cells.1;have r1:=cA q1;have r2:=cA q2;have r3:=cA KE
      by_cases z2:f2=0
      · have V2:Hid (aC d1.flush.2 = .nilIface):=by unfold Hid;rw [E2.out];exact sM z2
        go_upto_region 14 with (go_at_call 45;(with_reducible refine (oG.flush (F:=F) (n:=n) (B:=w5.heap.size) (d:=d1) .nilIface P0.out.disk hsW V2).mono ?_);rintro e W1a ⟨rfl,hdd,hkk⟩;have P1a:=aA (Pk.step HLI.out P0.out hdd hkk);have cE1a:=P1a.out.cE;have fE1a:=P1a.out.fE;have rE1a:=cA cE1a;clear hdd hkk)
        rw [E2.out] at P1a;have P2:=aA (Pk.err HLI.out P1a.out .nilIface);clear P1a;generalize W1a.setCell ⟨E,0,none⟩ .nilIface=W2 at *;have hsW2:w5.heap.size<=W2.heap.size:=P2.out.kept.size;clear KE KF q1 q2 r1 r2 r3 cE1a fE1a rE1a;have KEx:=P2.out.cE;have KFx:=P2.out.fE;have q1x:=P2.out.c1;have q2x:=P2.out.blk.cells.1;have q3x:=P2.out.c3;have q4x:=P2.out.f3;have r1x:=cA q1x;have r2x:=cA q2x;have r3x:=cA KEx;have r4x:=cA q3x
        obtain ⟨H,HH⟩:∃ H,Hid (bI ep T.size=H):=⟨_,rfl⟩
        have HHD:Hid (∀ v,Calls prog 46 #[vi (ep:Int),vi (T.size:Int)] v fun x w'=>x = .returned (.string H)/\Ext v w'):=fun v=>by rw [<-HH.out];exact head_any ep T.size v (by have:=HEP.out;have:=HE0.out;omega) (by have:=HTZ.out;omega)
        have HHZ:Hid (H.size<=1000):=by unfold Hid;rw [<-HH.out];exact (show 9<=1000 by decide)
        have HW2:Hid (d2.wait.length<=1000000):=by have h1:=wait_flush d1;rw [E2.out] at h1;dsimp only at h1;have h2:=HWZ.out;unfold Hid;omega
        obtain ⟨d3,f3,E3⟩:∃ x f,Hid (d2.write (hh:Int) H=(x,f)):=⟨_,_,rfl⟩
        by_cases z3:f3=0
        · have V3:Hid (aC (d2.write (hh:Int) H).2 = .nilIface):=by unfold Hid;rw [E3.out];exact sM z3
          go_upto_region 15 with fail
          refine wp_onlyN ?_;refine tH 11 (fun w'=>w'.cell? ⟨w.heap.size,0,none⟩=some (.pointer (some ⟨lb,0,none⟩))/\w'.cell? ⟨lb,0,none⟩=some (.pointer (some ⟨db,0,none⟩))) kR ⟨q1x,q2x⟩ ?_;intro hS
          (refine tT (i:=0) (D:=54) ?_;try simp only [Act.put,bA])
          (refine tT (i:=1) (D:=55) ?_;try simp only [Act.put,bA])
          (refine tT (i:=2) (D:=56) ?_;try simp only [Act.put,bA])
          (refine tT (i:=3) (D:=57) ?_;try simp only [Act.put,bA])
          (refine tT (i:=4) (D:=58) ?_;try simp only [Act.put,bA])
          (refine tT (i:=5) (D:=59) ?_;try simp only [Act.put,bA])
          (refine tT (i:=6) (D:=60) ?_;try simp only [Act.put,bA])
          (refine tT (i:=7) (D:=61) ?_;try simp only [Act.put,bA])
          (refine tT (i:=8) (D:=62) ?_;try simp only [Act.put,bA])
          refine xB (i:=9) kR rfl (fun K hK=>?_);go_simp
          go_at_call 46
          refine (HHD.out _).mono ?_;rintro e W2h ⟨rfl,hxh⟩;have hx2:Ext W2 W2h:=(show Ext W2 W2.drew from eX).trans hxh;refine hK _ _ ⟨fun _=>⟨gA hx2 q1x,gA hx2 q2x⟩,?_⟩;clear hK K hS hxh;have P3:=aA (Pk.ext P2.out hx2);have hsW2h:w5.heap.size<=W2h.heap.size:=P3.out.kept.size
          (try simp only [Act.put,bA])
          refine xB (i:=10) kR rfl (fun K hK=>?_);go_simp
          go_at_call 44
          refine (oG.write (F:=F) (B:=w5.heap.size) (n:=n) (d:=d2) (hh:Int) H .nilIface P3.out.disk hsW2h HHZ.out HW2.out V3).mono ?_;rintro e W3 ⟨rfl,hdd,hkk⟩;have P4:=aA (Pk.step HLI.out P3.out hdd hkk);rw [E3.out] at P4;refine hK _ _ ⟨fun _=>⟨P4.out.c1,P4.out.blk.cells.1⟩,?_⟩;clear hK K hdd hkk P3 P2 KEx KFx q1x q2x q3x q4x r1x r2x r3x r4x hx2;have cE4:=P4.out.cE;have fE4:=P4.out.fE;have rE4:=cA cE4
          (try simp only [Act.put,bA])
          refine xB (i:=11) kR rfl (fun K hK=>?_);go_simp;refine hK _ _ ⟨fun h=>absurd rfl h,?_⟩;clear hK K
          (try simp only [Act.put,bA])
          refine eG kR (then_n ?_) _;clear cE4 fE4 rE4;have P5:=aA (Pk.err HLI.out P4.out .nilIface);clear P4;generalize W3.setCell ⟨E,0,none⟩ .nilIface=W5 at *;have hsW5:w5.heap.size<=W5.heap.size:=P5.out.kept.size;have KEx:=P5.out.cE;have KFx:=P5.out.fE;have q1x:=P5.out.c1;have q2x:=P5.out.blk.cells.1;have q3x:=P5.out.c3;have q4x:=P5.out.f3;have r1x:=cA q1x;have r2x:=cA q2x;have r3x:=cA KEx;have r4x:=cA q3x
          obtain ⟨d4,f4,E4⟩:∃ x f,Hid (d3.flush=(x,f)):=⟨_,_,rfl⟩
          by_cases z4:f4=0
          · have V4:Hid (aC d3.flush.2 = .nilIface):=by unfold Hid;rw [E4.out];exact sM z4
            have HKR:Hid (d.keep (e0+1) ⟨last,l,js⟩=(d4,f4)):=by unfold Hid;rw [HKEEP.out,E2.out,HH.out];dsimp only;rw [if_pos z2,E3.out];dsimp only;rw [if_pos z3,E4.out]
            go_upto_region 18 with (go_at_call 45;(with_reducible refine (oG.flush (F:=F) (n:=n) (B:=w5.heap.size) (d:=d3) .nilIface P5.out.disk hsW5 V4).mono ?_);rintro e W6a ⟨rfl,hdd,hkk⟩;have P6a:=aA (Pk.step HLI.out P5.out hdd hkk);have cE6a:=P6a.out.cE;have fE6a:=P6a.out.fE;have rE6a:=cA cE6a;clear hdd hkk)
            rw [E4.out] at P6a;have P7:=aA (Pk.err HLI.out P6a.out .nilIface);clear P6a;generalize W6a.setCell ⟨E,0,none⟩ .nilIface=W7 at *;have hsW7:w5.heap.size<=W7.heap.size:=P7.out.kept.size;clear KEx KFx q1x q2x q3x q4x r1x r2x r3x r4x cE6a fE6a rE6a;have KEx:=P7.out.cE;have KFx:=P7.out.fE;have q1x:=P7.out.c1;have q2x:=P7.out.blk.cells.1;have q3x:=P7.out.c3;have q4x:=P7.out.f3;have r1x:=cA q1x;have r2x:=cA q2x;have r3x:=cA KEx;have r4x:=cA q3x
            go_upto_region 19 with fail
            have b0:=P7.out.s0;have b1:=P7.out.s1;have b2:=P7.out.s2;have r5:=cA b0
            have hne1:w.heap.size≠lb:=om
            have hne2:w.heap.size+1≠lb:=om
            have h1w:m1<=1000:=HM.out.1;have h2w:m2<=1000:=HM.out.2;have G1:=aA (Sl.keptS H1.out (mK HLI.out.x P7.out.kept HLI.out.a3 HLI.out.e HLI.out.a5) (fun hp b o e=>ha.out b o (Or.inl ⟨hp,e⟩)));have G2:=aA (Sl.keptS H2.out (mK HLI.out.x P7.out.kept HLI.out.a3 HLI.out.e HLI.out.a5) (fun hp b o e=>ha.out b o (Or.inr ⟨hp,e⟩)));refine wp_onlyN ?_;refine tH 8 (fun w'=>w'.cell? ⟨w.heap.size,0,none⟩=some (.pointer (some ⟨lb,0,none⟩))/\w'.cell? ⟨w.heap.size+1,0,none⟩=some (vi last)/\w'.cell? ⟨w.heap.size+1,1,none⟩=some (.slice a1 m1 c1)/\w'.cell? ⟨w.heap.size+1,2,none⟩=some (.slice a2 m2 c2)) kR ⟨q1x,b0,b1,b2⟩ ?_;intro hS
            (refine tT (i:=0) (D:=74) ?_;try simp only [Act.put,bA])
            (refine tT (i:=1) (D:=75) ?_;try simp only [Act.put,bA])
            (refine tT (i:=2) (D:=76) ?_;try simp only [Act.put,bA])
            (refine tT (i:=3) (D:=77) ?_;try simp only [Act.put,bA])
            refine xB (i:=4) kR rfl (fun K hK=>?_);go_simp
            go_at_call 96
            refine (copy_any last a1 m1 c1 a2 m2 c2 l js _ (Sl.below G1.out (Ext.below (show Ext W7 W7.drew from eX))) (Sl.below G2.out (Ext.below (show Ext W7 W7.drew from eX))) h1w h2w).mono ?_;rintro e W8 ⟨y1,y2,rfl,hob,hx8⟩;obtain ⟨g1,c1',rfl,-⟩:=Sl.of_owns (c:=8) (enc:=iA) hob.stays dc (fun _=>rfl);obtain ⟨g2,c2',rfl,-⟩:=Sl.of_owns (c:=2) (enc:=jA) hob.jobs dc (fun _=>rfl);have hx9:Ext W7 W8:=(show Ext W7 W7.drew from eX).trans hx8;have P8:=aA (Pk.ext P7.out hx9);have PG:=aA (Pk.good (ep:=ep) HLI.out P7.out hx9 hob.stays hob.jobs);refine hK _ _ ⟨fun _=>⟨P8.out.c1,P8.out.s0,P8.out.s1,P8.out.s2⟩,?_⟩;clear hK K hS hob hx8 hx9 P7 KEx KFx q1x q2x q3x q4x r1x r2x r3x r4x b0 b1 b2 r5 G1 G2;obtain ⟨t0,t1,t2,t3,t4,t5,tf⟩:=P8.out.blk.cells;have tl:=P8.out.blk.lt
            (try simp only [Act.put,bA])
            refine xB (i:=5) kR rfl (fun K hK=>?_);go_simp;refine hK _ _ ⟨fun _=>⟨P8.out.c1,P8.out.s0,P8.out.s1,P8.out.s2⟩,?_⟩;clear hK K
            (try simp only [Act.put,bA])
            refine xB (i:=6) kR rfl (fun K hK=>?_);go_simp;refine hK _ _ ⟨fun _=>⟨P8.out.c1,P8.out.s0,P8.out.s1,P8.out.s2⟩,?_⟩;clear hK K
            (try simp only [Act.put,bA])
            refine xB (i:=7) kR rfl (fun K hK=>?_);go_simp;refine hK _ _ ⟨fun _=>⟨oE hne1 P8.out.c1,oE hne2 P8.out.s0,oE hne2 P8.out.s1,oE hne2 P8.out.s2⟩,?_⟩;clear hK K
            (try simp only [Act.put,bA])
            obtain ⟨W9,hW9⟩:∃ W9,W9=W8.setCell ⟨lb,2,none⟩ (vi (ep:Int)):=⟨_,rfl⟩
            have B9:kE W9 lb db lv (ep:Int) la v1 v2:=by rw [hW9];exact P8.out.blk.setEpoch (ep:Int)
            rw [<-hW9];have HW9:=aA hW9;clear hW9 t0 t1 t2 t3 t4 t5 tf tl;obtain ⟨t0,t1,t2,t3,t4,t5,tf⟩:=B9.cells;have tl:=B9.lt;refine xB (i:=8) kR rfl (fun K hK=>?_);go_simp;refine hK _ _ ⟨fun h=>absurd rfl h,?_⟩;clear hK K
            (try simp only [Act.put,bA])
            refine xB (i:=9) kR rfl (fun K hK=>?_);go_simp;refine hK _ _ ⟨fun _=>?_,?_⟩
            · rw [HW9.out];exact ⟨oE hne1 P8.out.c1,oE hne2 P8.out.s0,oE hne2 P8.out.s1,oE hne2 P8.out.s2⟩
            clear hK K
            (try simp only [Act.put,bA])
            refine xB (i:=10) kR rfl (fun K hK=>?_);go_simp;refine hK _ _ ⟨fun _=>?_,?_⟩
            · rw [HW9.out];exact ⟨oE hne1 (oE hne1 (oE hne1 (oE hne1 P8.out.c1))),oE hne2 (oE hne2 (oE hne2 (oE hne2 P8.out.s0))),oE hne2 (oE hne2 (oE hne2 (oE hne2 P8.out.s1))),oE hne2 (oE hne2 (oE hne2 (oE hne2 P8.out.s2)))⟩
            clear hK K
            (try simp only [Act.put,bA])
            refine eG kR (then_n ?_) _;rw [HW9.out];clear HW9 B9 t0 t1 t2 t3 t4 t5 tf tl;generalize hWL:(((W8.setCell ⟨lb,2,none⟩ (vi (ep:Int))).setCell ⟨lb,3,none⟩ (vi last)).setCell ⟨lb,4,none⟩ (.slice g1 l.length c1')).setCell ⟨lb,5,none⟩ (.slice g2 js.length c2')=WL;replace PG:=PG.out;unfold ledSet at PG;rw [hWL] at PG;have KEx:=PG.2.2.2.1;have q3x:=PG.2.2.2.2.1;have q4x:=PG.2.2.2.2.2;have r3x:=cA KEx;have r4x:=cA q3x;replace PG:=aA PG;clear hWL P8;go_wp2_with fail;refine ⟨sp,.inl ⟨_,_,rfl,run_takeDeferred PG.out.2.2.1,?_⟩⟩;exact ⟨.nilIface,by simp [results,results52,go_sem,PG.out.2.1],by rw [HKR.out];exact congrArg Ending.returned (sM z4).symm,by rw [HKR.out,<-HEP.out];exact Or.inr ⟨z4,PG.out.1⟩⟩
          · have V4:Hid (aC d3.flush.2 = .iface 92 (vi f4)):=by unfold Hid;rw [E4.out];exact oH z4
            have HKR:Hid (d.keep (e0+1) ⟨last,l,js⟩=(d4,f4)):=by unfold Hid;rw [HKEEP.out,E2.out,HH.out];dsimp only;rw [if_pos z2,E3.out];dsimp only;rw [if_pos z3,E4.out]
            go_upto_region 18 with (go_at_call 45;(with_reducible refine (oG.flush (F:=F) (n:=n) (B:=w5.heap.size) (d:=d3) (.iface 92 (vi f4)) P5.out.disk hsW5 V4).mono ?_);rintro e W6a ⟨rfl,hdd,hkk⟩;have P6a:=aA (Pk.step HLI.out P5.out hdd hkk);have cE6a:=P6a.out.cE;have fE6a:=P6a.out.fE;have rE6a:=cA cE6a;clear hdd hkk)
            rw [E4.out] at P6a;have P7:=aA (Pk.err HLI.out P6a.out (.iface 92 (vi f4)));clear P6a;generalize W6a.setCell ⟨E,0,none⟩ (.iface 92 (vi f4))=W7 at *;have hsW7:w5.heap.size<=W7.heap.size:=P7.out.kept.size;clear KEx KFx q1x q2x q3x q4x r1x r2x r3x r4x cE6a fE6a rE6a;have KEx:=P7.out.cE;have KFx:=P7.out.fE;have q1x:=P7.out.c1;have q2x:=P7.out.blk.cells.1;have q3x:=P7.out.c3;have q4x:=P7.out.f3;have r1x:=cA q1x;have r2x:=cA q2x;have r3x:=cA KEx;have r4x:=cA q3x;have hPB:=aA (Pk.bad HLI.out P7.out (.iface 92 (vi f4)));go_wp2_with fail;refine ⟨sp,.inl ⟨_,_,rfl,run_takeDeferred hPB.out.2.2,?_⟩⟩;exact ⟨(.iface 92 (vi f4)),by simp [results,results52,go_sem,hPB.out.2.1],by rw [HKR.out];exact congrArg Ending.returned (oH z4).symm,by rw [HKR.out];exact Or.inl ⟨z4,hPB.out.1⟩⟩
        · have V3:Hid (aC (d2.write (hh:Int) H).2 = .iface 92 (vi f3)):=by unfold Hid;rw [E3.out];exact oH z3
          have HKR:Hid (d.keep (e0+1) ⟨last,l,js⟩=(d3,f3)):=by unfold Hid;rw [HKEEP.out,E2.out,HH.out];dsimp only;rw [if_pos z2,E3.out];dsimp only;rw [if_neg z3]
          go_upto_region 15 with fail
          refine wp_onlyN ?_;refine tH 11 (fun w'=>w'.cell? ⟨w.heap.size,0,none⟩=some (.pointer (some ⟨lb,0,none⟩))/\w'.cell? ⟨lb,0,none⟩=some (.pointer (some ⟨db,0,none⟩))) kR ⟨q1x,q2x⟩ ?_;intro hS
          (refine tT (i:=0) (D:=54) ?_;try simp only [Act.put,bA])
          (refine tT (i:=1) (D:=55) ?_;try simp only [Act.put,bA])
          (refine tT (i:=2) (D:=56) ?_;try simp only [Act.put,bA])
          (refine tT (i:=3) (D:=57) ?_;try simp only [Act.put,bA])
          (refine tT (i:=4) (D:=58) ?_;try simp only [Act.put,bA])
          (refine tT (i:=5) (D:=59) ?_;try simp only [Act.put,bA])
          (refine tT (i:=6) (D:=60) ?_;try simp only [Act.put,bA])
          (refine tT (i:=7) (D:=61) ?_;try simp only [Act.put,bA])
          (refine tT (i:=8) (D:=62) ?_;try simp only [Act.put,bA])
          refine xB (i:=9) kR rfl (fun K hK=>?_);go_simp
          go_at_call 46
          refine (HHD.out _).mono ?_;rintro e W2h ⟨rfl,hxh⟩;have hx2:Ext W2 W2h:=(show Ext W2 W2.drew from eX).trans hxh;refine hK _ _ ⟨fun _=>⟨gA hx2 q1x,gA hx2 q2x⟩,?_⟩;clear hK K hS hxh;have P3:=aA (Pk.ext P2.out hx2);have hsW2h:w5.heap.size<=W2h.heap.size:=P3.out.kept.size
          (try simp only [Act.put,bA])
          refine xB (i:=10) kR rfl (fun K hK=>?_);go_simp
          go_at_call 44
          refine (oG.write (F:=F) (B:=w5.heap.size) (n:=n) (d:=d2) (hh:Int) H (.iface 92 (vi f3)) P3.out.disk hsW2h HHZ.out HW2.out V3).mono ?_;rintro e W3 ⟨rfl,hdd,hkk⟩;have P4:=aA (Pk.step HLI.out P3.out hdd hkk);rw [E3.out] at P4;refine hK _ _ ⟨fun _=>⟨P4.out.c1,P4.out.blk.cells.1⟩,?_⟩;clear hK K hdd hkk P3 P2 KEx KFx q1x q2x q3x q4x r1x r2x r3x r4x hx2;have cE4:=P4.out.cE;have fE4:=P4.out.fE;have rE4:=cA cE4
          (try simp only [Act.put,bA])
          refine xB (i:=11) kR rfl (fun K hK=>?_);go_simp;refine hK _ _ ⟨fun h=>absurd rfl h,?_⟩;clear hK K
          (try simp only [Act.put,bA])
          refine eG kR (then_n ?_) _;clear cE4 fE4 rE4;have P5:=aA (Pk.err HLI.out P4.out (.iface 92 (vi f3)));clear P4;generalize W3.setCell ⟨E,0,none⟩ (.iface 92 (vi f3))=W5 at *;have hsW5:w5.heap.size<=W5.heap.size:=P5.out.kept.size;have KEx:=P5.out.cE;have KFx:=P5.out.fE;have q1x:=P5.out.c1;have q2x:=P5.out.blk.cells.1;have q3x:=P5.out.c3;have q4x:=P5.out.f3;have r1x:=cA q1x;have r2x:=cA q2x;have r3x:=cA KEx;have r4x:=cA q3x;have hPB:=aA (Pk.bad HLI.out P5.out (.iface 92 (vi f3)));go_wp2_with fail;refine ⟨sp,.inl ⟨_,_,rfl,run_takeDeferred hPB.out.2.2,?_⟩⟩;exact ⟨(.iface 92 (vi f3)),by simp [results,results52,go_sem,hPB.out.2.1],by rw [HKR.out];exact congrArg Ending.returned (oH z3).symm,by rw [HKR.out];exact Or.inl ⟨z3,hPB.out.1⟩⟩
      · have V2:Hid (aC d1.flush.2 = .iface 92 (vi f2)):=by unfold Hid;rw [E2.out];exact oH z2
        have HKR:Hid (d.keep (e0+1) ⟨last,l,js⟩=(d2,f2)):=by unfold Hid;rw [HKEEP.out,E2.out];exact if_neg z2
        go_upto_region 14 with (go_at_call 45;(with_reducible refine (oG.flush (F:=F) (n:=n) (B:=w5.heap.size) (d:=d1) (.iface 92 (vi f2)) P0.out.disk hsW V2).mono ?_);rintro e W1a ⟨rfl,hdd,hkk⟩;have P1a:=aA (Pk.step HLI.out P0.out hdd hkk);have cE1a:=P1a.out.cE;have fE1a:=P1a.out.fE;have rE1a:=cA cE1a;clear hdd hkk)
        rw [E2.out] at P1a;have P2:=aA (Pk.err HLI.out P1a.out (.iface 92 (vi f2)));clear P1a;generalize W1a.setCell ⟨E,0,none⟩ (.iface 92 (vi f2))=W2 at *;have hsW2:w5.heap.size<=W2.heap.size:=P2.out.kept.size;have KEx:=P2.out.cE;have KFx:=P2.out.fE;have q1x:=P2.out.c1;have q2x:=P2.out.blk.cells.1;have q3x:=P2.out.c3;have q4x:=P2.out.f3;have r1x:=cA q1x;have r2x:=cA q2x;have r3x:=cA KEx;have r4x:=cA q3x;have hPB:=aA (Pk.bad HLI.out P2.out (.iface 92 (vi f2)));go_wp2_with fail;refine ⟨sp,.inl ⟨_,_,rfl,run_takeDeferred hPB.out.2.2,?_⟩⟩;exact ⟨(.iface 92 (vi f2)),by simp [results,results52,go_sem,hPB.out.2.1],by rw [HKR.out];exact congrArg Ending.returned (oH z2).symm,by rw [HKR.out];exact Or.inl ⟨z2,hPB.out.1⟩⟩
    case stop=>
      rintro D c pre W hD ⟨k,hk,hp⟩ hX hK;obtain rfl:c = .ret:=hX.jump;have hKB:=keep_stop (lb:=lb) HX5.out HB.out hF om om om hD hK hX.disk hX.kept;have hbad:=hX.bad;have hc3:=hX.c3;have hwr:=wrote_part (d:=d) (i0:=2+hh * 10) hk hp hbad
      have hkw:d.keep (e0+1) ⟨last,l,js⟩=wrote d (2+hh * 10) T pre:=by
        unfold aB.keep;rw [<-HEP.out,<-HHE.out,<-HTL.out,hwr,if_neg hbad]
      rw [hkw];have hc4:(W.putObj D (.deferred none)).cell? ⟨w.heap.size+1+1,0,none⟩=some (.iface 92 (vi (wrote d (2+hh * 10) T pre).2)):=gF (grownBy_putObj' W D (.deferred none)) hc3 (fun e=>by cases e;omega);generalize wrote d (2+hh * 10) T pre=r at *;have HKB:=aA hKB;have HC4:=aA hc4;clear hKB hkw hwr hX hp hk
      gi_wp2
      refine ⟨sp,.inl ⟨_,_,rfl,run_takeDeferred hK,?_⟩⟩;exact ⟨.iface 92 (vi r.2),by simp [results,results52,go_sem,HC4.out],by rw [oH hbad],Or.inl ⟨hbad,HKB.out⟩⟩
