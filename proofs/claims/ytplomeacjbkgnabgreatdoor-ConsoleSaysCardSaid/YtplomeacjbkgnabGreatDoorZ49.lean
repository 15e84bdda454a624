import Derived.Test.YtplomeacjbkgnabGreatDoorZ46
set_option linter.all false
set_option maxRecDepth 100000
set_option maxHeartbeats 16000000
namespace Go.Proofs.YtplomeacjbkgnabGreatDoor
open Go.RowKit Tryz Ch
theorem sizeFault_few (s:dD):iC s<=999999:=by
 unfold iC
 split <;> omega
theorem levelsFrom_few:∀ (l:List dD) (x:dD),uB x l<=999999
 | [],x=>by simp [uB]
 | s :: l,x=>by
  unfold uB
  split
  ·exact sizeFault_few s
  ·split
   ·omega
   ·exact levelsFrom_few l x
theorem levelsFault_few (l:List dD):jB l<=999999:=by
 unfold jB
 split
 ·omega
 ·exact levelsFrom_few _ _
theorem yA.keptC {S:Nat->Prop} {w w':World} {pb mb:Nat} {p:dA} (h:yA w pb mb p) (k:fA S w w') (n1:¬ S pb) (n2:¬ S mb):yA w' pb mb p:=h.same (k.block pb h.lt.1 n1) (k.block mb h.lt.2 n2)
theorem DZ.keptC {Z S:Nat->Prop} {db n:Nat} {d:aB} {w w':World} (h:DZ Z db n d w) (k:fA S w w') (hs:∀ i,S i->¬ Z i):DZ Z db n d w':=by
 obtain ⟨F,h1,h2⟩:=h;exact ⟨F,cJ.kept h1 k (fun b hb hh=>hs b hh (h2 b hb)),h2⟩
theorem St.made {w0 wr wq w':World} {pb mb db lb hb:Nat} {D:List dD} {d:aB} {Y Y0:Nat->Prop} {a1:Option Addr} {a2 a3:Nat} {b1:Option Addr} {b2 b3:Nat} (hx:Ext w0 w') (h0:w0.heap.size<=wr.heap.size) (hq:wr.heap.size<=wq.heap.size) (hw:wq.heap.size<=w'.heap.size)
  (hs:HS Y (fun i=>wq.heap.size<=i) pb mb db lb hb 40 a1 a2 a3 b1 b2 b3 ⟨⟨D,dA.new (D.length:Int),⟨0,[],[]⟩,[]⟩,2,d⟩ w') (hz:∀ k,HB Y pb mb hb k->Y0 k\/k=pb\/k=mb\/wq.heap.size<=k) (hp:wr.heap.size<=pb) (hm:wr.heap.size<=mb) (hy:∀ k,Y0 k->wr.heap.size<=k) (hf:jB D=0) (hl:LP 40 (D.length:Int) 2 ⟨0,[],[]⟩ d):
  St w0 (fun i=>w0.heap.size<=i/\i<wr.heap.size) pb mb db lb hb (House.new D) 2 w':=by
 refine ⟨⟨⟨D,dA.new (D.length:Int),⟨0,[],[]⟩,[]⟩,2,d⟩,rfl,⟨Live.House.Inv2.new hf,hl.calm,hl.holds⟩,hl.fuse,Nat.le_refl _,hx,⟨Y,a1,a2,a3,b1,b2,b3,hs.zed (fun k _ hk=>⟨om,fun hn=>by omega⟩),fun k hk=>?_⟩,fun i hi=>by omega⟩
 rcases hz k hk with hk|rfl|rfl|hk
 ·have:=hy k hk
  exact ⟨om,fun hn=>by omega⟩
 ·exact ⟨om,fun hn=>by omega⟩
 ·exact ⟨om,fun hn=>by omega⟩
 ·exact ⟨om,fun hn=>by omega⟩
structure Szs (w:World) (l:List dD) (v:Value) (wr:World):Prop where
 own:wr.ownsRow w.heap.size 54 3 v l.length (l.flatMap yB)
 ext:Ext w wr
theorem sz_last {l:List dD} {x:dD} {v:Value} {wr:World} {base:Nat} (h:wr.ownsRow base 54 3 v (l.length+1) (l.flatMap yB++[vi x.long,vi x.high,vi x.heavy])):wr.ownsRow base 54 3 v (l++[x]).length ((l++[x]).flatMap yB):=by
 rw [List.length_append,List.flatMap_append];exact h
section
variable {w0:World} {SB:Nat} {Q:Nat->Prop} {o:Option House} {k:Nat} {w:World}
theorem Ses.blk (s:Ses w0 SB Q o k w):∃ lv p d h0,w.heap[SB]? = some (.cells (qJ lv p d h0) 146 (0,0)):=by
 obtain ⟨b,s⟩:=s
 cases o with
 | none=>exact ⟨_,_,_,_,s⟩
 | some h=>
  obtain ⟨N,pb,mb,db,lb,hb,la,ln,lc,s⟩:=s;exact ⟨_,_,_,_,s.blk⟩
theorem begin_any (s:Ses w0 SB Q o k w) (L:kL w0) (N:List Int) {a:Option Addr} {n cap:Nat} (hN:Sl w 1 jG N a n cap) (m:Nat) (hm:n=3 * m) (m0:0<m) (mb:n<=1000):
  Calls prog 138 #[.pointer (some ⟨SB,0,none⟩),.slice a n cap] w fun e w'=>e = .returned (.string (if jB (gD N)=0 then okB else zG (jB (gD N))))/\Ses w0 SB Q (if jB (gD N)=0 then some (House.new (gD N)) else o) (k+2) w'/\fA (SK w0 Q) w w':=by
 obtain ⟨i0,hi,hz0,hz1,hz2⟩:=info_parts infoSizeC;obtain ⟨lv,p0,d0,h0,hb0⟩:=s.blk;have hbd:=hN.bound;have hNl:=hN.len;have HF:=aA hN;have HS:=aA s;have HL:=aA L;have HB0:=aA hb0
 have HAT:Hid (∀ j,j<m->∃ a b c,N[3 * j]? = some a/\N[3 * j+1]? = some b/\N[3 * j+2]? = some c/\(gD N)[j]? = some ⟨a,b,c⟩):=fun j hj=>sizesOf_at m N j om hj
 have HLN:Hid ((gD N).length=m):=sizesOf_len m N om
 obtain ⟨S,HSZ⟩:∃ S,Hid (gD N=S):=⟨_,rfl⟩
 obtain ⟨F,HFF⟩:∃ F,Hid (jB S=F):=⟨_,rfl⟩
 rw [HSZ.out] at HAT HLN ⊢
 rw [HFF.out]
 obtain ⟨R,HR⟩:∃ R,Hid ((if F=0 then okB else zG F)=R):=⟨_,rfl⟩
 obtain ⟨o',HO⟩:∃ o',Hid ((if F=0 then some (House.new S) else o)=o'):=⟨_,rfl⟩
 rw [HR.out,HO.out]
 have hF0:0<=F:=by rw [<-HFF.out];exact levelsFault_nn _
 have hF9:F<=999999:=by rw [<-HFF.out];exact levelsFault_few _
 obtain ⟨V,HEV⟩:∃ V,Hid (aC F=V):=⟨_,rfl⟩
 clear hN s L hb0 hNl;subst hm;go_enter func138,ntmps138;go_wp2
 go_loopw [5,6] (fun v i wr=>∃ (j:Nat) (D:List dD) (g:Option Addr) (d:Nat),j<=m/\i = .int .i64 (3 * (j:Int))/\v = .slice g D.length d/\Hid (D=S.take j)/\Hid (D.length=j)/\Hid (Szs w D (.slice g D.length d) wr)) (fun _ i _=>3 * m - (intOf i).toNat)
 case atStart=>exact ⟨0,[],none,0,om,rfl,rfl,by simp [Hid],rfl,⟨World.ownsRow_nil _ _ _ _,eX⟩⟩
 case round=>
  obtain ⟨j,D,g,d,hj,rfl,rfl,HD,HK,HG⟩:=hrel;have hsz:=HG.out.ext.below.size
  have hDn:D.length<=1000:=by have:=HK.out;omega
  by_cases hlt:j<m
  ·obtain ⟨x,y,z,e1,e2,e3,e4⟩:=HAT.out j hlt
   obtain ⟨b,q,x',rfl,hx,dx⟩:=(Sl.below HF.out HG.out.ext.below).get (show 3 * j<3 * m by omega);obtain ⟨y',hy,dy⟩:=(Sl.below HF.out HG.out.ext.below).get' (show 3 * j+1<3 * m by omega);obtain ⟨z',hz,dz⟩:=(Sl.below HF.out HG.out.ext.below).get' (show 3 * j+2<3 * m by omega);rw [e1] at hx;rw [e2] at hy;rw [e3] at hz;cases hx;cases hy;cases hz;have dx:=at1 dx;have dy:=at1 dy;have dz:=at1 dz;rw [Nat.mul_one] at dx dy dz;have zq:=cA dx
   have hji:3 * (j:Int)<3 * (m:Int):=om
   have HN:Hid (D++[⟨x,y,z⟩]=S.take (j+1)):=by
    unfold Hid;rw [List.take_add_one,e4,HD.out];rfl
   clear e1 e2 e3 e4
   have ht0:(3 * (j:Int)).toNat=3 * j:=om
   have ht1:(3 * (j:Int)+1).toNat=3 * j+1:=om
   have ht2:(3 * (j:Int)+2).toNat=3 * j+2:=om
   have hb0:0<=3 * (j:Int):=om
   have hb1:0<=3 * (j:Int)+1:=om
   have hb2:0<=3 * (j:Int)+2:=om
   have hc1:3 * (j:Int)+1<3 * (m:Int):=om
   have hc2:3 * (j:Int)+2<3 * (m:Int):=om
   have hw1:IntKind.i64.wrap (3 * (j:Int)+1)=3 * (j:Int)+1:=IntWalk.i64_in _ om;have hw2:IntKind.i64.wrap (3 * (j:Int)+2)=3 * (j:Int)+2:=IntWalk.i64_in _ om
   go_upto_region 5 with fail
   go_region_law (first|(refine step_append_lies _ rfl _ _ _ rfl w.heap.size 54 i0 _ 3 24 underlying22 hi hz0 hz1 hz2 rfl dc (.slice g D.length d) D.length (D.flatMap yB) rfl (mI (iB HG.out.own _)) _ 1 1 [vi x,vi y,vi z] rfl rfl (lK _ #[vi x,vi y,vi z] 54) (by simp [Value.oneCell']) dc (by unfold maxLen;omega) om so _ rfl ?_;intro gg cap' w5 hown5 hgrow hat hlt5;have HG3:Hid (Szs w (D++[⟨x,y,z⟩]) (.slice (some ⟨gg,0,none⟩) (D.length+1) cap') w5):=⟨sz_last hown5,vB (w:=w) (HG.out.ext.trans eX) hgrow (qA HG.out.own)⟩;clear hown5 hgrow hat hlt5))
   all_goals
    go_wp2_with fail;go_roundw
    case rel=>exact ⟨j+1,D++[(⟨x,y,z⟩:dD)],some ⟨gg,0,none⟩,cap',om,by go_num;try omega,by rw [List.length_append];rfl,HN.out,by rw [List.length_append,HK.out];rfl,by rw [show (D++[(⟨x,y,z⟩:dD)]).length=D.length+1 by rw [List.length_append];rfl];exact HG3.out⟩
    case measure=>simp [intOf];omega
  ·have hkn:j=m:=om
   subst hkn
   have hnl:¬ 3 * (j:Int)<3 * (j:Int):=om
   have HDD:Hid (S=D):=by unfold Hid;rw [HD.out,List.take_of_length_le (by have:=HLN.out;omega)]
   have hds:=HDD.out.symm;subst hds;obtain ⟨g',cap',e,hs⟩:=Sl.of_owns (c:=3) (enc:=yB) HG.out.own dc (fun _=>rfl);cases e;have HSL:=aA hs;obtain ⟨b,q,x,rfl,-,-⟩:=hs.get (show 0<D.length by have:=HK.out;omega);have hbw:w.heap.size<=b:=qA HG.out.own b rfl;have hbr:b<wr.heap.size:=(rE HG.out.own rfl).2;have HX:=aA HG.out.ext;have HXR:Hid (Ext w0 wr):=HS.out.1.ex.trans HX.out;clear hs hnl
   by_cases hF:F=0
   rotate_left
   ·obtain rfl:o=o':=by rw [<-HO.out,if_neg hF]
    obtain rfl:zG F=R:=by rw [<-HR.out,if_neg hF]
    have HFV:Hid (V = .iface 92 (vi F)):=by unfold Hid;rw [<-HEV.out];unfold aC;rw [if_neg hF]
    obtain rfl:=HFV.out;clear hF HFV
    go_wp2_with (first
     | (go_at_call 47;(with_reducible refine (check_any _ _ _ D _ (Sl.below HSL.out (Ext.below eX))).mono ?_);rw [HFF.out,HEV.out];rintro e w1 ⟨rfl,o1,n1,rfl⟩)
     | (go_at_call 137;with_reducible refine mo (mH F _ (mD ⟨hF0,hF9⟩) (HL.out.tab.ext (HXR.out.trans eX))) fun o1 n1=>?_))
    go_ret;exact ⟨rfl,(HS.out.ext (HX.out.trans eX)).more om,fA.of_ext (HX.out.trans eX)⟩
   ·subst hF
    obtain rfl:okB=R:=by rw [<-HR.out];rfl
    obtain rfl:some (House.new _)=o':=by rw [<-HO.out];rfl
    obtain rfl:V = .nilIface:=by rw [<-HEV.out];rfl
    have hlv:=jD HFF.out
    have l1:(1:Int)<=(D.length:Int):=om
    have l4:(D.length:Int)<=4:=om
    go_upto_region 18 with (first
     | (go_at_call 47;(with_reducible refine (check_any _ _ _ D _ (Sl.below HSL.out (Ext.below eX))).mono ?_);rw [HFF.out,HEV.out];rintro e w1 ⟨rfl,o1,n1,rfl⟩)
     | (go_at_call 8;refine (new_any (D.length:Int) _ l1 l4).mono ?_;rintro e w1 ⟨pb,mb',rfl,hp,hx,b1,b2⟩;have HX1:Hid (Ext wr w1):=Ext.trans eX hx;have HP1:=aA hp;have hpb:wr.heap.size<=pb:=(by simp at b1;omega);have hmb:wr.heap.size<=mb':=(by simp at b2;omega);clear hp hx b1 b2)
     | (go_at_call 9;refine (new_dz 40 _ dc dc).mono ?_;rintro e w2 ⟨db,rfl,hd,hx⟩;have HX2:Hid (Ext w1 w2):=hx;have HD2:=aA hd;clear hd hx)
     | (go_at_call 10;refine (format_now (fun k hk=>Nat.le_trans HX2.out.below.size hk) HD2.out (calm_new 40) rfl dc (D.length:Int) (HL.out.tab.ext (HXR.out.trans (HX1.out.trans HX2.out)))).mono ?_;rintro e w3 ⟨rfl,hk,dk,hp,hd3⟩;have HX3:Hid (Ext w1 w3):=Ext.of_below (bF HX2.out.below (Nat.le_refl _) hk (fun _ h=>h));have HPP:=aA hp;have HD3:=aA hd3.narrow;clear hk hp hd3))
    have hx3:Ext w w3:=HX.out.trans (HX1.out.trans HX3.out);have hx03:Ext w0 w3:=HXR.out.trans (HX1.out.trans HX3.out);have blk3:=kF HB0.out hx3;have hSw:=HS.out.1.lt;have hS0:=HS.out.1.sb;have s1:=HX.out.below.size;have s2:=HX1.out.below.size;have s3:=HX3.out.below.size;have s0:=HXR.out.below.size;have hp1:=HP1.out.lt;have c0:cV w3 SB 0 lv:=tA blk3 rfl;have c1:cV w3 SB 1 (.pointer p0):=tA blk3 rfl;have c2:cV w3 SB 2 (.pointer d0):=tA blk3 rfl;have cf0:=vA blk3 0;have cf1:=vA blk3 1;have cf2:=vA blk3 2;have zl:=cA c0
    go_upto_region 19 with fail
    generalize hW:World.setCell _ _ _=w4
    have hk4:fA (Is SB) w3 w4:=by rw [<-hW];exact (((fA.refl (Is SB) w3).put 0 _).put 1 _).put 2 _
    have blk4:w4.heap[SB]? = some (.cells (qJ (.slice (some ⟨b,q,none⟩) D.length d) (some ⟨pb,0,none⟩) (some ⟨db,0,none⟩) h0) 146 (0,0)):=by rw [<-hW,tB (tB (tB blk3))];rfl
    have s4:=hk4.size;have HX4:Hid (Ext w0 w4):=Ext.of_below (bF hx03.below (Nat.le_refl _) hk4 (fun i hi=>by rw [show i=SB from hi];exact hS0));have HP4:=aA ((HP1.out.ext HX3.out).keptC hk4 (fun e=>by have:pb=SB:=e;omega) (fun e=>by have:mb'=SB:=e;omega));have HD4:=aA (HD3.out.keptC hk4 (fun i hi hh=>by have:i=SB:=hi;omega));have HL4:=aA ((Sl.below HSL.out (HX1.out.trans HX3.out).below).keptS hk4 (fun _ c o e hh=>by cases e;have:b=SB:=hh;omega));have HB4:=aA blk4;have HK4:=aA hk4;clear hW hk4 blk4 c0 c1 c2 cf0 cf1 cf2 zl blk3
    have HC:Hid (∀ wq,Ext w4 wq->Calls prog 11 #[.slice (some ⟨b,q,none⟩) D.length d,.pointer (some ⟨pb,0,none⟩),.pointer (some ⟨db,0,none⟩)] wq fun r w'=>∃ hb',r = .returned (.tuple #[.pointer (some ⟨hb',0,none⟩),.nilIface])/\Ext wq w'/\∃ lb',St w0 (fun i=>w0.heap.size<=i/\i<wr.heap.size) pb mb' db lb' hb' (House.new D) 2 w'):=fun wq x=>by
     have s5:=x.below.size;refine (new_now (Sl.below HL4.out x.below) HFF.out (HP4.out.ext x) (HD4.out.ext x) (fun k hk=>by omega) (fun hh=>by omega) (fun hh=>by omega) HPP.out dc (HL.out.ext (HX4.out.trans x))).mono ?_;rintro r w' ⟨hb',lb',e,hx,Y,a1,a2,a3,b1,b2,b3,hs,hz⟩;exact ⟨hb',e,hx,lb',St.made (HX4.out.trans (x.trans hx)) s0 om hx.below.size hs hz hpb hmb (fun k hk=>by omega) HFF.out HPP.out⟩
    go_wp2_with (first
     | (go_at_call 177;refine (copen_any (P:=fun hb' w'=>∃ lb',St w0 (fun i=>w0.heap.size<=i/\i<wr.heap.size) pb mb' db lb' hb' (House.new D) 2 w') (kF HB4.out eX) (fun wq x=>HC.out wq (Ext.trans eX x)) (fun _ _ _ x ⟨lb',hs⟩=>⟨lb',hs.ext x⟩)).mono ?_;rintro e w6 ⟨hb',w5,rfl,hx5,⟨lb',hs5⟩,rfl⟩;have HX5:Hid (Ext w4 w5):=Ext.trans eX hx5;have HS5:=aA hs5;clear hx5 hs5;have HX6:Hid (Ext w0 (w5.setCell ⟨SB,3,none⟩ (.pointer (some ⟨hb',0,none⟩)))):=Ext.setCell (HX4.out.trans HX5.out) hS0 _)
     | (go_at_call 176;refine (nK 0 .nilIface rfl _ (mD om) (HL.out.tab.ext (HX6.out.trans eX))).mono ?_;rintro e w7 ⟨rfl,o7,n7,rfl⟩))
    go_ret;have kp:fA (Is SB) w5 (w5.setCell ⟨SB,3,none⟩ (.pointer (some ⟨hb',0,none⟩))):=(fA.refl (Is SB) w5).put 3 _;have s5:=HX5.out.below.size;have s6:=kp.size
    have hsk:∀ i,Is SB i->SK w0 Q i:=fun i hi=>by rw [show i=SB from hi];exact ⟨hS0,HS.out.1.qn⟩
    have hql:=HS.out.1.ql
    have hses:Ses w0 SB Q (some (House.new D)) 2 (w5.setCell ⟨SB,3,none⟩ (.pointer (some ⟨hb',0,none⟩))):=
     ⟨⟨HX6.out,hS0,om,HS.out.1.qn,fun i hi=>by have:=hql i hi;omega⟩,_,pb,mb',db,lb',hb',_,_,_,
      ⟨by rw [tB (kF HB4.out HX5.out)];rfl,HS5.out.write kp (fun i hi=>by rw [show i=SB from hi];exact ⟨⟨hS0,om⟩,hS0⟩),(Sl.below HL4.out HX5.out.below).keptS kp (fun _ c o e hh=>by cases e;have:b=SB:=hh;omega),fun _ c o e=>by cases e;exact ⟨⟨om,hbr⟩,fun hq=>by have:=hql b hq;omega,om⟩,⟨hS0,om⟩,fun i hi hw=>⟨hw,by have:=hql i hi;omega⟩⟩⟩
    exact ⟨rfl,(hses.ext eX).more om,(fA.of_ext hx3).trans ((HK4.out.wide hsk).trans ((fA.of_ext HX5.out).trans ((kp.wide hsk).trans (fA.of_ext eX))))⟩
end
theorem numbers_no {l:List ByteArray} {a:Option Addr} {n cap:Nat} {w:World} (h:Sl w 1 bC l a n cap) (hs:Hid (∀ x∈l,x.size<=1000000)) (hn:n<=10001) (L:kL w) (ho:Hid (vI l=none)):
  Calls prog 136 #[.slice a n cap] w fun e w'=>e = .returned (.tuple #[.slice none 0 0,.bool false])/\Ext w w':=by
 have:=numbers_any l a n cap w h hs hn L;rw [ho.out] at this;exact this
theorem numbers_yes (N:List Int) {l:List ByteArray} {a:Option Addr} {n cap:Nat} {w:World} (h:Sl w 1 bC l a n cap) (hs:Hid (∀ x∈l,x.size<=1000000)) (hn:n<=10001) (L:kL w) (ho:Hid (vI l=some N)):
  Calls prog 136 #[.slice a n cap] w fun e w'=>∃ g d,e = .returned (.tuple #[.slice g N.length d,.bool true])/\Sl w' 1 jG N g N.length d/\(∀ b q,g=some ⟨b,q,none⟩->w.heap.size<=b)/\Ext w w':=by
 have:=numbers_any l a n cap w h hs hn L;rw [ho.out] at this;refine this.mono ?_;rintro e w' ⟨g,d,h1,h2,h3,h4⟩;exact ⟨g,d,h1,h2,h4,h3⟩
theorem sl_tail {w:World} {x:ByteArray} {r:List ByteArray} {b o n cap:Nat} (h:Sl w 1 bC (x :: r) (some ⟨b,o,none⟩) n cap):Sl w 1 bC r (some ⟨b,o+1,none⟩) r.length (cap - 1):=by
 have hl:=h.len;have hb:=h.bound;simp only [List.length_cons] at hl;refine ⟨rfl,om,Nat.le_trans (Nat.sub_le _ _) h.2.2.1,fun h0=>⟨b,o+1,rfl,fun i y hy j z hz=>?_⟩⟩;obtain ⟨b',o',e,f⟩:=h.2.2.2 om;cases e;have:=f (i+1) y (by simpa using hy) j z hz;rw [show o+1+i * 1+j=o+(i+1) * 1+j by omega];exact this
theorem words_cons (s:ByteArray):∃ x r,bD s=x :: r:=by
 have:=eJ s
 cases h:bD s with
 | nil=>rw [h] at this;simp at this
 | cons x r=>exact ⟨x,r,rfl⟩
theorem sl_gone {w:World} {l:List ByteArray} (h:l=[]) (a:Option Addr):Sl w 1 bC l a 0 0:=by subst h;exact Sl.nilT _ _ _ _
theorem numOf_r {l:List UInt8} {v:Int} (h:bK l=some v):0<=v/\v<=999999:=by
 unfold bK at h
 split at h
 ·split at h
  ·cases h;omega
  ·cases h
 ·cases h
theorem numsB_r:∀ {l:List ByteArray} {N:List Int},vI l=some N->N.length=l.length/\∀ x∈N,0<=x/\x<=999999
 | [],N,h=>by cases h;simp
 | y :: r,N,h=>by
  unfold vI at h;rw [List.mapM_cons] at h
  cases h1:iH y with
  | none=>rw [h1] at h;cases h
  | some v=>
   rw [h1] at h
   cases h2:vI r with
   | none=>unfold vI at h2;rw [h2] at h;cases h
   | some M=>
    have ih:=numsB_r h2;unfold vI at h2;rw [h2] at h;cases h;refine ⟨by simp [ih.1],fun x hx=>?_⟩
    rcases List.mem_cons.1 hx with rfl|hx
    ·exact numOf_r h1
    ·exact ih.2 x hx
def restB (o:Option House) (w:ByteArray) (n:List Int):Option House×ByteArray:=
 match o with
 | none=>(none,zG 7)
 | some h=>
  match n with
  | []=>(some (xJ h w).1,(xJ h w).2.getD (zG 4))
  | [x]=>(some (oneB h w x).1,(oneB h w x).2.getD (zG 4))
  | [a,b,c,d]=>if w=wPark then (some (h.park ⟨a,⟨b,c,d⟩⟩).1,toldB (h.park ⟨a,⟨b,c,d⟩⟩).2.1 (h.park ⟨a,⟨b,c,d⟩⟩).2.2) else (some h,zG 4)
  | _=>(some h,zG 4)
theorem sayB_is {line hd:ByteArray} {r:List ByteArray} {N:List Int} (o:Option House) (hb:line.size<=60) (hw:bD line=hd :: r) (hn:vI r=some N):
  vM o line=if hd=wTower/\0<N.length/\N.length % 3=0 then (if jB (gD N)=0 then (some (House.new (gD N)),okB) else (o,zG (jB (gD N)))) else restB o hd N:=by
 unfold vM;rw [if_neg om,hw];dsimp only;rw [hn];rfl
theorem sayB_bad {line hd:ByteArray} {r:List ByteArray} (o:Option House) (hw:bD line=hd :: r) (hb:60<line.size\/vI r=none):vM o line=(o,zG 4):=by
 unfold vM
 rcases hb with hb|hb
 ·rw [if_pos hb]
 ·rw [hw]
  dsimp only;rw [hb]
  split <;> rfl
section
variable {w0:World} {SB:Nat} {Q:Nat->Prop} {o:Option House} {k:Nat} {w:World}
def SayR (w0:World) (SB:Nat) (Q:Nat->Prop) (o':Option House) (k':Nat) (w:World) (r:ByteArray) (e:Ending) (w':World):Prop:=
 e = .returned (.string r)/\Ses w0 SB Q o' k' w'/\fA (SK w0 Q) w w'
theorem Ses.less {Q':Nat->Prop} (s:Ses w0 SB Q' o k w) (hq:∀ i,Q i->Q' i):Ses w0 SB Q o k w:=by
 obtain ⟨b,s⟩:=s;refine ⟨⟨b.ex,b.sb,b.lt,fun h=>b.qn (hq _ h),fun i hi=>b.ql i (hq i hi)⟩,?_⟩
 cases o with
 | none=>exact s
 | some h=>
  obtain ⟨N,pb,mb,db,lb,hb,la,ln,lc,s⟩:=s;exact ⟨N,pb,mb,db,lb,hb,la,ln,lc,s.blk,s.st,s.lv,fun h0 c q e=>⟨(s.lf h0 c q e).1,fun h=>(s.lf h0 c q e).2.1 (hq _ h),(s.lf h0 c q e).2.2⟩,s.nb,fun i hi=>s.nq i (hq i hi)⟩
abbrev QM (Q:Nat->Prop) (w wc:World):Nat->Prop:=fun i=>Q i\/(w.heap.size<=i/\i<wc.heap.size)
theorem Ses.made {wc:World} (s:Ses w0 SB Q o k w) (x:Ext w wc):Ses w0 SB (QM Q w wc) o k wc:=s.grow (S:=fun _=>False) (fA.of_ext x) (fun _ e=>e.elim)
theorem Ses.ended {wc w2 w3:World} {o':Option House} {k' k2:Nat} (s:Ses w0 SB (QM Q w wc) o' k' w2/\fA (SK w0 (QM Q w wc)) wc w2) (x:Ext w wc) (x2:Ext w2 w3) (hk:k'<=k2):Ses w0 SB Q o' k2 w3/\fA (SK w0 Q) w w3:=
 ⟨((s.1.less (fun i h=>Or.inl h)).more hk).ext x2,(fA.of_ext x).trans ((s.2.wide (fun i h=>⟨h.1,fun e=>h.2 (Or.inl e)⟩)).trans (fA.of_ext x2))⟩
theorem Ses.said (s:Ses w0 SB Q o k w) {w':World} (x:Ext w w'):Ses w0 SB Q o (k+200) w'/\fA (SK w0 Q) w w':=⟨(s.ext x).more om,fA.of_ext x⟩
theorem say_bad (s:Ses w0 SB Q o k w) (L:kL w0) (line:ByteArray) (hz:line.size<=1000) {hd:ByteArray} {r:List ByteArray} (hw:bD line=hd :: r) (hb:60<line.size\/vI r=none):
  Calls prog 75 #[.pointer (some ⟨SB,0,none⟩),.string line] w (SayR w0 SB Q o (k+200) w (zG 4)):=by
 have HSZ:Hid (line.size<=1000000):=by unfold Hid;omega
 have HWS:Hid (∀ x∈r,x.size<=1000000):=fun x hx=>by
  obtain ⟨i,hi⟩:=List.mem_iff_getElem?.1 (show x∈bD line by rw [hw];exact List.mem_cons_of_mem _ hx);have:=word_size hi;omega
 have hrl:r.length<=10001:=by
  have h1:=eJ line;have h2:=nJ line;rw [hw] at h1;simp only [List.length_cons] at h1;omega
 have HW:=aA hw;have HS:=aA s;have HL:=aA (L.ext s.1.ex)
 obtain ⟨O,HO⟩:∃ O,Hid (vI r=O):=⟨_,rfl⟩
 rw [HO.out] at hb
 have hb60:O≠none->(60:Int)<(line.size:Int):=fun e=>by rcases hb with hb|hb;omega;exact absurd hb e
 clear s L hw hb;go_enter func75,ntmps75
 go_upto_region 2 with (go_at_call 135;(with_reducible refine (split_any line _ HSZ (HL.out.ext eX)).mono ?_);rw [HW.out];rintro e w1 ⟨wb,wn,rfl,hsl,hwn,o1,n1,rfl⟩)
 have hwl:wn=r.length+1:=hwn.out;subst hwl;have HT:Hid (Sl (w.plus o1 n1) 1 bC r (some ⟨wb,1,none⟩) r.length r.length):=sl_tail hsl;have s1:=hsl.bound.2;clear hsl hwn
 cases O with
 | none=>
  clear hb60
  go_upto_region 18 with (first
   | (go_at_call 136;(with_reducible refine (numbers_no (l:=r) (by first|exact HT.out|exact sl_gone ‹r=[]› _) HWS om (HL.out.ext eX) HO).mono ?_);rintro e w1 ⟨rfl,o2,n2,rfl⟩)
   | (go_at_call 137;with_reducible refine mo (mH 4 _ (mD om) (HL.out.tab.ext eX)) fun o1 n1=>?_))
  all_goals
   go_ret;exact ⟨rfl,HS.out.said eX⟩
 | some N=>
  have hb:=hb60 sp;clear hb60
  go_upto_region 18 with (first
   | (go_at_call 136;(with_reducible refine (numbers_yes N (l:=r) (by first|exact HT.out|exact sl_gone ‹r=[]› _) HWS om (HL.out.ext eX) HO).mono ?_);rintro e w1 ⟨g,d,rfl,hsn,hnw,o2,n2,rfl⟩;clear hsn hnw)
   | (go_at_call 137;with_reducible refine mo (mH 4 _ (mD om) (HL.out.tab.ext eX)) fun o1 n1=>?_))
  all_goals
   go_ret;exact ⟨rfl,HS.out.said eX⟩
end
