import Derived.Test.YtplomeacjbkgnabGreatDoorZ41
set_option linter.all false
set_option maxRecDepth 100000
set_option maxHeartbeats 16000000
namespace Go.Proofs.YtplomeacjbkgnabGreatDoor
open Go.RowKit Tryz Ch
def helloL:List ByteArray:=[⟨#[112,108,97,110,116]⟩,⟨#[116,111,119,101,114,32,57,57,32,57,57,32,57,57]⟩,⟨#[97,114,114,105,118,101,32,55]⟩,⟨#[112,97,114,107,32,55,32,49,32,49,32,49]⟩,⟨#[116,105,99,107,32,52,48]⟩,⟨#[99,97,114,115]⟩,⟨#[115,116,97,121,115]⟩,⟨#[106,111,98,115]⟩,⟨#[102,108,121]⟩]
def helloR:List ByteArray:=[⟨#[101,114,114,111,114,32,55]⟩,⟨#[111,107]⟩,⟨#[111,107]⟩,⟨#[49]⟩,⟨#[111,107]⟩,⟨#[49,46,48,46,49,32,55]⟩,⟨#[49,32,55,32,49,46,48,46,49]⟩,⟨#[45]⟩,⟨#[101,114,114,111,114,32,52]⟩]
theorem hello_says:(xD none helloL).2=helloR:=by decide +kernel
theorem tick_now {Z:Nat->Prop} {pb mb db lb hb n:Nat} {x:Live.HD} {w:World} (hZ:∀ k,w.heap.size<=k->Z k) (h:HN Z pb mb db lb hb n x w) (hi:x.h.Inv') (he:x.e+1<4294967296) (hw:x.d.wait.length<=1000) (hT:Tab w):
  Calls prog 20 #[.pointer (some ⟨hb,0,none⟩)] w fun r w'=>r = .returned (aC x.tick.2)/\fA Z w w'/\HN Z pb mb db lb hb n x.tick.1 w':=by
 by_cases hg:x.h.goals=[]
 ·exact tick_turn hZ h hi he hw hT hg
 ·exact tick_goals hZ h hi he hw hT hg
theorem ln_did {Z:Nat->Prop} {db lb n:Nat} {lv:Int} {e:Nat} {b:gB} {d d':aB} {w:World} {g:FuncId} {args:Array Value} {r:Value} (hZ:∀ k,w.heap.size<=k->Z k) (hN:LN Z db lb n lv e b d w)
  (hc:∀ F,gH w F db n d->Calls prog g args w (DDid F db n w d' r)):Calls prog g args w fun x w'=>x = .returned r/\fA Z w w'/\LN Z db lb n lv e b d' w':=by
 obtain ⟨F,v1,v2,g1,g2,g3,g4,g5,g6,g7,g8⟩:=hN;refine (hc F g1).mono ?_;rintro x w' ⟨rfl,⟨F',k1,k2⟩,k3⟩;have hlt:=g5.lt
 have lt6:∀ k,v1.ownBlock=some k\/v2.ownBlock=some k->k<w.heap.size:=fun k hk=>by
  rcases hk with hk|hk
  ·exact (rE g6 hk).2
  ·exact (rE g7 hk).2
 have nF:∀ k,v1.ownBlock=some k\/v2.ownBlock=some k->¬ F' k:=fun k hk hF=>by
  rcases k2 k hF with hF|hB
  ·exact (g8 k hk).1 hF
  ·have:=lt6 k hk;omega
 refine ⟨rfl,⟨k3.os,k3.tape,k3.output,k3.size,fun k hk hz=>k3.block k hk (fun hF=>hz (g2 k hF))⟩,F',v1,v2,k1,fun k hF=>(k2 k hF).elim (g2 k) (hZ k),?_,g4,?_,jF g6 (fun i hi=>k3.block i (lt6 i (Or.inl hi)) (g8 i (Or.inl hi)).1),jF g7 (fun i hi=>k3.block i (lt6 i (Or.inr hi)) (g8 i (Or.inr hi)).1),fun k hk'=>⟨nF k hk',(g8 k hk').2⟩⟩
 ·intro hF
  rcases k2 lb hF with hF|hB
  ·exact g3 hF
  ·omega
 ·exact (k3.block lb hlt g3).trans g5
theorem infoSizeC:(prog.info? 54).map (fun i=>(i.zero,i.size,i.bytes))=some (some (.agg #[vi 0,vi 0,vi 0]),3,24):=by kernel_rfl
theorem cloneSize_any (a:Option Addr) (n cap:Nat) (l:List dD) (w:World) (h:Sl w 3 yB l a n cap) (hn:n<=1000):
  Calls prog 49 #[.slice a n cap] w fun e w'=>∃ v,e = .returned v/\w'.ownsRow w.heap.size 54 3 v n (l.flatMap yB)/\Ext w w':=by
 obtain ⟨i0,hi,hz0,hz1,hz2⟩:=info_parts infoSizeC;have hb:=h.bound;have HF:=aA h;have HL:=aA h.len;clear h
 cases a with
 | none=>
  have h0:n=0:=by
   by_cases h0:n=0
   ·exact h0
   ·obtain ⟨_,_,_,e,_⟩:=HF.out.get (k:=0) om;cases e
  subst h0
  have hl:l=[]:=by have:=HL.out;cases l <;> simp_all
  subst hl
  have hq:=fun (w:World)=>Lib.run_eql_slice_nil (P:=prog) w
  go_enter func49,ntmps49;go_wp2;go_ret;exact ⟨_,rfl,World.ownsRow_nil _ _ _ _,eX⟩
 | some ad=>
  have hq:∀ w,(Go.binOp .eql 22 (.slice (some ad) n cap) (.slice none 0 0)).run prog w = .ok (.bool false) w:=fun w=>Lib.run_eql_slice_nil w _ _ _ _ _ _ _ underlying22
  have hnews:∀ j u,(l.flatMap yB)[j]? = some u->(w.alloc (.cells #[] 54)).cell? (ad.add j)=some u:=by
   by_cases h0:n=0
   ·have hl:l=[]:=by have:=HL.out;cases l <;> simp_all
    subst hl;intro j u hj;simp at hj
   ·obtain ⟨b,o,x,e,hx,_⟩:=HF.out.get (k:=0) om
    cases e;exact Sl.cells (Sl.alloc HF.out _) (fun _=>rfl)
  have hone:∀ u∈l.flatMap yB,u.oneCell'=true:=by
   intro u hu;obtain ⟨y,_,hy⟩:=List.mem_flatMap.1 hu;simp only [yB,List.mem_cons,List.not_mem_nil,or_false] at hy
   rcases hy with rfl|rfl|rfl <;> rfl
  have HN:=aA hnews;have HO:=aA hone;clear hnews hone;go_enter func49,ntmps49;go_wp2_with (at_builtin;refine wpList_append_own _ rfl _ _ _ rfl w.heap.size 54 i0 _ 3 24 underlying22 hi hz0 hz1 hz2 rfl dc _ 0 [] rfl (iM w 54 3 0 #[] rfl dc) ad n cap (l.flatMap yB) rfl (by rw [flat_len (c:=3) (fun _=>rfl),HL.out]) HN.out HO.out (by unfold maxLen;omega) om sp ?_;intro v' w1 hown hgrow hnil;obtain ⟨o1,n1,rfl⟩:=vB (w:=w) eX hgrow (by intro k hk;cases hk;exact Nat.le_refl _));go_ret;exact ⟨_,rfl,by simpa using hown,eX⟩
theorem book_new {Z:Nat->Prop} {db lb n:Nat} {lv:Int} {e:Nat} {b:gB} {d:aB} {w:World} (h:LN Z db lb n lv e b d w) (m1:b.stays.length<=1000) (m2:b.jobs.length<=1000):
  Calls prog 51 #[.pointer (some ⟨lb,0,none⟩)] w fun x w'=>∃ y1 d1 y2 d2,x = .returned (lC b.last y1 b.stays.length d1 y2 b.jobs.length d2)/\Sl w' 8 iA b.stays y1 b.stays.length d1/\Sl w' 2 jA b.jobs y2 b.jobs.length d2/\Ext w w' /\
   (∀ g o,y1=some ⟨g,o,none⟩->w.heap.size<=g)/\(∀ g o,y2=some ⟨g,o,none⟩->w.heap.size<=g):=by
 obtain ⟨F,v1,v2,h1,h2,h3,h4,h5,h6,h7,h8⟩:=h;obtain ⟨z1,c1,rfl,s1⟩:=Sl.of_owns (c:=8) (enc:=iA) h6 dc (fun _=>rfl);obtain ⟨z2,c2,rfl,s2⟩:=Sl.of_owns (c:=2) (enc:=jA) h7 dc (fun _=>rfl);refine (book_led b.stays b.jobs h5 s1 s2 m1 m2).mono ?_;rintro x w' ⟨v1,v2,rfl,ob,hx⟩;obtain ⟨y1,d1,rfl,t1⟩:=Sl.of_owns (c:=8) (enc:=iA) ob.stays dc (fun _=>rfl);obtain ⟨y2,d2,rfl,t2⟩:=Sl.of_owns (c:=2) (enc:=jA) ob.jobs dc (fun _=>rfl);exact ⟨y1,d1,y2,d2,rfl,t1,t2,hx,rH ob.stays,rH ob.jobs⟩
theorem hbook_now {Z:Nat->Prop} {pb mb db lb hb n:Nat} {x:Live.HD} {w:World} (h:HN Z pb mb db lb hb n x w) (m1:x.h.b.stays.length<=1000) (m2:x.h.b.jobs.length<=1000):
  Calls prog 28 #[.pointer (some ⟨hb,0,none⟩)] w fun r w'=>∃ y1 d1 y2 d2,r = .returned (lC x.h.b.last y1 x.h.b.stays.length d1 y2 x.h.b.jobs.length d2)/\Sl w' 8 iA x.h.b.stays y1 x.h.b.stays.length d1/\Sl w' 2 jA x.h.b.jobs y2 x.h.b.jobs.length d2/\Ext w w' /\
   (∀ g o,y1=some ⟨g,o,none⟩->w.heap.size<=g)/\(∀ g o,y2=some ⟨g,o,none⟩->w.heap.size<=g):=by
 obtain ⟨Y,la,ln,lc,ga,gn,gc,hs,hz⟩:=h;obtain ⟨⟨sizes,p,⟨last,l,js⟩,goals⟩,e0,d⟩:=x;obtain ⟨c0,c1,c2,c3,cf⟩:=hs.cells;have hbl:=hs.lt;have HL:=aA hs.led
 dsimp only at HL m1 m2 ⊢
 clear hs hz c0 c1 c3 cf;go_enter func28,ntmps28;go_wp2_with (go_at_call 51;refine (book_new (HL.out.ext eX) m1 m2).mono ?_;rintro e w1 ⟨y1,d1,y2,d2,rfl,s1,s2,hx,n1,n2⟩;dsimp only at s1 s2 ⊢;have HX:Hid (Ext w w1):=Ext.trans eX hx;have hx2:=hx;have S1:=aA s1;have S2:=aA s2;have N1:=aA n1;have N2:=aA n2;have r0:=gA hx (show (World.alloc w _).cell? ⟨w.heap.size,0,none⟩=some (vi 0) by simp [go_sem]);have r1:=gA hx (show (World.alloc w _).cell? ⟨w.heap.size,1,none⟩=some (.slice none 0 0) by simp [go_sem]);have r2:=gA hx (show (World.alloc w _).cell? ⟨w.heap.size,2,none⟩=some (.slice none 0 0) by simp [go_sem]);have f0:=kA hx (show w.heap.size<(World.alloc w _).heap.size by simp) (show (World.alloc w _).frozen? ⟨w.heap.size,0,none⟩=false by simp [go_sem]);have f1:=kA hx (show w.heap.size<(World.alloc w _).heap.size by simp) (show (World.alloc w _).frozen? ⟨w.heap.size,1,none⟩=false by simp [go_sem]);have f2:=kA hx (show w.heap.size<(World.alloc w _).heap.size by simp) (show (World.alloc w _).frozen? ⟨w.heap.size,2,none⟩=false by simp [go_sem]);clear s1 s2 hx n1 n2);obtain ⟨p0,p1,p2,px⟩:=three_cells (x:=vi last) (y:=.slice y1 l.length d1) (z:=.slice y2 js.length d2) HX.out (Nat.le_refl _) r0 r1 r2;have hk:fA (Is w.heap.size) w1 _:=(((fA.refl (Is w.heap.size) w1).put 0 (vi last)).put 1 (.slice y1 l.length d1)).put 2 (.slice y2 js.length d2);refine bodyPost_ret (v:=.agg #[vi last,.slice y1 l.length d1,.slice y2 js.length d2]) (by simp [results,results28,go_sem,p0,p1,p2]) rfl ?_;refine ⟨y1,d1,y2,d2,rfl,Sl.kept S1.out hk (fun _ b o e=>?_),Sl.kept S2.out hk (fun _ b o e=>?_),px,fun g o e=>?_,fun g o e=>?_⟩
 ·have:=N1.out b o e;simp at this;omega
 ·have:=N2.out b o e;simp at this;omega
 ·have:=N1.out g o e;simp at this;omega
 ·have:=N2.out g o e;simp at this;omega
theorem DZ.narrow {Z:Nat->Prop} {db n:Nat} {d:aB} {w:World} (h:DZ Z db n d w):DZ (fun k=>Z k/\k<w.heap.size) db n d w:=by
 obtain ⟨F,h1,h2⟩:=h;exact ⟨F,h1,fun k hk=>⟨h2 k hk,disk_ltL h1 k hk⟩⟩
theorem DZ.mono {Z Z':Nat->Prop} {db n:Nat} {d:aB} {w:World} (h:DZ Z db n d w) (hz:∀ i,Z i->Z' i):DZ Z' db n d w:=by
 obtain ⟨F,h1,h2⟩:=h;exact ⟨F,h1,fun k hk=>hz k (h2 k hk)⟩
theorem want_ok0 (x:gB) (last t:Int) (a1:Option Addr) (m1 c1:Nat) (a2:Option Addr) (m2 c2:Nat) (l:List sA) (js:List Job) (w:World)
  (h:Sl w 8 iA l a1 m1 c1) (h2:Sl w 2 jA js a2 m2 c2) (hm1:m1<=100) (hm2:m2<=100) (hp:Hid (want ⟨last,l,js⟩ t = .ok x)):
  Calls prog 54 #[lC last a1 m1 c1 a2 m2 c2,vi t] w (Back none w x (fun b=>.tuple #[b,.nilIface])):=
 want_back last t a1 m1 c1 a2 m2 c2 l js w h h2 hm1 hm2 x 0 (by unfold Hid;rw [hp.out];rfl)
theorem want_no0 (g:Int) (last t:Int) (a1:Option Addr) (m1 c1:Nat) (a2:Option Addr) (m2 c2:Nat) (l:List sA) (js:List Job) (w:World)
  (h:Sl w 8 iA l a1 m1 c1) (h2:Sl w 2 jA js a2 m2 c2) (hm1:m1<=100) (hm2:m2<=100) (hp:Hid (want ⟨last,l,js⟩ t = .error g)) (hg:g≠0):
  Calls prog 54 #[lC last a1 m1 c1 a2 m2 c2,vi t] w (Back none w ⟨0,[],[]⟩ (fun b=>.tuple #[b,.iface 92 (vi g)])):=by
 have:=want_back last t a1 m1 c1 a2 m2 c2 l js w h h2 hm1 hm2 ⟨0,[],[]⟩ g (by unfold Hid;rw [hp.out];rfl);unfold aC at this;rw [if_neg hg] at this;exact this
theorem park_ok0 (x:gB) (kk:Int) (last id lo hi he:Int) (a1:Option Addr) (m1 c1:Nat) (a2:Option Addr) (m2 c2:Nat) (aL:Option Addr) (nL cL:Nat) (l:List sA) (js:List Job) (ls:List dD) (w:World)
  (h:Sl w 8 iA l a1 m1 c1) (h2:Sl w 2 jA js a2 m2 c2) (hL:Sl w 3 yB ls aL nL cL) (n1':1<=nL) (n4:nL<=4) (hm1:m1<=100) (hm2:m2<=100) (l0:0<=last) (l9:last<=999999) (hp:Hid (park ⟨last,l,js⟩ ls ⟨id,⟨lo,hi,he⟩⟩ = .ok (x,kk))):
  Calls prog 50 #[lC last a1 m1 c1 a2 m2 c2,.slice aL nL cL,.agg #[vi id,vi lo,vi hi,vi he]] w (Back none w x (fun b=>.tuple #[b,vi kk,.nilIface])):=
 park_back last id lo hi he a1 m1 c1 a2 m2 c2 aL nL cL l js ls w h h2 hL n1' n4 hm1 hm2 l0 l9 x kk 0 (by unfold Hid;rw [hp.out];rfl)
theorem park_no0 (g:Int) (last id lo hi he:Int) (a1:Option Addr) (m1 c1:Nat) (a2:Option Addr) (m2 c2:Nat) (aL:Option Addr) (nL cL:Nat) (l:List sA) (js:List Job) (ls:List dD) (w:World)
  (h:Sl w 8 iA l a1 m1 c1) (h2:Sl w 2 jA js a2 m2 c2) (hL:Sl w 3 yB ls aL nL cL) (n1':1<=nL) (n4:nL<=4) (hm1:m1<=100) (hm2:m2<=100) (l0:0<=last) (l9:last<=999999) (hp:Hid (park ⟨last,l,js⟩ ls ⟨id,⟨lo,hi,he⟩⟩ = .error g)) (hg:g≠0):
  Calls prog 50 #[lC last a1 m1 c1 a2 m2 c2,.slice aL nL cL,.agg #[vi id,vi lo,vi hi,vi he]] w (Back none w ⟨0,[],[]⟩ (fun b=>.tuple #[b,vi 0,.iface 92 (vi g)])):=by
 have:=park_back last id lo hi he a1 m1 c1 a2 m2 c2 aL nL cL l js ls w h h2 hL n1' n4 hm1 hm2 l0 l9 ⟨0,[],[]⟩ 0 g (by unfold Hid;rw [hp.out];rfl);unfold aC at this;rw [if_neg hg] at this;exact this
theorem want_ne {b:gB} {t g:Int} (h:want b t = .error g):g≠0:=by
 unfold want at h
 split at h
 ·cases h;decide
 ·split at h
  ·cases h;decide
  ·split at h
   ·cases h;decide
   ·cases h
theorem park_ne {b:gB} {ls:List dD} {c:Car} {g:Int} (h:park b ls c = .error g):g≠0:=by
 have h0:=carFault_nn c;unfold park at h
 split at h
 ·rename_i hc
  cases h;omega
 ·split at h
  ·cases h;decide
  ·split at h
   ·cases h;decide
   ·split at h
    ·cases h;decide
    ·cases h
theorem check_ok (a:Option Addr) (n cap:Nat) (l:List dD) (w:World) (h:Sl w 3 yB l a n cap) (hf:jB l=0):Calls prog 47 #[.slice a n cap] w fun e w'=>e = .returned .nilIface/\Ext w w':=by
 have:=check_any a n cap l w h;rw [hf] at this;exact this
theorem new_now {Y0:Nat->Prop} {pb mb db n:Nat} {sizes:List dD} {la:Option Addr} {ln lc:Nat} {p:dA} {b:gB} {e0:Nat} {d:aB} {w:World} (hl:Sl w 3 yB sizes la ln lc) (hf:jB sizes=0) (hp:yA w pb mb p) (hd:DZ Y0 db n d w) (hy:∀ k,Y0 k->k<w.heap.size) (yp:¬ Y0 pb) (ym:¬ Y0 mb) (hP:LP n (ln:Int) e0 b d) (hn:22<=n) (L:kL w):
  Calls prog 11 #[.slice la ln lc,.pointer (some ⟨pb,0,none⟩),.pointer (some ⟨db,0,none⟩)] w fun r w'=>∃ hb lb,r = .returned (.tuple #[.pointer (some ⟨hb,0,none⟩),.nilIface])/\Ext w w' /\
   ∃ Y la' ln' lc' ga gn gc,HS Y (fun i=>w.heap.size<=i) pb mb db lb hb n la' ln' lc' ga gn gc ⟨⟨sizes,p,b,[]⟩,e0,d⟩ w'/\∀ k,HB Y pb mb hb k->Y0 k\/k=pb\/k=mb\/w.heap.size<=k:=by
 have hlen:=hl.len;subst hlen;have hlv:=jD hf
 have l1:(1:Int)<=(sizes.length:Int):=om
 have l4:(sizes.length:Int)<=4:=om
 have hl4:sizes.length<=1000:=om
 have lbd:=hl.bound;have hpl:=hp.lt;have HF:=aA hl;have HLF:=aA hf;have HP:=aA hp;have HD:=aA hd;have HY:=aA hy;have HYP:=aA yp;have HYM:=aA ym;have HPP:=aA hP;have HL:=aA L;clear hl hf hp hd hy yp ym hP L hlv;go_enter func11,ntmps11
 go_wp2_with (first
  | (go_at_call 47;with_reducible refine mo (check_ok _ _ _ _ _ (Sl.below HF.out (Ext.below eX)) HLF.out) fun o1 n1=>?_)
  | (go_at_call 48;refine (open_now (Z:=fun k=>Y0 k\/w.heap.size<=k) (fun k hk=>Or.inr (Nat.le_trans (Ext.below eX:Below w.heap.size w _).size hk)) ((HD.out.ext eX).mono (fun i hi=>Or.inl hi)) HPP.out l1 l4 hn (HL.out.ext eX)).mono ?_;rintro e w2 ⟨lb,rfl,hn2,hx⟩;have HX2:Hid (Ext w w2):=Ext.trans eX hx;have HN2:=aA hn2;clear hn2 hx)
  | (go_at_call 49;(with_reducible refine (cloneSize_any _ _ _ sizes _ (Sl.below HF.out (HX2.out.trans eX:Ext w _).below) hl4).mono ?_);rintro e w3 ⟨v,rfl,hown,hx⟩;obtain ⟨a,c,rfl,hs⟩:=Sl.of_owns (c:=3) (enc:=yB) hown dc (fun _=>rfl);have HX3:Hid (Ext w2 w3):=Ext.trans eX hx;have HS3:=aA hs;have HO3:=aA (rH hown);clear hown hs hx))
 generalize hW:World.alloc _ _=w4;have HXA:Ext w3 w4:=xQ hW
 have hblk:w4.heap[w3.heap.size]? = some (.cells (houseCells a sizes.length c pb lb none 0 0) 111 (0,0)):=by rw [<-hW];exact pA _ _ _ rfl
 clear hW
 go_ret2
 have hx4:=HX2.out.trans (HX3.out.trans HXA);have z2:=HX2.out.below.size;have z3:=HX3.out.below.size;refine ⟨w3.heap.size,lb,rfl,hx4,fun k=>Y0 k\/(w.heap.size<=k/\k<w2.heap.size),a,sizes.length,c,none,0,0,⟨HP.out.ext hx4,(HN2.out.move ?_).ext (HX3.out.trans HXA),hblk,Sl.below HS3.out HXA.below,Sl.nilT _ _ _ _,?_,?_,?_,?_,?_,?_,fun h0=>absurd h0 om⟩,?_⟩
 ·intro k hk hz
  rcases hz with hz|hz
  ·exact Or.inl hz
  ·exact Or.inr ⟨hz,hk⟩
 ·rintro (hh|hh)
  ·exact HYP.out hh
  ·omega
 ·rintro (hh|hh)
  ·exact HYM.out hh
  ·omega
 ·rintro (hh|hh)
  ·have:=HY.out _ hh;omega
  ·omega
 ·omega
 ·omega
 ·intro hn0 b o e
  subst e;have h1:=HO3.out b o rfl;have h2:=Sl.block_ltC HS3.out hn0 (by intro s;simp [yB]);refine ⟨fun hh=>?_,om⟩
  rcases hh with (hh|hh)|rfl|rfl|rfl
  ·have:=HY.out _ hh;omega
  ·omega
  ·omega
  ·omega
  ·omega
 ·rintro k ((hk|hk)|rfl|rfl|rfl)
  ·exact Or.inl hk
  ·exact Or.inr (Or.inr (Or.inr hk.1))
  ·exact Or.inr (Or.inl rfl)
  ·exact Or.inr (Or.inr (Or.inl rfl))
  ·exact Or.inr (Or.inr (Or.inr om))
theorem want_now {Z:Nat->Prop} {pb mb db lb hb n:Nat} {x:Live.HD} {w:World} (hZ:∀ k,w.heap.size<=k->Z k) (h:HN Z pb mb db lb hb n x w) (hi:x.h.Inv') (he:x.e+1<4294967296) (hw:x.d.wait.length<=1000) (hT:Tab w) (t:Int):
  Calls prog 17 #[.pointer (some ⟨hb,0,none⟩),vi t] w fun r w'=>r = .returned (aC (x.want t).2)/\fA Z w w'/\HN Z pb mb db lb hb n (x.want t).1 w':=by
 obtain ⟨Y,la,ln,lc,ga,gn,gc,hs,hz,hy⟩:=h.open_ hZ;obtain ⟨⟨sizes,p,⟨last,l,js⟩,goals⟩,e0,d⟩:=x;have hln:=hs.lv.len;have hcore:=hi.core;have hlen:=jD hi.lv;dsimp only at hln hlen he hw
 have l1:(1:Int)<=(ln:Int):=om
 have l4:(ln:Int)<=4:=om
 have hn1:1<=ln:=om
 have hn4:ln<=4:=om
 have hn:Hid ((⟨sizes,p,⟨last,l,js⟩,goals⟩:House).n=(ln:Int)):=by show ((sizes.length:Nat):Int)=_;rw [hln]
 have hc2:Core (ln:Int) ⟨last,l,js⟩ p:=by have h1:=hcore;rw [show House.n _=(ln:Int) from hn.out] at h1;exact h1
 have HWF:p.WF:=hc2.safe.wf;have hm1:l.length<=16:=hc2.book.s16;have hm2:js.length<=8:=hc2.book.j8;have hla0:0<=last:=hc2.book.l1;have hla9:last<=999999:=hc2.book.l2;obtain ⟨c0,c1,c2,c3,cf⟩:=hs.cells;have hbl:=hs.lt;have HS0:=aA hs;have HC2:=aA hc2;have HZZ:=aA hz;have HYY:=aA hy;have lbd:=hs.lv.bound;have HIN:=aA hi;clear hs hcore hlen hc2 hz hy h hi;have hTT:=aA hT;clear hT
 cases hwt:want ⟨last,l,js⟩ t with
 | error g=>
  have hg:=want_ne hwt;have HW:=aA hwt
  have HE:Hid ((⟨⟨sizes,p,⟨last,l,js⟩,goals⟩,e0,d⟩:Live.HD).want t=(⟨⟨sizes,p,⟨last,l,js⟩,goals⟩,e0,d⟩,g)):=by unfold Hid Live.HD.want;dsimp only;rw [HW.out]
  clear hwt;go_enter func17,ntmps17
  go_wp2_with (first
   | (go_at_call 51;refine (book_now (HS0.out.led.ext eX) (show l.length<=1000 by omega) (show js.length<=1000 by omega)).mono ?_;rintro e w8 ⟨z1,f1,z2,f2,rfl,s8,s9,⟨o8,n8,rfl⟩⟩;dsimp only at s8 s9 ⊢;have S8:=aA s8;have S9:=aA s9;clear s8 s9)
   | (go_at_call 54;refine (want_no0 g last t z1 l.length f1 z2 js.length f2 l js _ (Sl.below S8.out (Ext.below eX)) (Sl.below S9.out (Ext.below eX)) om om HW hg).mono ?_;rintro e w9 ⟨i1,k1,i2,k2,rfl,-,-,⟨o9,n9,rfl⟩,-,-⟩))
  go_ret;rw [HE.out];exact ⟨by unfold aC;rw [if_neg hg];rfl,fA.of_ext eX,Y,la,ln,lc,ga,gn,gc,HS0.out.ext eX,HZZ.out⟩
 | ok x'=>
  obtain ⟨bl,bs,bj⟩:=x';have HW:=aA hwt
  have HBF:Hid (fC ⟨bl,bs,bj⟩ (ln:Int)=0):=by
   have h0:=HIN.out.want t
   have e:House.want ⟨sizes,p,⟨last,l,js⟩,goals⟩ t=(⟨sizes,p,⟨bl,bs,bj⟩,goals⟩,0):=by unfold House.want;dsimp only;rw [HW.out]
   rw [e] at h0;have h1:=h0.core.book;exact uF.2 (by rw [<-hn.out];exact h1)
  obtain ⟨⟨d',f⟩,HKP⟩:∃ v,Hid (aB.keep d (e0+1) ⟨bl,bs,bj⟩=v):=⟨_,rfl⟩
  have HTK:Hid ((⟨⟨sizes,p,⟨last,l,js⟩,goals⟩,e0,d⟩:Live.HD).want t=Live.HD.keep ⟨⟨sizes,p,⟨last,l,js⟩,goals⟩,e0,d⟩ ⟨bl,bs,bj⟩):=by unfold Hid Live.HD.want;dsimp only;rw [HW.out]
  clear hwt;go_enter func17,ntmps17
  go_upto_region 2 with (first
   | (go_at_call 51;refine (book_now (HS0.out.led.ext eX) (show l.length<=1000 by omega) (show js.length<=1000 by omega)).mono ?_;rintro e w8 ⟨z1,f1,z2,f2,rfl,s8,s9,⟨o8,n8,rfl⟩⟩;dsimp only at s8 s9 ⊢;have S8:=aA s8;have S9:=aA s9;clear s8 s9)
   | (go_at_call 54;refine (want_ok0 ⟨bl,bs,bj⟩ last t z1 l.length f1 z2 js.length f2 l js _ (Sl.below S8.out (Ext.below eX)) (Sl.below S9.out (Ext.below eX)) om om HW).mono ?_;rintro e w9 ⟨i1,k1,i2,k2,rfl,s1,s2,hx9,n1,n2⟩;dsimp only at s1 s2 ⊢;have HX9:Hid (Ext w w9):=Ext.trans eX hx9;have T1:=aA s1;have T2:=aA s2;have M1:=aA n1;have M2:=aA n2;clear s1 s2 hx9 n1 n2))
  generalize hW:World.alloc _ _=wc;generalize hAA:w9.heap.size=A;have hxc9:Ext w9 wc:=xQ hW;have hxc:=HX9.out.trans hxc9;have p0:cI wc A 0 bl:=cR hW hAA;have p1:cV wc A 1 (.slice i1 bs.length k1):=cR hW hAA;have p2:cV wc A 2 (.slice i2 bj.length k2):=cR hW hAA
  have hA:w.heap.size<=A:=by rw [<-hAA];exact HX9.out.below.size
  have HS1:=aA (Sl.below T1.out hxc9.below);have HS2:=aA (Sl.below T2.out hxc9.below)
  have HN1:Hid (∀ b o,i1=some ⟨b,o,none⟩->w.heap.size<=b):=fun b o e=>by
   rcases M1.out b o e with h|h
   ·exact Nat.le_trans so h
   ·rw [h] at e;cases e
  have HN2:Hid (∀ b o,i2=some ⟨b,o,none⟩->w.heap.size<=b):=fun b o e=>by
   have h:=M2.out b o e;exact Nat.le_trans so h
  have HSC:=aA (HS0.out.ext hxc);have HXC:=aA hxc;have zA:=cA p0;have d2:=gA hxc c2;have zh:=cA d2;clear hW hAA hxc hxc9 c0 c1 c2 c3 cf T1 T2 M1 M2 HX9;have HYN:Hid (HS (fun k=>Y k\/wc.heap.size<=k) Z pb mb db lb hb n la ln lc ga gn gc ⟨⟨sizes,p,⟨last,l,js⟩,goals⟩,e0,d⟩ wc):=HSC.out.move (fun k hk=>⟨fun h=>h.elim id (fun h=>absurd hk om),Or.inl⟩)
  have HLN:Hid (LN (fun k=>Y k\/wc.heap.size<=k) db lb n (ln:Int) e0 ⟨last,l,js⟩ d wc):=by
   have h1:=HYN.out.led;rw [show House.n _=(ln:Int) from hn.out] at h1;exact h1
  have HNB:Hid (∀ b o,(0<bs.length/\i1=some ⟨b,o,none⟩)\/(0<bj.length/\i2=some ⟨b,o,none⟩)->¬ (Y b\/wc.heap.size<=b)):=by
   intro b o hh hz
   have h1:w.heap.size<=b:=by
    rcases hh with hh|hh
    ·exact HN1.out b o hh.2
    ·exact HN2.out b o hh.2
   have h2:b<wc.heap.size:=by
    rcases hh with ⟨hp,e⟩|⟨hp,e⟩
    ·subst e
     exact Sl.block_ltC HS1.out hp (by intro s;simp [iA])
    ·subst e
     exact Sl.block_ltC HS2.out hp (by intro s;simp [jA])
   rcases hz with hz|hz
   ·have:=HYY.out b hz
    omega
   ·omega
  have HWZ:Hid (∀ k,HB (fun k=>Y k\/wc.heap.size<=k) pb mb hb k->Z k):=by
   intro k hk
   rcases hk with (hk|hk)|hk
   ·exact HZZ.out k (Or.inl hk)
   ·exact hZ k (Nat.le_trans HXC.out.below.size hk)
   ·exact HZZ.out k (Or.inr hk)
  have HNH:Hid (¬ (Y hb\/wc.heap.size<=hb)):=by
   intro hh
   rcases hh with hh|hh
   ·exact HS0.out.yh hh
   ·omega
  have HNA:Hid (¬ (Y A\/wc.heap.size<=A)):=by
   intro hh
   rcases hh with hh|hh
   ·have:=HYY.out A hh
    omega
   ·omega
  go_upto_region 3 with fail
  go_region_held3 (fun w'=>w'.cell? ⟨hb,2,none⟩=some (.pointer (some ⟨lb,0,none⟩))/\w'.cell? ⟨A,0,none⟩=some (vi bl)/\w'.cell? ⟨A,1,none⟩=some (.slice i1 bs.length k1)/\w'.cell? ⟨A,2,none⟩=some (.slice i2 bj.length k2)) (first|(first|((try dsimp only);(repeat' apply And.intro) <;> exact xC (w:=wc)))|((try dsimp only);(repeat' apply And.intro) <;> assumption))
   (first
    | (go_at_call 52;refine (keep_led (Z:=fun k=>Y k\/wc.heap.size<=k) (fun k hk=>Or.inr (Nat.le_trans (Ext.below eX:Below wc.heap.size wc _).size hk)) (HLN.out.ext eX) hw l4 he (hTT.out.ext (HXC.out.trans eX)) bl i1 bs.length k1 i2 bj.length k2 bs bj (Sl.below HS1.out (Ext.below eX)) (Sl.below HS2.out (Ext.below eX)) HNB.out HBF.out).mono ?_;rintro e w9 ⟨he9,hk9,hr9⟩;have HK9:Hid (fA (fun k=>Y k\/wc.heap.size<=k) wc w9):=(fA.of_ext eX:fA (fun k=>Y k\/wc.heap.size<=k) wc _).trans hk9;rw [HKP.out] at he9 hr9;dsimp only at he9 hr9;have HR9:=aA hr9;have nd2:=qB HK9.out d2 HNH.out;have np0:=qB HK9.out p0 HNA.out;have np1:=qB HK9.out p1 HNA.out;have np2:=qB HK9.out p2 HNA.out;clear hk9 hr9;subst he9))
  all_goals
   have hkz:fA Z w w9:=(fA.of_ext HXC.out).trans (HK9.out.wide (fun i hi=>HWZ.out i (Or.inl hi)));have HKZ:=aA hkz;clear hkz
   rcases HR9.out with ⟨h0,hl⟩|⟨h0,hl⟩
   ·subst h0
    have HL:=aA hl;clear hl;rw [show aC 0 = .nilIface from rfl];go_wp2;go_ret;rw [HTK.out];unfold Live.HD.keep;dsimp only;rw [HKP.out];dsimp only
    try rw [if_pos rfl]
    exact ⟨rfl,HKZ.out.trans (fA.of_ext eX),fun k=>Y k\/wc.heap.size<=k,la,ln,lc,ga,gn,gc,(HYN.out.ledger HK9.out (by rw [hn.out];exact HL.out)).ext eX,HWZ.out⟩
   ·have HL:=aA hl
    clear hl;rw [show aC f = .iface 92 (vi f) by unfold aC;rw [if_neg h0]];go_wp2;go_ret;rw [HTK.out];unfold Live.HD.keep;dsimp only;rw [HKP.out];dsimp only
    try rw [if_neg h0]
    exact ⟨by unfold aC;rw [if_neg h0];rfl,HKZ.out.trans (fA.of_ext eX),fun k=>Y k\/wc.heap.size<=k,la,ln,lc,ga,gn,gc,(HYN.out.ledger HK9.out (by rw [hn.out];exact HL.out)).ext eX,HWZ.out⟩
def byteS (x:Int):ByteArray:=⟨#[UInt8.ofNat x.toNat]⟩
theorem conv_one (w:World) (a:Nat) (x:Int) (h:w.cell? ⟨a,0,none⟩=some (.int .u8 x)):(convert 155 9 (.slice (some ⟨a,0,none⟩) 1 1)).run prog w = .ok (.string (byteS x)) w:=by
 refine run_convert_bytes_arg w 155 5 underlying155 underlying5 a 0 1 1 [x] rfl ?_ 9 underlying9;intro i hi
 obtain rfl:i=0:=om
 exact h
theorem itoaS_one {n:Int} (h0:0<=n) (h1:n<10):fB n=byteS (48+n):=by
 apply ba_ext;rw [oF];unfold Lib.itoa;rw [if_neg om,Lib.decDigits_one om]
 show [UInt8.ofNat (48+n.toNat)]=[UInt8.ofNat (48+n).toNat]
 rw [show (48+n).toNat=48+n.toNat by omega]
theorem itoaS_more {n:Int} (h1:10<=n):fB n=fB (n / 10)++byteS (48+n % 10):=by
 apply ba_ext;rw [oK,oF,oF];unfold Lib.itoa;rw [if_neg om,if_neg om,fI _ om]
 show _++[UInt8.ofNat (48+n.toNat % 10)]=_++[UInt8.ofNat (48+n % 10).toNat]
 rw [show (48+n % 10).toNat=48+n.toNat % 10 by omega,show n.toNat / 10=(n / 10).toNat by omega]
theorem decimal_one (n:Int) (w:World) (h0:0<=n) (h1:n<10):Calls prog 81 #[vi n] w fun e w'=>e = .returned (.string (fB n))/\Ext w w':=by
 rw [itoaS_one h0 h1];go_enter func81,ntmps81;go_wp2_with fail;rw [conv_one (x:=48+n)]
 rotate_left 1
 ·simp [go_sem]
 go_wp2_with fail;go_ret;exact ⟨rfl,eX⟩
theorem decimal_more (n:Int) (w:World) (h1:10<=n) (h2:n<=1000000) (ih:∀ v,Calls prog 81 #[vi (n / 10)] v fun e w'=>e = .returned (.string (fB (n / 10)))/\Ext v w'):
  Calls prog 81 #[vi n] w fun e w'=>e = .returned (.string (fB n))/\Ext w w':=by
 have hz:(fB (n / 10)).size<=6:=jE ⟨om,om⟩;have hb:(byteS (48+n % 10)).size=1:=rfl;have e1:n.tdiv 10=n / 10:=Int.tdiv_eq_ediv_of_nonneg om;have e2:n.tmod 10=n % 10:=Int.tmod_eq_emod_of_nonneg om;have i1:IntKind.i64.wrap (n / 10)=n / 10:=IntWalk.i64_in _ om;have i2:IntKind.i64.wrap (48+n % 10)=48+n % 10:=IntWalk.i64_in _ om
 have i3:IntKind.u8.wrap (48+n % 10)=48+n % 10:=by rw [Go.IntKind.wrap_u8];omega
 have c1:=rB _ _ _ (itoaS_more h1) om;generalize fB n=T at *;go_enter func81,ntmps81
 go_upto_region 5 with fail
 have r1:∀ (o:Array Obj) (k:Nat),(convert 155 9 (.slice (some ⟨w.heap.size+o.size,0,none⟩) 1 1)).run prog ((w.drew.plus o k).alloc (Obj.cells #[.int .u8 (48+n % 10)] 5)) = .ok (.string (byteS (48+n % 10))) ((w.drew.plus o k).alloc (Obj.cells #[.int .u8 (48+n % 10)] 5)):=fun o k=>conv_one _ _ _ (by simp [go_sem])
 have r2:∀ (o:Array Obj) (k:Nat),(convert 155 9 (.slice (some ⟨w.heap.size,0,none⟩) 1 1)).run prog ((w.alloc (Obj.cells #[.int .u8 (48+n % 10)] 5)).drew.plus o k) = .ok (.string (byteS (48+n % 10))) ((w.alloc (Obj.cells #[.int .u8 (48+n % 10)] 5)).drew.plus o k):=fun o k=>conv_one _ _ _ (by simp [cB,go_sem])
 have r3:(convert 155 9 (.slice (some ⟨w.heap.size,0,none⟩) 1 1)).run prog (w.alloc (Obj.cells #[.int .u8 (48+n % 10)] 5)).drew = .ok (.string (byteS (48+n % 10))) (w.alloc (Obj.cells #[.int .u8 (48+n % 10)] 5)).drew:=conv_one _ _ _ (by simp [go_sem])
 go_region_with (first|(go_at_call 81;with_reducible refine mo (ih _) fun o1 n1=>?_))
 all_goals
  go_wp2_with fail;go_ret;exact ⟨rfl,eX⟩
theorem decimal_all:∀ (k:Nat) (n:Int) (w:World),0<=n->n<=999999->n<10 ^ (k+1)->Calls prog 81 #[vi n] w fun e w'=>e = .returned (.string (fB n))/\Ext w w'
 | 0,n,w,h0,_,h2=>decimal_one n w h0 om
 | k+1,n,w,h0,h1,h2=>by
  by_cases h:n<10
  ·exact decimal_one n w h0 h
  ·have h2:n<10 ^ (k+1) * 10:=by rw [<-Int.pow_succ];exact h2
   exact decimal_more n w om om (fun v=>decimal_all k (n / 10) v om om om)
theorem mG (n:Int) (w:World) (hn:Hid (0<=n/\n<=999999)):Calls prog 81 #[vi n] w fun e w'=>e = .returned (.string (fB n))/\Ext w w':=
 decimal_all 5 n w hn.out.1 hn.out.2 (by have:=hn.out;omega)
