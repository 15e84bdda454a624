import Derived.Test.YtplomeacjbkgnabGreatDoorZ29
import Derived.Test.YtplomeacjbkgnabGreatDoorZ30
import Derived.Test.YtplomeacjbkgnabGreatDoorZ46
import Derived.Test.YtplomeacjbkgnabGreatDoorZ34
import Derived.Test.YtplomeacjbkgnabGreatDoorZ36
set_option linter.all false
set_option maxRecDepth 100000
set_option maxHeartbeats 16000000
namespace Go.Proofs.YtplomeacjbkgnabGreatDoor
open Go.RowKit Tryz Ch
theorem rnext_jf {w:World} {hb rb:Nat} {la:Option Addr} {ln lc:Nat} {last:Int} {a1:Option Addr} {m1 c1:Nat} {a2:Option Addr} {m2 c2:Nat} {gv:Value} {l:List sA} {js:List Job} {p:dA} (hh:eL w hb rb (.slice la ln lc) last a1 m1 c1 a2 m2 c2 gv l js p)
  (hwf:p.WF) (hj:Hid (∀ j∈js,∃ s∈l,s.ticket=j.ticket)) (h0:Hid (∀ s∈l,s.ticket≠0)) (hpl:Hid (∀ s∈l,uA s.home (ln:Int)=0)) (l1:1<=ln) (l4:ln<=4) (hlc:ln<=lc) (hlm:lc<=maxLen) (hm1:m1<=100) (hm2:m2<=100) (jt:Int) (HFJ:Hid (pC (sB ⟨last,l,js⟩ p.bay)=(jt,true,true))) (hl:p.lift=0)
  (hgo:Hid (p.slots ⟨(ln:Int),1,0⟩=0\/∃ xt xi x1 x2 x3 u1 u2 u3,(⟨last,l,js⟩:gB).of (p.slots ⟨(ln:Int),1,0⟩)=some ⟨xt,⟨xi,⟨x1,x2,x3⟩⟩,⟨u1,u2,u3⟩⟩/\bE ⟨last,l,js⟩ p ⟨xt,⟨xi,⟨x1,x2,x3⟩⟩,⟨u1,u2,u3⟩⟩ ⟨jt,true⟩=true)):
  Calls prog 68 #[.pointer (some ⟨hb,0,none⟩)] w (xI w (xA ⟨last,l,js⟩ (ln:Int) p).1 (xA ⟨last,l,js⟩ (ln:Int) p).2):=by
 by_cases hov:p.bay=((⟨last,l,js⟩:gB).stay jt).car.id\/p.has ((⟨last,l,js⟩:gB).stay jt).car.id=false
 ·exact rnext_jfA hh hwf hj h0 hpl l1 l4 hlc hlm hm1 hm2 jt _ _ true true _ rfl rfl rfl HFJ hl _ rfl hgo rfl rfl hov
 ·by_cases hB:¬ p.bay=0\/p.door=true
  ·exact rnext_jfB hh hwf hj h0 hpl l1 l4 hlc hlm hm1 hm2 jt _ _ true true _ rfl rfl rfl HFJ hl _ rfl hgo rfl rfl hov hB
  ·exact rnext_jfC hh hwf hj h0 hpl l1 l4 hlc hlm hm1 hm2 jt _ _ true true _ rfl rfl rfl HFJ hl _ rfl hgo rfl rfl hov (Classical.byContradiction fun h=>hB (Or.inl h)) (by cases h:p.door;rfl;exact absurd (Or.inr h) hB)
theorem rhnext_any {w:World} {hb rb:Nat} {la:Option Addr} {ln lc:Nat} {last:Int} {a1:Option Addr} {m1 c1:Nat} {a2:Option Addr} {m2 c2:Nat} {gv:Value} {l:List sA} {js:List Job} {p:dA} (hh:eL w hb rb (.slice la ln lc) last a1 m1 c1 a2 m2 c2 gv l js p)
  (hwf:p.WF) (hj:Hid (∀ j∈js,∃ s∈l,s.ticket=j.ticket)) (h0:Hid (∀ s∈l,s.ticket≠0)) (hpl:Hid (∀ s∈l,uA s.home (ln:Int)=0)) (l1:1<=ln) (l4:ln<=4) (hlc:ln<=lc) (hlm:lc<=maxLen) (hm1:m1<=100) (hm2:m2<=100):
  Calls prog 68 #[.pointer (some ⟨hb,0,none⟩)] w (xI w (xA ⟨last,l,js⟩ (ln:Int) p).1 (xA ⟨last,l,js⟩ (ln:Int) p).2):=by
 obtain ⟨⟨jt,jf,is⟩,HFJ⟩:∃ r,Hid (pC (sB ⟨last,l,js⟩ p.bay)=r):=⟨_,rfl⟩
 by_cases hl:p.lift=0
 ·by_cases hc:p.slots ⟨(ln:Int),1,0⟩=0
  ·cases is
   ·exact rnext_j0 hh hwf hj h0 hpl l1 l4 hlc hlm hm1 hm2 jt _ _ jf false _ rfl rfl rfl HFJ hl _ rfl hc rfl
   ·cases jf
    ·exact rnext_js hh hwf hj h0 hpl l1 l4 hlc hlm hm1 hm2 jt _ _ false true _ rfl rfl rfl HFJ hl _ rfl hc rfl rfl
    ·exact rnext_jf hh hwf hj h0 hpl l1 l4 hlc hlm hm1 hm2 jt HFJ hl (Or.inl hc)
  ·cases ho:(⟨last,l,js⟩:gB).of (p.slots ⟨(ln:Int),1,0⟩) with
   | none=>exact rnext_s1 hh hwf hj h0 hpl l1 l4 hlc hlm hm1 hm2 jt _ _ jf is _ rfl rfl rfl HFJ hl _ rfl hc ho
   | some x=>
    obtain ⟨xt,⟨xi,⟨x1,x2,x3⟩⟩,⟨u1,u2,u3⟩⟩:=x;cases is
    ·exact rnext_s2 hh hwf hj h0 hpl l1 l4 hlc hlm hm1 hm2 jt _ _ jf false _ rfl rfl rfl HFJ xt xi x1 x2 x3 u1 u2 u3 hl _ rfl hc ho rfl
    ·cases hb':bE ⟨last,l,js⟩ p ⟨xt,⟨xi,⟨x1,x2,x3⟩⟩,⟨u1,u2,u3⟩⟩ ⟨jt,jf⟩
     ·exact rnext_s3 hh hwf hj h0 hpl l1 l4 hlc hlm hm1 hm2 jt _ _ jf true _ rfl rfl rfl HFJ xt xi x1 x2 x3 u1 u2 u3 hl _ rfl hc ho rfl hb'
     ·cases jf
      ·simp [bE] at hb'
      ·exact rnext_jf hh hwf hj h0 hpl l1 l4 hlc hlm hm1 hm2 jt HFJ hl (Or.inr ⟨xt,xi,x1,x2,x3,u1,u2,u3,ho,hb'⟩)
 ·cases ho:(⟨last,l,js⟩:gB).of p.lift with
  | none=>exact rnext_l1 hh hwf hj h0 hpl l1 l4 hlc hlm hm1 hm2 jt _ _ jf is _ rfl rfl rfl HFJ hl ho
  | some x=>
   obtain ⟨xt,⟨xi,⟨x1,x2,x3⟩⟩,⟨u1,u2,u3⟩⟩:=x
   cases hg:(is&&jf&&jt==xt&&p.bay==0)
   ·by_cases h3:u3=1
    ·by_cases hs:p.slots ⟨u1,u2,0⟩=0
     ·cases is
      ·exact rnext_l4 hh hwf hj h0 hpl l1 l4 hlc hlm hm1 hm2 jt _ _ jf false _ rfl rfl rfl HFJ xt xi x1 x2 x3 u1 u2 u3 hl ho hg h3 hs rfl
      ·exact rnext_l5 hh hwf hj h0 hpl l1 l4 hlc hlm hm1 hm2 jt _ _ jf true _ rfl rfl rfl HFJ xt xi x1 x2 x3 u1 u2 u3 hl ho hg h3 hs rfl
     ·exact rnext_l3 hh hwf hj h0 hpl l1 l4 hlc hlm hm1 hm2 jt _ _ jf is _ rfl rfl rfl HFJ xt xi x1 x2 x3 u1 u2 u3 hl ho hg h3 hs
    ·cases is
     ·exact rnext_l6 hh hwf hj h0 hpl l1 l4 hlc hlm hm1 hm2 jt _ _ jf false _ rfl rfl rfl HFJ xt xi x1 x2 x3 u1 u2 u3 hl ho hg h3 rfl
     ·exact rnext_l7 hh hwf hj h0 hpl l1 l4 hlc hlm hm1 hm2 jt _ _ jf true _ rfl rfl rfl HFJ xt xi x1 x2 x3 u1 u2 u3 hl ho hg h3 rfl
   ·exact rnext_l2 hh hwf hj h0 hpl l1 l4 hlc hlm hm1 hm2 jt _ _ jf is _ rfl rfl rfl HFJ xt xi x1 x2 x3 u1 u2 u3 hl ho hg
def TurnV (w:World) (gl:List aG) (bl:Int) (bs:List sA) (bj:List Job) (oc:Bool) (e:Ending) (w':World):Prop:=
 ∃ g gc i1 i1' i2 i2',e = .returned (.tuple #[.slice g gl.length gc,.agg #[vi bl,.slice i1 bs.length i1',.slice i2 bj.length i2'],.bool oc])/\Sl w' 2 jC gl g gl.length gc/\Sl w' 8 iA bs i1 bs.length i1'/\Sl w' 2 jA bj i2 bj.length i2'/\Ext w w'
theorem xI.val {w:World} {gl gl':List aG} {ob ob':Option gB} {bl:Int} {bs:List sA} {bj:List Job} {oc:Bool} {e:Ending} {w':World} (h:xI w gl' ob' e w') (h1:(gl',ob')=(gl,ob)) (h2:ob.getD ⟨0,[],[]⟩=⟨bl,bs,bj⟩) (h3:ob.isSome=oc):TurnV w gl bl bs bj oc e w':=by
 obtain ⟨rfl,rfl⟩:=Prod.mk.inj h1;obtain ⟨v,v1,v2,he,hg,hob,hx⟩:=h;rw [h2] at he hob;rw [h3] at he;obtain ⟨g,gc,rfl,hs⟩:=Sl.of_owns (c:=2) (enc:=jC) hg dc (fun _=>rfl);obtain ⟨i1,i1',rfl,hs1⟩:=Sl.of_owns (c:=8) (enc:=iA) hob.stays dc (fun _=>rfl);obtain ⟨i2,i2',rfl,hs2⟩:=Sl.of_owns (c:=2) (enc:=jA) hob.jobs dc (fun _=>rfl);exact ⟨g,gc,i1,i1',i2,i2',he,hs,hs1,hs2,hx⟩
theorem rpark_back (last id lo hi he:Int) (a1:Option Addr) (m1 c1:Nat) (a2:Option Addr) (m2 c2:Nat) (aL:Option Addr) (nL cL:Nat) (l:List sA) (js:List Job) (ls:List dD) (w:World)
  (h:Sl w 8 iA l a1 m1 c1) (h2:Sl w 2 jA js a2 m2 c2) (hL:Sl w 3 yB ls aL nL cL) (n1':1<=nL) (n4:nL<=4) (hdp:∀ s∈l,s.home.depth=0\/s.home.depth=1) (htk:∀ s∈l,1<=s.ticket)
  (hm1:m1<=100) (hm2:m2<=100) (l0:0<=last) (l9:last<=999999)
  (x:gB) (kk f:Int) (hp:Hid (parkR (park ⟨last,l,js⟩ ls ⟨id,⟨lo,hi,he⟩⟩)=(x,kk,f))):
  Calls prog 53 #[lC last a1 m1 c1 a2 m2 c2,.slice aL nL cL,.agg #[vi id,vi lo,vi hi,vi he]] w (Back none w x (fun b=>.tuple #[b,vi kk,vi f])):=by
 refine (rpark_any last id lo hi he a1 m1 c1 a2 m2 c2 aL nL cL l js ls w h h2 hL n1' n4 hdp htk l0 l9 hm1 hm2).mono ?_;intro e w' hh;unfold RPark at hh;have e1:=hp.out
 cases hpk:park ⟨last,l,js⟩ ls ⟨id,⟨lo,hi,he⟩⟩ with
 | error g=>
  rw [hpk] at e1 hh;simp only [parkR,Prod.mk.injEq] at e1;obtain ⟨rfl,rfl,rfl⟩:=e1;obtain ⟨rfl,hx⟩:=hh;exact ⟨none,0,none,0,rfl,Sl.nil _ _ _,Sl.nil _ _ _,hx,(fun _ _ e=>by cases e),(fun _ _ e=>by cases e)⟩
 | ok r=>
  obtain ⟨x',k'⟩:=r;rw [hpk] at e1 hh;simp only [parkR,Prod.mk.injEq] at e1;obtain ⟨rfl,rfl,rfl⟩:=e1;obtain ⟨v1,v2,rfl,o1,o2,hx⟩:=hh;obtain ⟨y1,d1,rfl,s1⟩:=Sl.of_owns (c:=8) (enc:=iA) o1 dc (fun _=>rfl);obtain ⟨y2,d2,rfl,s2⟩:=Sl.of_owns (c:=2) (enc:=jA) o2 dc (fun _=>rfl);exact ⟨y1,d1,y2,d2,rfl,s1,s2,hx,fun b o e=>Or.inl (rH o1 b o e),rH o2⟩
theorem rwant_back (last t:Int) (a1:Option Addr) (m1 c1:Nat) (a2:Option Addr) (m2 c2:Nat) (l:List sA) (js:List Job) (w:World)
  (h:Sl w 8 iA l a1 m1 c1) (h2:Sl w 2 jA js a2 m2 c2) (hm2:m2<=100) (x:gB) (f:Int) (hp:Hid (wantR (want ⟨last,l,js⟩ t)=(x,f))):
  Calls prog 55 #[lC last a1 m1 c1 a2 m2 c2,vi t] w (Back a1 w x (fun b=>.tuple #[b,vi f])):=by
 refine (rwant_any last t a1 m1 c1 a2 m2 c2 l js w h h2 hm2).mono ?_;intro e w' hh;unfold RWant at hh;have e1:=hp.out
 cases hpk:want ⟨last,l,js⟩ t with
 | error g=>
  rw [hpk] at e1 hh;simp only [wantR,Prod.mk.injEq] at e1;obtain ⟨rfl,rfl⟩:=e1;obtain ⟨rfl,hx⟩:=hh;exact ⟨none,0,none,0,rfl,Sl.nil _ _ _,Sl.nil _ _ _,hx,(fun _ _ e=>by cases e),(fun _ _ e=>by cases e)⟩
 | ok x'=>
  have hst:x'.stays=l:=by
   have:=hpk;unfold want at this
   split at this
   ·cases this
   ·split at this
    ·cases this
    ·split at this
     ·cases this
     ·cases this;rfl
  rw [hpk] at e1 hh;simp only [wantR,Prod.mk.injEq] at e1;obtain ⟨rfl,rfl⟩:=e1;obtain ⟨v2,rfl,o2,hx⟩:=hh;obtain ⟨y2,d2,rfl,s2⟩:=Sl.of_owns (c:=2) (enc:=jA) o2 dc (fun _=>rfl);refine ⟨a1,c1,y2,d2,?_,?_,s2,hx,fun _ _ _=>Or.inr rfl,rH o2⟩
  ·rw [hst,h.len]
  ·rw [hst,h.len];exact Sl.below h hx.below
theorem rlevels_at (F:Int) (a:Option Addr) (n cap:Nat) (l:List dD) (w:World) (h:Sl w 3 yB l a n cap) (hv:Hid (jB l=F)):Calls prog 7 #[.slice a n cap] w fun e w'=>e = .returned (vi F)/\Ext w w':=by
 have:=rlevels_any a n cap l w h;rw [hv.out] at this;exact this
def rN (hb rb:Nat):Nat->Prop:=fun i=>i=hb\/i=rb
def zI (F:Nat->Prop) (hb rb:Nat) (a:Option Addr) (n:Nat):Prop:=0<n->∀ b o,a=some ⟨b,o,none⟩->F b/\¬ rN hb rb b
structure RHS (F:Nat->Prop) (hb rb:Nat) (la:Option Addr) (ln lc:Nat) (a1:Option Addr) (m1 c1:Nat) (a2:Option Addr) (m2 c2:Nat) (ga:Option Addr) (gn gc:Nat) (h:House) (w:World):Prop where
 blk:w.heap[hb]? = some (.cells (rhCells (.slice la ln lc) rb h.b.last a1 m1 c1 a2 m2 c2 (.slice ga gn gc)) 52 (0,0))
 lv:Sl w 3 yB h.sizes la ln lc
 st:Sl w 8 iA h.b.stays a1 m1 c1
 jb:Sl w 2 jA h.b.jobs a2 m2 c2
 go:Sl w 2 jC h.goals ga gn gc
 pl:bB w rb h.p
 ne:hb≠rb
 f0:zI F hb rb la ln
 f1:zI F hb rb a1 m1
 f2:zI F hb rb a2 m2
 f3:zI F hb rb ga gn
 fh:F hb
 fr:F rb
section
variable {F F':Nat->Prop} {hb rb:Nat} {la:Option Addr} {ln lc:Nat} {a1:Option Addr} {m1 c1:Nat} {a2:Option Addr} {m2 c2:Nat} {ga:Option Addr} {gn gc:Nat} {h:House} {w w':World}
theorem zI.mono {a:Option Addr} {n:Nat} (f:zI F hb rb a n) (hf:∀ i,F i->F' i):zI F' hb rb a n:=fun h0 b o e=>⟨hf b (f h0 b o e).1,(f h0 b o e).2⟩
theorem zI.new {α:Type} {c n cap:Nat} {enc:α->List Value} {l:List α} {a:Option Addr} (s:Sl w' c enc l a n cap) (he:∀ x,enc x≠[]) (hn:∀ b o,a=some ⟨b,o,none⟩->w.heap.size<=b) (h1:hb<w.heap.size) (h2:rb<w.heap.size):zI (fun i=>F i\/(w.heap.size<=i/\i<w'.heap.size)) hb rb a n:=fun h0 b o e=>by
 have hb':=hn b o e;subst e;exact ⟨Or.inr ⟨hb',Sl.block_ltC s h0 he⟩,by rintro (rfl|rfl) <;> omega⟩
theorem RHS.at_ (r:RHS F hb rb la ln lc a1 m1 c1 a2 m2 c2 ga gn gc h w):eL w hb rb (.slice la ln lc) h.b.last a1 m1 c1 a2 m2 c2 (.slice ga gn gc) h.b.stays h.b.jobs h.p:=⟨r.blk,r.st,r.jb,r.pl⟩
theorem RHS.ext (r:RHS F hb rb la ln lc a1 m1 c1 a2 m2 c2 ga gn gc h w) (x:Ext w w'):RHS F hb rb la ln lc a1 m1 c1 a2 m2 c2 ga gn gc h w':=
 ⟨wN r.blk x,Sl.below r.lv x.below,Sl.below r.st x.below,Sl.below r.jb x.below,Sl.below r.go x.below,r.pl.ext x,r.ne,r.f0,r.f1,r.f2,r.f3,r.fh,r.fr⟩
theorem RHS.mono (r:RHS F hb rb la ln lc a1 m1 c1 a2 m2 c2 ga gn gc h w) (hf:∀ i,F i->F' i):RHS F' hb rb la ln lc a1 m1 c1 a2 m2 c2 ga gn gc h w:=
 ⟨r.blk,r.lv,r.st,r.jb,r.go,r.pl,r.ne,r.f0.mono hf,r.f1.mono hf,r.f2.mono hf,r.f3.mono hf,hf _ r.fh,hf _ r.fr⟩
theorem RHS.lth (r:RHS F hb rb la ln lc a1 m1 c1 a2 m2 c2 ga gn gc h w):hb<w.heap.size:=tI r.blk
theorem RHS.kept {S:Nat->Prop} (r:RHS F hb rb la ln lc a1 m1 c1 a2 m2 c2 ga gn gc h w) (k:fA S w w') (hs:∀ i,S i->¬ F i):RHS F hb rb la ln lc a1 m1 c1 a2 m2 c2 ga gn gc h w':=by
 have ho:∀ b,F b->¬ S b:=fun b hf hS=>hs b hS hf
 exact ⟨(k.block hb r.lth (ho hb r.fh)).trans r.blk,r.lv.keptS k (fun h0 b o e=>ho b (r.f0 h0 b o e).1),r.st.keptS k (fun h0 b o e=>ho b (r.f1 h0 b o e).1),r.jb.keptS k (fun h0 b o e=>ho b (r.f2 h0 b o e).1),r.go.keptS k (fun h0 b o e=>ho b (r.f3 h0 b o e).1),
  r.pl.same (k.block rb r.pl.lt (ho rb r.fr)),r.ne,r.f0,r.f1,r.f2,r.f3,r.fh,r.fr⟩
theorem RHS.plant {p':dA} (r:RHS F hb rb la ln lc a1 m1 c1 a2 m2 c2 ga gn gc h w) (k:fA (Is rb) w w') (hp:bB w' rb p'):RHS F hb rb la ln lc a1 m1 c1 a2 m2 c2 ga gn gc { h with p:=p' } w':=
 ⟨(k.block hb r.lth r.ne).trans r.blk,r.lv.keptS k (fun h0 b o e hS=>(r.f0 h0 b o e).2 (Or.inr hS)),r.st.keptS k (fun h0 b o e hS=>(r.f1 h0 b o e).2 (Or.inr hS)),r.jb.keptS k (fun h0 b o e hS=>(r.f2 h0 b o e).2 (Or.inr hS)),r.go.keptS k (fun h0 b o e hS=>(r.f3 h0 b o e).2 (Or.inr hS)),
  hp,r.ne,r.f0,r.f1,r.f2,r.f3,r.fh,r.fr⟩
theorem RHS.book {bl:Int} {bs:List sA} {bj:List Job} {i1:Option Addr} {d1:Nat} {i2:Option Addr} {d2:Nat} (r:RHS F hb rb la ln lc a1 m1 c1 a2 m2 c2 ga gn gc h w) (s1:Sl w 8 iA bs i1 bs.length d1) (s2:Sl w 2 jA bj i2 bj.length d2) (q1:zI F hb rb i1 bs.length) (q2:zI F hb rb i2 bj.length)
  (hW:((w.setCell ⟨hb,2,none⟩ (vi bl)).setCell ⟨hb,3,none⟩ (.slice i1 bs.length d1)).setCell ⟨hb,4,none⟩ (.slice i2 bj.length d2)=w'):
  RHS F hb rb la ln lc i1 bs.length d1 i2 bj.length d2 ga gn gc { h with b:=⟨bl,bs,bj⟩ } w'/\fA (Is hb) w w':=by
 have k:fA (Is hb) w w':=by rw [<-hW];exact (((fA.refl (Is hb) w).put 2 _).put 3 _).put 4 _
 have no:∀ {a:Option Addr} {n:Nat},zI F hb rb a n->0<n->∀ b o,a=some ⟨b,o,none⟩->¬ Is hb b:=fun f h0 b o e hS=>(f h0 b o e).2 (Or.inl hS)
 refine ⟨⟨?_,r.lv.keptS k (no r.f0),s1.keptS k (no q1),s2.keptS k (no q2),r.go.keptS k (no r.f3),r.pl.same (k.block rb r.pl.lt (fun e=>r.ne (Eq.symm e))),r.ne,r.f0,q1,q2,r.f3,r.fh,r.fr⟩,k⟩;rw [<-hW,tB (tB (tB r.blk))];rfl
theorem RHS.goals {l:List aG} {i1:Option Addr} {n d1:Nat} (r:RHS F hb rb la ln lc a1 m1 c1 a2 m2 c2 ga gn gc h w) (s1:Sl w 2 jC l i1 n d1) (q1:zI F hb rb i1 n) (hW:w.setCell ⟨hb,5,none⟩ (.slice i1 n d1)=w'):
  RHS F hb rb la ln lc a1 m1 c1 a2 m2 c2 i1 n d1 { h with goals:=l } w'/\fA (Is hb) w w':=by
 have k:fA (Is hb) w w':=by rw [<-hW];exact (fA.refl (Is hb) w).put 5 _
 have no:∀ {a:Option Addr} {n:Nat},zI F hb rb a n->0<n->∀ b o,a=some ⟨b,o,none⟩->¬ Is hb b:=fun f h0 b o e hS=>(f h0 b o e).2 (Or.inl hS)
 refine ⟨⟨?_,r.lv.keptS k (no r.f0),r.st.keptS k (no r.f1),r.jb.keptS k (no r.f2),s1.keptS k (no q1),r.pl.same (k.block rb r.pl.lt (fun e=>r.ne (Eq.symm e))),r.ne,r.f0,r.f1,r.f2,q1,r.fh,r.fr⟩,k⟩;rw [<-hW,tB r.blk];rfl
end
def RN (F:Nat->Prop) (hb rb:Nat) (h:House) (w:World):Prop:=∃ la ln lc a1 m1 c1 a2 m2 c2 ga gn gc,RHS F hb rb la ln lc a1 m1 c1 a2 m2 c2 ga gn gc h w
theorem RN.ext {F:Nat->Prop} {hb rb:Nat} {h:House} {w w':World} (r:RN F hb rb h w) (x:Ext w w'):RN F hb rb h w':=by
 obtain ⟨la,ln,lc,a1,m1,c1,a2,m2,c2,ga,gn,gc,r⟩:=r;exact ⟨la,ln,lc,a1,m1,c1,a2,m2,c2,ga,gn,gc,r.ext x⟩
theorem RN.mono {F F':Nat->Prop} {hb rb:Nat} {h:House} {w:World} (r:RN F hb rb h w) (hf:∀ i,F i->F' i):RN F' hb rb h w:=by
 obtain ⟨la,ln,lc,a1,m1,c1,a2,m2,c2,ga,gn,gc,r⟩:=r;exact ⟨la,ln,lc,a1,m1,c1,a2,m2,c2,ga,gn,gc,r.mono hf⟩
theorem RN.kept {F S:Nat->Prop} {hb rb:Nat} {h:House} {w w':World} (r:RN F hb rb h w) (k:fA S w w') (hs:∀ i,S i->¬ F i):RN F hb rb h w':=by
 obtain ⟨la,ln,lc,a1,m1,c1,a2,m2,c2,ga,gn,gc,r⟩:=r;exact ⟨la,ln,lc,a1,m1,c1,a2,m2,c2,ga,gn,gc,r.kept k hs⟩
theorem RN.pl {F:Nat->Prop} {hb rb:Nat} {h:House} {w:World} (r:RN F hb rb h w):bB w rb h.p:=by
 obtain ⟨la,ln,lc,a1,m1,c1,a2,m2,c2,ga,gn,gc,r⟩:=r;exact r.pl
theorem RN.own {F:Nat->Prop} {hb rb:Nat} {h:House} {w:World} (r:RN F hb rb h w):F hb/\F rb:=by
 obtain ⟨la,ln,lc,a1,m1,c1,a2,m2,c2,ga,gn,gc,r⟩:=r;exact ⟨r.fh,r.fr⟩
theorem RN.plant {F:Nat->Prop} {hb rb:Nat} {h:House} {w w':World} {p':dA} (r:RN F hb rb h w) (k:fA (Is rb) w w') (hp:bB w' rb p'):RN F hb rb { h with p:=p' } w':=by
 obtain ⟨la,ln,lc,a1,m1,c1,a2,m2,c2,ga,gn,gc,r⟩:=r;exact ⟨la,ln,lc,a1,m1,c1,a2,m2,c2,ga,gn,gc,r.plant k hp⟩
