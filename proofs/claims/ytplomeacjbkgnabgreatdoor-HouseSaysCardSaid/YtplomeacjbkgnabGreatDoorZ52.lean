import Derived.Test.YtplomeacjbkgnabGreatDoorZ51
import Derived.Test.YtplomeacjbkgnabGreatDoorZ34
set_option linter.all false
set_option maxRecDepth 100000
set_option maxHeartbeats 16000000
namespace Go.Proofs.YtplomeacjbkgnabGreatDoor
open Go.RowKit
abbrev FarN (w0:World) (N:Nat→Prop):Nat→Prop:=fun i=>¬ Own0 w0 N i
structure Tw (w0:World) (N:Nat→Prop) (pb mb db lb hb rh rb:Nat) (h h':Ch.House) (k:Nat) (w:World):Prop where
 s:St w0 N pb mb db lb hb h k w
 r:RN (FarN w0 N) rh rb h' w
 n1:w0.heap.size≤rh
 n2:w0.heap.size≤rb
theorem HS.plant2 {Y Z S:Nat→Prop} {pb mb db lb hb n:Nat} {la:Option Addr} {ln lc:Nat} {ga:Option Addr} {gn gc:Nat} {x:Ch.Live.HD} {w w':World} {p':Ch.Plant} (h:HS Y Z pb mb db lb hb n la ln lc ga gn gc x w) (hz:∀ k,HB Y pb mb hb k→Z k) (k:mA S w w') (hS:∀ i,S i→Own pb mb i∨¬ Z i) (hp:tA w' pb mb p'):
  HS Y Z pb mb db lb hb n la ln lc ga gn gc { x with h:={ x.h with p:=p' } } w':=by
 have hs:∀ i,S i→¬ Y i:=fun i hi hy=>by
  rcases hS i hi with (rfl|rfl)|hn
  ·exact h.yp hy
  ·exact h.ym hy
  ·exact hn (hz i (Or.inl hy))
 have ho:∀ b,¬ HB Y pb mb hb b→Z b→¬ S b:=fun b hn hb' hh=>by
  rcases hS b hh with hh|hh
  ·exact hn (by rcases hh with hh|hh;exact Or.inr (Or.inl hh);exact Or.inr (Or.inr (Or.inl hh)))
  ·exact hh hb'
 have hb':¬ S hb:=fun hh=>by
  rcases hS hb hh with (e|e)|hn
  ·exact h.hp e
  ·exact h.hm e
  ·exact hn (hz hb (Or.inr (Or.inr (Or.inr rfl))))
 exact ⟨hp,h.led.kept k hs,(k.block hb h.lt hb').trans h.blk,h.lv.keptS k (fun h0 b o e=>ho b (h.far1 h0 b o e).1 (h.far1 h0 b o e).2),h.go.keptS k (fun h0 b o e=>ho b (h.far2 h0 b o e).1 (h.far2 h0 b o e).2),h.yp,h.ym,h.yh,h.hp,h.hm,h.far1,h.far2⟩
theorem St.plant2 {w0:World} {N S:Nat→Prop} {pb mb db lb hb:Nat} {h:Ch.House} {k:Nat} {w w':World} {p':Ch.Plant} (s:St w0 N pb mb db lb hb h k w) (kk:mA S w w') (hS:∀ i,S i→Own pb mb i∨(N i∧w0.heap.size≤i)) (hp:tA w' pb mb p') (hi:Ch.Live.House.Inv2 { h with p:=p' }):
  St w0 N pb mb db lb hb { h with p:=p' } k w':=by
 obtain ⟨x,rfl,h2,h3,h4,sd⟩:=s;obtain ⟨hx,⟨Y,la,ln,lc,ga,gn,gc,hs,hz⟩,hlt⟩:=sd
 have hw:∀ i,S i→w0.heap.size≤i:=fun i hi=>by
  rcases hS i hi with (rfl|rfl)|hh
  ·exact (hz _ (Or.inr (Or.inl rfl))).1
  ·exact (hz _ (Or.inr (Or.inr (Or.inl rfl)))).1
  ·exact hh.2
 exact ⟨{ x with h:={ x.h with p:=p' } },rfl,⟨hi,h2.calm,h2.holds⟩,h3,h4,Ext.of_below (xD hx.below (Nat.le_refl _) kk hw),⟨Y,la,ln,lc,ga,gn,gc,hs.plant2 hz kk (fun i hi=>(hS i hi).imp_right (fun q hZ=>hZ.2 q.1)) hp,hz⟩,fun i hi=>Nat.lt_of_lt_of_le (hlt i hi) kk.size⟩
section
variable {w0:World} {N:Nat→Prop} {pb mb db lb hb rh rb:Nat} {h h':Ch.House} {k:Nat} {w w':World}
theorem Tw.ext (t:Tw w0 N pb mb db lb hb rh rb h h' k w) (x:Ext w w'):Tw w0 N pb mb db lb hb rh rb h h' k w':=⟨t.s.ext x,t.r.ext x,t.n1,t.n2⟩
theorem Tw.more (t:Tw w0 N pb mb db lb hb rh rb h h' k w) {k':Nat} (hk:k≤k'):Tw w0 N pb mb db lb hb rh rb h h' k' w:=⟨t.s.more hk,t.r,t.n1,t.n2⟩
theorem Tw.prog {lb2 hb2 k2:Nat} {h2:Ch.House} (t:Tw w0 N pb mb db lb hb rh rb h h' k w) (kk:mA (Own0 w0 N) w w') (s':St w0 N pb mb db lb2 hb2 h2 k2 w'):Tw w0 N pb mb db lb2 hb2 rh rb h2 h' k2 w':=
 ⟨s',t.r.kept kk (fun _ hi hf=>hf hi),t.n1,t.n2⟩
theorem far_next {w0:World} {N:Nat→Prop} {w w':World}:∀ i,zI (FarN w0 N) w w' i→FarN w0 (fun i=>N i∨(w.heap.size≤i∧i<w'.heap.size)) i:=fun i hi hO=>by
 rcases hi with hi|hi
 ·exact hi ⟨hO.1,fun hN=>hO.2 (Or.inl hN)⟩
 ·exact hO.2 (Or.inr hi)
theorem Tw.ref {h2:Ch.House} (t:Tw w0 N pb mb db lb hb rh rb h h' k w) (kk:mA (Own2 rh rb) w w') (r':RN (zI (FarN w0 N) w w') rh rb h2 w'):Tw w0 (fun i=>N i∨(w.heap.size≤i∧i<w'.heap.size)) pb mb db lb hb rh rb h h2 k w':=
 ⟨t.s.grow kk (fun i hi=>by
   rcases hi with rfl|rfl
   ·exact ⟨Classical.byContradiction fun hn=>t.r.own.1 ⟨t.n1,hn⟩,t.n1⟩
   ·exact ⟨Classical.byContradiction fun hn=>t.r.own.2 ⟨t.n2,hn⟩,t.n2⟩),r'.mono far_next,t.n1,t.n2⟩
theorem Tw.pl (t:Tw w0 N pb mb db lb hb rh rb h h k w):pJ w pb mb rb h.p:=by
 obtain ⟨x,rfl,_,_,_,sd⟩:=t.s;have ho:=sd.hn.own;exact ⟨sd.plantAt,t.r.pl,fun e=>t.r.own.2 (e▸ho pb (Or.inl rfl)),fun e=>t.r.own.2 (e▸ho mb (Or.inr rfl))⟩
theorem RN.plant2 {F S:Nat→Prop} {hb rb:Nat} {h:Ch.House} {w w':World} {p':Ch.Plant} (r:RN F hb rb h w) (k:mA S w w') (hS:∀ i,S i→i=rb∨¬ F i) (hp:vA w' rb p'):RN F hb rb { h with p:=p' } w':=by
 obtain ⟨la,ln,lc,a1,m1,c1,a2,m2,c2,ga,gn,gc,r⟩:=r
 have no:∀ {a:Option Addr} {n:Nat},iF F hb rb a n→0<n→∀ b o,a=some ⟨b,o,none⟩→¬ S b:=fun f h0 b o e hs=>by
  rcases hS b hs with hh|hh
  ·exact (f h0 b o e).2 (Or.inr hh)
  ·exact hh (f h0 b o e).1
 have nh:¬ S hb:=fun hs=>by
  rcases hS hb hs with hh|hh
  ·exact r.ne hh
  ·exact hh r.fh
 exact ⟨la,ln,lc,a1,m1,c1,a2,m2,c2,ga,gn,gc,(k.block hb r.lth nh).trans r.blk,r.lv.keptS k (no r.f0),r.st.keptS k (no r.f1),r.jb.keptS k (no r.f2),r.go.keptS k (no r.f3),hp,r.ne,r.f0,r.f1,r.f2,r.f3,r.fh,r.fr⟩
theorem Tw.both {p':Ch.Plant} (t:Tw w0 N pb mb db lb hb rh rb h h k w) (kk:mA (Own3 pb mb rb) w w') (b':pJ w' pb mb rb p') (hi:Ch.Live.House.Inv2 { h with p:=p' }):Tw w0 N pb mb db lb hb rh rb { h with p:=p' } { h with p:=p' } k w':=by
 have ho:∀ i,Own pb mb i→Own0 w0 N i:=by
  obtain ⟨x,rfl,_,_,_,sd⟩:=t.s;exact sd.hn.own
 refine ⟨t.s.plant2 kk (fun i hi=>hi.imp_right fun e=>?_) b'.a hi,t.r.plant2 kk (fun i hi=>hi.symm.imp_right fun q hf=>hf (ho i q)) b'.b,t.n1,t.n2⟩;subst e;exact ⟨Classical.byContradiction fun hn=>t.r.own.2 ⟨t.n2,hn⟩,t.n2⟩
theorem Tw.anew {H:Nat} {la:Option Addr} {ln lc:Nat} (t:Tw w0 N pb mb db lb hb rh rb h h' k w) {a1:Option Addr} {m1 c1:Nat} {a2:Option Addr} {m2 c2:Nat} (x:Ext w w') (hH:w.heap.size≤H) (hl:Sl w0 3 lB h'.sizes la ln lc) (s1:Sl w 8 gA h'.b.stays a1 m1 c1) (s2:Sl w 2 jA h'.b.jobs a2 m2 c2) (q1:iF (FarN w0 N) rh rb a1 m1) (q2:iF (FarN w0 N) rh rb a2 m2)
  (hlo:0<ln→∀ b o,la=some ⟨b,o,none⟩→b<w0.heap.size)
  (hb':w'.heap[H]? = some (.cells (rhCells (.slice la ln lc) rb h'.b.last a1 m1 c1 a2 m2 c2 (.slice none 0 0)) 52 (0,0))):
  Tw w0 (fun i=>N i∨(w.heap.size≤i∧i<w'.heap.size)) pb mb db lb hb H rb h { h' with goals:=[] } k w':=by
 have hlt:H<w'.heap.size:=dG hb';have hpl:=t.r.pl.lt;have h0:=t.s.x.below.size
 have hm:∀ i,FarN w0 N i→FarN w0 (fun i=>N i∨(w.heap.size≤i∧i<w'.heap.size)) i:=fun i hi=>far_next i (Or.inl hi)
 have old:∀ {α:Type} {c:Nat} {enc:α→List Value} {l:List α} {a:Option Addr} {n cap:Nat},Sl w c enc l a n cap→(∀ y,enc y≠[])→iF (FarN w0 N) rh rb a n→iF (FarN w0 (fun i=>N i∨(w.heap.size≤i∧i<w'.heap.size))) H rb a n:=fun s he f h0 b o e=>by
  have h2:=f h0 b o e;subst e;have h3:=Sl.block_ltC s h0 he;exact ⟨hm b h2.1,by rintro (rfl|hh);omega;exact h2.2 (Or.inr hh)⟩
 refine ⟨t.s.own x,⟨la,ln,lc,a1,m1,c1,a2,m2,c2,none,0,0,hb',Sl.below hl (t.s.x.trans x).below,Sl.below s1 x.below,Sl.below s2 x.below,Sl.nilT _ _ _ _,t.r.pl.ext x,by omega,?_,old s1 (by intro s;simp [gA]) q1,old s2 (by intro s;simp [jA]) q2,fun h0=>absurd h0 (by omega),fun hO=>hO.2 (Or.inr ⟨hH,hlt⟩),hm rb t.r.own.2⟩,by omega,t.n2⟩;intro h0' b o e;have hb0:=hlo h0' b o e;exact ⟨fun hO=>by have:=hO.1;omega,by rintro (rfl|rfl);omega;have:=t.n2;omega⟩
end
