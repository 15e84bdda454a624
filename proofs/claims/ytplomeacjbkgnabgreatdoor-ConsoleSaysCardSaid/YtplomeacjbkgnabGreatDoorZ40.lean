import Derived.Test.YtplomeacjbkgnabGreatDoorZ39
import Derived.Test.YtplomeacjbkgnabGreatDoorZ21
import Derived.Test.YtplomeacjbkgnabGreatDoorZ32
import Derived.Test.YtplomeacjbkgnabGreatDoorZ24
set_option linter.all false
set_option maxRecDepth 100000
set_option maxHeartbeats 16000000
namespace Ch.Live
structure HD where
 h:House
 e:Nat
 d:aB
def HD.keep (x:HD) (b:gB):HD×Int:=
 if (x.d.keep (x.e+1) b).2=0 then (⟨{ x.h with b:=b },x.e+1,(x.d.keep (x.e+1) b).1⟩,0)
 else (⟨x.h,x.e,(x.d.keep (x.e+1) b).1⟩,(x.d.keep (x.e+1) b).2)
def HD.tick (x:HD):HD×Int:=
 if x.h.goals=[] then
  match xA x.h.b x.h.n x.h.p with
  | (_,some b)=>x.keep b
  | (l,none)=>({ x with h:=x.h.go l },0)
 else ({ x with h:=x.h.go x.h.goals },0)
def HD.park (x:HD) (c:Car):HD×Int×Int:=
 if x.h.p.bay≠c.id then (x,0,7)
 else match Ch.park x.h.b x.h.sizes c with
  | .error e=>(x,0,e)
  | .ok (b,n)=>if (x.keep b).2=0 then ((x.keep b).1,n,0) else ((x.keep b).1,0,(x.keep b).2)
def HD.want (x:HD) (t:Int):HD×Int:=
 match Ch.want x.h.b t with
 | .error e=>(x,e)
 | .ok b=>x.keep b
def HD.ticks:Nat->HD->HD
 | 0,x=>x
 | n+1,x=>HD.ticks n x.tick.1
structure HD.Up (x:HD) (n:Nat):Prop where
 inv:House.Inv2 x.h
 calm:x.d.Calm n
 holds:rF x.d.now x.h.n x.e x.h.b
structure HD.Fell (x:HD) (n:Nat):Prop where
 inv:House.Inv2 x.h
 down:x.d.down=true
 wf:x.d.WF n
 holds:∃ b',House.Inv2 { x.h with b:=b',goals:=[] }/\∀ keep,rF (x.d.restart keep).now x.h.n x.e x.h.b\/rF (x.d.restart keep).now x.h.n (x.e+1) b'
theorem keep_up {x:HD} {n:Nat} {b:gB} (hx:x.Up n) (hn:22<=n) (he:x.e+1<4294967296) (hb:House.Inv2 { x.h with b:=b }) (hb0:House.Inv2 { x.h with b:=b,goals:=[] }):
  ((x.keep b).2=0/\(x.keep b).1.Up n/\(x.keep b).1.h={ x.h with b:=b }/\(x.keep b).1.e=x.e+1/\(x.d.fuse=-1->(x.keep b).1.d.fuse=-1)) \/
  ((x.keep b).2=9/\(x.keep b).1.Fell n/\(x.keep b).1.h=x.h/\(x.keep b).1.e=x.e/\x.d.fuse≠-1):=by
 have hlen:=jD hx.inv.inv.lv;have hbf:fC b x.h.n=0:=uF.2 hb.inv.core.book;obtain ⟨k1,k2,k3⟩:=keep_law hx.calm hn hx.holds (show x.h.n<=4 by unfold House.n;omega) hbf he;unfold HD.keep
 rcases k3 with ⟨q1,q2,q3⟩|⟨q1,q2,q3⟩
 ·rw [if_pos q1]
  exact Or.inl ⟨rfl,⟨hb,q2,q3⟩,rfl,rfl,fun hf=>(k2 hf).2⟩
 ·rw [if_neg om]
  exact Or.inr ⟨q1,⟨hx.inv,q2,k1,b,hb0,q3⟩,rfl,rfl,fun hf=>by have:=(k2 hf).1;omega⟩
theorem inv2_nil {h:House} (hi:House.Inv2 h):House.Inv2 { h with goals:=[] }:=⟨hi.inv.nil⟩
theorem keep_down {d:aB} (hd:d.down=true) (hn:22<=d.now.length) (e:Nat) (b:gB) (ht:mB b≠[]):d.keep e b=(d,9):=by
 have hs:d.stepped=d:=by unfold aB.stepped;rw [if_pos hd]
 have hw:∀ (i:Nat) (s:ByteArray),i<22->s.size<=64->d.write (i:Int) s=(d,9):=fun i s hi hs'=>by
  unfold aB.write;rw [if_neg om,hs,if_pos hd]
 have hc:dH (mB b)≠[]:=by
  intro h;have:=gN (mB b);rw [h] at this;have h0:0<(mB b).length:=List.length_pos_iff.2 ht;simp at this;omega
 unfold aB.keep
 cases hcs:dH (mB b) with
 | nil=>exact absurd hcs hc
 | cons s l=>
  have hsz:s.size<=64:=chunksB_small (s:=mB b) (by rw [hcs];simp)
  have e1:aD d (2+e % 2 * 10) (s :: l)=(d,9):=by
   unfold aD;rw [hw _ s om hsz,if_neg (show ¬ (9:Int)=0 by decide)]
  rw [e1];dsimp only;rw [if_neg (show ¬ (9:Int)=0 by decide)]
theorem text_ne (b:gB):mB b≠[]:=by
 intro h;unfold mB oD at h;simp [mE] at h
theorem HD.tick_up {x:HD} {n:Nat} (hx:x.Up n) (hn:22<=n) (he:x.e+1<4294967296):
  (x.tick.2=0/\x.tick.1.Up n/\x.tick.1.h=x.h.tick/\x.tick.1.e<=x.e+1/\(x.d.fuse=-1->x.tick.1.d.fuse=-1)) \/
  (x.tick.2=9/\x.tick.1.Fell n/\x.tick.1.h=x.h/\x.tick.1.e=x.e/\x.d.fuse≠-1/\x.tick.1.tick=(x.tick.1,9)):=by
 have hti:=hx.inv.tick;unfold House.tick at hti
 by_cases hg:x.h.goals=[]
 ·rw [if_pos hg] at hti
  cases ht:xA x.h.b x.h.n x.h.p with
  | mk l o=>
   rw [ht] at hti
   cases o with
   | none=>
    have e:x.tick=({ x with h:=x.h.go l },0):=by unfold HD.tick;rw [if_pos hg,ht]
    have e2:x.h.tick=x.h.go l:=by unfold House.tick;rw [if_pos hg,ht]
    rw [e,e2];exact Or.inl ⟨rfl,⟨hti,hx.calm,hx.holds⟩,rfl,Nat.le_succ _,id⟩
   | some b=>
    have e:x.tick=x.keep b:=by unfold HD.tick;rw [if_pos hg,ht]
    have e2:x.h.tick={ x.h with b:=b }:=by unfold House.tick;rw [if_pos hg,ht]
    rw [e,e2]
    rcases keep_up hx hn he hti (inv2_nil hti) with ⟨k1,k2,k3,k4,k5⟩|⟨k1,k2,k3,k4,k5⟩
    ·exact Or.inl ⟨k1,k2,k3,om,k5⟩
    ·refine Or.inr ⟨k1,k2,k3,k4,k5,?_⟩
     generalize hy:(x.keep b).1=y at *
     have:y.tick=y.keep b:=by
      unfold HD.tick;rw [k3,if_pos hg,ht]
     rw [this];unfold HD.keep;rw [keep_down k2.down (by rw [k2.wf.now];exact hn) _ _ (text_ne b),if_neg (show ¬ (9:Int)=0 by decide)]
 ·rw [if_neg hg] at hti
  have e:x.tick=({ x with h:=x.h.go x.h.goals },0):=by unfold HD.tick;rw [if_neg hg]
  have e2:x.h.tick=x.h.go x.h.goals:=by unfold House.tick;rw [if_neg hg]
  rw [e,e2];exact Or.inl ⟨rfl,⟨hti,hx.calm,hx.holds⟩,rfl,Nat.le_succ _,id⟩
theorem HD.park_up {x:HD} {n:Nat} (hx:x.Up n) (hn:22<=n) (he:x.e+1<4294967296) (c:Car):
  ((x.park c).1.Up n/\(x.park c).1.h=(x.h.park c).1/\(x.park c).2=(x.h.park c).2/\(x.park c).1.e<=x.e+1/\(x.d.fuse=-1->(x.park c).1.d.fuse=-1)) \/
  ((x.park c).1.Fell n/\(x.park c).2=(0,9)/\(x.park c).1.h=x.h/\(x.park c).1.e=x.e/\x.d.fuse≠-1):=by
 have hi:=hx.inv.park c;have hlen:=jD hx.inv.inv.lv
 unfold House.park at hi ⊢
 unfold HD.park
 by_cases hb:x.h.p.bay≠c.id
 ·rw [if_pos hb,if_pos hb]
  exact Or.inl ⟨hx,rfl,rfl,Nat.le_succ _,id⟩
 ·rw [if_neg hb] at hi
  rw [if_neg hb,if_neg hb]
  cases hp:Ch.park x.h.b x.h.sizes c with
  | error e=>exact Or.inl ⟨hx,rfl,rfl,Nat.le_succ _,id⟩
  | ok r=>
   obtain ⟨b,k⟩:=r;rw [hp] at hi
   dsimp only at hi ⊢
   rcases keep_up hx hn he hi (inv2_nil hi) with ⟨k1,k2,k3,k4,k5⟩|⟨k1,k2,k3,k4,k5⟩
   ·rw [if_pos k1]
    exact Or.inl ⟨k2,k3,rfl,by dsimp only;omega,k5⟩
   ·rw [if_neg om]
    exact Or.inr ⟨k2,by dsimp only;rw [k1],k3,k4,k5⟩
theorem HD.want_up {x:HD} {n:Nat} (hx:x.Up n) (hn:22<=n) (he:x.e+1<4294967296) (t:Int):
  ((x.want t).1.Up n/\(x.want t).1.h=(x.h.want t).1/\(x.want t).2=(x.h.want t).2/\(x.want t).1.e<=x.e+1/\(x.d.fuse=-1->(x.want t).1.d.fuse=-1)) \/
  ((x.want t).1.Fell n/\(x.want t).2=9/\(x.want t).1.h=x.h/\(x.want t).1.e=x.e/\x.d.fuse≠-1):=by
 have hi:=hx.inv.want t
 unfold House.want at hi ⊢
 unfold HD.want
 cases hw:Ch.want x.h.b t with
 | error e=>exact Or.inl ⟨hx,rfl,rfl,Nat.le_succ _,id⟩
 | ok b=>
  rw [hw] at hi
  dsimp only at hi ⊢
  rcases keep_up hx hn he hi (inv2_nil hi) with ⟨k1,k2,k3,k4,k5⟩|⟨k1,k2,k3,k4,k5⟩
  ·exact Or.inl ⟨k2,k3,k1,om,k5⟩
  ·exact Or.inr ⟨k2,k1,k3,k4,k5⟩
end Ch.Live
namespace Go.Proofs.YtplomeacjbkgnabGreatDoor
open Go.RowKit Tryz Ch
abbrev houseCells (la:Option Addr) (ln lc pb lb:Nat) (ga:Option Addr) (gn gc:Nat):Array Value:=#[.slice la ln lc,.pointer (some ⟨pb,0,none⟩),.pointer (some ⟨lb,0,none⟩),.slice ga gn gc]
def HB (Y:Nat->Prop) (pb mb hb:Nat):Nat->Prop:=fun k=>Y k\/k=pb\/k=mb\/k=hb
structure HS (Y Z:Nat->Prop) (pb mb db lb hb n:Nat) (la:Option Addr) (ln lc:Nat) (ga:Option Addr) (gn gc:Nat) (x:Live.HD) (w:World):Prop where
 pl:yA w pb mb x.h.p
 led:LN Y db lb n x.h.n x.e x.h.b x.d w
 blk:w.heap[hb]? = some (.cells (houseCells la ln lc pb lb ga gn gc) 111 (0,0))
 lv:Sl w 3 yB x.h.sizes la ln lc
 go:Sl w 2 jC x.h.goals ga gn gc
 yp:¬ Y pb
 ym:¬ Y mb
 yh:¬ Y hb
 hp:hb≠pb
 hm:hb≠mb
 far1:0<ln->∀ b o,la=some ⟨b,o,none⟩->¬ HB Y pb mb hb b/\Z b
 far2:0<gn->∀ b o,ga=some ⟨b,o,none⟩->¬ HB Y pb mb hb b/\Z b
section
variable {Y Z:Nat->Prop} {pb mb db lb hb n:Nat} {la:Option Addr} {ln lc:Nat} {ga:Option Addr} {gn gc:Nat} {x:Live.HD} {w w':World}
theorem HS.ext (h:HS Y Z pb mb db lb hb n la ln lc ga gn gc x w) (e:Ext w w'):HS Y Z pb mb db lb hb n la ln lc ga gn gc x w':=
 ⟨h.pl.ext e,h.led.ext e,(e.below.block hb (tI h.blk)).trans h.blk,Sl.below h.lv e.below,Sl.below h.go e.below,h.yp,h.ym,h.yh,h.hp,h.hm,h.far1,h.far2⟩
theorem HS.lt (h:HS Y Z pb mb db lb hb n la ln lc ga gn gc x w):hb<w.heap.size:=tI h.blk
theorem HS.cells (h:HS Y Z pb mb db lb hb n la ln lc ga gn gc x w):
  w.cell? ⟨hb,0,none⟩=some (.slice la ln lc)/\w.cell? ⟨hb,1,none⟩=some (.pointer (some ⟨pb,0,none⟩))/\w.cell? ⟨hb,2,none⟩=some (.pointer (some ⟨lb,0,none⟩))/\w.cell? ⟨hb,3,none⟩=some (.slice ga gn gc)/\∀ i,w.frozen? ⟨hb,i,none⟩=false:=
 ⟨kD h.blk rfl,kD h.blk rfl,kD h.blk rfl,kD h.blk rfl,wJ h.blk⟩
theorem HS.lt1 (h:HS Y Z pb mb db lb hb n la ln lc ga gn gc x w):0<ln->∀ b o,la=some ⟨b,o,none⟩->b<w.heap.size:=fun h0 b o e=>by
 subst e;obtain ⟨b',o',s,e',_,f⟩:=h.lv.get h0;cases e';exact cA (f 0 _ rfl)
theorem HS.lt2 (h:HS Y Z pb mb db lb hb n la ln lc ga gn gc x w):0<gn->∀ b o,ga=some ⟨b,o,none⟩->b<w.heap.size:=fun h0 b o e=>by
 subst e;obtain ⟨b',o',s,e',_,f⟩:=h.go.get h0;cases e';exact cA (f 0 _ rfl)
theorem HS.zed {Z':Nat->Prop} (h:HS Y Z pb mb db lb hb n la ln lc ga gn gc x w) (hz:∀ k,k<w.heap.size->Z k->Z' k):HS Y Z' pb mb db lb hb n la ln lc ga gn gc x w:=
 ⟨h.pl,h.led,h.blk,h.lv,h.go,h.yp,h.ym,h.yh,h.hp,h.hm,fun h0 b o e=>⟨(h.far1 h0 b o e).1,hz b (h.lt1 h0 b o e) (h.far1 h0 b o e).2⟩,fun h0 b o e=>⟨(h.far2 h0 b o e).1,hz b (h.lt2 h0 b o e) (h.far2 h0 b o e).2⟩⟩
theorem HS.move {Y':Nat->Prop} (h:HS Y Z pb mb db lb hb n la ln lc ga gn gc x w) (hy:∀ k,k<w.heap.size->(Y' k↔Y k)):HS Y' Z pb mb db lb hb n la ln lc ga gn gc x w:=by
 have hb':∀ b,b<w.heap.size->¬ HB Y pb mb hb b->¬ HB Y' pb mb hb b:=fun b hlt hn hh=>hn (by
  rcases hh with hh|hh
  ·exact Or.inl ((hy b hlt).1 hh)
  ·exact Or.inr hh)
 have lt1:=h.lt1;have lt2:=h.lt2
 exact ⟨h.pl,h.led.move (fun k hk hz=>(hy k hk).2 hz),h.blk,h.lv,h.go,fun hh=>h.yp ((hy pb h.pl.lt.1).1 hh),fun hh=>h.ym ((hy mb h.pl.lt.2).1 hh),fun hh=>h.yh ((hy hb h.lt).1 hh),h.hp,h.hm,
  fun h0 b o e=>⟨hb' b (lt1 h0 b o e) (h.far1 h0 b o e).1,(h.far1 h0 b o e).2⟩,fun h0 b o e=>⟨hb' b (lt2 h0 b o e) (h.far2 h0 b o e).1,(h.far2 h0 b o e).2⟩⟩
theorem HS.plant {p':dA} (h:HS Y Z pb mb db lb hb n la ln lc ga gn gc x w) (k:fA (Own pb mb) w w') (hp:yA w' pb mb p'):HS Y Z pb mb db lb hb n la ln lc ga gn gc { x with h:={ x.h with p:=p' } } w':=by
 have hs:∀ i,Own pb mb i->¬ Y i:=fun i hi hy=>by
  rcases hi with rfl|rfl
  ·exact h.yp hy
  ·exact h.ym hy
 have ho:∀ b,¬ HB Y pb mb hb b->¬ Own pb mb b:=fun b hn hh=>hn (by
  rcases hh with hh|hh
  ·exact Or.inr (Or.inl hh)
  ·exact Or.inr (Or.inr (Or.inl hh)))
 exact ⟨hp,h.led.kept k hs,(k.block hb h.lt (fun e=>by rcases e with e|e;exact h.hp e;exact h.hm e)).trans h.blk,h.lv.keptS k (fun h0 b o e=>ho b (h.far1 h0 b o e).1),h.go.keptS k (fun h0 b o e=>ho b (h.far2 h0 b o e).1),h.yp,h.ym,h.yh,h.hp,h.hm,h.far1,h.far2⟩
theorem HS.ledger {b':gB} {e':Nat} {d':aB} (h:HS Y Z pb mb db lb hb n la ln lc ga gn gc x w) (k:fA Y w w') (hl:LN Y db lb n x.h.n e' b' d' w'):HS Y Z pb mb db lb hb n la ln lc ga gn gc ⟨{ x.h with b:=b' },e',d'⟩ w':=by
 have hy:∀ b,¬ HB Y pb mb hb b->¬ Y b:=fun b hn hh=>hn (Or.inl hh)
 exact ⟨h.pl.same (k.block pb h.pl.lt.1 h.yp) (k.block mb h.pl.lt.2 h.ym),hl,(k.block hb h.lt h.yh).trans h.blk,h.lv.keptS k (fun h0 b o e=>hy b (h.far1 h0 b o e).1),h.go.keptS k (fun h0 b o e=>hy b (h.far2 h0 b o e).1),h.yp,h.ym,h.yh,h.hp,h.hm,h.far1,h.far2⟩
theorem HS.apart {S:Nat->Prop} (h:HS Y Z pb mb db lb hb n la ln lc ga gn gc x w) (k:fA S w w') (hz:∀ k,HB Y pb mb hb k->Z k) (hs:∀ i,S i->¬ Z i):HS Y Z pb mb db lb hb n la ln lc ga gn gc x w':=by
 have ho:∀ b,Z b->¬ S b:=fun b hb hh=>hs b hh hb
 exact ⟨h.pl.same (k.block pb h.pl.lt.1 (ho pb (hz pb (Or.inr (Or.inl rfl))))) (k.block mb h.pl.lt.2 (ho mb (hz mb (Or.inr (Or.inr (Or.inl rfl)))))),h.led.kept k (fun i hi hy=>hs i hi (hz i (Or.inl hy))),(k.block hb h.lt (ho hb (hz hb (Or.inr (Or.inr (Or.inr rfl)))))).trans h.blk,h.lv.keptS k (fun h0 b o e=>ho b (h.far1 h0 b o e).2),h.go.keptS k (fun h0 b o e=>ho b (h.far2 h0 b o e).2),h.yp,h.ym,h.yh,h.hp,h.hm,h.far1,h.far2⟩
theorem HS.goals {ga':Option Addr} {gn' gc':Nat} {l:List aG} (h:HS Y Z pb mb db lb hb n la ln lc ga gn gc x w) (hg:Sl w 2 jC l ga' gn' gc') (hf:0<gn'->∀ b o,ga'=some ⟨b,o,none⟩->¬ HB Y pb mb hb b/\Z b):
  HS Y Z pb mb db lb hb n la ln lc ga' gn' gc' { x with h:={ x.h with goals:=l } } (w.setCell ⟨hb,3,none⟩ (.slice ga' gn' gc'))/\fA (Is hb) w (w.setCell ⟨hb,3,none⟩ (.slice ga' gn' gc')):=by
 have k:fA (Is hb) w (w.setCell ⟨hb,3,none⟩ (.slice ga' gn' gc')):=(fA.refl (Is hb) w).setCell (a:=⟨hb,3,none⟩) (Or.inl rfl) _
 have hs:∀ i,Is hb i->¬ Y i:=fun i hi hy=>by cases hi;exact h.yh hy
 have ho:∀ b,¬ HB Y pb mb hb b->¬ Is hb b:=fun b hn hh=>hn (Or.inr (Or.inr (Or.inr hh)))
 refine ⟨⟨h.pl.same (k.block pb h.pl.lt.1 (fun e=>h.hp e.symm)) (k.block mb h.pl.lt.2 (fun e=>h.hm e.symm)),h.led.kept k hs,?_,h.lv.keptS k (fun h0 b o e=>ho b (h.far1 h0 b o e).1),hg.keptS k (fun h0 b o e=>ho b (hf h0 b o e).1),h.yp,h.ym,h.yh,h.hp,h.hm,h.far1,hf⟩,k⟩;rw [tB h.blk];rfl
end
def HN (Z:Nat->Prop) (pb mb db lb hb n:Nat) (x:Live.HD) (w:World):Prop:=
 ∃ Y la ln lc ga gn gc,HS Y Z pb mb db lb hb n la ln lc ga gn gc x w/\(∀ k,HB Y pb mb hb k->Z k)
theorem HN.ext {Z:Nat->Prop} {pb mb db lb hb n:Nat} {x:Live.HD} {w w':World} (h:HN Z pb mb db lb hb n x w) (e:Ext w w'):HN Z pb mb db lb hb n x w':=by
 obtain ⟨Y,la,ln,lc,ga,gn,gc,hs,hz⟩:=h;exact ⟨Y,la,ln,lc,ga,gn,gc,hs.ext e,hz⟩
theorem HN.plantAt {Z:Nat->Prop} {pb mb db lb hb n:Nat} {x:Live.HD} {w:World} (h:HN Z pb mb db lb hb n x w):yA w pb mb x.h.p:=by
 obtain ⟨Y,la,ln,lc,ga,gn,gc,hs,hz⟩:=h;exact hs.pl
theorem HN.own {Z:Nat->Prop} {pb mb db lb hb n:Nat} {x:Live.HD} {w:World} (h:HN Z pb mb db lb hb n x w):∀ k,Own pb mb k->Z k:=by
 obtain ⟨Y,la,ln,lc,ga,gn,gc,hs,hz⟩:=h;intro k hk
 rcases hk with rfl|rfl
 ·exact hz _ (Or.inr (Or.inl rfl))
 ·exact hz _ (Or.inr (Or.inr (Or.inl rfl)))
theorem HN.plant {Z:Nat->Prop} {pb mb db lb hb n:Nat} {x:Live.HD} {w w':World} {p':dA} (h:HN Z pb mb db lb hb n x w) (k:fA (Own pb mb) w w') (hp:yA w' pb mb p'):
  HN Z pb mb db lb hb n { x with h:={ x.h with p:=p' } } w'/\fA Z w w':=by
 have ho:=h.own;obtain ⟨Y,la,ln,lc,ga,gn,gc,hs,hz⟩:=h;exact ⟨⟨Y,la,ln,lc,ga,gn,gc,hs.plant k hp,hz⟩,⟨k.os,k.tape,k.output,k.size,fun i hi hn=>k.block i hi (fun e=>hn (ho i e))⟩⟩
theorem HN.open_ {Z:Nat->Prop} {pb mb db lb hb n:Nat} {x:Live.HD} {w:World} (h:HN Z pb mb db lb hb n x w) (hZ:∀ k,w.heap.size<=k->Z k):
  ∃ Y la ln lc ga gn gc,HS Y Z pb mb db lb hb n la ln lc ga gn gc x w/\(∀ k,HB Y pb mb hb k->Z k)/\(∀ k,Y k->k<w.heap.size):=by
 obtain ⟨Y,la,ln,lc,ga,gn,gc,hs,hz⟩:=h;refine ⟨fun k=>Y k/\k<w.heap.size,la,ln,lc,ga,gn,gc,hs.move (fun k hk=>⟨fun h=>h.1,fun h=>⟨h,hk⟩⟩),fun k hk=>hz k ?_,fun k hk=>hk.2⟩
 rcases hk with hk|hk
 ·exact Or.inl hk.1
 ·exact Or.inr hk
theorem turnNext_val (jg:List aG) (jo:Option gB) (bl:Int) (bs:List sA) (bj:List Job) (oc:Bool) (last:Int) (a1:Option Addr) (m1 c1:Nat) (a2:Option Addr) (m2 c2:Nat) (lv:Int) (pb mb:Nat) (l:List sA) (js:List Job) (p:dA) (w:World)
  (h:Sl w 8 iA l a1 m1 c1) (h2:Sl w 2 jA js a2 m2 c2) (hp:yA w pb mb p) (hwf:p.WF) (hj:Hid (∀ j∈js,∃ s∈l,s.ticket=j.ticket)) (hpl:Hid (∀ s∈l,uA s.home lv=0)) (l1:1<=lv) (l4:lv<=4) (h4:p.levels<=4) (hm1:m1<=100) (hm2:m2<=100)
  (hv:Hid (xA ⟨last,l,js⟩ lv p=(jg,jo))) (hb:Hid (jo.getD ⟨0,[],[]⟩=⟨bl,bs,bj⟩)) (ho:Hid (jo.isSome=oc)):
  Calls prog 65 #[lC last a1 m1 c1 a2 m2 c2,vi lv,.pointer (some ⟨pb,0,none⟩)] w fun e w'=>∃ v v' i1 i1' i2 i2',e = .returned (.tuple #[.slice v jg.length v',.agg #[vi bl,.slice i1 bs.length i1',.slice i2 bj.length i2'],.bool oc]) /\
   w'.ownsRow w.heap.size 135 2 (.slice v jg.length v') jg.length (jg.flatMap jC)/\mF w w' bl bs bj (.slice i1 bs.length i1') (.slice i2 bj.length i2')/\Ext w w':=by
 have:=turnNext_any last a1 m1 c1 a2 m2 c2 lv pb mb l js p w h h2 hp hwf hj hpl l1 l4 h4 hm1 hm2;rw [hv.out] at this;refine this.mono ?_;rintro e w' ⟨v,v1,v2,he,hg,hob,hx⟩;rw [hb.out] at he hob;rw [ho.out] at he;obtain ⟨g1,g1',rfl,-⟩:=Sl.of_owns (c:=2) (enc:=jC) hg dc (fun _=>rfl);obtain ⟨i1,i1',rfl,-⟩:=Sl.of_owns (c:=8) (enc:=iA) hob.stays dc (fun _=>rfl);obtain ⟨i2,i2',rfl,-⟩:=Sl.of_owns (c:=2) (enc:=jA) hob.jobs dc (fun _=>rfl);exact ⟨g1,g1',i1,i1',i2,i2',he,hg,hob,hx⟩
theorem put3b {w a w2:World} {R:Nat} {v0 v1 v2:Value} (hW:(((a.setCell ⟨R,0,none⟩ v0).setCell ⟨R,1,none⟩ v1).setCell ⟨R,2,none⟩ v2)=w2)
  (hx:Ext w a) (hR:w.heap.size<=R) {cs:Array Value} {t:TypeId} (hb:a.heap[R]? = some (.cells cs t (0,0))) (hn:cs.size=3):
  w2.cell? ⟨R,0,none⟩=some v0/\w2.cell? ⟨R,1,none⟩=some v1/\w2.cell? ⟨R,2,none⟩=some v2/\Ext w w2:=by
 subst hW
 have old:∀ i,i<3->∃ x,a.cell? ⟨R,i,none⟩=some x:=fun i hi=>⟨cs[i],tA hb sp⟩
 obtain ⟨x0,h0⟩:=old 0 dc;obtain ⟨x1,h1⟩:=old 1 dc;obtain ⟨x2,h2⟩:=old 2 dc;exact put3w hx hR h0 h1 h2
theorem Sl.tailT {α:Type} {w:World} {c:Nat} {enc:α->List Value} {x:α} {l:List α} {b o:Nat} {n cap:Nat} (h:Sl w c enc (x :: l) (some ⟨b,o,none⟩) (n+1) cap):Sl w c enc l (some ⟨b,o+c,none⟩) n (cap - 1):=by
 obtain ⟨h1,h2,h3,h4⟩:=h;refine ⟨by simpa using h1,om,om,fun h0=>⟨b,o+c,rfl,?_⟩⟩;obtain ⟨b',o',e,f⟩:=h4 om;cases e;intro i y hy j z hz;have:=f (i+1) y (by simpa using hy) j z hz;rw [show o+(i+1) * c+j=o+c+i * c+j by rw [Nat.add_mul,Nat.one_mul];omega] at this;exact this
theorem Sl.nilT {α:Type} (w:World) (c:Nat) (enc:α->List Value) (a:Option Addr):Sl w c enc [] a 0 0:=⟨rfl,Nat.le_refl _,Nat.zero_le _,fun h=>absurd h om⟩
theorem Sl.block_ltC {α:Type} {w:World} {c:Nat} {enc:α->List Value} {l:List α} {n cap b o:Nat} (h:Sl w c enc l (some ⟨b,o,none⟩) n cap) (hn:0<n) (he:∀ x,enc x≠[]):b<w.heap.size:=by
 obtain ⟨b',o',x,e,_,f⟩:=h.get hn;cases e
 cases hh:enc x with
 | nil=>exact absurd hh (he x)
 | cons y r=>exact cA (f 0 y (by rw [hh];rfl))
def goalsLeft (hb:Nat) (w:World):Nat:=match w.cell? ⟨hb,3,none⟩ with|some (.slice _ n _)=>n|_=>0
theorem kG {w:World} {hb:Nat} {la:Option Addr} {ln lc pb lb:Nat} {ga:Option Addr} {gn gc:Nat} (h:w.heap[hb]? = some (.cells (houseCells la ln lc pb lb ga gn gc) 111 (0,0))):goalsLeft hb w=gn:=by
 unfold goalsLeft;rw [kD (i:=3) h rfl];rfl
theorem fA.wide {S T:Nat->Prop} {w w':World} (h:fA S w w') (hs:∀ i,S i->T i):fA T w w':=⟨h.os,h.tape,h.output,h.size,fun k hk hn=>h.block k hk (fun e=>hn (hs k e))⟩
theorem goalNext_val (c:Int) (dn:Bool) (k n h x p l b:Int) (d e f g:Bool) (w:World) (hv:Hid (pG ⟨k,n⟩ ⟨h,x,d,p,l,b,e,f,g⟩=(c,dn))):
  Calls prog 66 #[.agg #[vi k,vi n],.agg #[vi h,vi x,.bool d,vi p,vi l,vi b,.bool e,.bool f,.bool g]] w fun e' w'=>e' = .returned (.tuple #[.int .u8 c,.bool dn])/\Ext w w':=by
 have:=next_f k n h x p l b d e f g w;rw [hv.out] at this;exact this
theorem may_val (m:Bool) (c h x p l b:Int) (d e f g:Bool) (w:World) (hv:Hid (may c ⟨h,x,d,p,l,b,e,f,g⟩=m)):
  Calls prog 67 #[.int .u8 c,.agg #[vi h,vi x,.bool d,vi p,vi l,vi b,.bool e,.bool f,.bool g]] w fun e' w'=>e' = .returned (.bool m)/\Ext w w':=by
 have:=may_f c h x p l b d e f g w;rw [hv.out] at this;exact this
theorem tick_goals {Z:Nat->Prop} {pb mb db lb hb n:Nat} {x:Live.HD} {w:World} (hZ:∀ k,w.heap.size<=k->Z k) (h:HN Z pb mb db lb hb n x w) (hi:x.h.Inv') (he:x.e+1<4294967296) (hw:x.d.wait.length<=1000) (hT:Tab w) (hg:x.h.goals≠[]):
  Calls prog 20 #[.pointer (some ⟨hb,0,none⟩)] w fun r w'=>r = .returned (aC x.tick.2)/\fA Z w w'/\HN Z pb mb db lb hb n x.tick.1 w':=by
 obtain ⟨Y,la,ln,lc,ga,gn,gc,hs,hz,hy⟩:=h.open_ hZ;obtain ⟨⟨sizes,p,⟨last,l,js⟩,goals⟩,e0,d⟩:=x;have hln:=hs.lv.len;have hgn:=hs.go.len;have hcore:=hi.core;have hlen:=jD hi.lv;dsimp only at hln hgn hlen he hw hg
 have l1:(1:Int)<=(ln:Int):=om
 have l4:(ln:Int)<=4:=om
 have hn:Hid ((⟨sizes,p,⟨last,l,js⟩,goals⟩:House).n=(ln:Int)):=by show ((sizes.length:Nat):Int)=_;rw [hln]
 have hc2:Core (ln:Int) ⟨last,l,js⟩ p:=by have h1:=hcore;rw [show House.n _=(ln:Int) from hn.out] at h1;exact h1
 have HWF:p.WF:=hc2.safe.wf;have h4:p.levels<=4:=HWF.lv2;have HJF:Hid (∀ j∈js,∃ s∈l,s.ticket=j.ticket):=hc2.book.found
 have HPF:Hid (∀ s∈l,uA s.home (ln:Int)=0):=fun s hs=>(hc2.book.stays.1 s hs).2.1
 have hm1:l.length<=16:=hc2.book.s16;have hm2:js.length<=8:=hc2.book.j8;obtain ⟨c0,c1,c2,c3,cf⟩:=hs.cells;have hbl:=hs.lt;have HS0:=aA hs;have HC2:=aA hc2;have HZZ:=aA hz;have HYY:=aA hy;have gbd:=hs.go.bound;have lbd:=hs.lv.bound;clear hs hcore hlen hc2 hz hy h hi;have hTT:=aA hT;clear hT
 have hg0:0<gn:=by rw [<-hgn];exact List.length_pos_iff.2 hg
 have hg1:¬ (gn:Int)=0:=om
 have HL0:=HS0;have HK0:Hid (fA Z w w):=fA.refl Z w;have HG:=aA hg;clear hg;go_enter func20,ntmps20
 have HTK:Hid (Live.HD.tick ⟨⟨sizes,p,⟨last,l,js⟩,goals⟩,e0,d⟩=(⟨⟨sizes,(pF p goals).1,⟨last,l,js⟩,(pF p goals).2⟩,e0,d⟩,0)):=by unfold Hid Live.HD.tick;rw [if_neg (show ¬ goals=[] from HG.out)];rfl
 go_upto_region 6 with fail
 rw [show ((gn:Int)==0)=false by simp;omega]
 go_loopw [2] (fun s2 wr=>∃ (r:List aG) (ga2:Option Addr) (k gc2:Nat),s2 = .nilIface/\Hid (HS Y Z pb mb db lb hb n la ln lc ga2 k gc2 ⟨⟨sizes,p,⟨last,l,js⟩,r⟩,e0,d⟩ wr)/\Hid (fA Z w wr)/\Hid (pF p goals=pF p r)) (fun _ wr=>goalsLeft hb wr)
 case atStart=>exact ⟨goals,ga,gn,gc,rfl,HL0,HK0,rfl⟩
 case round=>
  obtain ⟨r,ga2,gk,gc2,rfl,HR,HKR,HDR⟩:=hrel;obtain ⟨b0,b1,b2,b3,bf⟩:=HR.out.cells;have hbr:=HR.out.lt;have gbr:=HR.out.go.bound;have fr3:=bf 3
  rcases r with _|⟨⟨kd,nn⟩,r⟩
  ·have hg0:gk=0:=by have:=HR.out.go.len;simpa using this.symm
   subst hg0;go_wp2;go_ret
   have hd:pF p goals=(p,[]):=by rw [HDR.out];rfl
   rw [HTK.out,hd];exact ⟨rfl,HKR.out.trans (fA.of_ext eX),Y,la,ln,lc,ga2,0,gc2,HR.out.ext eX,HZZ.out⟩
  ·obtain ⟨k0,rfl⟩:∃ k0,gk=k0+1:=⟨gk - 1,by have:=HR.out.go.len;simp at this;omega⟩
   obtain ⟨b,q,g',rfl,hg',dg⟩:=HR.out.go.get (show 0<k0+1 by omega);simp only [List.getElem?_cons_zero,Option.some.injEq] at hg';subst hg';have dg:=at2 dg;simp only [Nat.zero_mul,Nat.add_zero] at dg;have hgb:=cA dg.1
   have hk1:(0:Int)<(k0:Int)+1:=om
   have hk2:(1:Int)<=(k0:Int)+1:=om
   have hk3:(k0:Int)+1<=(gc2:Int):=om
   obtain ⟨⟨cc,dn⟩,HNX⟩:∃ v,Hid (pG ⟨kd,nn⟩ p.sense=v):=⟨_,rfl⟩
   go_upto_region 8 with (go_at_call 22;with_reducible refine mo (sense_any (HR.out.pl.ext eX) HWF) fun o1 n1=>?_)
   generalize hW:World.alloc _ _=w2;generalize hA:wr.heap.size+_=A;have hx2:Ext wr w2:=xQ hW;have s0:cI w2 A 0 p.height:=cR hW hA;have s1:cI w2 A 1 p.ext:=cR hW hA;have s2:cV w2 A 2 (.bool p.door):=cR hW hA;have s3:cI w2 A 3 p.people:=cR hW hA;have s4:cI w2 A 4 p.lift:=cR hW hA;have s5:cI w2 A 5 p.bay:=cR hW hA;have s6:cV w2 A 6 (.bool (p.full p.ext)):=cR hW hA;have s7:cV w2 A 7 (.bool (p.full (p.ext - 1))):=cR hW hA;have s8:cV w2 A 8 (.bool (p.full (p.ext+1))):=cR hW hA;obtain ⟨a0,a1,a2,a3⟩:=xe4 hx2 b0 b1 b2 b3;have af3:=kA hx2 hbr fr3;have e0':=gA hx2 dg.1;have e1':=gA hx2 dg.2;have u1:=cA s0;have u2:=cA a0;have u3:=cA e0';have HR2:=aA (HR.out.ext hx2);have HK2:=aA (HKR.out.trans (fA.of_ext hx2));clear hW hA hx2 b0 b1 b2 b3 bf fr3 hbr dg hgb HKR;have HNV:Hid (pG ⟨kd,nn⟩ ⟨p.height,p.ext,p.door,p.people,p.lift,p.bay,p.full p.ext,p.full (p.ext - 1),p.full (p.ext+1)⟩=(cc,dn)):=HNX.out
   (refine rA kR kR ?_;(repeat (first|go_big_quiet_step ((intro _;go_at_call 66;exact qC (goalNext_val cc dn kd nn _ _ _ _ _ _ _ _ _ _ HNV)))|quiet_step (fail)));refine wpQuiet_nil ?_;rintro _ ⟨oq,nq,rfl⟩)
   cases dn
   ·obtain ⟨mb',HMB⟩:∃ v,Hid (may cc ⟨p.height,p.ext,p.door,p.people,p.lift,p.bay,p.full p.ext,p.full (p.ext - 1),p.full (p.ext+1)⟩=v):=⟨_,rfl⟩
    have hdr:pF p (⟨kd,nn⟩ :: r)=if may cc p.sense then (p.step cc,⟨kd,nn⟩ :: r) else (p,[]):=by
     unfold pF;rw [HNX.out];simp
    have hdr2:=HDR.out.trans hdr;rw [show may cc p.sense=mb' from HMB.out] at hdr2;have HD2:=aA hdr2;clear hdr hdr2;cases mb'
    ·go_wp2_with (go_at_call 67;with_reducible refine mo (may_val false cc _ _ _ _ _ _ _ _ _ _ HMB) fun o1 n1=>?_)
     go_ret;rw [HTK.out,HD2.out];exact ⟨rfl,HK2.out.trans ((fA.of_ext eX).setCell (a:=⟨hb,3,none⟩) (Or.inl (HZZ.out _ (Or.inr (Or.inr (Or.inr rfl))))) _),Y,la,ln,lc,none,0,0,((HR2.out.ext eX).goals (Sl.nilT _ _ _ _) (fun h0=>absurd h0 om)).1,HZZ.out⟩
    ·go_wp2_with (first
      | (go_at_call 67;with_reducible refine mo (may_val true cc _ _ _ _ _ _ _ _ _ _ HMB) fun o1 n1=>?_)
      | (go_at_call 56;refine (step_any (HR2.out.pl.ext eX) HWF cc).mono ?_;rintro e w4 ⟨rfl,hp4,hk4⟩;have HP4:=aA hp4;have HK4:=aA ((fA.of_ext eX:fA (Own pb mb) w2 _).trans hk4);clear hp4 hk4))
     go_ret;rw [HTK.out,HD2.out];exact ⟨rfl,HK2.out.trans (HK4.out.wide (fun i hi=>HZZ.out i (by rcases hi with rfl|rfl;exact Or.inr (Or.inl rfl);exact Or.inr (Or.inr (Or.inl rfl))))),Y,la,ln,lc,_,_,_,HR2.out.plant HK4.out HP4.out,HZZ.out⟩
   ·have hdr:pF p goals=pF p r:=by
     rw [HDR.out]
     conv=>lhs;unfold pF
     rw [HNX.out];simp
    have hdr:=aA hdr
    have HGO:∀ w3,Ext w2 w3->Hid (HS Y Z pb mb db lb hb n la ln lc (some ⟨b,q,none⟩) (k0+1) gc2 ⟨⟨sizes,p,⟨last,l,js⟩,⟨kd,nn⟩ :: r⟩,e0,d⟩ w3):=fun w3 hx=>HR2.out.ext hx
    by_cases hc1:gc2=1
    ·subst hc1
     obtain rfl:k0=0:=om
     obtain rfl:r=[]:=by
      have:=HR.out.go.len
      cases r with
      | nil=>rfl
      | cons _ _=>simp at this
     go_wp2;go_roundw
     case rel=>
      exact ⟨[],some ⟨b,q,none⟩,0,0,rfl,((HGO _ eX).out.goals (Sl.nilT _ _ _ _) (fun h0=>absurd h0 om)).1,HK2.out.trans ((fA.of_ext eX).setCell (a:=⟨hb,3,none⟩) (Or.inl (HZZ.out _ (Or.inr (Or.inr (Or.inr rfl))))) _),hdr⟩
     case measure=>
      rw [kG HR.out.blk,kG ((HGO _ eX).out.goals (Sl.nilT _ _ _ _) (fun h0=>absurd h0 om)).1.blk];omega
    ·have hc2:¬ (gc2:Int)=1:=om
     have hc3:¬ (1:Int)=(gc2:Int):=om
     have hfar:0<k0->∀ b' o',(some ⟨b,q+2,none⟩:Option Addr)=some ⟨b',o',none⟩->¬ HB Y pb mb hb b'/\Z b':=fun h0 b' o' e=>by cases e;exact HR2.out.far2 om b q rfl
     go_wp2;go_roundw
     case rel=>
      exact ⟨r,some ⟨b,q+2,none⟩,k0,gc2 - 1,rfl,((HGO _ eX).out.goals (Sl.tailT (HGO _ eX).out.go) hfar).1,HK2.out.trans ((fA.of_ext eX).setCell (a:=⟨hb,3,none⟩) (Or.inl (HZZ.out _ (Or.inr (Or.inr (Or.inr rfl))))) _),hdr⟩
     case measure=>
      rw [kG HR.out.blk,kG ((HGO _ eX).out.goals (Sl.tailT (HGO _ eX).out.go) hfar).1.blk];omega
