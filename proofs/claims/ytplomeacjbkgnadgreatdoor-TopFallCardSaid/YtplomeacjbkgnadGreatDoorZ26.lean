import Derived.Test.YtplomeacjbkgnadGreatDoorZ25
set_option linter.all false
set_option maxRecDepth 100000
set_option maxHeartbeats 16000000
namespace Ch.Live
inductive Steps (pre:Plant→Plant):Nat→Plant→List Goal→Plant→List Goal→Prop
 | refl (p:Plant) (l:List Goal):Steps pre 0 p l p l
 | done {k:Nat} {p q:Plant} {g:Goal} {r m:List Goal}:(nextOf g p.sense).2=true→Steps pre k p r q m→Steps pre (k+1) p (g :: r) q m
 | doit {k:Nat} {p q:Plant} {g:Goal} {r m:List Goal} {c:Int}:nextOf g p.sense=(c,false)→may c p.sense=true→c≠111→p.stall=0→Steps pre k (p.act c) (g :: r) q m→Steps pre (k+1) p (g :: r) q m
 | opens {p:Plant}:p.door=false→p.height=0→p.ext=0→p.hurt=false→p.people=0→p.stall=0→Steps pre 2 p [⟨6,0⟩] (pre { p with door:=true }) []
variable {pre:Plant→Plant}
theorem Steps.trans {a b:Nat} {p q s:Plant} {l m r:List Goal} (h:Steps pre a p l q m) (h':Steps pre b q m s r):Steps pre (b+a) p l s r:=by
 induction h with
 | refl=>exact h'
 | done h1 _ ih=>exact .done h1 (ih h')
 | doit h1 h2 h3 h4 _ ih=>exact .doit h1 h2 h3 h4 (ih h')
 | opens h1 h2 h3 h4 h5 h6=>
  generalize hm:([]:List Goal)=m' at h'
  cases h' with
  | refl=>exact hm▸.opens h1 h2 h3 h4 h5 h6
  | done=>cases hm
  | doit=>cases hm
  | opens=>cases hm
theorem Steps.done1 {p:Plant} {g:Goal} {r:List Goal} (h:(nextOf g p.sense).2=true):Steps pre 1 p (g :: r) p r:=.done h (.refl _ _)
theorem Steps.doit1 {p:Plant} {g:Goal} {r:List Goal} {c:Int} (h:nextOf g p.sense=(c,false)) (hm:may c p.sense=true) (h0:p.stall=0) (hc:c≠111:=by decide):Steps pre 1 p (g :: r) (p.act c) (g :: r):=.doit h hm hc h0 (.refl _ _)
theorem Steps.tail {k:Nat} {p q:Plant} {g:Goal} {r:List Goal} (h:Steps pre k p (g :: r) q []) (hd:(nextOf g p.sense).2=true):∃ m,k=m+1∧Steps pre m p r q []:=by
 generalize hl:g :: r=l at h;generalize hm:([]:List Goal)=m at h
 cases h with
 | refl=>subst hl;cases hm
 | done h1 h2=>cases hl;subst hm;exact ⟨_,rfl,h2⟩
 | doit h1=>cases hl;rw [h1] at hd;cases hd
 | opens h1=>
  cases hl;unfold nextOf once at hd;simp [Plant.sense,h1] at hd
theorem runs_height (d:Nat) {p:Plant} (hp:p.Calm) {h:Int} (h1:0≤h) (h2:h≤p.levels * 3) (hd:(h - p.height).natAbs=d) (r:List Goal):Steps pre (d+1) p (⟨1,h⟩ :: r) (p.atH h) r:=by
 induction d generalizing p with
 | zero=>
  have e:h=p.height:=by omega
  rw [e,atH_self];refine Steps.done1 ?_;unfold nextOf toward;simp [Plant.sense]
 | succ d ih=>
  have b1:=hp.wf.ht1;have b2:=hp.wf.ht2
  have hs:nextOf ⟨1,h⟩ p.sense=toward p.height h 117 100:=by unfold nextOf;rw [if_pos rfl];rfl
  by_cases hlt:p.height<h
  ·have hs:nextOf ⟨1,h⟩ p.sense=(117,false):=by rw [hs];unfold toward;rw [if_pos hlt]
   have s1:=Steps.doit1 (pre:=pre) (r:=r) hs (may_rise hp (Or.inl rfl)) hp.st;rw [act_up hp (by omega)] at s1;have s2:=ih (p:=p.atH (p.height+1)) (calm_atH hp (by omega) (by omega)) (by simp only [Plant.atH];omega) (by simp only [Plant.atH];omega);exact s1.trans s2
  ·have hs:nextOf ⟨1,h⟩ p.sense=(100,false):=by rw [hs];unfold toward;rw [if_neg hlt,if_pos (by omega)]
   have s1:=Steps.doit1 (pre:=pre) (r:=r) hs (may_rise hp (Or.inr rfl)) hp.st;rw [act_down hp (by omega)] at s1;have s2:=ih (p:=p.atH (p.height - 1)) (calm_atH hp (by omega) (by omega)) (by simp only [Plant.atH];omega) (by simp only [Plant.atH];omega);exact s1.trans s2
theorem runs_reach1 {p:Plant} (hp:p.Still) {e t:Int} (r:List Goal) (he:-2≤t∧t≤2) (hgo:(p.ext<e∧t=p.ext+1)∨(e<p.ext∧t=p.ext - 1)) (hc:p.canE t):Steps pre 1 p (⟨2,e⟩ :: r) (p.atE t) (⟨2,e⟩ :: r):=by
 have hs:nextOf ⟨2,e⟩ p.sense=toward p.ext e 114 108:=by unfold nextOf;rw [if_neg (by simp),if_pos rfl];rfl
 rcases hgo with ⟨hl,rfl⟩|⟨hl,rfl⟩
 ·have:=stretch_to hp (n:=1) (by omega) (by omega) hc
  have hs:nextOf ⟨2,e⟩ p.sense=(114,false):=by rw [hs];unfold toward;rw [if_pos hl]
  have s1:=Steps.doit1 (pre:=pre) (r:=r) hs (by unfold may;exact this.2) hp.st;rw [show p.act 114=p.stretch 1 from rfl,this.1] at s1;exact s1
 ·have:=stretch_to hp (n:=-1) (by omega) (by omega) hc
  have hs:nextOf ⟨2,e⟩ p.sense=(108,false):=by rw [hs];unfold toward;rw [if_neg (by omega),if_pos hl]
  have s1:=Steps.doit1 (pre:=pre) (r:=r) hs (by unfold may;exact this.2) hp.st;rw [show p.act 108=p.stretch (-1) from rfl,this.1] at s1;exact s1
theorem runs_reached {p:Plant} {e:Int} (r:List Goal) (h:p.ext=e):Steps pre 1 p (⟨2,e⟩ :: r) p r:=by
 refine Steps.done1 ?_
 have hs:nextOf ⟨2,e⟩ p.sense=toward p.ext e 114 108:=by unfold nextOf;rw [if_neg (by simp),if_pos rfl];rfl
 rw [hs];unfold toward;rw [if_neg (by omega),if_neg (by omega)]
theorem runs_out {p:Plant} (hp:p.Still) (h0:p.ext=0) {x:Place} (hx:placeFault x p.levels=0) (hf:x.depth=1→p.canE (extOf (front x))) (hb:p.canE (extOf x)) (r:List Goal):
  ∃ k,k≤3∧Steps pre k p (⟨2,extOf x⟩ :: r) (p.atE (extOf x)) r:=by
 rw [placeFault_iff] at hx
 by_cases hd:x.depth=1
 ·have hc:=hf hd
  have e1:extOf x=-2∧extOf (front x)=-1∨extOf x=2∧extOf (front x)=1:=by
   unfold extOf front;dsimp only
   split <;> omega
  refine ⟨3,by omega,?_⟩;have s1:Steps pre 1 p (⟨2,extOf x⟩ :: r) (p.atE (extOf (front x))) (⟨2,extOf x⟩ :: r):=runs_reach1 (pre:=pre) hp r (by omega) (by omega) hc
  have s2:Steps pre 1 (p.atE (extOf (front x))) (⟨2,extOf x⟩ :: r) ((p.atE (extOf (front x))).atE (extOf x)) (⟨2,extOf x⟩ :: r):=
   runs_reach1 (pre:=pre) (still_atE hp (by omega) (by omega)) r (by omega) (by simp only [Plant.atE];omega) hb
  exact (s1.trans s2).trans (runs_reached r rfl)
 ·have e1:extOf x=-1∨extOf x=1:=by
   unfold extOf
   split <;> omega
  refine ⟨2,by omega,?_⟩;have s1:Steps pre 1 p (⟨2,extOf x⟩ :: r) (p.atE (extOf x)) (⟨2,extOf x⟩ :: r):=runs_reach1 (pre:=pre) hp r (by omega) (by omega) hb;exact s1.trans (runs_reached r rfl)
theorem runs_back {p:Plant} (hp:p.Still) (hf:p.ext=-2∨p.ext=2→p.canE (p.ext / 2)) (r:List Goal):
  ∃ k,k≤3∧Steps pre k p (⟨2,0⟩ :: r) (p.atE 0) r:=by
 have e1:=hp.wf.ex1;have e2:=hp.wf.ex2
 by_cases h0:p.ext=0
 ·refine ⟨1,by omega,?_⟩
  have:p.atE 0=p:=by unfold Plant.atE;rw [←h0]
  rw [this];exact runs_reached r h0
 ·by_cases h2:p.ext=-2∨p.ext=2
  ·have hc:=hf h2
   refine ⟨3,by omega,?_⟩;have s1:Steps pre 1 p (⟨2,0⟩ :: r) (p.atE (p.ext / 2)) (⟨2,0⟩ :: r):=runs_reach1 (pre:=pre) hp r (by omega) (by omega) hc
   have s2:Steps pre 1 (p.atE (p.ext / 2)) (⟨2,0⟩ :: r) ((p.atE (p.ext / 2)).atE 0) (⟨2,0⟩ :: r):=
    runs_reach1 (pre:=pre) (still_atE hp (by omega) (by omega)) r (by omega) (by simp only [Plant.atE];omega) (Or.inl rfl)
   exact (s1.trans s2).trans (runs_reached r rfl)
  ·refine ⟨2,by omega,?_⟩
   have s1:Steps pre 1 p (⟨2,0⟩ :: r) (p.atE 0) (⟨2,0⟩ :: r):=runs_reach1 (pre:=pre) hp r (by omega) (by omega) (Or.inl rfl);exact s1.trans (runs_reached r rfl)
theorem runs_shut {p:Plant} (hd:p.door=false) (r:List Goal):Steps pre 1 p (⟨5,0⟩ :: r) p r:=by
 refine Steps.done1 ?_;unfold nextOf once;simp [Plant.sense,hd]
theorem runs_there {p:Plant} (hp:p.Calm) {x:Place} (hx:placeFault x p.levels=0) (h1:p.lift=0∨(p.slots x=0∧(x.depth=1→p.slots (front x)=0))) (k:Int):
  ∃ n,n≤20∧Steps pre n p (there x k) ((p.atH (x.level * 3)).atE (extOf x)) [⟨k,0⟩,⟨2,0⟩]:=by
 have hx':=placeFault_iff.1 hx;have b1:=hp.wf.ht1;have b2:=hp.wf.ht2;have b3:=hp.wf.lv2;obtain ⟨k1,hk1,s1⟩:=runs_back (pre:=pre) (p:=p) ⟨hp.wf,hp.hh,hp.st⟩ (by rw [hp.ex];omega) (⟨5,0⟩ :: ⟨1,x.level * 3⟩ :: ⟨2,extOf x⟩ :: ⟨k,0⟩ :: [⟨2,0⟩])
 have e0:p.atE 0=p:=by unfold Plant.atE;rw [←hp.ex]
 rw [e0] at s1;have s2:=runs_shut (pre:=pre) (p:=p) hp.dr (⟨1,x.level * 3⟩ :: ⟨2,extOf x⟩ :: ⟨k,0⟩ :: [⟨2,0⟩]);have s3:=runs_height (pre:=pre) _ hp (h:=x.level * 3) (by omega) (by omega) rfl (⟨2,extOf x⟩ :: ⟨k,0⟩ :: [⟨2,0⟩]);have hc:=calm_atH hp (h:=x.level * 3) (by omega) (by omega)
 have hq:∀ y,placeFault y p.levels=0→y.level=x.level→(p.lift=0∨p.slots y=0)→(p.atH (x.level * 3)).canE (extOf y):=by
  intro y hy hyl hs;refine Or.inr ⟨by simp only [Plant.atH];omega,by simp only [Plant.atH];omega,?_⟩
  rcases hs with hs|hs
  ·exact Or.inl hs
  ·right
   rw [full_of (p:=p.atH (x.level * 3)) (x:=y) hy (by rw [hyl];rfl)];simp only [Plant.atH];rw [hs];rfl
 obtain ⟨k4,hk4,s4⟩:=runs_out (pre:=pre) (p:=p.atH (x.level * 3)) ⟨hc.wf,hc.hh,hc.st⟩ hc.ex (x:=x) hx
  (fun hd=>hq (front x) (front_ok hx) rfl (h1.imp id (fun h=>h.2 hd))) (hq x hx rfl (h1.imp id (fun h=>h.1))) (⟨k,0⟩ :: [⟨2,0⟩])
 refine ⟨_,?_,((s1.trans s2).trans s3).trans s4⟩
 have:(x.level * 3 - p.height).natAbs≤12:=by omega
 omega
theorem fetch_runs {p:Plant} (hp:p.Calm) {x:Place} (hx:placeFault x p.levels=0) (hl:p.lift=0) (hs:p.slots x≠0) (hf:x.depth=1→p.slots (front x)=0):
  ∃ n,n≤25∧Steps pre n p (fetch x) (p.fetched x) []:=by
 have hx':=placeFault_iff.1 hx;obtain ⟨n1,hn1,s1⟩:=runs_there (pre:=pre) hp hx (Or.inl hl) 3;generalize hq:(p.atH (x.level * 3)).atE (extOf x)=q at s1;obtain ⟨qw,qh,qs,qp,qt,qe,qsl,ql,qlv,x1,x2,x3⟩:=still_there hp hx hq.symm
 have g1:nextOf ⟨3,0⟩ q.sense=(103,false):=by unfold nextOf once;simp [Plant.sense,ql,hl]
 have hq0:0≤q.height:=by rw [qt];omega
 have hs':q.slots x≠0:=by rw [qsl];exact hs
 have s2:=Steps.doit1 (pre:=pre) (r:=[⟨2,0⟩]) g1 (may_grab qp hq0 (by rw [ql];exact hl) hs') qs;have ha:=act_grab qp (by rw [ql];exact hl) hs';have hw:(q.act 103).WF:=qw.act 103;have hh:(q.act 103).hurt=false:=may_safe qw qh 103 (may_grab qp hq0 (by rw [ql];exact hl) hs');rw [ha] at s2 hw hh
 have s3:Steps pre 1 { q with lift:=q.slots x,slots:=setSlot q.slots x 0 } [⟨3,0⟩,⟨2,0⟩] { q with lift:=q.slots x,slots:=setSlot q.slots x 0 } [⟨2,0⟩]:=by
  refine Steps.done1 ?_;unfold nextOf once;simp [Plant.sense,hs']
 obtain ⟨n4,hn4,s4⟩:=runs_back (pre:=pre) (p:={ q with lift:=q.slots x,slots:=setSlot q.slots x 0 }) ⟨hw,hh,qs⟩ (by
  dsimp only
  intro h2
  rw [qe] at h2
  have:=ext_half hx h2
  rw [show q.ext / 2=extOf (front x) by rw [qe];exact this.1]
  refine Or.inr ⟨by dsimp only;omega,by dsimp only;omega,Or.inr ?_⟩
  rw [full_of (p:={ q with lift:=q.slots x,slots:=setSlot q.slots x 0 }) (x:=front x) (by dsimp only;rw [qlv];exact front_ok hx) qt]
  dsimp only
  rw [setSlot_other _ _ (front_ne this.2),qsl,hf this.2]
  rfl) []
 have:p.fetched x=({ q with lift:=q.slots x,slots:=setSlot q.slots x 0 }:Plant).atE 0:=by
  subst hq;unfold Plant.fetched Plant.atE Plant.atH;simp [hp.ex]
 rw [←this] at s4;exact ⟨_,by omega,((s1.trans s2).trans s3).trans s4⟩
theorem bring_runs {p:Plant} (hp:p.Calm) {x:Place} (hx:placeFault x p.levels=0) (hl:p.lift≠0) (hs:p.slots x=0) (hf:x.depth=1→p.slots (front x)=0):
  ∃ n,n≤25∧Steps pre n p (bring x) (p.brought x) []:=by
 have hx':=placeFault_iff.1 hx;obtain ⟨n1,hn1,s1⟩:=runs_there (pre:=pre) hp hx (Or.inr ⟨hs,hf⟩) 4;generalize hq:(p.atH (x.level * 3)).atE (extOf x)=q at s1;obtain ⟨qw,qh,qs,qp,qt,qe,qsl,ql,qlv,x1,x2,x3⟩:=still_there hp hx hq.symm
 have g1:nextOf ⟨4,0⟩ q.sense=(112,false):=by unfold nextOf once;simp [Plant.sense,ql,hl]
 have hq0:0≤q.height:=by rw [qt];omega
 have hs':q.slots x=0:=by rw [qsl];exact hs
 have hl':q.lift≠0:=by rw [ql];exact hl
 have s2:=Steps.doit1 (pre:=pre) (r:=[⟨2,0⟩]) g1 (may_put qp hq0 hl' hs') qs;have ha:=act_put qp hl' hs';have hw:(q.act 112).WF:=qw.act 112;have hh:(q.act 112).hurt=false:=may_safe qw qh 112 (may_put qp hq0 hl' hs');rw [ha] at s2 hw hh
 have s3:Steps pre 1 { q with slots:=setSlot q.slots x q.lift,lift:=0 } [⟨4,0⟩,⟨2,0⟩] { q with slots:=setSlot q.slots x q.lift,lift:=0 } [⟨2,0⟩]:=by
  refine Steps.done1 ?_;unfold nextOf once;simp [Plant.sense]
 obtain ⟨n4,hn4,s4⟩:=runs_back (pre:=pre) (p:={ q with slots:=setSlot q.slots x q.lift,lift:=0 }) ⟨hw,hh,qs⟩ (by
  dsimp only
  intro h2
  exact Or.inr ⟨by dsimp only;omega,by dsimp only;omega,Or.inl rfl⟩) []
 have:p.brought x=({ q with slots:=setSlot q.slots x q.lift,lift:=0 }:Plant).atE 0:=by
  subst hq;unfold Plant.brought Plant.atE Plant.atH;simp [hp.ex]
 rw [←this] at s4;exact ⟨_,by omega,((s1.trans s2).trans s3).trans s4⟩
theorem runs_down {p:Plant} (hp:p.Calm) (r:List Goal):∃ n,n≤17∧Steps pre n p (ahead 0++r) (p.atH 0) r:=by
 have b1:=hp.wf.ht1;have b2:=hp.wf.ht2;have b3:=hp.wf.lv2;have b4:=hp.wf.lv1;obtain ⟨k1,hk1,s1⟩:=runs_back (pre:=pre) (p:=p) ⟨hp.wf,hp.hh,hp.st⟩ (by rw [hp.ex];omega) (⟨5,0⟩ :: ⟨1,0⟩ :: r)
 have e0:p.atE 0=p:=by unfold Plant.atE;rw [←hp.ex]
 rw [e0] at s1;have s2:=runs_shut (pre:=pre) (p:=p) hp.dr (⟨1,0⟩ :: r);have s3:=runs_height (pre:=pre) _ hp (h:=0) (by omega) (by omega) rfl r;refine ⟨_,?_,(s1.trans s2).trans s3⟩;omega
theorem takeIn_runs {p:Plant} (hp:p.Calm) (hl:p.lift=0) (hb:p.bay≠0):∃ n,n≤25∧Steps pre n p takeIn { p with height:=0,lift:=p.bay,bay:=0 } []:=by
 obtain ⟨n1,hn1,s1⟩:=runs_down (pre:=pre) hp [⟨7,0⟩];have hc:=calm_atH hp (h:=0) (by omega) (by have:=hp.wf.lv1;omega)
 have g1:nextOf ⟨7,0⟩ (p.atH 0).sense=(110,false):=by unfold nextOf once;simp [Plant.sense,Plant.atH,hl]
 have hsh:=calm_shut hc
 have hm:may 110 (p.atH 0).sense=true:=by
  unfold may;simp only [Int.reduceEq,if_false,or_self,if_true];rw [hsh];simp [Plant.sense,Plant.atH,hl,hb,hp.ex]
 have s2:=Steps.doit1 (pre:=pre) (r:=[]) g1 hm hc.st
 have ha:(p.atH 0).act 110={ p with height:=0,lift:=p.bay,bay:=0 }:=by
  show (p.atH 0).pass true=_;unfold Plant.pass Plant.atH Plant.openB;simp [hp.ex,hl,hp.hh,hp.dr,hp.pe]
 rw [ha] at s2
 have s3:Steps pre 1 { p with height:=0,lift:=p.bay,bay:=0 } [⟨7,0⟩] { p with height:=0,lift:=p.bay,bay:=0 } []:=by
  refine Steps.done1 ?_;unfold nextOf once;simp [Plant.sense,hb]
 exact ⟨_,by omega,(s1.trans s2).trans s3⟩
theorem giveOut_runs {p:Plant} (hp:p.Calm) (hl:p.lift≠0) (hb:p.bay=0):∃ n,n≤25∧Steps pre n p giveOut (pre { p with height:=0,lift:=0,bay:=p.lift,door:=true }) []:=by
 obtain ⟨n1,hn1,s1⟩:=runs_down (pre:=pre) hp [⟨8,0⟩,⟨6,0⟩];have hc:=calm_atH hp (h:=0) (by omega) (by have:=hp.wf.lv1;omega)
 have g1:nextOf ⟨8,0⟩ (p.atH 0).sense=(120,false):=by unfold nextOf once;simp [Plant.sense,Plant.atH,hl]
 have hsh:=calm_shut hc
 have hm:may 120 (p.atH 0).sense=true:=by
  unfold may;simp only [Int.reduceEq,if_false,or_self,if_true];rw [hsh];simp [Plant.sense,Plant.atH,hl,hb,hp.ex]
 have s2:=Steps.doit1 (pre:=pre) (r:=[⟨6,0⟩]) g1 hm hc.st
 have ha:(p.atH 0).act 120={ p with height:=0,lift:=0,bay:=p.lift }:=by
  show (p.atH 0).pass false=_;unfold Plant.pass Plant.atH Plant.openB;simp [hp.ex,hb,hp.hh,hp.dr,hp.pe]
 rw [ha] at s2
 have s3:Steps pre 1 { p with height:=0,lift:=0,bay:=p.lift } [⟨8,0⟩,⟨6,0⟩] { p with height:=0,lift:=0,bay:=p.lift } [⟨6,0⟩]:=by
  refine Steps.done1 ?_;unfold nextOf once;simp [Plant.sense]
 have s4:Steps pre 2 { p with height:=0,lift:=0,bay:=p.lift } [⟨6,0⟩] _ []:=.opens hp.dr rfl hp.ex hp.hh hp.pe hp.st;exact ⟨_,by omega,((s1.trans s2).trans s3).trans s4⟩
theorem welcome_runs {p:Plant} (hp:p.Calm):∃ n,n≤25∧Steps pre n p welcome (pre { p with height:=0,door:=true }) []:=by
 obtain ⟨n1,hn1,s1⟩:=runs_down (pre:=pre) hp [⟨6,0⟩];have s4:Steps pre 2 (p.atH 0) [⟨6,0⟩] _ []:=.opens hp.dr rfl hp.ex hp.hh hp.pe hp.st;exact ⟨_,by omega,s1.trans s4⟩
/-! ### a plan that begins with the shuttle anywhere, and the bay open or not -/
def Plant.calmly (p:Plant):Plant:={ p with ext:=0,door:=false }
theorem calmly_calm {p:Plant} (hs:p.Safe) (hp:p.people=0) (h0:p.stall=0):(Plant.calmly p).Calm:=by
 obtain ⟨a1,a2,a3,a4,a5,a6,a7,a8,a9,a10,a11,a12,a13,a14,a15,a16⟩:=hs.wf;exact ⟨⟨a1,a2,a3,a4,(by decide:(-2:Int)≤0),(by decide:(0:Int)≤2),a7,a8,a9,a10,a11,a12,a13,a14,a15,a16⟩,hs.hh,rfl,rfl,hp,h0⟩
theorem calmly_runs {p:Plant} (hs:p.Safe) (hp:p.people=0) (h0:p.stall=0) (hR:p.ext=2∨p.ext=-2→p.lift≠0→p.full (p.ext / 2)=false) (r:List Goal):
  ∃ k,k≤5∧Steps pre k p (⟨2,0⟩ :: ⟨5,0⟩ :: r) (Plant.calmly p) r:=by
 obtain ⟨k,hk,s1⟩:=runs_back (pre:=pre) (p:=p) ⟨hs.wf,hs.hh,h0⟩ (by
  intro h
  refine Or.inr ⟨(hs.at_ (by omega)).1,(hs.at_ (by omega)).2,?_⟩
  by_cases hl:p.lift=0
  ·exact Or.inl hl
  ·exact Or.inr (hR h.symm hl)) (⟨5,0⟩ :: r)
 cases hd:p.door with
 | false=>
  have e:p.atE 0=Plant.calmly p:=by unfold Plant.atE Plant.calmly;rw [←hd]
  rw [e] at s1;exact ⟨_,by omega,s1.trans (runs_shut rfl r)⟩
 | true=>
  have g1:nextOf ⟨5,0⟩ (p.atE 0).sense=(99,false):=by unfold nextOf once;simp [Plant.sense,Plant.atE,hd]
  have s2:=Steps.doit1 (pre:=pre) (r:=r) g1 (by unfold may;simp [Plant.sense,Plant.atE,hp]) h0
  have ha:(p.atE 0).act 99=Plant.calmly p:=by
   show Plant.swing _ false=_;unfold Plant.swing Plant.atE Plant.calmly;simp [hs.hh,hp]
  rw [ha] at s2;exact ⟨_,by omega,(s1.trans s2).trans (runs_shut rfl r)⟩
theorem begin_runs {p q:Plant} {r:List Goal} (hs:p.Safe) (hp:p.people=0) (h0:p.stall=0) (hR:p.ext=2∨p.ext=-2→p.lift≠0→p.full (p.ext / 2)=false) {n:Nat} (hn:n≤25)
  (h:Steps pre n (Plant.calmly p) (⟨2,0⟩ :: ⟨5,0⟩ :: r) q []):∃ k,k≤28∧Steps pre k p (⟨2,0⟩ :: ⟨5,0⟩ :: r) q []:=by
 obtain ⟨k,hk,s1⟩:=calmly_runs (pre:=pre) hs hp h0 hR r;obtain ⟨m,e,h1⟩:=h.tail (by unfold nextOf toward;simp [Plant.sense,Plant.calmly]);obtain ⟨m',e',h2⟩:=h1.tail (by unfold nextOf once;simp [Plant.sense,Plant.calmly]);exact ⟨_,by omega,s1.trans h2⟩
/-! ### the same with things that stall -/
inductive Fin (pre:Plant→Plant):Nat→Plant→List Goal→Plant→Prop
 | last {p q:Plant} {l:List Goal}:drive p l=(q,[])→Fin pre 1 p l q
 | more {m:Nat} {p p1 q:Plant} {l l1:List Goal}:drive p l=(p1,l1)→l1≠[]→Fin pre m (pre p1) l1 q→Fin pre (m+1) p l q
theorem Fin.congr {p p' q:Plant} {l l':List Goal} {m:Nat} (h:Fin pre m p l q) (e:drive p' l'=drive p l):Fin pre m p' l' q:=by
 cases h with
 | last h=>exact .last (e.trans h)
 | more h1 h2 h3=>exact .more (e.trans h1) h2 h3
def Plant.stalls (p:Plant) (s:Nat):Plant:={ p with stall:=s }
structure PreOK (pre:Plant→Plant) (K:Int→Prop):Prop where
 quiet:∀ p:Plant,p.people=0→(p.door=true→K p.bay)→pre p=p
 stall:∀ (p:Plant) (s:Nat),pre (Plant.stalls p s)=Plant.stalls (pre p) s
 door:∀ p:Plant,(pre p).door=p.door
 folk:∀ p:Plant,p.WF→p.door=true→(pre p).people=0∨(pre p).people=p.people
 bay:∀ p:Plant,p.door=true→K p.bay∨K (pre p).bay
theorem act_shut {p:Plant} {c:Int} (hm:may c p.sense=true) (hc:c≠111):(p.act c).people=p.people∧((p.act c).door=true→p.door=true∧(p.act c).bay=p.bay):=by
  unfold Plant.act
  repeat' split
  all_goals first
    | exact ⟨rfl,fun h=>⟨h,rfl⟩⟩
    | (exfalso;omega)
    | (unfold Plant.stretch;split <;> exact ⟨rfl,fun h=>⟨h,rfl⟩⟩)
    | (unfold Plant.grab;split;· exact ⟨rfl,fun h=>⟨h,rfl⟩⟩
       · split <;> exact ⟨rfl,fun h=>⟨h,rfl⟩⟩)
    | (unfold Plant.put;split;· exact ⟨rfl,fun h=>⟨h,rfl⟩⟩
       · split <;> exact ⟨rfl,fun h=>⟨h,rfl⟩⟩)
    | (refine ⟨rfl,fun h=>?_⟩;cases h)
    | skip
  · rename_i h9
    obtain ⟨_,_,m3,_⟩:=may_pass (Or.inl h9) hm;unfold Plant.pass;dsimp only
    repeat' split
    all_goals exact ⟨rfl,fun h=>by have h:p.door=true:=h;rw [m3] at h;cases h⟩
  · rename_i h10
    obtain ⟨_,_,m3,_⟩:=may_pass (Or.inr h10) hm;unfold Plant.pass;dsimp only
    repeat' split
    all_goals exact ⟨rfl,fun h=>by have h:p.door=true:=h;rw [m3] at h;cases h⟩
theorem stalls_zero {p:Plant} (h:p.stall=0):Plant.stalls p 0=p:=by
 have:((0:Nat):Int)=p.stall:=h.symm;unfold Plant.stalls;rw [this]
theorem drive_done {p:Plant} {g:Goal} {r:List Goal} (h:(nextOf g p.sense).2=true):drive p (g :: r)=drive p r:=by
 conv=>lhs;unfold drive
 rw [if_pos h]
theorem drive_do {p:Plant} {g:Goal} {r:List Goal} {c:Int} (h:nextOf g p.sense=(c,false)) (hm:may c p.sense=true):drive p (g :: r)=(p.step c,g :: r):=by
 unfold drive;rw [h];simp [hm]
theorem step_stalls {p:Plant} {c:Int} (s:Nat) (hc:c≠45):(Plant.stalls p (s+1)).step c=Plant.stalls p s:=by
 unfold Plant.step;rw [if_pos ⟨by unfold Plant.stalls;dsimp only;omega,hc⟩];unfold Plant.stalls;dsimp only
 congr 1
 omega
theorem step_plain {p:Plant} {c:Int} (h:p.stall=0):p.step c=p.act c:=by
 unfold Plant.step;rw [if_neg (by omega)]
theorem next_rest {g:Goal} {s:Sensed} {c:Int} (h:nextOf g s=(c,false)):c≠45:=by
 intro e;have:=next_done g s;rw [h,e] at this;cases this
theorem fin_of_steps {K:Int→Prop} (hpre:PreOK pre K) {k:Nat} {p q:Plant} {l m:List Goal} (h:Steps pre k p l q m):m=[]→l≠[]→p.people=0→(p.door=true→K p.bay)→p.stall=0→∀ s:Nat,
  ∃ n s':Nat,n+s'≤k+s∧0<n∧s'≤s∧Fin pre n (Plant.stalls p s) l (Plant.stalls q s'):=by
 induction h with
 | refl=>intro e h;exact absurd e h
 | @done k p q g r m h1 h2 ih=>
  intro e _ hp hd h0 s
  by_cases hr:r=[]
  ·subst hr
   generalize hl:([]:List Goal)=l' at h2
   cases h2 with
   | refl=>subst hl;exact ⟨1,s,by omega,by omega,by omega,.last ((drive_done (p:=Plant.stalls p s) h1).trans rfl)⟩
   | done=>cases hl
   | doit=>cases hl
   | opens=>cases hl
  ·obtain ⟨n,s',b1,b2,b3,hf⟩:=ih e hr hp hd h0 s
   exact ⟨n,s',by omega,b2,b3,hf.congr (drive_done (p:=Plant.stalls p s) h1)⟩
 | @doit k p q g r m c h1 h2 h3 h4 h5 ih=>
  intro e _ hp hd h0 s;have hc:=next_rest h1;obtain ⟨a1,a2⟩:=act_shut h2 h3
  have hq:∀ t:Nat,pre (Plant.stalls p t)=Plant.stalls p t:=fun t=>hpre.quiet _ hp hd
  have ha:pre (p.act c)=p.act c:=hpre.quiet _ (a1.trans hp) fun h=>by rw [(a2 h).2];exact hd (a2 h).1
  obtain ⟨n,s',b1,b2,b3,hf⟩:=ih e (by simp) (a1.trans hp) (fun h=>by rw [(a2 h).2];exact hd (a2 h).1) ((act_stall p c).trans h0) 0
  have s0:s'=0:=by omega
  subst s0;rw [stalls_zero ((act_stall p c).trans h0)] at hf
  -- what stalls is gone first
  have key:∀ s:Nat,Fin pre (n+1+s) (Plant.stalls p s) (g :: r) (Plant.stalls q 0):=by
   intro s
   induction s with
   | zero=>
    rw [stalls_zero h0];exact .more ((drive_do h1 h2).trans (by rw [step_plain h0])) (by simp) (by rw [ha];exact hf)
   | succ s ihs=>
    refine .more ((drive_do (p:=Plant.stalls p (s+1)) h1 h2).trans (by rw [step_stalls s hc])) (by simp) ?_;rw [hq];exact ihs
  exact ⟨n+1+s,0,by omega,by omega,by omega,key s⟩
 | @opens p h1 h2 h3 h4 h5 h6=>
  intro _ _ hp hd h0 s
  have g1:nextOf ⟨6,0⟩ p.sense=(111,false):=by unfold nextOf once;simp [Plant.sense,h1]
  have hm:may 111 p.sense=true:=by unfold may;simp [Plant.sense,h2,h3]
  have ha:p.act 111={ p with door:=true }:=by
   show Plant.swing _ true=_;unfold Plant.swing;simp [h2,h3,h4]
  have hq:∀ t:Nat,pre (Plant.stalls p t)=Plant.stalls p t:=fun t=>hpre.quiet _ hp hd
  have key:∀ s:Nat,Fin pre (2+s) (Plant.stalls p s) [⟨6,0⟩] (Plant.stalls (pre { p with door:=true }) 0):=by
   intro s
   induction s with
   | zero=>
    rw [stalls_zero h0];refine .more (m:=1) ((drive_do g1 hm).trans (by rw [step_plain h0,ha])) (by simp) ?_
    have h0':(pre { p with door:=true }).stall=0:=by
     have:=hpre.stall { p with door:=true } 0;rw [stalls_zero (show ({ p with door:=true }:Plant).stall=0 from h0)] at this;rw [this];rfl
    rw [stalls_zero h0'];refine .last ?_;rw [drive_done]
    ·rfl
    ·have:(pre { p with door:=true }).door=true:=hpre.door _
     unfold nextOf once;simp [Plant.sense,this]
   | succ s ihs=>
    have:=Fin.more (pre:=pre) (m:=2+s) (p:=Plant.stalls p (s+1)) (l:=[⟨6,0⟩]) (q:=Plant.stalls (pre { p with door:=true }) 0) ((drive_do (p:=Plant.stalls p (s+1)) g1 hm).trans (by rw [step_stalls s (by decide)])) (by simp) (by rw [hq];exact ihs);exact this
  exact ⟨2+s,0,by omega,by omega,by omega,key s⟩
end Ch.Live
namespace Ch.Live
/-! ### what is done from outside while all is settled -/
def waitsB (b:Book) (bay:Int):Bool:=b.jobs.any fun j=>!j.fetch&&(b.stay j.ticket).car.id==bay
def settled (b:Book) (p:Plant):Plant:=
 if p.door=false then p else if p.bay≠0∧waitsB b p.bay=false then { p with people:=0,bay:=0 } else { p with people:=0 }
def QuietBay (b:Book) (bay:Int):Prop:=bay=0∨waitsB b bay=true
theorem settled_ok (b:Book):PreOK (settled b) (QuietBay b) where
 quiet:=by
  intro p hp hk;unfold settled
  by_cases hd:p.door=false
  ·rw [if_pos hd]
  ·rw [if_neg hd,if_neg]
   ·rw [←hp]
   ·rintro ⟨h1,h2⟩
    rcases hk (by simpa using hd) with k|k
    ·exact h1 k
    ·rw [k] at h2;cases h2
 stall:=by
  intro p s;unfold settled
  by_cases hd:p.door=false
  ·rw [if_pos hd,if_pos (show (Plant.stalls p s).door=false from hd)]
  ·rw [if_neg hd,if_neg (show ¬ (Plant.stalls p s).door=false from hd)]
   by_cases hb:p.bay≠0∧waitsB b p.bay=false
   ·rw [if_pos hb,if_pos (show (Plant.stalls p s).bay≠0∧waitsB b (Plant.stalls p s).bay=false from hb)];rfl
   ·rw [if_neg hb,if_neg (show ¬ ((Plant.stalls p s).bay≠0∧waitsB b (Plant.stalls p s).bay=false) from hb)];rfl
 door:=by
  intro p;unfold settled
  split
  ·rfl
  ·split <;> rfl
 folk:=by
  intro p _ hd;unfold settled;rw [if_neg (by simp [hd])]
  split <;> exact Or.inl rfl
 bay:=by
  intro p hd;unfold settled QuietBay;rw [if_neg (by simp [hd])]
  split
  ·exact Or.inr (Or.inl rfl)
  ·rename_i h
   left
   by_cases h0:p.bay=0
   ·exact Or.inl h0
   ·right
    cases hw:waitsB b p.bay
    ·exact absurd ⟨h0,hw⟩ h
    ·rfl
theorem settled_wf {b:Book} {p:Plant} (h:p.WF):(settled b p).WF:=by
 obtain ⟨a1,a2,a3,a4,a5,a6,a7,a8,a9,a10,a11,a12,a13,a14,a15,a16⟩:=h;unfold settled
 split
 ·exact ⟨a1,a2,a3,a4,a5,a6,a7,a8,a9,a10,a11,a12,a13,a14,a15,a16⟩
 ·split
  ·exact ⟨a1,a2,a3,a4,a5,a6,Int.le_refl 0,(by decide:(0:Int)≤9),a9,a10,a11,a12,Int.le_refl 0,(by decide:(0:Int)≤999),a15,a16⟩
  ·exact ⟨a1,a2,a3,a4,a5,a6,Int.le_refl 0,(by decide:(0:Int)≤9),a9,a10,a11,a12,a13,a14,a15,a16⟩
theorem steps_wf {pre:Plant→Plant} (hpre:∀ p:Plant,p.WF→(pre p).WF) {k:Nat} {p q:Plant} {l m:List Goal} (h:Steps pre k p l q m):p.WF→q.WF:=by
 induction h with
 | refl=>exact id
 | done _ _ ih=>exact ih
 | doit _ _ _ _ _ ih=>exact fun hp=>ih (hp.act _)
 | opens=>
  intro hp;obtain ⟨a1,a2,a3,a4,a5,a6,a7,a8,a9,a10,a11,a12,a13,a14,a15,a16⟩:=hp;exact hpre _ ⟨a1,a2,a3,a4,a5,a6,a7,a8,a9,a10,a11,a12,a13,a14,a15,a16⟩
/-! ### where a car is -/
theorem has_iff' {p:Plant} (hp:p.WF) {id:Int} (h:id≠0):p.has id=true↔(∃ y,p.slots y=id)∨p.lift=id∨p.bay=id:=by
 constructor
 ·intro hh
  apply Classical.byContradiction;intro hc
  have:id∉p.cars:=by
   rw [←List.count_eq_zero,count_cars,if_neg h]
   have h1:¬ p.lift=id:=fun e=>hc (Or.inr (Or.inl e))
   have h2:¬ p.bay=id:=fun e=>hc (Or.inr (Or.inr e))
   rw [if_neg h1,if_neg h2]
   have h3:((allPlaces 4).map p.slots).count id=0:=by
    rw [List.count_eq_zero];intro hm;obtain ⟨y,_,hy⟩:=List.mem_map.1 hm;exact hc (Or.inl ⟨y,hy⟩)
   omega
  exact this ((has_iff hp h).1 hh)
 ·intro hh
  rw [has_iff hp h,←List.count_pos_iff,count_cars,if_neg h]
  rcases hh with ⟨y,hy⟩|e|e
  ·have hm:y∈allPlaces 4:=slots_mem hp (by rw [hy];exact h)
   have:0<((allPlaces 4).map p.slots).count id:=List.count_pos_iff.2 (List.mem_map.2 ⟨y,hm,hy⟩);omega
  ·rw [if_pos e];omega
  ·rw [if_pos e];omega
theorem where_of {p:Plant} (hp:p.WF) {id:Int} (h:id≠0) {y:Place} (hy:p.slots y=id):∃ z,p.where_ id=some z:=by
 unfold Plant.where_;rw [if_neg h]
 cases hf:(allPlaces p.levels).find? (fun x=>p.slots x==id) with
 | some z=>exact ⟨z,rfl⟩
 | none=>
  exfalso;rw [List.find?_eq_none] at hf;exact hf y (mem_allPlaces.2 (hp.sl y (by rw [hy];exact h))) (by simpa using hy)
/-! ### how much is left to be done -/
def over (b:Book) (p:Plant) (j:Job):Bool:=p.bay==(b.stay j.ticket).car.id || !p.has (b.stay j.ticket).car.id
def ovB (b:Book) (p:Plant):Bool:=match firstJob b p.bay with|some j=>j.fetch&&over b p j|none=>false
def blockB (b:Book) (p:Plant) (x:Stay):Bool:=match firstJob b p.bay with|some j=>blocks b p x j|none=>false
def giveB (b:Book) (p:Plant) (x:Stay):Bool:=match firstJob b p.bay with|some j=>j.fetch&&j.ticket==x.ticket&&p.bay==0|none=>false
def spareB (b:Book) (n:Int) (p:Plant):Bool:=match b.of (p.slots (spare n)) with|some x=>blockB b p x|none=>false
def frontFull (p:Plant) (id:Int):Bool:=match p.where_ id with|some z=>decide (z.depth=1∧p.slots (front z)≠0)|none=>false
def pot (b:Book) (n:Int) (p:Plant):Nat:=
 if p.lift≠0 then
  if p.slots (spare n)≠0 then 3
  else match b.of p.lift with
   | none=>8
   | some x=>
    if giveB b p x then 1
    else if blockB b p x then 5+(if p.bay≠0 then 2 else 0)
    else if ovB b p then 1
    else 7+(if p.bay≠0 then 2 else 0)
 else if p.slots (spare n)≠0 then
  if spareB b n p then 4+(if p.bay≠0 then 2 else if p.door then 1 else 0)
  else if ovB b p then 2 else 10
 else match firstJob b p.bay with
  | none=>if p.door then 0 else 1
  | some j=>
   if j.fetch then
    if over b p j then 0 else if p.bay≠0 then 8 else if p.door then 7 else if frontFull p (b.stay j.ticket).car.id then 6 else 2
   else if p.bay=(b.stay j.ticket).car.id then 8 else 0
theorem pot_le (b:Book) (n:Int) (p:Plant):pot b n p≤10:=by
 unfold pot
 repeat' split
 all_goals omega
theorem first_id {n:Int} {b:Book} {p:Plant} (h:Core n b p) {bay:Int} {j:Job} (hj:firstJob b bay=some j):(b.stay j.ticket).car.id≠0:=by
 have:=h.id_pos (stay_of h.book (first_mem hj).1).1;omega
theorem pot_low {n:Int} {b:Book} {p:Plant} (h:Core n b p) {q:Plant} (hl:q.lift=0) (hs:q.slots (spare n)=0):pot b n q≤8∧(q.bay=0→pot b n q≤7)∧(q.bay=0→q.door=false→pot b n q≤6):=by
 unfold pot;rw [if_neg (by simp [hl]),if_neg (by simp [hs])]
 cases hj:firstJob b q.bay with
 | none=>dsimp only;split <;> omega
 | some j=>
  have:=first_id h hj;dsimp only;refine ⟨?_,?_,?_⟩
  ·repeat' split
   all_goals omega
  ·intro hb
   rw [hb]
   repeat' split
   all_goals first|omega|(exfalso;omega)
  ·intro hb hd
   rw [hb,hd]
   repeat' split
   all_goals first|omega|(exfalso;omega)|(rename_i c;cases c)
/-! ### the plans -/
theorem go_fetch {n:Int} {b:Book} {p:Plant} (h:Core n b p) (hp:p.people=0) (h0:p.stall=0) {pre:Plant→Plant} {x:Place} (hx:placeFault x n=0) (hl:p.lift=0) (hs:p.slots x≠0) (hf:x.depth=1→p.slots (front x)=0):
  ∃ k,k≤28∧Steps pre k p (fetch x) ((Plant.calmly p).fetched x) []:=by
 obtain ⟨k,hk,s⟩:=fetch_runs (pre:=pre) (calmly_calm h.safe hp h0) (x:=x) (by rw [show (Plant.calmly p).levels=n from h.ln];exact hx) hl hs hf;exact begin_runs h.safe hp h0 h.R hk s
theorem go_bring {n:Int} {b:Book} {p:Plant} (h:Core n b p) (hp:p.people=0) (h0:p.stall=0) {pre:Plant→Plant} {x:Place} (hx:placeFault x n=0) (hl:p.lift≠0) (hs:p.slots x=0) (hf:x.depth=1→p.slots (front x)=0):
  ∃ k,k≤28∧Steps pre k p (bring x) ((Plant.calmly p).brought x) []:=by
 obtain ⟨k,hk,s⟩:=bring_runs (pre:=pre) (calmly_calm h.safe hp h0) (x:=x) (by rw [show (Plant.calmly p).levels=n from h.ln];exact hx) hl hs hf;exact begin_runs h.safe hp h0 h.R hk s
theorem go_in {n:Int} {b:Book} {p:Plant} (h:Core n b p) (hp:p.people=0) (h0:p.stall=0) {pre:Plant→Plant} (hl:p.lift=0) (hb:p.bay≠0):
  ∃ k,k≤28∧Steps pre k p takeIn { Plant.calmly p with height:=0,lift:=p.bay,bay:=0 } []:=by
 obtain ⟨k,hk,s⟩:=takeIn_runs (pre:=pre) (calmly_calm h.safe hp h0) hl hb;exact begin_runs h.safe hp h0 h.R hk s
theorem go_give {n:Int} {b:Book} {p:Plant} (h:Core n b p) (hp:p.people=0) (h0:p.stall=0) {pre:Plant→Plant} (hl:p.lift≠0) (hb:p.bay=0):
  ∃ k,k≤28∧Steps pre k p giveOut (pre { Plant.calmly p with height:=0,lift:=0,bay:=p.lift,door:=true }) []:=by
 obtain ⟨k,hk,s⟩:=giveOut_runs (pre:=pre) (calmly_calm h.safe hp h0) hl hb;exact begin_runs h.safe hp h0 h.R hk s
theorem go_welcome {n:Int} {b:Book} {p:Plant} (h:Core n b p) (hp:p.people=0) (h0:p.stall=0) {pre:Plant→Plant}:
  ∃ k,k≤28∧Steps pre k p welcome (pre { Plant.calmly p with height:=0,door:=true }) []:=by
 obtain ⟨k,hk,s⟩:=welcome_runs (pre:=pre) (calmly_calm h.safe hp h0);exact begin_runs h.safe hp h0 h.R hk s
theorem go_shut {n:Int} {b:Book} {p:Plant} (h:Core n b p) (hp:p.people=0) (h0:p.stall=0) {pre:Plant→Plant} (hd:p.door=true):
  ∃ k,k≤28∧Steps pre k p [⟨5,0⟩] { p with door:=false } []:=by
 have g1:nextOf ⟨5,0⟩ p.sense=(99,false):=by unfold nextOf once;simp [Plant.sense,hd]
 have s2:=Steps.doit1 (pre:=pre) (r:=[]) g1 (by unfold may;simp [Plant.sense,hp]) h0
 have ha:p.act 99={ p with door:=false }:=by
  show Plant.swing _ false=_;unfold Plant.swing;simp [h.safe.hh,hp]
 rw [ha] at s2;exact ⟨_,by omega,s2.trans (runs_shut rfl [])⟩
theorem settled_out {b:Book} {p:Plant} (hd:p.door=true) (hw:p.bay≠0→waitsB b p.bay=false):(settled b p).bay=0:=by
 unfold settled;rw [if_neg (by simp [hd])]
 by_cases h:p.bay=0
 ·rw [if_neg (fun k=>k.1 h)];exact h
 ·rw [if_pos ⟨h,hw h⟩]
theorem settled_rest (b:Book) (p:Plant):(settled b p).lift=p.lift∧(settled b p).slots=p.slots∧(settled b p).door=p.door∧(settled b p).levels=p.levels:=by
 unfold settled
 split
 ·exact ⟨rfl,rfl,rfl,rfl⟩
 ·split <;> exact ⟨rfl,rfl,rfl,rfl⟩
theorem first_wait {b:Book} {bay:Int} {j:Job} (h:firstJob b bay=some j) (hf:j.fetch=true):waitsB b bay=false:=by
 unfold firstJob at h
 split at h
 ·rename_i i hi
  cases h;have:=List.find?_some hi;rw [hf] at this;cases this
 ·rename_i hi
  rw [List.find?_eq_none] at hi;unfold waitsB;rw [List.any_eq_false];exact hi
theorem first_none {b:Book} {bay:Int} (h:firstJob b bay=none):b.jobs=[]:=by
 unfold firstJob at h
 split at h
 ·cases h
 ·simpa using h
def Ends (n:Int) (b:Book) (p:Plant) (l:List Goal):Prop:=
 ∃ k q,k≤28∧Steps (settled b) k p l q []∧pot b n q<pot b n p∧q.people=0∧(q.door=true→QuietBay b q.bay)∧(q.door=true→q.lift=0→b.jobs=[]→q.slots (spare n)=0)
theorem fetched_lift (p:Plant) (x:Place):((Plant.calmly p).fetched x).lift=p.slots x:=rfl
theorem fetched_bay (p:Plant) (x:Place):((Plant.calmly p).fetched x).bay=p.bay:=rfl
theorem fetched_slots (p:Plant) (x y:Place):((Plant.calmly p).fetched x).slots y=if y=x then 0 else p.slots y:=rfl
theorem fetched_folk (p:Plant) (x:Place):((Plant.calmly p).fetched x).people=p.people:=rfl
theorem brought_lift (p:Plant) (x:Place):((Plant.calmly p).brought x).lift=0:=rfl
theorem brought_bay (p:Plant) (x:Place):((Plant.calmly p).brought x).bay=p.bay:=rfl
theorem brought_door (p:Plant) (x:Place):((Plant.calmly p).brought x).door=false:=rfl
theorem brought_slots (p:Plant) (x y:Place):((Plant.calmly p).brought x).slots y=if y=x then p.lift else p.slots y:=rfl
theorem brought_folk (p:Plant) (x:Place):((Plant.calmly p).brought x).people=p.people:=rfl
theorem ends_shut {n:Int} {b:Book} {p q:Plant} {l:List Goal} (hs:∃ k,k≤28∧Steps (settled b) k p l q []) (hd:q.door=false) (hp:q.people=0) (hpot:pot b n q<pot b n p):Ends n b p l:=by
 obtain ⟨k,hk,s⟩:=hs;exact ⟨k,q,hk,s,hpot,hp,(fun h=>by rw [hd] at h;cases h),(fun h=>by rw [hd] at h;cases h)⟩
theorem ends_open {n:Int} {b:Book} {p q:Plant} {l:List Goal} (hs:∃ k,k≤28∧Steps (settled b) k p l (settled b q) []) (hp:q.people=0) (hd:q.door=true) (hpot:pot b n (settled b q)<pot b n p)
  (hsp:b.jobs=[]→q.slots (spare n)=0):Ends n b p l:=by
 obtain ⟨k,hk,s⟩:=hs;refine ⟨k,_,hk,s,hpot,?_,?_,?_⟩
 ·unfold settled
  rw [if_neg (by simp [hd])]
  split <;> rfl
 ·intro _
  unfold settled QuietBay;rw [if_neg (by simp [hd])]
  split
  ·exact Or.inl rfl
  ·rename_i h
   by_cases h0:q.bay=0
   ·exact Or.inl h0
   ·right
    cases hw:waitsB b q.bay
    ·exact absurd ⟨h0,hw⟩ h
    ·rfl
 ·intro _ _ hj
  rw [(settled_rest b q).2.1];exact hsp hj
theorem of_id {n:Int} {b:Book} {p:Plant} (h:Core n b p) {x:Stay} (hx:x∈b.stays):b.of x.car.id=some x:=by
 cases ho:b.of x.car.id with
 | none=>exact absurd rfl (of_none ho x hx)
 | some y=>
  obtain ⟨h1,h2⟩:=of_some ho;rw [id_inj h.book.stays h1 hx h2]
theorem spare_place {n:Int} {b:Book} {p:Plant} (h:Core n b p):placeFault (spare n) n=0:=spare_ok (by have:=h.safe.wf.lv1;rw [h.ln] at this;exact this)
theorem no_wait_of_G {n:Int} {b:Book} {p:Plant} (h:Core n b p) {x:Stay} (hx:x∈b.stays) (hj:b.jobs.head? = some ⟨x.ticket,true⟩):waitsB b x.car.id=false:=by
 unfold waitsB;rw [List.any_eq_false];intro j hm hc;simp only [Bool.and_eq_true,Bool.not_eq_true',beq_iff_eq] at hc;obtain ⟨h1,h2⟩:=stay_of h.book hm;have:b.stay j.ticket=x:=id_inj h.book.stays h1 hx hc.2
 have ht:j.ticket=x.ticket:=by rw [←h2,this]
 have hG:=h.G
 cases hb:b.jobs with
 | nil=>rw [hb] at hm;cases hm
 | cons a r=>
  rw [hb] at hj hm hG;cases hj
  rcases List.mem_cons.1 hm with e|e
  ·rw [e] at hc;simp at hc
  ·exact (List.pairwise_cons.1 hG).1 j e ⟨ht.symm,rfl,hc.1⟩
theorem ev_give {n:Int} {b:Book} {p:Plant} (h:Core n b p) (hp:p.people=0) (h0:p.stall=0) {x:Stay} (hx:x∈b.stays) (hl:p.lift=x.car.id) (hj:b.jobs.head? = some ⟨x.ticket,true⟩) (hb:p.bay=0):Ends n b p giveOut:=by
 have hid:x.car.id≠0:=by have:=h.id_pos hx;omega
 have hl0:p.lift≠0:=by omega
 have hs:=go_give (pre:=settled b) h hp h0 hl0 hb;generalize hq:({ Plant.calmly p with height:=0,lift:=0,bay:=p.lift,door:=true }:Plant)=q at hs
 have q1:q.lift=0:=by rw [←hq]
 have q2:q.bay=x.car.id:=by rw [←hq,←hl]
 have q3:q.door=true:=by rw [←hq]
 have q4:q.slots=p.slots:=by rw [←hq];rfl
 have q5:q.people=0:=by rw [←hq];exact hp
 obtain ⟨t1,t2,t3,t4⟩:=settled_rest b q
 have t5:(settled b q).bay=0:=settled_out q3 fun _=>by rw [q2];exact no_wait_of_G h hx hj
 have hw:(settled b q).WF:=by
  obtain ⟨k,_,s⟩:=hs;exact steps_wf (fun _=>settled_wf) s h.safe.wf
 have hno:∀ y,p.slots y≠x.car.id:=fun y=>by rw [←hl];exact slots_lift h.safe.wf h.nodup hl0 y
 have hf:firstJob b (settled b q).bay=some ⟨x.ticket,true⟩:=by
  rw [t5,←hb,first_head h hb];exact hj
 have hst:b.stay x.ticket=x:=by
  obtain ⟨k1,k2⟩:=stay_of h.book (List.mem_of_head? hj);exact ticket_inj h.book.stays k1 hx k2
 have hov:over b (settled b q) ⟨x.ticket,true⟩=true:=by
  unfold over;dsimp only;rw [hst];cases hh:(settled b q).has x.car.id
  ·simp
  ·exfalso
   rcases (has_iff' hw hid).1 hh with ⟨y,hy⟩|e|e
   ·rw [t2,q4] at hy;exact hno y hy
   ·rw [t1,q1] at e;exact hid e.symm
   ·rw [t5] at e;exact hid e.symm
 refine ends_open hs q5 q3 ?_ (fun e=>by rw [e] at hj;cases hj)
 have hg:giveB b p x=true:=by
  unfold giveB;rw [first_head h hb,hj];simp [hb]
 have hovB:ovB b (settled b q)=true:=by unfold ovB;rw [hf];simp [hov]
 by_cases hsp:p.slots (spare n)=0
 ·have e1:pot b n (settled b q)=0:=by
   unfold pot;rw [if_neg (by simp [t1,q1]),if_neg (by rw [t2,q4];simp [hsp]),hf];simp [hov]
  have e2:pot b n p=1:=by
   unfold pot;rw [if_pos hl0,if_neg (by simp [hsp]),hl,of_id h hx];simp [hg]
  omega
 ·have e1:pot b n (settled b q)≤2:=by
   unfold pot;rw [if_neg (by simp [t1,q1]),if_pos (by rw [t2,q4];exact hsp)]
   have:spareB b n (settled b q)=false:=by
    unfold spareB
    split
    ·unfold blockB
     rw [hf];unfold blocks;dsimp only;rw [hst,t2,q4];have:=hno x.home;simp [this]
    ·rfl
   rw [this];simp [hovB]
  have e2:pot b n p=3:=by
   unfold pot;rw [if_pos hl0,if_pos hsp]
  omega
theorem ev_strange {n:Int} {b:Book} {p:Plant} (h:Core n b p) (hp:p.people=0) (h0:p.stall=0) (hl:p.lift≠0) (ho:b.of p.lift=none):Ends n b p giveOut:=by
 have hu:=of_none ho;have hb:=h.U hl hu
 have hsp:p.slots (spare n)=0:=by
  apply Classical.byContradiction;intro hc;obtain ⟨_,x,hx,e,_⟩:=h.F hl hc;exact hu x hx e.symm
 have hs:=go_give (pre:=settled b) h hp h0 hl hb;generalize hq:({ Plant.calmly p with height:=0,lift:=0,bay:=p.lift,door:=true }:Plant)=q at hs
 have q1:q.lift=0:=by rw [←hq]
 have q2:q.bay=p.lift:=by rw [←hq]
 have q3:q.door=true:=by rw [←hq]
 have q4:q.slots=p.slots:=by rw [←hq];rfl
 have q5:q.people=0:=by rw [←hq];exact hp
 obtain ⟨t1,t2,t3,t4⟩:=settled_rest b q
 have t5:(settled b q).bay=0:=settled_out q3 fun _=>by
  rw [q2];unfold waitsB;rw [List.any_eq_false];intro j hm hc;simp only [Bool.and_eq_true,Bool.not_eq_true',beq_iff_eq] at hc;exact hu _ (stay_of h.book hm).1 hc.2
 refine ends_open hs q5 q3 ?_ (fun _=>by rw [q4];exact hsp);have:=(pot_low h (q:=settled b q) (by rw [t1,q1]) (by rw [t2,q4];exact hsp)).2.1 t5
 have e2:pot b n p=8:=by
  unfold pot;rw [if_pos hl,if_neg (by simp [hsp]),ho]
 omega
theorem home_spare {n:Int} {b:Book} {p:Plant} (h:Core n b p) {x:Stay} (hx:x∈b.stays):x.home≠spare n:=(h.place hx).2
theorem ev_aside {n:Int} {b:Book} {p:Plant} (h:Core n b p) (hp:p.people=0) (h0:p.stall=0) {x:Stay} (hx:x∈b.stays) (hl:p.lift=x.car.id) (hsp:p.slots (spare n)=0) (hg:giveB b p x=false) (hbl:blockB b p x=true):Ends n b p (bring (spare n)):=by
 have hid:x.car.id≠0:=by have:=h.id_pos hx;omega
 have hl0:p.lift≠0:=by omega
 have hs:=go_bring (pre:=settled b) h hp h0 (x:=spare n) (spare_place h) hl0 hsp (fun e=>by unfold spare at e;simp at e);refine ends_shut hs rfl (by rw [brought_folk];exact hp) ?_
 have e2:pot b n p=5+(if p.bay≠0 then 2 else 0):=by
  unfold pot;rw [if_pos hl0,if_neg (by simp [hsp]),hl,of_id h hx];simp [hg,hbl]
 have hb2:spareB b n ((Plant.calmly p).brought (spare n))=true:=by
  unfold spareB;rw [brought_slots,if_pos rfl,hl,of_id h hx];dsimp only
  unfold blockB at hbl ⊢
  rw [brought_bay]
  cases hj:firstJob b p.bay with
  | none=>rw [hj] at hbl;exact hbl
  | some j=>
   rw [hj] at hbl
   dsimp only at hbl ⊢
   unfold blocks at hbl ⊢
   rw [brought_slots,if_neg (home_spare h (stay_of h.book (first_mem hj).1).1)];exact hbl
 have e1:pot b n ((Plant.calmly p).brought (spare n))=4+(if p.bay≠0 then 2 else 0):=by
  unfold pot;rw [brought_lift,if_neg (by simp),brought_slots,if_pos rfl,if_pos hl0,if_pos hb2,brought_bay,brought_door];simp
 rw [e1,e2];omega
theorem has_brought {p:Plant} (hp:p.WF) {x:Place} (hq:((Plant.calmly p).brought x).WF) (hs:p.slots x=0) {id:Int} (h:id≠0):((Plant.calmly p).brought x).has id=p.has id:=by
 rw [Bool.eq_iff_iff,has_iff' hq h,has_iff' hp h];constructor
 ·rintro (⟨y,hy⟩|e|e)
  ·rw [brought_slots] at hy
   split at hy
   ·exact Or.inr (Or.inl hy)
   ·exact Or.inl ⟨y,hy⟩
  ·exact absurd e.symm h
  ·exact Or.inr (Or.inr e)
 ·rintro (⟨y,hy⟩|e|e)
  ·refine Or.inl ⟨y,?_⟩
   rw [brought_slots,if_neg]
   ·exact hy
   ·rintro rfl;rw [hs] at hy;exact h hy.symm
  ·exact Or.inl ⟨x,by rw [brought_slots,if_pos rfl];exact e⟩
  ·exact Or.inr (Or.inr e)
theorem has_fetched {p:Plant} (hp:p.WF) {x:Place} (hq:((Plant.calmly p).fetched x).WF) (hl:p.lift=0) {id:Int} (h:id≠0):((Plant.calmly p).fetched x).has id=p.has id:=by
 rw [Bool.eq_iff_iff,has_iff' hq h,has_iff' hp h];constructor
 ·rintro (⟨y,hy⟩|e|e)
  ·rw [fetched_slots] at hy
   split at hy
   ·exact absurd hy.symm h
   ·exact Or.inl ⟨y,hy⟩
  ·exact Or.inl ⟨x,e⟩
  ·exact Or.inr (Or.inr e)
 ·rintro (⟨y,hy⟩|e|e)
  ·by_cases hx:y=x
   ·exact Or.inr (Or.inl (by rw [fetched_lift,←hx];exact hy))
   ·exact Or.inl ⟨y,by rw [fetched_slots,if_neg hx];exact hy⟩
  ·rw [hl] at e;exact absurd e.symm h
  ·exact Or.inr (Or.inr e)
theorem ev_home {n:Int} {b:Book} {p:Plant} (h:Core n b p) (hp:p.people=0) (h0:p.stall=0) {x:Stay} (hx:x∈b.stays) (hl:p.lift=x.car.id) (hsp:p.slots (spare n)=0) (hg:giveB b p x=false) (hbl:blockB b p x=false)
  (hf:x.home.depth=1→p.slots (front x.home)=0):Ends n b p (bring x.home):=by
 have hid:x.car.id≠0:=by have:=h.id_pos hx;omega
 have hl0:p.lift≠0:=by omega
 have hfree:=home_free h hx hl;have hs:=go_bring (pre:=settled b) h hp h0 (x:=x.home) (h.place hx).1 hl0 hfree hf
 have hw:((Plant.calmly p).brought x.home).WF:=by
  obtain ⟨k,_,s⟩:=hs;exact steps_wf (fun _=>settled_wf) s h.safe.wf
 refine ends_shut hs rfl (by rw [brought_folk];exact hp) ?_
 have e2:pot b n p=if ovB b p then 1 else 7+(if p.bay≠0 then 2 else 0):=by
  unfold pot;rw [if_pos hl0,if_neg (by simp [hsp]),hl,of_id h hx];simp [hg,hbl]
 have hsp':((Plant.calmly p).brought x.home).slots (spare n)=0:=by
  rw [brought_slots,if_neg (fun e=>home_spare h hx e.symm)];exact hsp
 obtain ⟨k1,k2,k3⟩:=pot_low h (q:=(Plant.calmly p).brought x.home) rfl hsp';rw [e2]
 by_cases ho:ovB b p=true
 ·rw [if_pos ho]
  unfold ovB at ho
  cases hj:firstJob b p.bay with
  | none=>rw [hj] at ho;cases ho
  | some j=>
   rw [hj] at ho;simp only [Bool.and_eq_true] at ho
   have ho':over b ((Plant.calmly p).brought x.home) j=true:=by
    unfold over at ho ⊢
    rw [brought_bay,has_brought h.safe.wf hw hfree (first_id h hj)];exact ho.2
   have:pot b n ((Plant.calmly p).brought x.home)=0:=by
    unfold pot;rw [brought_lift,if_neg (by simp),if_neg (by simp [hsp']),brought_bay,hj];simp [ho.1,ho']
   omega
 ·rw [if_neg ho]
  by_cases hb:p.bay=0
  ·have:=k3 hb rfl
   rw [if_neg (by simp [hb])];omega
  ·rw [if_pos hb]
   omega
theorem ev_spare {n:Int} {b:Book} {p:Plant} (h:Core n b p) (hp:p.people=0) (h0:p.stall=0) (hl:p.lift=0) (hsp:p.slots (spare n)≠0) (hbl:spareB b n p=false):Ends n b p (fetch (spare n)):=by
 obtain ⟨x,hx,hxe,_⟩:=h.slots _ hsp;have hs:=go_fetch (pre:=settled b) h hp h0 (x:=spare n) (spare_place h) hl hsp (fun e=>by unfold spare at e;simp at e)
 have hw:((Plant.calmly p).fetched (spare n)).WF:=by
  obtain ⟨k,_,s⟩:=hs;exact steps_wf (fun _=>settled_wf) s h.safe.wf
 refine ends_shut hs rfl (by rw [fetched_folk];exact hp) ?_
 have e2:pot b n p=if ovB b p then 2 else 10:=by
  unfold pot;rw [if_neg (by simp [hl]),if_pos hsp];simp [hbl]
 have hov:ovB b ((Plant.calmly p).fetched (spare n))=ovB b p:=by
  unfold ovB;rw [fetched_bay]
  cases hj:firstJob b p.bay with
  | none=>rfl
  | some j=>
   dsimp only;unfold over;rw [fetched_bay,has_fetched h.safe.wf hw hl (first_id h hj)]
 have hb2:blockB b ((Plant.calmly p).fetched (spare n)) x=false:=by
  unfold spareB at hbl;rw [←hxe,of_id h hx] at hbl;dsimp only at hbl
  unfold blockB at hbl ⊢
  rw [fetched_bay]
  cases hj:firstJob b p.bay with
  | none=>rfl
  | some j=>
   rw [hj] at hbl
   dsimp only at hbl ⊢
   unfold blocks at hbl ⊢
   rw [fetched_slots,if_neg (home_spare h (stay_of h.book (first_mem hj).1).1)];exact hbl
 have b9:(7+if p.bay≠0 then 2 else 0)≤9:=by split <;> omega
 have e1:pot b n ((Plant.calmly p).fetched (spare n))≤if ovB b p then 1 else 9:=by
  unfold pot;rw [fetched_lift,if_pos hsp,fetched_slots,if_pos rfl,if_neg (by simp),←hxe,of_id h hx];simp only [hb2,hov,fetched_bay]
  cases giveB b ((Plant.calmly p).fetched (spare n)) x <;> cases ovB b p
  ·exact b9
  ·exact Nat.le_refl 1
  ·exact (by decide:1≤9)
  ·exact Nat.le_refl 1
 rw [e2]
 split at e1 <;> rename_i c
 ·rw [if_pos c];omega
 ·rw [if_neg c];omega
theorem first0 {n:Int} {b:Book} {p:Plant} (h:Core n b p):firstJob b 0=b.jobs.head?:=by
 unfold firstJob
 cases hf:b.jobs.find? (fun j=>!j.fetch&&(b.stay j.ticket).car.id==0) with
 | none=>rfl
 | some j=>
  have h1:=List.find?_some hf;have hm:=List.mem_of_find?_eq_some hf;have hs:=(stay_of h.book hm).1;have:=h.id_pos hs;simp at h1;omega
theorem spareB_iff {n:Int} {b:Book} {p:Plant}:spareB b n p=true↔∃ y∈firstJob b p.bay,∃ x∈b.of (p.slots (spare n)),blocks b p x y=true:=by
 unfold spareB blockB
 cases b.of (p.slots (spare n)) with
 | none=>simp
 | some x=>
  cases firstJob b p.bay with
  | none=>simp
  | some j=>simp
theorem turn_empty {n:Int} {b:Book} {p:Plant} (hl:p.lift=0) (hsp:p.slots (spare n)=0∨spareB b n p=true):
  turnOf b n p=(match firstJob b p.bay with|some j=>jobOf b p j|none=>if p.door then ([],none) else (welcome,none)):=by
 unfold turnOf;rw [if_neg (by simp [hl])];dsimp only
 have hno:¬ (p.slots (spare n)≠0∧¬ (∃ y∈firstJob b p.bay,∃ x∈b.of (p.slots (spare n)),blocks b p x y=true)):=by
  rintro ⟨h1,h2⟩
  rcases hsp with h|h
  ·exact h1 h
  ·exact h2 (spareB_iff.1 h)
 rw [if_neg hno]
 cases firstJob b p.bay <;> rfl
theorem turn_spare {n:Int} {b:Book} {p:Plant} (hl:p.lift=0) (h1:p.slots (spare n)≠0) (h2:spareB b n p=false):turnOf b n p=(fetch (spare n),none):=by
 unfold turnOf;rw [if_neg (by simp [hl])];dsimp only;rw [if_pos];refine ⟨h1,fun h=>?_⟩;rw [spareB_iff.2 h] at h2;cases h2
structure Wants (n:Int) (b:Book) (p:Plant) (j:Job):Prop where
 core:Core n b p
 folk:p.people=0
 still:p.stall=0
 lift:p.lift=0
 first:firstJob b p.bay=some j
 fetch:j.fetch=true
 over:over b p j=false
 spare:p.slots (Ch.spare n)=0∨spareB b n p=true
theorem Wants.stay {n:Int} {b:Book} {p:Plant} {j:Job} (h:Wants n b p j):b.stay j.ticket∈b.stays∧(b.stay j.ticket).ticket=j.ticket:=stay_of h.core.book (first_mem h.first).1
theorem Wants.has {n:Int} {b:Book} {p:Plant} {j:Job} (h:Wants n b p j):p.bay≠(b.stay j.ticket).car.id∧p.has (b.stay j.ticket).car.id=true:=by
 have:=h.over;unfold Live.over at this
 simpa using this
theorem Wants.in_slot {n:Int} {b:Book} {p:Plant} {j:Job} (h:Wants n b p j):∃ y,p.slots y=(b.stay j.ticket).car.id:=by
 have hid:=first_id h.core h.first
 rcases (has_iff' h.core.safe.wf hid).1 h.has.2 with k|k|k
 ·exact k
 ·rw [h.lift] at k;exact absurd k.symm hid
 ·exact absurd k h.has.1
theorem Wants.pot {n:Int} {b:Book} {p:Plant} {j:Job} (h:Wants n b p j):pot b n p =
  if p.slots (Ch.spare n)≠0 then 4+(if p.bay≠0 then 2 else if p.door then 1 else 0) else if p.bay≠0 then 8 else if p.door then 7 else if frontFull p (b.stay j.ticket).car.id then 6 else 2:=by
 unfold Live.pot;rw [if_neg (by simp [h.lift])]
 by_cases hsp:p.slots (Ch.spare n)≠0
 ·rw [if_pos hsp,if_pos hsp]
  rcases h.spare with k|k
  ·exact absurd k hsp
  ·rw [if_pos k]
 ·rw [if_neg hsp,if_neg hsp,h.first]
  dsimp only;rw [if_pos h.fetch,h.over];simp
theorem Wants.welcome {n:Int} {b:Book} {p:Plant} {j:Job} (h:Wants n b p j) (hb:p.bay≠0):Ends n b p Ch.welcome:=by
 have hs:=go_welcome (pre:=settled b) h.core h.folk h.still
 have hid:=first_id h.core h.first
 generalize hq:({ Plant.calmly p with height:=0,door:=true }:Plant)=q at hs
 have q1:q.lift=0:=by rw [←hq];exact h.lift
 have q2:q.bay=p.bay:=by rw [←hq];rfl
 have q3:q.door=true:=by rw [←hq]
 have q4:q.slots=p.slots:=by rw [←hq];rfl
 have q5:q.people=0:=by rw [←hq];exact h.folk
 obtain ⟨t1,t2,t3,t4⟩:=settled_rest b q
 have t5:(settled b q).bay=0:=settled_out q3 fun _=>by rw [q2];exact first_wait h.first h.fetch
 have hw:(settled b q).WF:=by
  obtain ⟨k,_,s⟩:=hs;exact steps_wf (fun _=>settled_wf) s h.core.safe.wf
 have hf:firstJob b (settled b q).bay=some j:=by rw [t5,first0 h.core];exact fetch_head h.first h.fetch
 have hov:Live.over b (settled b q) j=false:=by
  unfold Live.over;obtain ⟨y,hy⟩:=h.in_slot;have:(settled b q).has (b.stay j.ticket).car.id=true:=(has_iff' hw hid).2 (Or.inl ⟨y,by rw [t2,q4];exact hy⟩);rw [this,t5]
  simpa using fun e=>hid e.symm
 refine ends_open hs q5 q3 ?_ (fun e=>by have:=(first_mem h.first).1;rw [e] at this;cases this)
 have hsb:(settled b q).slots (Ch.spare n)=0∨spareB b n (settled b q)=true:=by
  rw [t2,q4]
  refine h.spare.imp id fun k=>?_
  unfold spareB blockB at k ⊢
  rw [t2,q4,hf];rw [h.first] at k
  cases ho:b.of (p.slots (Ch.spare n)) with
  | none=>rw [ho] at k;exact k
  | some x=>
   rw [ho] at k
   dsimp only at k ⊢
   unfold blocks at k ⊢
   rw [t2,q4];exact k
 have hsl:(settled b q).slots (Ch.spare n)=p.slots (Ch.spare n):=by rw [t2,q4]
 rw [h.pot]
 by_cases hsp:p.slots (Ch.spare n)=0
 ·have e1:Live.pot b n (settled b q)=7:=by
   unfold Live.pot;rw [if_neg (by simp [t1,q1]),if_neg (by rw [hsl];simp [hsp]),hf,t5,t3,q3];dsimp only;rw [hov,h.fetch];simp
  rw [e1,if_neg (by simp [hsp]),if_pos hb];omega
 ·have e1:Live.pot b n (settled b q)=5:=by
   unfold Live.pot;rw [if_neg (by simp [t1,q1]),if_pos (by rw [hsl];exact hsp),if_pos (hsb.resolve_left (by rw [hsl];exact hsp)),t5,t3,q3];simp
  rw [e1,if_pos hsp,if_pos hb];omega
theorem Wants.shut {n:Int} {b:Book} {p:Plant} {j:Job} (h:Wants n b p j) (hb:p.bay=0) (hd:p.door=true):Ends n b p [⟨5,0⟩]:=by
 refine ends_shut (go_shut h.core h.folk h.still hd) rfl h.folk ?_;rw [h.pot]
 by_cases hsp:p.slots (Ch.spare n)=0
 ·rw [if_neg (by simp [hsp]),if_neg (by simp [hb]),if_pos hd]
  have:=(pot_low h.core (q:={ p with door:=false }) h.lift hsp).2.2 hb rfl;omega
 ·rw [if_pos hsp,if_neg (by simp [hb]),if_pos hd]
  have hk:=h.spare.resolve_left hsp
  have:Live.pot b n { p with door:=false }=4+0:=by
   unfold Live.pot;rw [if_neg (by simp [h.lift]),if_pos (by exact hsp),if_pos (show spareB b n { p with door:=false }=true from hk)];simp [hb]
  omega
theorem Wants.place {n:Int} {b:Book} {p:Plant} {j:Job} (h:Wants n b p j) {z:Place} (hz:p.where_ (b.stay j.ticket).car.id=some z):
  placeFault z n=0∧p.slots z=(b.stay j.ticket).car.id∧z=(b.stay j.ticket).home:=by
 obtain ⟨w1,w2,w3⟩:=where_some hz;rw [h.core.ln] at w3;refine ⟨w3,w2,?_⟩
 have hid:=first_id h.core h.first
 rcases h.spare with k|k
 ·obtain ⟨s,hs,e,hh⟩:=h.core.slots z (by rw [w2];exact w1)
  have:s=b.stay j.ticket:=id_inj h.core.book.stays hs h.stay.1 (by rw [e,w2]);subst this
  rcases hh with hh|hh
  ·exact hh
  ·rw [hh,k] at w2;exact absurd w2.symm w1
 ·obtain ⟨y,hy,x,hx,hb⟩:=spareB_iff.1 k
  rw [h.first] at hy;cases hy;unfold blocks at hb;simp only [Bool.and_eq_true,beq_iff_eq] at hb;exact slots_inj h.core.safe.wf h.core.nodup (by rw [w2];exact w1) (by rw [w2,hb.2])
theorem Wants.gets {n:Int} {b:Book} {p:Plant} {j:Job} (h:Wants n b p j) (hb:p.bay=0) (hd:p.door=false) {z:Place} (hz:p.where_ (b.stay j.ticket).car.id=some z):
  Ends n b p (if z.depth=1∧p.slots (front z)≠0 then Ch.fetch (front z) else Ch.fetch z):=by
 obtain ⟨w1,w2,w3⟩:=h.place hz
 have hid:=first_id h.core h.first
 have hzs:z≠Ch.spare n:=by rw [w3];exact home_spare h.core h.stay.1
 have hff:frontFull p (b.stay j.ticket).car.id=decide (z.depth=1∧p.slots (front z)≠0):=by unfold frontFull;rw [hz]
 by_cases hc:z.depth=1∧p.slots (front z)≠0
 ·rw [if_pos hc]
  -- who stands in front belongs there; nothing is in the spare place
  obtain ⟨s,hs,e,hh⟩:=h.core.slots _ hc.2
  have hfs:front z≠Ch.spare n:=by rw [w3];exact front_spare h.core h.stay.1
  have hh:front z=s.home:=hh.resolve_right hfs
  have hsp:p.slots (Ch.spare n)=0:=by
   rcases h.spare with k|k
   ·exact k
   ·exfalso
    obtain ⟨y,hy,x,hx,hbl⟩:=spareB_iff.1 k;rw [h.first] at hy;cases hy;obtain ⟨m1,m2⟩:=of_some hx;unfold blocks at hbl;simp only [Bool.and_eq_true,beq_iff_eq] at hbl;have:s=x:=home_inj h.core.book.stays hs m1 (by rw [←hh,w3,hbl.1.2]);subst this;exact hfs (slots_inj h.core.safe.wf h.core.nodup hc.2 (by rw [←e,m2]))
  have hgo:=go_fetch (pre:=settled b) h.core h.folk h.still (x:=front z) (front_ok w1) h.lift hc.2 (fun e=>by unfold front at e;simp at e);refine ends_shut hgo rfl (by rw [fetched_folk];exact h.folk) ?_;rw [h.pot,if_neg (by simp [hsp]),if_neg (by simp [hb]),if_neg (by simp [hd]),hff,if_pos (by simpa using hc)]
  have hbl:blockB b ((Plant.calmly p).fetched (front z)) s=true:=by
   unfold blockB;rw [fetched_bay,h.first];dsimp only;unfold blocks;rw [←w3,fetched_slots,if_neg (fun e=>front_ne hc.1 e.symm),w2,←hh];simp [h.fetch,hc.1]
  have:Live.pot b n ((Plant.calmly p).fetched (front z))≤5:=by
   unfold Live.pot;rw [fetched_lift,if_pos hc.2,fetched_slots,if_neg (show ¬ Ch.spare n=front z from fun e=>hfs e.symm),if_neg (by simp [hsp]),←e,of_id h.core hs];dsimp only;rw [if_pos hbl,fetched_bay,if_neg (show ¬ p.bay≠0 by simp [hb])]
   split <;> omega
  omega
 ·rw [if_neg hc]
  have hf0:z.depth=1→p.slots (front z)=0:=fun hd=>by
   apply Classical.byContradiction;intro hne;exact hc ⟨hd,hne⟩
  have hne:p.slots z≠0:=by rw [w2];exact hid
  have hgo:=go_fetch (pre:=settled b) h.core h.folk h.still (x:=z) w1 h.lift hne hf0;refine ends_shut hgo rfl (by rw [fetched_folk];exact h.folk) ?_;rw [h.pot]
  by_cases hsp:p.slots (Ch.spare n)=0
  ·rw [if_neg (by simp [hsp]),if_neg (by simp [hb]),if_neg (by simp [hd]),hff,if_neg (by simpa using hc)]
   have hg:giveB b ((Plant.calmly p).fetched z) (b.stay j.ticket)=true:=by
    unfold giveB;rw [fetched_bay,h.first];simp [h.fetch,h.stay.2,hb]
   have:Live.pot b n ((Plant.calmly p).fetched z)=1:=by
    unfold Live.pot;rw [fetched_lift,if_pos hne,fetched_slots,if_neg (show ¬ Ch.spare n=z from fun e=>hzs e.symm),if_neg (by simp [hsp]),w2,of_id h.core h.stay.1];simp [hg]
   omega
  ·rw [if_pos hsp,if_neg (by simp [hb]),if_neg (by simp [hd])]
   have:Live.pot b n ((Plant.calmly p).fetched z)=3:=by
    unfold Live.pot;rw [fetched_lift,if_pos hne,fetched_slots,if_neg (show ¬ Ch.spare n=z from fun e=>hzs e.symm),if_pos hsp]
   omega
theorem ev_in {n:Int} {b:Book} {p:Plant} (h:Core n b p) (hp:p.people=0) (h0:p.stall=0) (hl:p.lift=0) (hsp:p.slots (spare n)=0) {j:Job} (hj:firstJob b p.bay=some j) (hf:j.fetch=false) (hb:p.bay=(b.stay j.ticket).car.id):Ends n b p takeIn:=by
 have hid:=first_id h hj
 have hb0:p.bay≠0:=by omega
 have hx:=(stay_of h.book (first_mem hj).1).1;refine ends_shut (go_in h hp h0 hl hb0) rfl hp ?_
 have e2:pot b n p=8:=by
  unfold pot;rw [if_neg (by simp [hl]),if_neg (by simp [hsp]),hj];simp [hf,hb]
 have:pot b n { Plant.calmly p with height:=0,lift:=p.bay,bay:=0 }≤7:=by
  unfold pot;rw [if_pos (show ({ Plant.calmly p with height:=0,lift:=p.bay,bay:=0 }:Plant).lift≠0 from hb0),if_neg (show ¬ ({ Plant.calmly p with height:=0,lift:=p.bay,bay:=0 }:Plant).slots (spare n)≠0 by simpa [Plant.calmly] using hsp)];rw [show ({ Plant.calmly p with height:=0,lift:=p.bay,bay:=0 }:Plant).lift=(b.stay j.ticket).car.id from hb,of_id h hx];dsimp only
  repeat' split
  all_goals first|omega|(rename_i c;exact absurd rfl c)|simp
 omega
theorem ev_open {n:Int} {b:Book} {p:Plant} (h:Core n b p) (hp:p.people=0) (h0:p.stall=0) (hl:p.lift=0) (hsp:p.slots (spare n)=0) (hj:firstJob b p.bay=none) (hd:p.door=false):Ends n b p welcome:=by
 have hs:=go_welcome (pre:=settled b) h hp h0;have hjobs:=first_none hj;generalize hq:({ Plant.calmly p with height:=0,door:=true }:Plant)=q at hs
 have q1:q.lift=0:=by rw [←hq];exact hl
 have q3:q.door=true:=by rw [←hq]
 have q4:q.slots=p.slots:=by rw [←hq];rfl
 have q5:q.people=0:=by rw [←hq];exact hp
 obtain ⟨t1,t2,t3,t4⟩:=settled_rest b q;refine ends_open hs q5 q3 ?_ (fun _=>by rw [q4];exact hsp)
 have hf:∀ bay,firstJob b bay=none:=fun bay=>by unfold firstJob;rw [hjobs];rfl
 have e1:pot b n (settled b q)=0:=by
  unfold pot;rw [if_neg (by simp [t1,q1]),if_neg (by rw [t2,q4];simp [hsp]),hf];simp [t3,q3]
 have e2:pot b n p=1:=by
  unfold pot;rw [if_neg (by simp [hl]),if_neg (by simp [hsp]),hf];simp [hd]
 omega
structure Rested (n:Int) (b:Book) (p:Plant):Prop where
 lift:p.lift=0
 spare:p.slots (spare n)=0
 jobs:b.jobs=[]
 door:p.door=true
theorem event {n:Int} {b:Book} {p:Plant} (h:Core n b p) (hp:p.people=0) (h0:p.stall=0) (hK:p.door=true→p.bay=0∨waitsB b p.bay=true):
  (turnOf b n p=([],none)∧Rested n b p)∨(∃ b',turnOf b n p=([],some b')∧p.lift=0∧p.slots (spare n)=0)∨(∃ l,turnOf b n p=(l,none)∧l≠[]∧Ends n b p l):=by
 by_cases hl:p.lift≠0
 ·right;right
  have ht:turnOf b n p=(loaded b n p,none):=by unfold turnOf;rw [if_pos hl]
  refine ⟨_,ht,?_⟩
  cases ho:b.of p.lift with
  | none=>
   have:loaded b n p=giveOut:=by unfold loaded;rw [ho]
   rw [this];exact ⟨by simp [giveOut,ahead],ev_strange h hp h0 hl ho⟩
  | some x=>
   obtain ⟨hx,hxe⟩:=of_some ho
   cases hg:giveB b p x with
   | true=>
    have hg':=hg;unfold giveB at hg'
    cases hj:firstJob b p.bay with
    | none=>rw [hj] at hg';cases hg'
    | some j=>
     rw [hj] at hg'
     have:loaded b n p=giveOut:=by
      unfold loaded;rw [ho,hj];dsimp only;rw [if_pos hg']
     rw [this];simp only [Bool.and_eq_true,beq_iff_eq] at hg';refine ⟨by simp [giveOut,ahead],ev_give h hp h0 hx hxe.symm ?_ hg'.2⟩;rw [fetch_head hj hg'.1.1];obtain ⟨t,f⟩:=j;dsimp only at hg';rw [hg'.1.1,hg'.1.2]
   | false=>
    have hsp:p.slots (spare n)=0:=by
     apply Classical.byContradiction;intro hne;obtain ⟨k1,y,hy,k2,k3⟩:=h.F hl hne;have:y=x:=id_inj h.book.stays hy hx (by rw [←k2,hxe]);subst this;unfold giveB at hg;rw [first_head h k1,k3] at hg;simp [k1] at hg
    have hno:x.home.depth=1→p.slots (front x.home)=0:=by
     intro hd;apply Classical.byContradiction;intro hf
     rcases h.E x hx hxe.symm hd with hst|⟨k1,k2⟩
     ·obtain ⟨s,hs,e,hh⟩:=h.slots _ hf
      rcases hh with hh|hh
      ·exact h.B x hx s hs hd hh.symm hst
      ·exact front_spare h hx hh
     ·unfold giveB at hg
      rw [first_head h k2,k1] at hg;simp [k2] at hg
    have hA:(x.home.depth==1&&p.slots (front x.home) != 0)=false:=by
     cases hd:(x.home.depth==1)
     ·rfl
     ·have:=hno (by simpa using hd)
      simp [this]
    have ht':loaded b n p=if blockB b p x then bring (spare n) else bring x.home:=by
     unfold loaded blockB giveB at *;rw [ho];dsimp only
     cases hj:firstJob b p.bay with
     | none=>dsimp only;rw [hA]
     | some j=>
      rw [hj] at hg
      dsimp only at hg ⊢
      rw [hg,hA];simp
    rw [ht']
    cases hbl:blockB b p x with
    | true=>exact ⟨by simp [bring,there,ahead],ev_aside h hp h0 hx hxe.symm hsp hg hbl⟩
    | false=>exact ⟨by simp [bring,there,ahead],ev_home h hp h0 hx hxe.symm hsp hg hbl hno⟩
 ·have hl:p.lift=0:=by omega
  by_cases hsp:p.slots (spare n)≠0∧spareB b n p=false
  ·right;right
   exact ⟨_,turn_spare hl hsp.1 hsp.2,by simp [fetch,there,ahead],ev_spare h hp h0 hl hsp.1 hsp.2⟩
  have hsp:p.slots (spare n)=0∨spareB b n p=true:=by
   by_cases h1:p.slots (spare n)=0
   ·exact Or.inl h1
   ·right
    cases h2:spareB b n p
    ·exact absurd ⟨h1,h2⟩ hsp
    ·rfl
  have ht:=turn_empty hl hsp
  cases hj:firstJob b p.bay with
  | none=>
   rw [hj] at ht;dsimp only at ht
   have hs0:p.slots (spare n)=0:=by
    rcases hsp with k|k
    ·exact k
    ·obtain ⟨y,hy,_⟩:=spareB_iff.1 k
     rw [hj] at hy;cases hy
   cases hd:p.door with
   | true=>
    left;rw [hd] at ht;exact ⟨ht,hl,hs0,first_none hj,hd⟩
   | false=>
    right;right;rw [hd] at ht;exact ⟨_,ht,by simp [welcome,ahead],ev_open h hp h0 hl hs0 hj hd⟩
  | some j=>
   rw [hj] at ht;dsimp only at ht;have hid:=first_id h hj;have hx:=(stay_of h.book (first_mem hj).1).1
   cases hf:j.fetch with
   | true=>
    have htj:jobOf b p j=if (fetchOf p (b.stay j.ticket)).2 then ([],some (doneWith b j false)) else ((fetchOf p (b.stay j.ticket)).1,none):=by
     unfold jobOf;rw [if_pos hf]
    rw [htj] at ht
    cases ho:over b p j with
    | true=>
     right;left
     have ho':p.bay=(b.stay j.ticket).car.id∨p.has (b.stay j.ticket).car.id=false:=by
      unfold over at ho;simpa using ho
     have:fetchOf p (b.stay j.ticket)=([],true):=by unfold fetchOf;rw [if_pos ho']
     rw [this] at ht;refine ⟨_,ht,hl,?_⟩
     rcases hsp with k|k
     ·exact k
     ·exfalso
      obtain ⟨y,hy,x,hx',hbl⟩:=spareB_iff.1 k;rw [hj] at hy;cases hy;unfold blocks at hbl;simp only [Bool.and_eq_true,beq_iff_eq] at hbl
      rcases ho' with e|e
      ·exact slots_bay h.safe.wf h.nodup (by omega) _ (hbl.2.trans e.symm)
      ·exact (has_not h.safe.wf hid e).1 _ hbl.2
    | false=>
     right;right
     have hW:Wants n b p j:=⟨h,hp,h0,hl,hj,hf,ho,hsp⟩
     have ho':¬ (p.bay=(b.stay j.ticket).car.id∨p.has (b.stay j.ticket).car.id=false):=by
      unfold over at ho;simpa using ho
     have hfo:fetchOf p (b.stay j.ticket)=if p.bay≠0∧p.door=true then ([],false) else if p.bay≠0 then (welcome,false) else if p.door=true then ([⟨5,0⟩],false)
      else match p.where_ (b.stay j.ticket).car.id with
      | some y=>if y.depth=1∧p.slots (front y)≠0 then (fetch (front y),false) else (fetch y,false)
      | none=>([],false):=by
       unfold fetchOf;rw [if_neg ho']
       cases p.where_ (b.stay j.ticket).car.id <;> rfl
     have hnw:=first_wait hj hf
     have hbd:¬ (p.bay≠0∧p.door=true):=by
      rintro ⟨k1,k2⟩
      rcases hK k2 with k|k
      ·exact k1 k
      ·rw [k] at hnw;cases hnw
     rw [if_neg hbd] at hfo
     by_cases hb:p.bay≠0
     ·rw [if_pos hb] at hfo
      rw [hfo] at ht;exact ⟨_,ht,by simp [welcome,ahead],hW.welcome hb⟩
     ·rw [if_neg hb] at hfo
      have hb:p.bay=0:=by omega
      cases hd:p.door with
      | true=>
       rw [if_pos hd] at hfo;rw [hfo] at ht;exact ⟨_,ht,by simp,hW.shut hb hd⟩
      | false=>
       rw [if_neg (by simp [hd])] at hfo;obtain ⟨y,hy⟩:=hW.in_slot;obtain ⟨z,hz⟩:=where_of h.safe.wf hid hy;rw [hz] at hfo;dsimp only at hfo;have hg:=hW.gets hb hd hz;refine ⟨if z.depth=1∧p.slots (front z)≠0 then fetch (front z) else fetch z,?_,?_,hg⟩
       ·rw [ht,hfo]
        split <;> simp
       ·split <;> simp [fetch,there,ahead]
   | false=>
    have hs0:p.slots (spare n)=0:=by
     rcases hsp with k|k
     ·exact k
     ·exfalso
      obtain ⟨y,hy,x,hx',hbl⟩:=spareB_iff.1 k;rw [hj] at hy;cases hy;unfold blocks at hbl;rw [hf] at hbl;simp at hbl
    have htj:jobOf b p j=match (storeOf p (b.stay j.ticket)).2 with
      | some g=>([],some (doneWith b j g))
      | none=>((storeOf p (b.stay j.ticket)).1,none):=by
     unfold jobOf;rw [if_neg (by simp [hf])]
     cases (storeOf p (b.stay j.ticket)).2 <;> rfl
    rw [htj] at ht;unfold storeOf at ht
    by_cases c1:p.slots (b.stay j.ticket).home=(b.stay j.ticket).car.id
    ·rw [if_pos c1] at ht
     exact Or.inr (Or.inl ⟨_,ht,hl,hs0⟩)
    rw [if_neg c1] at ht
    by_cases c2:p.bay=(b.stay j.ticket).car.id
    ·rw [if_pos c2] at ht
     exact Or.inr (Or.inr ⟨_,ht,by simp [takeIn,ahead],ev_in h hp h0 hl hs0 hj hf c2⟩)
    rw [if_neg c2] at ht
    by_cases c3:p.has (b.stay j.ticket).car.id=true
    ·exfalso
     rcases (has_iff' h.safe.wf hid).1 c3 with ⟨y,hy⟩|e|e
     ·obtain ⟨s,hs,e,hh⟩:=h.slots y (by rw [hy];exact hid)
      have:s=b.stay j.ticket:=id_inj h.book.stays hs hx (by rw [e,hy]);subst this
      rcases hh with hh|hh
      ·rw [hh] at hy;exact c1 hy
      ·rw [hh,hs0] at hy;exact hid hy.symm
     ·rw [hl] at e;exact hid e.symm
     ·exact c2 e
    ·rw [if_neg c3] at ht
     exact Or.inr (Or.inl ⟨_,ht,hl,hs0⟩)
/-! ### goals that may be: their numbers are such as there are -/
def GV (n:Int) (g:Goal):Prop:=(g.kind=1→0≤g.n∧g.n≤n * 3)∧(g.kind=2→-2≤g.n∧g.n≤2)
theorem gv_ahead {n h:Int} (h1:0≤h) (h2:h≤n * 3):∀ g∈ahead h,GV n g:=by
 intro g hg;unfold ahead at hg;simp only [List.mem_cons,List.not_mem_nil,or_false] at hg;unfold GV
 rcases hg with rfl|rfl|rfl <;> simp <;> omega
theorem gv_there {n:Int} {x:Place} (hx:placeFault x n=0) {k:Int} (hk:k=3∨k=4):∀ g∈there x k,GV n g:=by
 have hx':=placeFault_iff.1 hx;intro g hg;unfold there at hg
 rcases List.mem_append.1 hg with hg|hg
 ·exact gv_ahead (by omega) (by omega) g hg
 ·simp only [List.mem_cons,List.not_mem_nil,or_false] at hg
  have he:-2≤extOf x∧extOf x≤2:=by unfold extOf;split <;> omega
  unfold GV
  rcases hg with rfl|rfl|rfl
  ·simp;omega
  ·rcases hk with rfl|rfl <;> simp
  ·simp
theorem gv_down {n:Int} (hn:1≤n) {l:List Goal} (hl:∀ g∈l,g.kind≠1∧g.kind≠2):∀ g∈ahead 0++l,GV n g:=by
 intro g hg
 rcases List.mem_append.1 hg with hg|hg
 ·exact gv_ahead (by omega) (by omega) g hg
 ·exact ⟨fun h=>absurd h (hl g hg).1,fun h=>absurd h (hl g hg).2⟩
theorem gv_takeIn {n:Int} (hn:1≤n):∀ g∈takeIn,GV n g:=gv_down hn (by simp)
theorem gv_giveOut {n:Int} (hn:1≤n):∀ g∈giveOut,GV n g:=gv_down hn (by simp)
theorem gv_welcome {n:Int} (hn:1≤n):∀ g∈welcome,GV n g:=gv_down hn (by simp)
theorem gv_nil {n:Int}:∀ g∈([]:List Goal),GV n g:=fun _ h=>by cases h
theorem gv_shut {n:Int}:∀ g∈([⟨5,0⟩]:List Goal),GV n g:=fun g h=>by simp at h;subst h;simp [GV]
theorem turn_valid {n:Int} {b:Book} {p:Plant} (h:Core n b p):∀ g∈(turnOf b n p).1,GV n g:=by
 have hn1:1≤n:=by have:=h.safe.wf.lv1;rw [h.ln] at this;exact this
 unfold turnOf
 split
 ·unfold loaded
  split
  ·exact gv_giveOut hn1
  ·rename_i x ho
   have hx:=(of_some ho).1
   split
   ·split
    ·exact gv_giveOut hn1
    ·split
     ·exact gv_there (spare_ok hn1) (Or.inr rfl)
     ·exact gv_there (h.place hx).1 (Or.inr rfl)
   ·split
    ·exact gv_there (spare_ok hn1) (Or.inr rfl)
    ·exact gv_there (h.place hx).1 (Or.inr rfl)
 ·dsimp only
  split
  ·exact gv_there (spare_ok hn1) (Or.inl rfl)
  ·split
   ·unfold jobOf
    split
    ·split
     ·exact gv_nil
     ·unfold fetchOf
      split
      ·exact gv_nil
      ·split
       ·exact gv_nil
       ·split
        ·exact gv_welcome hn1
        ·split
         ·exact gv_shut
         ·split
          ·rename_i y hy
           have hy3:=(where_some hy).2.2;rw [h.ln] at hy3
           split
           ·exact gv_there (front_ok hy3) (Or.inl rfl)
           ·exact gv_there hy3 (Or.inl rfl)
          ·exact gv_nil
    ·split
     ·exact gv_nil
     ·unfold storeOf
      split
      ·exact gv_nil
      ·split
       ·exact gv_takeIn hn1
       ·split <;> exact gv_nil
   ·split
    ·exact gv_nil
    ·exact gv_welcome hn1
theorem drive_suffix (p:Plant):∀ l:List Goal,∀ g∈(drive p l).2,g∈l
 | [],_,h=>h
 | a :: r,g,h=>by
  unfold drive at h
  split at h
  ·exact List.mem_cons_of_mem _ (drive_suffix p r g h)
  ·split at h
   ·exact h
   ·cases h
structure House.Inv2 (h:House):Prop where
 inv:h.Inv'
 gv:∀ g∈h.goals,GV h.n g
theorem House.Inv2.new {sizes:List Size} (h:levelsFault sizes=0):House.Inv2 (House.new sizes):=⟨Ch.House.Inv'.new h,fun _ h=>by cases h⟩
theorem tick_goals {h:House} (hi:h.Inv') (hv:∀ g∈h.goals,GV h.n g):∀ g∈h.tick.goals,GV h.n g:=by
 unfold House.tick
 split
 ·have ht:=turn_valid hi.core
  split
  ·exact hv
  ·rename_i l e
   rw [e] at ht;intro g hg;exact ht g (drive_suffix _ _ g hg)
 ·intro g hg
  exact hv g (drive_suffix _ _ g hg)
theorem tick_n (h:House):h.tick.n=h.n:=by
 unfold House.tick
 split
 ·split <;> rfl
 ·rfl
theorem House.Inv2.tick {h:House} (hi:House.Inv2 h):House.Inv2 h.tick:=
 ⟨hi.inv.tick,fun g hg=>by rw [tick_n];exact tick_goals hi.inv hi.gv g hg⟩
theorem House.Inv2.ticks {h:House} (hi:House.Inv2 h) (n:Nat):House.Inv2 (House.ticks n h):=by
 induction n generalizing h with
 | zero=>exact hi
 | succ n ih=>exact ih hi.tick
theorem park_same (h:House) (c:Car):(h.park c).1.n=h.n∧(h.park c).1.goals=h.goals:=by
 unfold House.park
 split
 ·exact ⟨rfl,rfl⟩
 ·split <;> exact ⟨rfl,rfl⟩
theorem want_same (h:House) (t:Int):(h.want t).1.n=h.n∧(h.want t).1.goals=h.goals:=by
 unfold House.want
 split <;> exact ⟨rfl,rfl⟩
theorem House.Inv2.park {h:House} (hi:House.Inv2 h) (c:Car):House.Inv2 (h.park c).1:=
 ⟨hi.inv.park c,by rw [(park_same h c).1,(park_same h c).2];exact hi.gv⟩
theorem House.Inv2.want {h:House} (hi:House.Inv2 h) (t:Int):House.Inv2 (h.want t).1:=
 ⟨hi.inv.want t,by rw [(want_same h t).1,(want_same h t).2];exact hi.gv⟩
theorem House.Inv2.play {h:House} (hi:House.Inv2 h) (a:Act):House.Inv2 (h.play a):=by
 refine ⟨hi.inv.play a,?_⟩;unfold House.play
 split
 ·exact (hi.park _).gv
 ·split
  ·exact (hi.want _).gv
  ·split
   ·exact gv_nil
   ·split
    ·exact hi.gv
    ·exact (hi.ticks _).gv
/-! ### a house that is left alone -/
def House.pre (h:House):House:=
 { h with p:=if h.p.door=true∧h.p.bay≠0∧waitsB h.b h.p.bay=false then (if h.p.door=true then (h.p.walk (-9)).1 else h.p).leave.1 else (if h.p.door=true then (h.p.walk (-9)).1 else h.p) }
def House.quits (h:House) (i:Nat):Bool:=h.p.door&&h.p.bay==0&&h.p.lift==0&&h.b.jobs.isEmpty&&h.goals.isEmpty&&decide (100<i)
def settleN:Nat→Nat→House→House
 | 0,_,h=>h
 | n+1,i,h=>if House.quits h i then House.pre h else settleN n (i+1) (House.pre h).tick
def House.settle (h:House):House:=settleN 2500 0 h
theorem pre_p {h:House} (hw:h.p.WF):(House.pre h).p=settled h.b h.p:=by
 unfold House.pre settled;dsimp only
 cases hd:h.p.door with
 | false=>simp
 | true=>
  have h1:=hw.pe1;have h2:=hw.pe2
  have hwk:(h.p.walk (-9)).1={ h.p with people:=0 }:=by
   unfold Plant.walk;rw [if_neg (by omega),if_neg (by simp [hd])];dsimp only
   congr 1
   unfold clamp;omega
  rw [hwk];simp only [if_true,true_and]
  by_cases hb:h.p.bay≠0∧waitsB h.b h.p.bay=false
  ·rw [if_pos hb,if_neg (by simp),if_pos hb]
   unfold Plant.leave;dsimp only;rw [if_neg (by simp [hd,hb.1])];simp [hd]
  ·rw [if_neg hb,if_neg (by simp),if_neg hb]
   simp [hd]
theorem Inv'.pre {h:House} (hi:h.Inv'):(House.pre h).Inv':=by
 have hk:∀ q:Plant,Core h.n h.b q→GoalsOK h.n h.b q h.goals→Core h.n h.b q.leave.1∧GoalsOK h.n h.b q.leave.1 h.goals:=fun q hc hg=>by
  have:=outside_ok hc hg ⟨kLeave,0,0,default,⟨#[]⟩,0,⟨0,[],[]⟩⟩ (show kLeave≠kStep by decide);have e:q.outside ⟨kLeave,0,0,default,⟨#[]⟩,0,⟨0,[],[]⟩⟩=q.leave.1:=rfl;rw [e] at this;exact this
 have hw:Core h.n h.b (if h.p.door=true then (h.p.walk (-9)).1 else h.p)∧GoalsOK h.n h.b (if h.p.door=true then (h.p.walk (-9)).1 else h.p) h.goals:=by
  split
  ·exact ⟨hi.core.walk _,hi.goals.walk _⟩
  ·exact ⟨hi.core,hi.goals⟩
 have:Core h.n h.b (House.pre h).p∧GoalsOK h.n h.b (House.pre h).p h.goals:=by
  unfold House.pre;dsimp only
  split
  ·exact hk _ hw.1 hw.2
  ·exact hw
 exact ⟨hi.lv,this.1,hi.fit,this.2⟩
theorem Inv2.pre {h:House} (hi:House.Inv2 h):House.Inv2 (House.pre h):=⟨Inv'.pre hi.inv,hi.gv⟩
theorem pre_folk {h:House} (hi:h.Inv'):(House.pre h).p.people=0∧((House.pre h).p.door=true→(House.pre h).p.bay=0∨waitsB h.b (House.pre h).p.bay=true):=by
 rw [pre_p hi.core.safe.wf];have h1:=hi.core.safe.wf.pe1;unfold settled
 cases hd:h.p.door with
 | false=>
  rw [if_pos rfl];refine ⟨?_,fun h=>by rw [hd] at h;cases h⟩;apply Classical.byContradiction;intro hc;have:=hi.core.safe.folk (by omega);rw [hd] at this;cases this
 | true=>
  rw [if_neg (by simp)]
  split
  ·exact ⟨rfl,fun _=>Or.inl rfl⟩
  ·rename_i hb
   refine ⟨rfl,fun _=>?_⟩
   by_cases h0:h.p.bay=0
   ·exact Or.inl h0
   ·right
    cases hw:waitsB h.b h.p.bay
    ·exact absurd ⟨h0,hw⟩ hb
    ·rfl
structure House.Rest (h:House):Prop where
 inv:House.Inv2 h
 goals:h.goals=[]
 lift:h.p.lift=0
 spare:h.p.slots (spare h.n)=0
 jobs:h.b.jobs=[]
 door:h.p.door=true
 bay:h.p.bay=0
 folk:h.p.people=0
theorem turn_rest {n:Int} {b:Book} {p:Plant} (h1:p.lift=0) (h2:p.slots (spare n)=0) (h3:b.jobs=[]) (h4:p.door=true):turnOf b n p=([],none):=by
 rw [turn_empty h1 (Or.inl h2)]
 have:firstJob b p.bay=none:=by unfold firstJob;rw [h3];rfl
 rw [this,h4];rfl
theorem rest_tick {h:House} (h0:h.goals=[]) (h1:h.p.lift=0) (h2:h.p.slots (spare h.n)=0) (h3:h.b.jobs=[]) (h4:h.p.door=true):h.tick=h:=by
 unfold House.tick;rw [if_pos h0,turn_rest h1 h2 h3 h4];dsimp only;unfold House.go drive;rw [←h0]
theorem House.Rest.tick {h:House} (hr:House.Rest h):h.tick=h:=rest_tick hr.goals hr.lift hr.spare hr.jobs hr.door
theorem House.Rest.pre {h:House} (hr:House.Rest h):House.pre h=h:=by
 have e:(House.pre h).p=h.p:=by
  rw [pre_p hr.inv.inv.core.safe.wf]
  exact (settled_ok h.b).quiet _ hr.folk fun _=>Or.inl hr.bay
 have:House.pre h={ h with p:=(House.pre h).p }:=rfl;rw [this,e]
theorem settle_rest {h:House} (hr:House.Rest h):∀ n i,settleN n i h=h
 | 0,_=>rfl
 | n+1,i=>by
  unfold settleN
  split
  ·exact hr.pre
  ·rw [hr.pre,hr.tick]
   exact settle_rest hr n (i+1)
theorem quits_goals {h:House} {i:Nat} (hg:h.goals≠[]):House.quits h i=false:=by
 unfold House.quits
 cases hh:h.goals with
 | nil=>exact absurd hh hg
 | cons a r=>simp
theorem fin_settle {b:Book} {m:Nat} {p q:Plant} {l:List Goal} (hf:Fin (settled b) m p l q):∀ (h:House) (i k:Nat),h.b=b→h.Inv'→(House.pre h).p=p→(House.pre h).tick=(House.pre h).go l→House.quits h i=false →
  settleN (k+m) i h=settleN k (i+m) { h with p:=q,goals:=[] }∧({ h with p:=q,goals:=[] }:House).Inv':=by
 induction hf with
 | @last p q l hd=>
  intro h i k hb hi hp ht hq
  have e:(House.pre h).tick={ h with p:=q,goals:=[] }:=by
   rw [ht];unfold House.go;rw [hp,hd];rfl
  refine ⟨?_,?_⟩
  ·rw [settleN,if_neg (by simp [hq]),e]
  ·rw [←e];exact (Inv'.pre hi).tick
 | @more m p p1 q l l1 hd hl hf ih=>
  intro h i k hb hi hp ht hq
  have e:(House.pre h).tick={ h with p:=p1,goals:=l1 }:=by
   rw [ht];unfold House.go;rw [hp,hd];rfl
  have hi':({ h with p:=p1,goals:=l1 }:House).Inv':=by rw [←e];exact (Inv'.pre hi).tick
  obtain ⟨a1,a2⟩:=ih { h with p:=p1,goals:=l1 } (i+1) k hb hi' (by rw [pre_p hi'.core.safe.wf,←hb]) (by
   conv=>lhs;unfold House.tick
   rw [if_neg (show ¬ (House.pre { h with p:=p1,goals:=l1 }).goals=[] from hl)]
   rfl) (quits_goals (by exact hl))
  refine ⟨?_,a2⟩;rw [show k+(m+1)=k+m+1 by omega,settleN,if_neg (by simp [hq]),e,a1,show i+1+m=i+(m+1) by omega]
theorem turn_stalls (b:Book) (n:Int) (p:Plant) (s:Nat):turnOf b n (Plant.stalls p s)=turnOf b n p:=rfl
theorem pot_stalls (b:Book) (n:Int) (p:Plant) (s:Nat):pot b n (Plant.stalls p s)=pot b n p:=rfl
theorem core_stalls {n:Int} {b:Book} {p:Plant} (h:Core n b p):Core n b (Plant.stalls p 0):=by
 have:=h.stall 0;unfold Plant.setStall at this;rw [if_neg (by omega)] at this;exact this
theorem done_less {b:Book} {j:Job} {g:Bool} (h:j∈b.jobs):(doneWith b j g).jobs.length<b.jobs.length:=by
 unfold doneWith;dsimp only
 have h1:∀ l:List Job,j∈l→(l.filter fun x=>!(x==j || ((j.fetch || g)&&x.ticket==j.ticket))).length<l.length:=by
  intro l
  induction l with
  | nil=>intro h;cases h
  | cons a r ih=>
   intro h;rw [List.filter_cons];have hle:(r.filter fun x=>!(x==j || ((j.fetch || g)&&x.ticket==j.ticket))).length≤r.length:=List.length_filter_le _ _
   split
   ·rename_i hc
    rcases List.mem_cons.1 h with e|e
    ·subst e;simp at hc
    ·have:=ih e
     simp only [List.length_cons];omega
   ·simp only [List.length_cons]
    omega
 exact h1 _ h
def Good (h:House):Prop:=h.p.door=true→h.p.lift=0→h.b.jobs=[]→h.p.slots (spare h.n)=0
theorem settle_go:∀ (m:Nat) (h:House) (i k:Nat),House.Inv2 h→h.goals=[]→9 * h.b.jobs.length+pot h.b h.n (settled h.b h.p)≤m→(100<i→Good h)→28 * m+h.p.stall.toNat+1≤k→House.Rest (settleN k i h):=by
 intro m
 induction m using Nat.strongRecOn with
 | ind m ih=>
  intro h i k hi hg hm hgood hk
  obtain ⟨k,rfl⟩:∃ k',k=k'+1:=⟨k - 1,by omega⟩
  have hi1:=Inv2.pre hi;have hw:=hi.inv.core.safe.wf;have ep:=pre_p hw;obtain ⟨f1,f2⟩:=pre_folk hi.inv;have hc1:Core h.n h.b (House.pre h).p:=hi1.inv.core
  have hst:(House.pre h).p.stall=h.p.stall:=by
   rw [ep];unfold settled;split
   ·rfl
   ·split <;> rfl
  by_cases hq:House.quits h i=true
  ·rw [settleN,if_pos hq]
   unfold House.quits at hq;simp only [Bool.and_eq_true,beq_iff_eq,decide_eq_true_eq,List.isEmpty_iff] at hq;obtain ⟨⟨⟨⟨⟨q1,q2⟩,q3⟩,q4⟩,q5⟩,q6⟩:=hq;obtain ⟨t1,t2,t3,t4⟩:=settled_rest h.b h.p;refine ⟨hi1,hg,by rw [ep,t1];exact q3,by rw [ep,t2];exact hgood q6 q1 q3 q4,q4,by rw [ep,t3];exact q1,?_,f1⟩
   have hd:(House.pre h).p.door=true:=by rw [ep,t3];exact q1
   rcases f2 hd with e|e
   ·exact e
   ·unfold waitsB at e;rw [q4] at e;cases e
  ·have hq:House.quits h i=false:=by simpa using hq
   have hc0:=core_stalls hc1;have hev:=event hc0 f1 rfl f2;rw [turn_stalls] at hev
   have htick:∀ l,turnOf h.b h.n (House.pre h).p=(l,none)→(House.pre h).tick=(House.pre h).go l:=fun l e=>by
    conv=>lhs;unfold House.tick
    rw [if_pos (show (House.pre h).goals=[] from hg),show turnOf (House.pre h).b (House.pre h).n (House.pre h).p=(l,none) from e]
   rcases hev with ⟨e1,e2⟩|⟨b',e1,e2,e3⟩|⟨l,e1,e2,e3⟩
   ·-- at rest
    have hr:House.Rest (House.pre h):=by
     refine ⟨hi1,hg,e2.lift,e2.spare,e2.jobs,e2.door,?_,f1⟩
     rcases f2 e2.door with e|e
     ·exact e
     ·unfold waitsB at e;rw [show h.b.jobs=[] from e2.jobs] at e;cases e
    rw [settleN,if_neg (by simp [hq]),hr.tick,settle_rest hr];exact hr
   ·-- the book is turned
    have ht:(House.pre h).tick={ House.pre h with b:=b' }:=by
     conv=>lhs;unfold House.tick
     rw [if_pos (show (House.pre h).goals=[] from hg),show turnOf (House.pre h).b (House.pre h).n (House.pre h).p=([],some b') from e1]
    obtain ⟨k1,_,_,_,j,g,k5,k6⟩:=turn_book hc1 e1
    have hlen:b'.jobs.length<h.b.jobs.length:=by rw [k6];exact done_less k5
    have hi2:House.Inv2 { House.pre h with b:=b' }:=by rw [←ht];exact hi1.tick
    have hlow:=(pot_low k1 (q:=settled b' (House.pre h).p) (by rw [(settled_rest b' _).1];exact e2) (by rw [(settled_rest b' _).2.1];exact e3)).1;rw [settleN,if_neg (by simp [hq]),ht];refine ih (m - 1) (by omega) _ (i+1) k hi2 hg ?_ (fun _ _ _ _=>e3) ?_
    ·show 9 * b'.jobs.length+pot b' h.n (settled b' (House.pre h).p)≤m - 1
     omega
    ·show 28 * (m - 1)+(House.pre h).p.stall.toNat+1≤k
     rw [hst];omega
   ·-- a plan
    obtain ⟨kk,q,b1,b2,b3,b4,b5,b6⟩:=e3;obtain ⟨n',s',c1,c2,c3,hf⟩:=fin_of_steps (settled_ok h.b) b2 rfl e2 f1 f2 rfl (House.pre h).p.stall.toNat
    have hps:Plant.stalls (Plant.stalls (House.pre h).p 0) (House.pre h).p.stall.toNat=(House.pre h).p:=by
     have:=hc1.safe.wf.st1;unfold Plant.stalls;dsimp only
     have e:(((House.pre h).p.stall.toNat:Nat):Int)=(House.pre h).p.stall:=by omega
     rw [e]
    rw [hps] at hf;rw [hst] at c1 c3
    have hk':k+1=(k+1 - n')+n':=by
     have:n'≤k+1:=by
      have:pot h.b h.n (settled h.b h.p)≤m:=by omega
      have hp0:0<pot h.b h.n (settled h.b h.p):=by
       rw [←ep];have:pot h.b h.n q<pot h.b h.n (House.pre h).p:=b3;omega
      omega
     omega
    obtain ⟨d1,d2⟩:=fin_settle hf h i (k+1 - n') rfl hi.inv rfl (htick l e1) hq;rw [hk',d1];have hquiet:settled h.b (Plant.stalls q s')=Plant.stalls q s':=(settled_ok h.b).quiet _ b4 b5
    have hb3:pot h.b h.n q<pot h.b h.n (settled h.b h.p):=by
     rw [←ep];exact b3
    refine ih (m - 1) (by omega) _ _ _ ⟨d2,gv_nil⟩ rfl ?_ (fun _=>b6) ?_
    ·show 9 * h.b.jobs.length+pot h.b h.n (settled h.b (Plant.stalls q s'))≤m - 1
     rw [hquiet,pot_stalls];omega
    ·show 28 * (m - 1)+((s':Nat):Int).toNat+1≤k+1 - n'
     rw [Int.toNat_natCast];omega
/-! ### goals that are left: they come to their end, or are dropped -/
def gcost (g:Goal):Nat:=if g.kind=1 then 12 else if g.kind=2 then 4 else 1
def cur (p:Plant) (g:Goal):Nat:=if g.kind=1 then (p.height - g.n).natAbs else if g.kind=2 then (p.ext - g.n).natAbs else if (nextOf g p.sense).2 then 0 else 1
def total (l:List Goal):Nat:=(l.map gcost).sum
def rank (p:Plant):List Goal→Nat
 | []=>0
 | g :: r=>cur p g+total r
theorem cur_le {n:Int} {p:Plant} (hp:p.WF) (hn:p.levels=n) {g:Goal} (hg:GV n g):cur p g≤gcost g:=by
 have:=hp.lv2;have:=hp.ht1;have:=hp.ht2;have:=hp.ex1;have:=hp.ex2;unfold cur gcost
 by_cases h1:g.kind=1
 ·rw [if_pos h1,if_pos h1]
  have:=hg.1 h1;omega
 ·rw [if_neg h1,if_neg h1]
  by_cases h2:g.kind=2
  ·rw [if_pos h2,if_pos h2]
   have:=hg.2 h2;omega
  ·rw [if_neg h2,if_neg h2]
   split <;> omega
theorem rank_le {n:Int} {p:Plant} (hp:p.WF) (hn:p.levels=n) {l:List Goal} (hl:∀ g∈l,GV n g):rank p l≤total l:=by
 cases l with
 | nil=>exact Nat.le_refl 0
 | cons g r=>
  have:=cur_le hp hn (hl g (by simp));show cur p g+total r≤((g :: r).map gcost).sum;rw [List.map_cons,List.sum_cons];show cur p g+total r≤gcost g+total r;omega
theorem cur_act {n:Int} {p:Plant} (hp:p.WF) (hn:p.levels=n) (h0:p.stall=0) {g:Goal} (hg:GV n g) (hd:(nextOf g p.sense).2=false) (hm:may (nextOf g p.sense).1 p.sense=true):cur (p.step (nextOf g p.sense).1) g<cur p g:=by
 unfold cur
 by_cases h1:g.kind=1
 ·rw [if_pos h1,if_pos h1]
  have:=hg.1 h1
  rcases next_height hp h0 h1 this.1 (by rw [hn];exact this.2) hd with ⟨a,b⟩|⟨a,b⟩ <;> (rw [b];omega)
 ·rw [if_neg h1,if_neg h1]
  by_cases h2:g.kind=2
  ·rw [if_pos h2,if_pos h2]
   have:=hg.2 h2
   rcases next_reach hp h0 h2 this.1 this.2 hd with ⟨a,b⟩|⟨a,b⟩ <;> (rw [b];omega)
  ·rw [if_neg h2,if_neg h2,hd]
   have key:(nextOf g (p.step (nextOf g p.sense).1).sense).2=true:=by
    rw [step_plain h0]
    by_cases h3:g.kind=3
    ·have e:=(next_code hd).1 h3
     rw [e] at hm ⊢
     obtain ⟨m1,m2,m3⟩:=may_103 hm
     have hh:p.full p.ext=true:=by
      unfold may at hm;simp only [Int.reduceEq,if_false,or_self,if_true,Bool.and_eq_true] at hm;exact hm.2
     unfold Plant.full at hh
     split at hh
     ·cases hh
     ·rename_i x hx
      have hs:p.slots x≠0:=by simpa using hh
      rw [act_grab hx m1 hs];unfold nextOf once;rw [if_neg h1,if_neg h2,if_pos h3];simp [Plant.sense,hs]
    ·by_cases h4:g.kind=4
     ·have e:=(next_code hd).2.1 h4
      rw [e] at hm ⊢
      obtain ⟨m1,m2,m3,m4⟩:=may_112 hm
      have hh:p.ext≠0:=by
       unfold may at hm;simp only [Int.reduceEq,if_false,or_self,if_true,Bool.and_eq_true,bne_iff_ne] at hm;exact hm.1.1.2
      have hpl:=place_none m2 m3 hh hp.ex1 hp.ex2
      cases hx:p.place p.ext with
      | none=>rw [hx] at hpl;cases hpl
      | some x=>
       unfold Plant.full at m4;rw [hx] at m4
       have hs:p.slots x=0:=by simpa using m4
       rw [act_put hx m1 hs];unfold nextOf once;rw [if_neg h1,if_neg h2,if_neg h3,if_pos h4];simp [Plant.sense]
     ·by_cases h5:g.kind=5
      ·have e:(nextOf g p.sense).1=99:=by
        unfold nextOf once at hd ⊢
        rw [if_neg h1,if_neg h2,if_neg h3,if_neg h4,if_pos h5] at hd ⊢
        split at hd
        ·cases hd
        ·rename_i c;rw [if_neg c]
       rw [e];unfold nextOf once;rw [if_neg h1,if_neg h2,if_neg h3,if_neg h4,if_pos h5];rfl
      ·by_cases h6:g.kind=6
       ·have e:=(next_code hd).2.2.1 h6
        rw [e];unfold nextOf once;rw [if_neg h1,if_neg h2,if_neg h3,if_neg h4,if_neg h5,if_pos h6];rfl
       ·by_cases h7:g.kind=7
        ·have e:=(next_code hd).2.2.2.1 h7
         rw [e] at hm ⊢
         obtain ⟨m1,m2,m3,m4,m5,_⟩:=may_pass (Or.inl rfl) hm;obtain ⟨m5,m6⟩:=m5 rfl;rw [act_in m1 m2 m3 m4 m5];unfold nextOf once;rw [if_neg h1,if_neg h2,if_neg h3,if_neg h4,if_neg h5,if_neg h6,if_pos h7];simp [Plant.sense,m6]
        ·by_cases h8:g.kind=8
         ·have e:=(next_code hd).2.2.2.2 h8
          rw [e] at hm ⊢
          obtain ⟨m1,m2,m3,m4,_,m5⟩:=may_pass (Or.inr rfl) hm;obtain ⟨m5,m6⟩:=m5 rfl;rw [act_out m1 m2 m3 m4 m6];unfold nextOf once;rw [if_neg h1,if_neg h2,if_neg h3,if_neg h4,if_neg h5,if_neg h6,if_neg h7,if_pos h8];simp [Plant.sense]
         ·exfalso
          unfold nextOf at hd;rw [if_neg h1,if_neg h2,if_neg h3,if_neg h4,if_neg h5,if_neg h6,if_neg h7,if_neg h8] at hd;cases hd
   rw [key];simp
theorem cur_stalled (p:Plant) (k:Int) (g:Goal):cur { p with stall:=k } g=cur p g:=rfl
theorem drive_rank {n:Int} {p:Plant} (hp:p.WF) (hn:p.levels=n):∀ {l:List Goal},(∀ g∈l,GV n g)→(drive p l).2=[]∨(rank (drive p l).1 (drive p l).2+(drive p l).1.stall.toNat<rank p l+p.stall.toNat)
 | [],_=>Or.inl rfl
 | g :: r,hl=>by
  by_cases hd:(nextOf g p.sense).2=true
  ·rw [drive_done hd]
   have h1:=rank_le hp hn (l:=r) (fun a ha=>hl a (by simp [ha]))
   rcases drive_rank hp hn (l:=r) (fun a ha=>hl a (by simp [ha])) with h|h
   ·exact Or.inl h
   ·right
    have:rank p (g :: r)=cur p g+total r:=rfl;omega
  ·have hd:(nextOf g p.sense).2=false:=by simpa using hd
   by_cases hm:may (nextOf g p.sense).1 p.sense=true
   ·right
    rw [drive_do (c:=(nextOf g p.sense).1) (by rw [←hd]) hm];show cur (p.step (nextOf g p.sense).1) g+total r+(p.step (nextOf g p.sense).1).stall.toNat<cur p g+total r+p.stall.toNat
    by_cases h0:p.stall=0
    ·have h1:=cur_act hp hn h0 (hl g (by simp)) hd hm
     have h2:(p.step (nextOf g p.sense).1).stall=p.stall:=by rw [step_plain h0];exact act_stall _ _
     rw [h2];omega
    ·have hs:=hp.st1
     have e:p.step (nextOf g p.sense).1={ p with stall:=p.stall - 1 }:=by
      unfold Plant.step;rw [if_pos ⟨by omega,next_rest (c:=(nextOf g p.sense).1) (by rw [←hd])⟩]
     rw [e,cur_stalled];show cur p g+total r+(p.stall - 1).toNat<cur p g+total r+p.stall.toNat;omega
   ·left
    unfold drive;rw [if_neg (by simp [hd]),if_neg hm]
theorem rank_pre {h:House} (hw:h.p.WF):rank (House.pre h).p h.goals=rank h.p h.goals∧(House.pre h).p.stall=h.p.stall:=by
 rw [pre_p hw]
 have e:∀ g,cur (settled h.b h.p) g=cur h.p g:=by
  intro g
  have k:(settled h.b h.p).height=h.p.height∧(settled h.b h.p).ext=h.p.ext∧(settled h.b h.p).door=h.p.door∧(settled h.b h.p).lift=h.p.lift:=by
   unfold settled
   split
   ·exact ⟨rfl,rfl,rfl,rfl⟩
   ·split <;> exact ⟨rfl,rfl,rfl,rfl⟩
  obtain ⟨k1,k2,k3,k4⟩:=k;unfold cur;rw [k1,k2]
  have:(nextOf g (settled h.b h.p).sense).2=(nextOf g h.p.sense).2:=by
   unfold nextOf Plant.sense;dsimp only;rw [k1,k2,k3,k4]
  rw [this]
 constructor
 ·cases hg:h.goals with
  | nil=>rfl
  | cons g r=>
   show cur _ g+total r=cur _ g+total r;rw [e]
 ·unfold settled
  split
  ·rfl
  ·split <;> rfl
theorem settle_first:∀ (m:Nat) (h:House) (i:Nat),House.Inv2 h→h.goals≠[]→rank h.p h.goals+h.p.stall.toNat≤m→∃ (j:Nat) (h':House),j≤m+1∧House.Inv2 h'∧h'.goals=[]∧∀ k,settleN (k+j) i h=settleN k (i+j) h':=by
 intro m
 induction m with
 | zero=>
  intro h i hi hg hm
  have hgo:(House.pre h).tick=(House.pre h).go h.goals:=by
   conv=>lhs;unfold House.tick
   rw [if_neg (show ¬ (House.pre h).goals=[] from hg)];rfl
  have hr:=drive_rank (Inv2.pre hi).inv.core.safe.wf (Inv2.pre hi).inv.core.ln (l:=h.goals) hi.gv;obtain ⟨r1,r2⟩:=rank_pre (h:=h) hi.inv.core.safe.wf;rw [r1,r2] at hr
  rcases hr with hr|hr
  ·refine ⟨1,(House.pre h).tick,by omega,(Inv2.pre hi).tick,by rw [hgo];exact hr,fun k=>?_⟩
   rw [settleN,if_neg (by simp [quits_goals hg])]
  ·omega
 | succ m ih=>
  intro h i hi hg hm
  have hgo:(House.pre h).tick=(House.pre h).go h.goals:=by
   conv=>lhs;unfold House.tick
   rw [if_neg (show ¬ (House.pre h).goals=[] from hg)];rfl
  have hr:=drive_rank (Inv2.pre hi).inv.core.safe.wf (Inv2.pre hi).inv.core.ln (l:=h.goals) hi.gv;obtain ⟨r1,r2⟩:=rank_pre (h:=h) hi.inv.core.safe.wf;rw [r1,r2] at hr
  have hstep:∀ k,settleN (k+1) i h=settleN k (i+1) (House.pre h).tick:=fun k=>by rw [settleN,if_neg (by simp [quits_goals hg])]
  by_cases he:(House.pre h).tick.goals=[]
  ·exact ⟨1,(House.pre h).tick,by omega,(Inv2.pre hi).tick,he,hstep⟩
  ·have he':(drive (House.pre h).p h.goals).2≠[]:=by rw [hgo] at he;exact he
   have hlt:=hr.resolve_left he'
   obtain ⟨j,h',j1,j2,j3,j4⟩:=ih (House.pre h).tick (i+1) (Inv2.pre hi).tick he (by
    rw [hgo]
    show rank (drive (House.pre h).p h.goals).1 (drive (House.pre h).p h.goals).2+(drive (House.pre h).p h.goals).1.stall.toNat≤m
    omega)
   refine ⟨j+1,h',by omega,j2,j3,fun k=>?_⟩;rw [show k+(j+1)=k+j+1 by omega,hstep,j4,show i+1+j=i+(j+1) by omega]
theorem total_le {n : Int} {b:Book} {p:Plant} {l:List Goal} (h:GoalsOK n b p l):total l≤26:=by
  have hs:∀ {a c:List Goal},a <:+ c→total a≤total c:=fun {a c} ⟨t,e⟩=>by
    subst e;unfold total;rw [List.map_append,List.sum_append];omega
  cases h with
  | nil=>decide
  | back=>decide
  | shut=>decide
  | welcome _ h1 _ => have:=hs h1;have e:total Ch.welcome=18:=by decide
                      omega
  | takeIn _ h1 _ => have:=hs h1;have e:total Ch.takeIn=18:=by decide
                     omega
  | giveOut l' _ h1 _=>
    have:=hs h1
    have e:total (ahead 0++[⟨8,0⟩])=18:=by decide
    have e2:total (l'++[⟨6,0⟩])=total l'+1:=by unfold total;rw [List.map_append,List.sum_append];rfl
    omega
  | fetch _ y h1 _ _=>
    have:=hs h1;have e:total (Ch.fetch y)=26:=rfl;omega
  | bring _ y h1 _ _=>
    have:=hs h1;have e:total (Ch.bring y)=26:=rfl;omega
theorem House.Inv2.rests {h:House} (hi:House.Inv2 h):House.Rest (House.settle h):=by
 unfold House.settle
 have fin:∀ (h:House) (i k:Nat),House.Inv2 h→h.goals=[]→i≤40→2400≤k→House.Rest (settleN k i h):=fun h i k hi hg h1 h2=>by
  have hj:=hi.inv.core.book.j8;have hp:=pot_le h.b h.n (settled h.b h.p);have hs1:=hi.inv.core.safe.wf.st1;have hs2:=hi.inv.core.safe.wf.st2;exact settle_go 82 h i k hi hg (by omega) (fun h=>by omega) (by omega)
 by_cases hg:h.goals=[]
 ·exact fin h 0 2500 hi hg (by omega) (by omega)
 ·have h1:=total_le hi.inv.goals
  have h2:=rank_le hi.inv.core.safe.wf hi.inv.core.ln (l:=h.goals) hi.gv;have hs1:=hi.inv.core.safe.wf.st1;have hs2:=hi.inv.core.safe.wf.st2;obtain ⟨j,h',j1,j2,j3,j4⟩:=settle_first 31 h 0 hi hg (by omega);have:=j4 (2500 - j);rw [show 2500 - j+j=2500 by omega,Nat.zero_add] at this;rw [this];exact fin h' j _ j2 j3 (by omega) (by omega)
end Ch.Live
