import Derived.Test.YtplomeacjbkgnaaZ13
set_option linter.all false
set_option maxRecDepth 100000
set_option maxHeartbeats 16000000
namespace Go.Proofs.Ytplomeacjbkgnaa
open Go.RowKit
theorem same_yes (n:Int) (w:World) (h:0≤n):Calls Try.prog 30 #[errV n,vi n] w fun e w'=>e = .returned (.bool true)∧Ext w w':=by
 by_cases h0:n=0
 ·subst h0
  show Calls _ _ #[.nilIface,vi 0] _ _;go_enter Try.func30,Try.ntmps30;go_wp2;go_ret;exact ⟨by simp,(by simp (maxDischargeDepth:=60))⟩
 ·rw [errV_pos h0]
  have h1:0<n:=by omega
  have ht:∀ w,(Instr.typeAssert (.iface 133 (vi n)) 47 133 true).run Try.prog w = .ok (.tuple #[vi n,.bool true]) w:=fun w=>by kernel_rfl
  clear h h0;go_enter Try.func30,Try.ntmps30;go_wp2;go_ret;exact ⟨by simp,(by simp (maxDischargeDepth:=60))⟩
theorem sizeFault_nn (s:Ch.Size):0≤Ch.sizeFault s:=by unfold Ch.sizeFault;split <;> omega
theorem carFault_nn (c:Ch.Car):0≤Ch.carFault c:=by unfold Ch.carFault;split;omega;exact sizeFault_nn _
theorem placeFault_nn (p:Ch.Place) (n:Int):0≤Ch.placeFault p n:=by unfold Ch.placeFault;split <;> omega
/-! ### answers, an error's or not, in one form -/
def Back (A:Option Addr) (w:World) (x:Ch.Book) (r:Value→Value) (e:Ending) (w':World):Prop:=
 ∃ y1 d1 y2 d2,e = .returned (r (bookA x.last y1 x.stays.length d1 y2 x.jobs.length d2))∧Sl w' 8 stayCells x.stays y1 x.stays.length d1∧Sl w' 2 jobCells x.jobs y2 x.jobs.length d2∧Ext w w' ∧
  (∀ b o,y1=some ⟨b,o,none⟩→w.heap.size≤b∨y1=A)∧(∀ b o,y2=some ⟨b,o,none⟩→w.heap.size≤b)
theorem own_new {w:World} {base e size cap n m:Nat} {y:Option Addr} {xs:List Value} (h:w.ownsRow base e size (.slice y n cap) m xs):∀ b o,y=some ⟨b,o,none⟩→base≤b:=by
 intro b o e;subst e
 rcases h.2 with ⟨h2,_⟩|⟨g,cap',cur,h2,hb,_⟩
 ·cases h2
 ·cases h2;exact hb
theorem Sl.kept {α:Type} {w w':World} {c:Nat} {enc:α→List Value} {l:List α} {a:Option Addr} {n cap T:Nat} (h:Sl w c enc l a n cap) (k:Kept (Is T) w w') (hn:0<n→∀ b o,a=some ⟨b,o,none⟩→b≠T):Sl w' c enc l a n cap:=
 ⟨h.1,h.2.1,h.2.2.1,fun hp=>let ⟨b,o,e,f⟩:=h.2.2.2 hp;⟨b,o,e,fun i x hx j y hy=>k.cell (f i x hx j y hy) (hn hp b o e)⟩⟩
theorem NewBook.back {A:Option Addr} {w:World} {x:Ch.Book} {r:Value→Value} {e:Ending} {w':World} (h:NewBook w x r e w'):Back A w x r e w':=by
 obtain ⟨v1,v2,rfl,hob,hx⟩:=h;obtain ⟨y1,d1,rfl,s1⟩:=Sl.of_owns (c:=8) (enc:=stayCells) hob.stays (by decide) (fun _=>rfl);obtain ⟨y2,d2,rfl,s2⟩:=Sl.of_owns (c:=2) (enc:=jobCells) hob.jobs (by decide) (fun _=>rfl);exact ⟨y1,d1,y2,d2,rfl,s1,s2,hx,fun b o e=>Or.inl (own_new hob.stays b o e),own_new hob.jobs⟩
theorem stayFault_nn (L last:Int) (b:List Ch.Stay) (s:Ch.Stay):0≤Ch.stayFault L last b s:=by
 unfold Ch.stayFault;have:=carFault_nn s.car;have:=placeFault_nn s.home L
 repeat' split
 all_goals omega
theorem staysFault_nn (L last:Int):∀ (l b:List Ch.Stay),0≤Ch.staysFault L last b l
 | [],_=>by simp [Ch.staysFault]
 | s :: l,b=>by
  unfold Ch.staysFault;have:=stayFault_nn L last b s;have:=staysFault_nn L last l (b++[s])
  split <;> omega
theorem jobsFault_nn (st:List Ch.Stay):∀ (l b:List Ch.Job),0≤Ch.jobsFault st b l
 | [],_=>by simp [Ch.jobsFault]
 | j :: l,b=>by
  unfold Ch.jobsFault;have:=jobsFault_nn st l (b++[j])
  split <;> omega
theorem bookFault_nn (b:Ch.Book) (L:Int):0≤Ch.bookFault b L:=by
 unfold Ch.bookFault;have:=staysFault_nn L b.last b.stays [];have:=jobsFault_nn b.stays b.jobs []
 repeat' split
 all_goals omega
end Go.Proofs.Ytplomeacjbkgnaa
