import Derived.Test.YtplomeacjbkgnaaZ07
set_option linter.all false
set_option maxRecDepth 100000
set_option maxHeartbeats 16000000
namespace Go.Proofs.Ytplomeacjbkgnaa
open Go.RowKit
def stayClash (s x:Ch.Stay):Bool:=decide (x.home=s.home) || x.car.id==s.car.id
theorem stays_at (L last:Int) {l:List Ch.Stay} {k:Nat} {s:Ch.Stay} (hs:l[k]? = some s):
  Ch.staysFault L last (l.take k) (l.drop k)=if Ch.stayFault L last (l.take k) s≠0 then Ch.stayFault L last (l.take k) s else Ch.staysFault L last (l.take (k+1)) (l.drop (k+1)):=by
 have hk:k<l.length:=by
  by_cases h:k<l.length
  ·exact h
  ·rw [List.getElem?_eq_none (by omega)] at hs;cases hs
 rw [List.drop_eq_getElem_cons hk,List.take_add_one,hs];rw [List.getElem?_eq_getElem hk] at hs;cases hs;rfl
theorem stays_bad (L last f:Int) {l:List Ch.Stay} {k:Nat} {s:Ch.Stay} (hs:l[k]? = some s) (h:Ch.stayFault L last (l.take k) s=f) (hf:f≠0):Ch.staysFault L last (l.take k) (l.drop k)=f:=by
 rw [stays_at L last hs,h,if_pos hf]
theorem stays_go (L last:Int) {l:List Ch.Stay} {k:Nat} {s:Ch.Stay} (hs:l[k]? = some s) (h:Ch.stayFault L last (l.take k) s=0):Ch.staysFault L last (l.take k) (l.drop k)=Ch.staysFault L last (l.take (k+1)) (l.drop (k+1)):=by
 rw [stays_at L last hs,h];simp
theorem last_take {l:List Ch.Stay} {k:Nat} {q:Ch.Stay} (hq:l[k]? = some q):(l.take (k+1)).getLast? = some q:=by
 rw [List.take_add_one,hq];simp
theorem stayClash_any (before:List Ch.Stay) (s:Ch.Stay):before.any (fun x=>x.home==s.home || x.car.id==s.car.id)=before.any (stayClash s):=by
 congr 1
theorem car_bad {c:Ch.Car} (h:¬ Ch.carFault c=0):Ch.carFault c=1:=by
 unfold Ch.carFault Ch.sizeFault at *
 split <;> simp_all
end Go.Proofs.Ytplomeacjbkgnaa
