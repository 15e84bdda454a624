import Derived.Test.YtplomeacjbkgnaaZ08
import Derived.Test.YtplomeacjbkgnaaZ03
set_option linter.all false
set_option maxRecDepth 100000
set_option maxHeartbeats 16000000
namespace Go.Proofs.Ytplomeacjbkgnaa
open Go.RowKit
theorem index_some {l:List Ch.Stay} {p:Ch.Stay→Bool} (h:l.any p=true):∃ i:Nat,Ch.indexOf p l=i:=by
 unfold Ch.indexOf
 cases h2:l.findIdx? p with
 | none=>
  rw [List.findIdx?_eq_none_iff] at h2;obtain ⟨x,hx,hp⟩:=List.any_eq_true.1 h;have:=h2 x hx;rw [hp] at this;cases this
 | some i=>exact ⟨i,rfl⟩
end Go.Proofs.Ytplomeacjbkgnaa
