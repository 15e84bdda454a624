import Derived.Test.YtplomeacjbkgnaaZ01
import Derived.Deep.Light
set_option linter.all false
set_option maxRecDepth 100000
set_option maxHeartbeats 16000000
namespace Go.Proofs.Ytplomeacjbkgnaa
open Go.RowKit
def errV (n:Int):Value:=if n=0 then .nilIface else .iface 133 (vi n)
@[simp] theorem errV_0:errV 0 = .nilIface:=rfl
theorem errV_pos {n:Int} (h:n≠0):errV n = .iface 133 (vi n):=by simp [errV,h]
theorem place_ok {p:Ch.Place} {n:Int}:Ch.placeFault p n=0↔(1≤p.level∧p.level≤n∧0≤p.side∧p.side≤1∧0≤p.depth∧p.depth≤1):=by
 unfold Ch.placeFault
 split <;> simp <;> omega
theorem place_bad {p:Ch.Place} {n:Int} (h:¬ Ch.placeFault p n=0):Ch.placeFault p n=1:=by
 unfold Ch.placeFault at *
 split <;> simp_all
theorem rsizeFault_any (s:Ch.Size) (w:World):Calls Try.prog 32 #[sizeA s] w fun e w'=>e = .returned (vi (Ch.sizeFault s))∧Ext w w':=by
 obtain ⟨a,b,c⟩:=s;go_enter Try.func32,Try.ntmps32;go_wp2
 all_goals
  go_ret;go_light;refine ⟨?_,(by simp (maxDischargeDepth:=60))⟩;simp only [Ch.sizeFault]
  first|(rw [if_pos (by omega)];rfl)|(rw [if_neg (by omega)];rfl)
theorem checkPlace_any (p:Ch.Place) (n:Int) (w:World):Calls Try.prog 37 #[placeA p,vi n] w fun e w'=>e = .returned (errV (Ch.placeFault p n))∧Ext w w':=by
 obtain ⟨a,b,c⟩:=p;go_enter Try.func37,Try.ntmps37;go_wp2
 all_goals
  go_ret;go_light;refine ⟨?_,(by simp (maxDischargeDepth:=60))⟩;simp only [Ch.placeFault]
  first|(rw [if_pos (by omega)];rfl)|(rw [if_neg (by omega)];rfl)
theorem rplaceFault_any (p:Ch.Place) (n:Int) (w:World):Calls Try.prog 20 #[placeA p,vi n] w fun e w'=>e = .returned (vi (Ch.placeFault p n))∧Ext w w':=by
 obtain ⟨a,b,c⟩:=p;go_enter Try.func20,Try.ntmps20;go_wp2
 all_goals
  go_ret;go_light;refine ⟨?_,(by simp (maxDischargeDepth:=60))⟩;simp only [Ch.placeFault]
  first|(rw [if_pos (by omega)];rfl)|(rw [if_neg (by omega)];rfl)
theorem ext_any (p:Ch.Place) (w:World) (h0:0≤p.depth) (h1:p.depth≤1):Calls Try.prog 46 #[placeA p] w fun e w'=>e = .returned (vi (Ch.extOf p))∧Ext w w':=by
 go_enter Try.func46,Try.ntmps46;go_wp2
 all_goals
  go_ret;go_light;rename_i hx;refine ⟨?_,(by simp (maxDischargeDepth:=60))⟩;simp at hx;simp [Ch.extOf,hx]
theorem rext_any (p:Ch.Place) (w:World) (h0:0≤p.depth) (h1:p.depth≤1):Calls Try.prog 47 #[placeA p] w fun e w'=>e = .returned (vi (Ch.extOf p))∧Ext w w':=by
 go_enter Try.func47,Try.ntmps47;go_wp2
 all_goals
  go_ret;go_light;rename_i hx;refine ⟨?_,(by simp (maxDischargeDepth:=60))⟩;simp at hx;simp [Ch.extOf,hx]
  try omega
theorem front_any (p:Ch.Place) (w:World):Calls Try.prog 40 #[placeA p] w fun e w'=>e = .returned (placeA (Ch.front p))∧Ext w w':=by
 go_enter Try.func40,Try.ntmps40;go_wp2;refine bodyPost_ret (v:=placeA (Ch.front p)) (by simp [results,Try.results40,go_sem,Ch.front]) rfl ⟨rfl,(by simp (maxDischargeDepth:=60))⟩
theorem spare_any (n:Int) (w:World):Calls Try.prog 41 #[vi n] w fun e w'=>e = .returned (placeA (Ch.spare n))∧Ext w w':=by
 go_enter Try.func41,Try.ntmps41;go_wp2;refine bodyPost_ret (v:=placeA (Ch.spare n)) (by simp [results,Try.results41,go_sem,Ch.spare]) rfl ⟨rfl,(by simp (maxDischargeDepth:=60))⟩
theorem rspare_any (n:Int) (w:World):Calls Try.prog 42 #[vi n] w fun e w'=>e = .returned (placeA (Ch.spare n))∧Ext w w':=by
 go_enter Try.func42,Try.ntmps42;go_wp2;refine bodyPost_ret (v:=placeA (Ch.spare n)) (by simp [results,Try.results42,go_sem,Ch.spare]) rfl ⟨rfl,(by simp (maxDischargeDepth:=60))⟩
/-! ### the same, at structs written out -/
theorem rsizeFault_f (a b c:Int) (w:World):Calls Try.prog 32 #[.agg #[vi a,vi b,vi c]] w fun e w'=>e = .returned (vi (Ch.sizeFault ⟨a,b,c⟩))∧Ext w w':=rsizeFault_any ⟨a,b,c⟩ w
theorem checkPlace_f (a b c n:Int) (w:World):Calls Try.prog 37 #[.agg #[vi a,vi b,vi c],vi n] w fun e w'=>e = .returned (errV (Ch.placeFault ⟨a,b,c⟩ n))∧Ext w w':=checkPlace_any ⟨a,b,c⟩ n w
theorem rplaceFault_f (a b c n:Int) (w:World):Calls Try.prog 20 #[.agg #[vi a,vi b,vi c],vi n] w fun e w'=>e = .returned (vi (Ch.placeFault ⟨a,b,c⟩ n))∧Ext w w':=rplaceFault_any ⟨a,b,c⟩ n w
theorem rspare_f (n:Int) (w:World):Calls Try.prog 42 #[vi n] w fun e w'=>e = .returned (.agg #[vi n,vi 1,vi 0])∧Ext w w':=rspare_any n w
theorem toList_loop (s:ByteArray):∀ (n i:Nat) (r:List UInt8),s.size - i=n→ByteArray.toList.loop s i r=r.reverse++s.data.toList.drop i:=by
 intro n
 induction n with
 | zero=>
  intro i r h;unfold ByteArray.toList.loop;rw [if_neg (by omega),List.drop_of_length_le (by simp only [Array.length_toList];show s.size≤i;omega),List.append_nil]
 | succ n ih=>
  intro i r h;unfold ByteArray.toList.loop;rw [if_pos (by omega),ih (i+1) _ (by omega)]
  have hi:i<s.data.toList.length:=by simp only [Array.length_toList];show i<s.size;omega
  rw [List.drop_eq_getElem_cons hi]
  have:s.get! i=s.data.toList[i]:=by
   unfold ByteArray.get!;rw [Array.getElem_toList];exact getElem!_pos s.data i (by show i<s.size;omega)
  rw [this];simp
theorem toList_data (s:ByteArray):s.toList=s.data.toList:=by
 unfold ByteArray.toList;rw [toList_loop s _ 0 [] rfl];rfl
theorem str_ne {s t:ByteArray} (h:s≠t):(s.toList==t.data.toList)=false:=by
 rw [toList_data];apply Classical.byContradiction;intro hc
 have hc:s.data.toList=t.data.toList:=by simpa using hc
 apply h;cases s;cases t;simp only at hc
 congr 1
 exact Array.toList_inj.1 hc
end Go.Proofs.Ytplomeacjbkgnaa
