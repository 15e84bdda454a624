import Derived.Test.YtplomeacjbkgnadGreatDoorZ01
import Derived.Deep.Light
set_option linter.all false
set_option maxRecDepth 100000
set_option maxHeartbeats 16000000
namespace Go.Proofs.YtplomeacjbkgnadGreatDoor
open Go.RowKit
abbrev sensedA (s:Ch.Sensed):Value:=.agg #[vi s.height,vi s.ext,.bool s.door,vi s.people,vi s.lift,vi s.bay,.bool s.here,.bool s.toLeft,.bool s.toRight]
theorem w64_wrap (n:Int):Ch.w64 n=wrap64 n:=by
 unfold Ch.w64 wrap64;simp
theorem may_any (c:Int) (s:Ch.Sensed) (w:World):
  Calls Tryz.prog 41 #[.int .u8 c,sensedA s] w fun e w'=>e = .returned (.bool (Ch.may c s))∧Ext w w':=by
 obtain ⟨height,ext,door,people,lift,bay,here,tl,tr⟩:=s;go_enter Tryz.func41,Tryz.ntmps41;go_wp2
 all_goals
  go_ret;go_light;refine ⟨?_,(by simp (maxDischargeDepth:=60))⟩
  first|(simp_all [Ch.may,Ch.mayStretch,Ch.level,Ch.shut,w64_wrap];done)|(refine congrArg (fun b=>Ending.returned (.bool b)) ?_;simp only [beq_iff_eq] at *;subst_vars;simp [Ch.may,Ch.mayStretch,Ch.level,w64_wrap];grind)
theorem may_f (c h x p l b:Int) (d e f g:Bool) (w:World):
  Calls Tryz.prog 41 #[.int .u8 c,.agg #[vi h,vi x,.bool d,vi p,vi l,vi b,.bool e,.bool f,.bool g]] w fun e' w'=>e' = .returned (.bool (Ch.may c ⟨h,x,d,p,l,b,e,f,g⟩))∧Ext w w':=may_any c ⟨h,x,d,p,l,b,e,f,g⟩ w
abbrev nextV (x:Int×Bool):Value:=.tuple #[.int .u8 x.1,.bool x.2]
theorem next_any (g:Ch.Goal) (s:Ch.Sensed) (w:World):
  Calls Tryz.prog 40 #[goalA g,sensedA s] w fun e w'=>e = .returned (nextV (Ch.nextOf g s))∧Ext w w':=by
 obtain ⟨height,ext,door,people,lift,bay,here,tl,tr⟩:=s;obtain ⟨kind,n⟩:=g;go_enter Tryz.func40,Tryz.ntmps40;go_wp2
 all_goals
  go_ret2
  refine ⟨?_,(by simp (maxDischargeDepth:=60))⟩
  first|(simp_all [Ch.nextOf,Ch.toward,Ch.once];done)|(simp_all [Ch.nextOf,Ch.toward,Ch.once];omega)|(simp only [beq_iff_eq] at *;subst_vars;simp [Ch.nextOf,Ch.toward,Ch.once];grind)
theorem next_f (k n h x p l b:Int) (d e f g:Bool) (w:World):
  Calls Tryz.prog 40 #[.agg #[vi k,vi n],.agg #[vi h,vi x,.bool d,vi p,vi l,vi b,.bool e,.bool f,.bool g]] w fun e' w'=>e' = .returned (nextV (Ch.nextOf ⟨k,n⟩ ⟨h,x,d,p,l,b,e,f,g⟩))∧Ext w w':=next_any ⟨k,n⟩ ⟨h,x,d,p,l,b,e,f,g⟩ w
end Go.Proofs.YtplomeacjbkgnadGreatDoor
