import Derived.Test.YtplomeacjbkgnadGreatDoorZ52
import Derived.Test.YtplomeacjbkgnadGreatDoorZ49
set_option linter.all false
set_option maxRecDepth 100000
set_option maxHeartbeats 16000000
namespace Go.Proofs.YtplomeacjbkgnadGreatDoor
open Go.RowKit
section
variable {w0:World} {N:Nat→Prop} {pb mb db lb hb:Nat} {y:Ch.Live.HD} {w:World}
theorem sd_did {d':Ch.Disk} {g:FuncId} {args:Array Value} {r:Value} (s:SD w0 N pb mb db lb hb y w) (hc:∀ F,DiskAt w F db 22 y.d→Calls Tryz.prog g args w (DDid F db 22 w d' r)):
  Calls Tryz.prog g args w fun x w'=>x = .returned r∧Kept (Own0 w0 N) w w'∧SD w0 N pb mb db lb hb { y with d:=d' } w':=by
 obtain ⟨Y,la,ln,lc,ga,gn,gc,hs,hz,hy⟩:=s.hn.open_ s.hZ;have hs2:HS (fun k=>Y k∨w.heap.size≤k) (Own0 w0 N) pb mb db lb hb 22 la ln lc ga gn gc y w:=hs.move (fun k hk=>⟨fun h=>h.elim id (fun h=>by omega),Or.inl⟩);refine (ln_did (fun k hk=>Or.inr hk) hs2.led hc).mono ?_;rintro x w' ⟨rfl,hk,hl⟩;have hs3:=hs2.ledger hk hl
 have hz3:∀ k,HB (fun k=>Y k∨w.heap.size≤k) pb mb hb k→Own0 w0 N k:=fun k hk=>by
  rcases hk with (hk|hk)|hk
  ·exact hz k (Or.inl hk)
  ·exact s.hZ k hk
  ·exact hz k (Or.inr hk)
 have hk':Kept (Own0 w0 N) w w':=⟨hk.os,hk.tape,hk.output,hk.size,fun i hi hn=>hk.block i hi (fun h=>hn (hz3 i (Or.inl h)))⟩
 exact ⟨rfl,hk',s.next hk' ⟨_,la,ln,lc,ga,gn,gc,hs3,hz3⟩⟩
theorem sd_arm (s:SD w0 N pb mb db lb hb y w) (k:Int) (hk:k≤9223372036854775807):
  Calls Tryz.prog 21 #[.pointer (some ⟨db,0,none⟩),vi k] w fun x w'=>x = .returned (.tuple #[])∧Kept (Own0 w0 N) w w'∧SD w0 N pb mb db lb hb { y with d:=y.d.arm k } w':=
 sd_did s fun _ ⟨_,_,_,_,_,h⟩=>arm_any h k hk
theorem sd_restart (s:SD w0 N pb mb db lb hb y w) (keep:Nat) (hk:keep<18446744073709551616) (hl:y.d.wait.length≤1000000):
  Calls Tryz.prog 23 #[.pointer (some ⟨db,0,none⟩),.int .u64 (keep:Int)] w fun x w'=>x = .returned (.tuple #[])∧Kept (Own0 w0 N) w w'∧SD w0 N pb mb db lb hb { y with d:=y.d.restart keep } w':=
 sd_did s fun _ h=>restart_any h keep hk hl
theorem sd_down (s:SD w0 N pb mb db lb hb y w) (b:Bool) (hb':y.d.down=b):
  Calls Tryz.prog 22 #[.pointer (some ⟨db,0,none⟩)] w fun e w'=>e = .returned (.bool b)∧Ext w w':=by
 obtain ⟨Y,la,ln,lc,ga,gn,gc,hs,hz⟩:=s.hn;obtain ⟨F,⟨_,_,_,_,_,h⟩,_⟩:=hs.led.dz;rw [←hb'];exact down_any h
theorem sd_new {la:Option Addr} {ln lc e:Nat} {b:Ch.Book} (s:SD w0 N pb mb db lb hb y w) (hlv:Ch.levelsFault y.h.sizes=0) (hc:y.d.Calm 22) (hf:y.d.fuse=-1) (hh:Ch.Holds y.d.now y.h.n e b) (hi:Ch.Live.House.Inv2 { y.h with b:=b,goals:=[] }) (hl:Sl w0 3 sizeCells y.h.sizes la ln lc) (L:Libs w0):
  Calls Tryz.prog 18 #[.slice la ln lc,.pointer (some ⟨pb,0,none⟩),.pointer (some ⟨db,0,none⟩)] w fun r w'=>∃ hb' lb',r = .returned (.tuple #[.pointer (some ⟨hb',0,none⟩),.nilIface])∧Ext w w'∧St w0 N pb mb db lb' hb' { y.h with b:=b,goals:=[] } e w':=by
 obtain ⟨Y,la0,ln0,lc0,ga,gn,gc,hs,hz,hy⟩:=s.hn.open_ s.hZ;have hlen:=hl.len;refine (new_now (Sl.below hl s.ex.below) hlv hs.pl hs.led.dz hy hs.yp hs.ym (by rw [←hlen];exact ⟨hc,hf,hh⟩) (Nat.le_refl _) (L.ext s.ex)).mono ?_;rintro r w' ⟨hb',lb',rfl,hx,Y',a1,a2,a3,b1,b2,b3,hs',hz'⟩;refine ⟨hb',lb',rfl,hx,⟨{ y.h with b:=b,goals:=[] },e,y.d⟩,rfl,⟨hi,hc,hh⟩,hf,Nat.le_refl _,s.ex.trans hx,⟨Y',a1,a2,a3,b1,b2,b3,hs'.zed (fun i _ hi=>s.hZ i hi),fun i hi=>?_⟩,fun i hi=>Nat.lt_of_lt_of_le (s.lt i hi) hx.below.size⟩
 rcases hz' i hi with hi|rfl|rfl|hi
 ·exact hz i (Or.inl hi)
 ·exact hz i (Or.inr (Or.inl rfl))
 ·exact hz i (Or.inr (Or.inr (Or.inl rfl)))
 ·exact s.hZ i hi
end
theorem up_arm {y:Ch.Live.HD} {n:Nat} (hy:y.Up n) (k:Int) (hk:k≤9223372036854775807):Ch.Live.HD.Up { y with d:=y.d.arm k } n:=
 ⟨hy.inv,⟨hy.calm.wf.arm k hk,hy.calm.up,hy.calm.none,hy.calm.all⟩,hy.holds⟩
structure Mid (sizes:List Ch.Size) (m:Nat) (y:Ch.Live.HD):Prop where
 way:y.Up 22∨y.Fell 22
 e:y.e≤m
 wait:y.d.wait.length≤1000
 sizes:y.h.sizes=sizes
theorem Mid.play {sizes:List Ch.Size} {m:Nat} {y:Ch.Live.HD} (h:Mid sizes m y) (hu:y.Up 22) (hm:m+64<4294967296) (a:Ch.Act) (ha:a.kind≠Ch.kOpen):Mid sizes (m+60) (y.play a):=by
 have he:=h.e
 rcases Ch.Live.HD.play_up hu (Nat.le_refl _) (by omega) a ha with ⟨b1,b2,b3,-⟩|⟨b1,b2,-,b4⟩
 ·exact ⟨Or.inl b1,by omega,Ch.Live.HD.play_wait hu (Nat.le_refl _) (by omega) a,by rw [b2,play_sizes];exact h.sizes⟩
 ·exact ⟨Or.inr b1,by omega,Ch.Live.HD.play_wait hu (Nat.le_refl _) (by omega) a,by rw [b4];exact h.sizes⟩
end Go.Proofs.YtplomeacjbkgnadGreatDoor
