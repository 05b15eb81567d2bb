/- Kit -/
import Derived.Test.YthhijgcfbjcgiaaGreatDoorS01
import Derived.Test.YthhijgcfbjcgiaaGreatDoorS09
import Derived.Test.YthhijgcfbjcgiaaGreatDoorS05
import Derived.Deep.LoopGhost
namespace Go.Proofs.YthhijgcfbjcgiaaGreatDoor
open Go Go.RowKit
theorem FS (x n:Int) (hn:0<n):x % n=if x.tmod n<0 then x.tmod n+n else x.tmod n:=by
 have h1:=Int.emod_nonneg x (by omega:n≠0)
 have h2:=Int.emod_lt_of_pos x hn
 rcases Int.lt_or_le x 0 with hx|hx
 ·rw [Int.tmod_eq_emod]
  by_cases hd:n ∣ x
  ·have:x % n=0:=Int.emod_eq_zero_of_dvd hd
   simp [hd,this]
  ·have hpos:x % n≠0:=fun h=>hd (Int.dvd_of_emod_eq_zero h)
   have:¬(0≤x∨n ∣ x):=by omega
   rw [if_neg this]
   have hna:(n.natAbs:Int)=n:=by omega
   rw [hna,if_pos (by omega)]
   omega
 ·rw [Int.tmod_eq_emod_of_nonneg hx,if_neg (by omega)]
set_option maxHeartbeats 400000 in
theorem xk (x n:Int) (w:World) (hn0:0<n) (hn:n≤4611686018427387904):
  Calls Tryz.prog 26 #[.int .i64 x,.int .i64 n] w fun e w'=>e= .returned (.int .i64 (x % n))∧w=w':=by
 have h:¬n≤0:=by omega
 have h2: -n<x.tmod n∧x.tmod n<n:=by
  have:=Int.tmod_lt_of_pos x hn0
  have:=Int.lt_tmod_of_pos x hn0
  omega
 have Hp:=Lib.hid (FS x n hn0)
 by_cases hq:x.tmod n<0
 ·go_enter Tryz.func26,Tryz.ntmps26
  go_wp2
  go_ret
  exact ⟨AW (by rw [Hp.out,if_pos hq]),rfl⟩
 ·go_enter Tryz.func26,Tryz.ntmps26
  go_wp2
  go_ret
  exact ⟨AW (by rw [Hp.out,if_neg (by omega)]),rfl⟩
end Go.Proofs.YthhijgcfbjcgiaaGreatDoor
