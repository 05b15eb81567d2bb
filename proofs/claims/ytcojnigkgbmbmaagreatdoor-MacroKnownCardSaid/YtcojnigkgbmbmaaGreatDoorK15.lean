/- Vec -/
import Derived.Test.YtcojnigkgbmbmaaGreatDoorK12
import Derived.Test.YtcojnigkgbmbmaaGreatDoorK13
import Derived.Test.YtcojnigkgbmbmaaGreatDoorK11
namespace Go.Proofs.YtcojnigkgbmbmaaGreatDoor
open Go Go.RowKit
set_option maxRecDepth 100000 in
theorem vec_base1 (w : World) : Calls Tryz.prog 153 #[.int .i64 1] w fun e w' => e = .returned (.string (bs [48, 49])) ∧ w = w' := by
  go_enter Tryz.func153, Tryz.ntmps153
  go_wp2
  go_ret
  exact ⟨ret_strk (by kernel_rfl), rfl⟩
set_option maxRecDepth 100000 in
theorem vec_base2 (w : World) : Calls Tryz.prog 153 #[.int .i64 2] w fun e w' => e = .returned (.string (bs [48, 48, 49])) ∧ w = w' := by
  go_enter Tryz.func153, Tryz.ntmps153
  go_wp2
  go_ret
  exact ⟨ret_strk (by kernel_rfl), rfl⟩
set_option maxRecDepth 100000 in
theorem vec_base3 (w : World) : Calls Tryz.prog 153 #[.int .i64 3] w fun e w' => e = .returned (.string (bs [48, 48, 48, 49])) ∧ w = w' := by
  go_enter Tryz.func153, Tryz.ntmps153
  go_wp2
  go_ret
  exact ⟨ret_strk (by kernel_rfl), rfl⟩
set_option maxRecDepth 100000 in
theorem vec_base4 (w : World) : Calls Tryz.prog 153 #[.int .i64 4] w fun e w' => e = .returned (.string (bs [48, 48, 48, 48, 49, 49])) ∧ w = w' := by
  go_enter Tryz.func153, Tryz.ntmps153
  go_wp2
  go_ret
  exact ⟨ret_strk (by kernel_rfl), rfl⟩
set_option maxRecDepth 100000 in
theorem vec_base5 (w : World) : Calls Tryz.prog 153 #[.int .i64 5] w fun e w' => e = .returned (.string (bs [48, 48, 48, 48, 49, 48, 49])) ∧ w = w' := by
  have ix : ∀ W : World, (Instr.index 203 (.agg #[.string ⟨#[49, 48, 49]⟩, .string ⟨#[49, 48, 48]⟩, .string ⟨#[48, 49, 49]⟩]) (.int .i64 0)).run Tryz.prog W = .ok (.string ⟨#[49, 48, 49]⟩) W := fun _ => by kernel_rfl
  go_enter Tryz.func153, Tryz.ntmps153
  go_wp2
  go_ret
  exact ⟨ret_strk (by kernel_rfl), rfl⟩
set_option maxRecDepth 100000 in
theorem vec_base6 (w : World) : Calls Tryz.prog 153 #[.int .i64 6] w fun e w' => e = .returned (.string (bs [48, 48, 48, 48, 49, 48, 48])) ∧ w = w' := by
  have ix : ∀ W : World, (Instr.index 203 (.agg #[.string ⟨#[49, 48, 49]⟩, .string ⟨#[49, 48, 48]⟩, .string ⟨#[48, 49, 49]⟩]) (.int .i64 1)).run Tryz.prog W = .ok (.string ⟨#[49, 48, 48]⟩) W := fun _ => by kernel_rfl
  go_enter Tryz.func153, Tryz.ntmps153
  go_wp2
  go_ret
  exact ⟨ret_strk (by kernel_rfl), rfl⟩
set_option maxRecDepth 100000 in
theorem vec_base7 (w : World) : Calls Tryz.prog 153 #[.int .i64 7] w fun e w' => e = .returned (.string (bs [48, 48, 48, 48, 48, 49, 49])) ∧ w = w' := by
  have ix : ∀ W : World, (Instr.index 203 (.agg #[.string ⟨#[49, 48, 49]⟩, .string ⟨#[49, 48, 48]⟩, .string ⟨#[48, 49, 49]⟩]) (.int .i64 2)).run Tryz.prog W = .ok (.string ⟨#[48, 49, 49]⟩) W := fun _ => by kernel_rfl
  go_enter Tryz.func153, Tryz.ntmps153
  go_wp2
  go_ret
  exact ⟨ret_strk (by kernel_rfl), rfl⟩
set_option maxRecDepth 100000 in
theorem vec_base8 (w : World) : Calls Tryz.prog 153 #[.int .i64 8] w fun e w' => e = .returned (.string (bs [48, 48, 48, 48, 48, 49, 48, 49, 49])) ∧ w = w' := by
  have ix : ∀ W : World, (Instr.index 203 (.agg #[.string ⟨#[49, 48, 49, 49]⟩, .string ⟨#[49, 48, 49, 48]⟩, .string ⟨#[49, 48, 48, 49]⟩]) (.int .i64 0)).run Tryz.prog W = .ok (.string ⟨#[49, 48, 49, 49]⟩) W := fun _ => by kernel_rfl
  go_enter Tryz.func153, Tryz.ntmps153
  go_wp2
  go_ret
  exact ⟨ret_strk (by kernel_rfl), rfl⟩
set_option maxRecDepth 100000 in
theorem vec_base9 (w : World) : Calls Tryz.prog 153 #[.int .i64 9] w fun e w' => e = .returned (.string (bs [48, 48, 48, 48, 48, 49, 48, 49, 48])) ∧ w = w' := by
  have ix : ∀ W : World, (Instr.index 203 (.agg #[.string ⟨#[49, 48, 49, 49]⟩, .string ⟨#[49, 48, 49, 48]⟩, .string ⟨#[49, 48, 48, 49]⟩]) (.int .i64 1)).run Tryz.prog W = .ok (.string ⟨#[49, 48, 49, 48]⟩) W := fun _ => by kernel_rfl
  go_enter Tryz.func153, Tryz.ntmps153
  go_wp2
  go_ret
  exact ⟨ret_strk (by kernel_rfl), rfl⟩
set_option maxRecDepth 100000 in
theorem vec_base10 (w : World) : Calls Tryz.prog 153 #[.int .i64 10] w fun e w' => e = .returned (.string (bs [48, 48, 48, 48, 48, 49, 48, 48, 49])) ∧ w = w' := by
  have ix : ∀ W : World, (Instr.index 203 (.agg #[.string ⟨#[49, 48, 49, 49]⟩, .string ⟨#[49, 48, 49, 48]⟩, .string ⟨#[49, 48, 48, 49]⟩]) (.int .i64 2)).run Tryz.prog W = .ok (.string ⟨#[49, 48, 48, 49]⟩) W := fun _ => by kernel_rfl
  go_enter Tryz.func153, Tryz.ntmps153
  go_wp2
  go_ret
  exact ⟨ret_strk (by kernel_rfl), rfl⟩
set_option maxRecDepth 100000 in
theorem vec_base11 (w : World) : Calls Tryz.prog 153 #[.int .i64 11] w fun e w' => e = .returned (.string (bs [48, 48, 48, 48, 48, 49, 48, 48, 48, 49])) ∧ w = w' := by
  have ix : ∀ W : World, (Instr.index 205 (.agg #[.string ⟨#[48, 49]⟩, .string ⟨#[48, 48]⟩]) (.int .i64 0)).run Tryz.prog W = .ok (.string ⟨#[48, 49]⟩) W := fun _ => by kernel_rfl
  go_enter Tryz.func153, Tryz.ntmps153
  go_wp2
  go_ret
  exact ⟨ret_strk (by kernel_rfl), rfl⟩
set_option maxRecDepth 100000 in
theorem vec_base12 (w : World) : Calls Tryz.prog 153 #[.int .i64 12] w fun e w' => e = .returned (.string (bs [48, 48, 48, 48, 48, 49, 48, 48, 48, 48])) ∧ w = w' := by
  have ix : ∀ W : World, (Instr.index 205 (.agg #[.string ⟨#[48, 49]⟩, .string ⟨#[48, 48]⟩]) (.int .i64 1)).run Tryz.prog W = .ok (.string ⟨#[48, 48]⟩) W := fun _ => by kernel_rfl
  go_enter Tryz.func153, Tryz.ntmps153
  go_wp2
  go_ret
  exact ⟨ret_strk (by kernel_rfl), rfl⟩
set_option maxRecDepth 100000 in
theorem vec_base13 (w : World) : Calls Tryz.prog 153 #[.int .i64 13] w fun e w' => e = .returned (.string (bs [48, 48, 48, 48, 48, 48, 49, 49, 49, 49])) ∧ w = w' := by
  have ix : ∀ W : World, (Instr.index 204 (.agg #[.string ⟨#[49, 49, 49]⟩, .string ⟨#[49, 49, 48]⟩, .string ⟨#[49, 48, 49]⟩, .string ⟨#[49, 48, 48]⟩]) (.int .i64 0)).run Tryz.prog W = .ok (.string ⟨#[49, 49, 49]⟩) W := fun _ => by kernel_rfl
  go_enter Tryz.func153, Tryz.ntmps153
  go_wp2
  go_ret
  exact ⟨ret_strk (by kernel_rfl), rfl⟩
set_option maxRecDepth 100000 in
theorem vec_base14 (w : World) : Calls Tryz.prog 153 #[.int .i64 14] w fun e w' => e = .returned (.string (bs [48, 48, 48, 48, 48, 48, 49, 49, 49, 48])) ∧ w = w' := by
  have ix : ∀ W : World, (Instr.index 204 (.agg #[.string ⟨#[49, 49, 49]⟩, .string ⟨#[49, 49, 48]⟩, .string ⟨#[49, 48, 49]⟩, .string ⟨#[49, 48, 48]⟩]) (.int .i64 1)).run Tryz.prog W = .ok (.string ⟨#[49, 49, 48]⟩) W := fun _ => by kernel_rfl
  go_enter Tryz.func153, Tryz.ntmps153
  go_wp2
  go_ret
  exact ⟨ret_strk (by kernel_rfl), rfl⟩
set_option maxRecDepth 100000 in
theorem vec_base15 (w : World) : Calls Tryz.prog 153 #[.int .i64 15] w fun e w' => e = .returned (.string (bs [48, 48, 48, 48, 48, 48, 49, 49, 48, 49])) ∧ w = w' := by
  have ix : ∀ W : World, (Instr.index 204 (.agg #[.string ⟨#[49, 49, 49]⟩, .string ⟨#[49, 49, 48]⟩, .string ⟨#[49, 48, 49]⟩, .string ⟨#[49, 48, 48]⟩]) (.int .i64 2)).run Tryz.prog W = .ok (.string ⟨#[49, 48, 49]⟩) W := fun _ => by kernel_rfl
  go_enter Tryz.func153, Tryz.ntmps153
  go_wp2
  go_ret
  exact ⟨ret_strk (by kernel_rfl), rfl⟩
set_option maxRecDepth 100000 in
theorem vec_base16 (w : World) : Calls Tryz.prog 153 #[.int .i64 16] w fun e w' => e = .returned (.string (bs [48, 48, 48, 48, 48, 48, 49, 49, 48, 48])) ∧ w = w' := by
  have ix : ∀ W : World, (Instr.index 204 (.agg #[.string ⟨#[49, 49, 49]⟩, .string ⟨#[49, 49, 48]⟩, .string ⟨#[49, 48, 49]⟩, .string ⟨#[49, 48, 48]⟩]) (.int .i64 3)).run Tryz.prog W = .ok (.string ⟨#[49, 48, 48]⟩) W := fun _ => by kernel_rfl
  go_enter Tryz.func153, Tryz.ntmps153
  go_wp2
  go_ret
  exact ⟨ret_strk (by kernel_rfl), rfl⟩
theorem vec_code_m16 (w : World) : Calls Tryz.prog 129 #[.int .i64 (-16)] w fun e w' => e = .returned (.string (bs [48, 48, 48, 48, 48, 48, 49, 49, 48, 48, 49])) ∧ w = w' := by
  go_enter Tryz.func129, Tryz.ntmps129
  go_wp2_with (go_at_call 153; refine (vec_base16 _).mono ?_; rintro e w' ⟨rfl, rfl⟩)
  go_ret
  exact ⟨ret_strk (by kernel_rfl), rfl⟩
theorem vec_code_m15 (w : World) : Calls Tryz.prog 129 #[.int .i64 (-15)] w fun e w' => e = .returned (.string (bs [48, 48, 48, 48, 48, 48, 49, 49, 48, 49, 49])) ∧ w = w' := by
  go_enter Tryz.func129, Tryz.ntmps129
  go_wp2_with (go_at_call 153; refine (vec_base15 _).mono ?_; rintro e w' ⟨rfl, rfl⟩)
  go_ret
  exact ⟨ret_strk (by kernel_rfl), rfl⟩
theorem vec_code_m14 (w : World) : Calls Tryz.prog 129 #[.int .i64 (-14)] w fun e w' => e = .returned (.string (bs [48, 48, 48, 48, 48, 48, 49, 49, 49, 48, 49])) ∧ w = w' := by
  go_enter Tryz.func129, Tryz.ntmps129
  go_wp2_with (go_at_call 153; refine (vec_base14 _).mono ?_; rintro e w' ⟨rfl, rfl⟩)
  go_ret
  exact ⟨ret_strk (by kernel_rfl), rfl⟩
theorem vec_code_m13 (w : World) : Calls Tryz.prog 129 #[.int .i64 (-13)] w fun e w' => e = .returned (.string (bs [48, 48, 48, 48, 48, 48, 49, 49, 49, 49, 49])) ∧ w = w' := by
  go_enter Tryz.func129, Tryz.ntmps129
  go_wp2_with (go_at_call 153; refine (vec_base13 _).mono ?_; rintro e w' ⟨rfl, rfl⟩)
  go_ret
  exact ⟨ret_strk (by kernel_rfl), rfl⟩
theorem vec_code_m12 (w : World) : Calls Tryz.prog 129 #[.int .i64 (-12)] w fun e w' => e = .returned (.string (bs [48, 48, 48, 48, 48, 49, 48, 48, 48, 48, 49])) ∧ w = w' := by
  go_enter Tryz.func129, Tryz.ntmps129
  go_wp2_with (go_at_call 153; refine (vec_base12 _).mono ?_; rintro e w' ⟨rfl, rfl⟩)
  go_ret
  exact ⟨ret_strk (by kernel_rfl), rfl⟩
theorem vec_code_m11 (w : World) : Calls Tryz.prog 129 #[.int .i64 (-11)] w fun e w' => e = .returned (.string (bs [48, 48, 48, 48, 48, 49, 48, 48, 48, 49, 49])) ∧ w = w' := by
  go_enter Tryz.func129, Tryz.ntmps129
  go_wp2_with (go_at_call 153; refine (vec_base11 _).mono ?_; rintro e w' ⟨rfl, rfl⟩)
  go_ret
  exact ⟨ret_strk (by kernel_rfl), rfl⟩
theorem vec_code_m10 (w : World) : Calls Tryz.prog 129 #[.int .i64 (-10)] w fun e w' => e = .returned (.string (bs [48, 48, 48, 48, 48, 49, 48, 48, 49, 49])) ∧ w = w' := by
  go_enter Tryz.func129, Tryz.ntmps129
  go_wp2_with (go_at_call 153; refine (vec_base10 _).mono ?_; rintro e w' ⟨rfl, rfl⟩)
  go_ret
  exact ⟨ret_strk (by kernel_rfl), rfl⟩
theorem vec_code_m9 (w : World) : Calls Tryz.prog 129 #[.int .i64 (-9)] w fun e w' => e = .returned (.string (bs [48, 48, 48, 48, 48, 49, 48, 49, 48, 49])) ∧ w = w' := by
  go_enter Tryz.func129, Tryz.ntmps129
  go_wp2_with (go_at_call 153; refine (vec_base9 _).mono ?_; rintro e w' ⟨rfl, rfl⟩)
  go_ret
  exact ⟨ret_strk (by kernel_rfl), rfl⟩
theorem vec_code_m8 (w : World) : Calls Tryz.prog 129 #[.int .i64 (-8)] w fun e w' => e = .returned (.string (bs [48, 48, 48, 48, 48, 49, 48, 49, 49, 49])) ∧ w = w' := by
  go_enter Tryz.func129, Tryz.ntmps129
  go_wp2_with (go_at_call 153; refine (vec_base8 _).mono ?_; rintro e w' ⟨rfl, rfl⟩)
  go_ret
  exact ⟨ret_strk (by kernel_rfl), rfl⟩
theorem vec_code_m7 (w : World) : Calls Tryz.prog 129 #[.int .i64 (-7)] w fun e w' => e = .returned (.string (bs [48, 48, 48, 48, 48, 49, 49, 49])) ∧ w = w' := by
  go_enter Tryz.func129, Tryz.ntmps129
  go_wp2_with (go_at_call 153; refine (vec_base7 _).mono ?_; rintro e w' ⟨rfl, rfl⟩)
  go_ret
  exact ⟨ret_strk (by kernel_rfl), rfl⟩
theorem vec_code_m6 (w : World) : Calls Tryz.prog 129 #[.int .i64 (-6)] w fun e w' => e = .returned (.string (bs [48, 48, 48, 48, 49, 48, 48, 49])) ∧ w = w' := by
  go_enter Tryz.func129, Tryz.ntmps129
  go_wp2_with (go_at_call 153; refine (vec_base6 _).mono ?_; rintro e w' ⟨rfl, rfl⟩)
  go_ret
  exact ⟨ret_strk (by kernel_rfl), rfl⟩
theorem vec_code_m5 (w : World) : Calls Tryz.prog 129 #[.int .i64 (-5)] w fun e w' => e = .returned (.string (bs [48, 48, 48, 48, 49, 48, 49, 49])) ∧ w = w' := by
  go_enter Tryz.func129, Tryz.ntmps129
  go_wp2_with (go_at_call 153; refine (vec_base5 _).mono ?_; rintro e w' ⟨rfl, rfl⟩)
  go_ret
  exact ⟨ret_strk (by kernel_rfl), rfl⟩
theorem vec_code_m4 (w : World) : Calls Tryz.prog 129 #[.int .i64 (-4)] w fun e w' => e = .returned (.string (bs [48, 48, 48, 48, 49, 49, 49])) ∧ w = w' := by
  go_enter Tryz.func129, Tryz.ntmps129
  go_wp2_with (go_at_call 153; refine (vec_base4 _).mono ?_; rintro e w' ⟨rfl, rfl⟩)
  go_ret
  exact ⟨ret_strk (by kernel_rfl), rfl⟩
theorem vec_code_m3 (w : World) : Calls Tryz.prog 129 #[.int .i64 (-3)] w fun e w' => e = .returned (.string (bs [48, 48, 48, 49, 49])) ∧ w = w' := by
  go_enter Tryz.func129, Tryz.ntmps129
  go_wp2_with (go_at_call 153; refine (vec_base3 _).mono ?_; rintro e w' ⟨rfl, rfl⟩)
  go_ret
  exact ⟨ret_strk (by kernel_rfl), rfl⟩
theorem vec_code_m2 (w : World) : Calls Tryz.prog 129 #[.int .i64 (-2)] w fun e w' => e = .returned (.string (bs [48, 48, 49, 49])) ∧ w = w' := by
  go_enter Tryz.func129, Tryz.ntmps129
  go_wp2_with (go_at_call 153; refine (vec_base2 _).mono ?_; rintro e w' ⟨rfl, rfl⟩)
  go_ret
  exact ⟨ret_strk (by kernel_rfl), rfl⟩
theorem vec_code_m1 (w : World) : Calls Tryz.prog 129 #[.int .i64 (-1)] w fun e w' => e = .returned (.string (bs [48, 49, 49])) ∧ w = w' := by
  go_enter Tryz.func129, Tryz.ntmps129
  go_wp2_with (go_at_call 153; refine (vec_base1 _).mono ?_; rintro e w' ⟨rfl, rfl⟩)
  go_ret
  exact ⟨ret_strk (by kernel_rfl), rfl⟩
theorem vec_code_p0 (w : World) : Calls Tryz.prog 129 #[.int .i64 0] w fun e w' => e = .returned (.string (bs [49])) ∧ w = w' := by
  go_enter Tryz.func129, Tryz.ntmps129
  go_wp2_with fail
  go_ret
  exact ⟨ret_strk (by kernel_rfl), rfl⟩
theorem vec_code_p1 (w : World) : Calls Tryz.prog 129 #[.int .i64 1] w fun e w' => e = .returned (.string (bs [48, 49, 48])) ∧ w = w' := by
  go_enter Tryz.func129, Tryz.ntmps129
  go_wp2_with (go_at_call 153; refine (vec_base1 _).mono ?_; rintro e w' ⟨rfl, rfl⟩)
  go_ret
  exact ⟨ret_strk (by kernel_rfl), rfl⟩
theorem vec_code_p2 (w : World) : Calls Tryz.prog 129 #[.int .i64 2] w fun e w' => e = .returned (.string (bs [48, 48, 49, 48])) ∧ w = w' := by
  go_enter Tryz.func129, Tryz.ntmps129
  go_wp2_with (go_at_call 153; refine (vec_base2 _).mono ?_; rintro e w' ⟨rfl, rfl⟩)
  go_ret
  exact ⟨ret_strk (by kernel_rfl), rfl⟩
theorem vec_code_p3 (w : World) : Calls Tryz.prog 129 #[.int .i64 3] w fun e w' => e = .returned (.string (bs [48, 48, 48, 49, 48])) ∧ w = w' := by
  go_enter Tryz.func129, Tryz.ntmps129
  go_wp2_with (go_at_call 153; refine (vec_base3 _).mono ?_; rintro e w' ⟨rfl, rfl⟩)
  go_ret
  exact ⟨ret_strk (by kernel_rfl), rfl⟩
theorem vec_code_p4 (w : World) : Calls Tryz.prog 129 #[.int .i64 4] w fun e w' => e = .returned (.string (bs [48, 48, 48, 48, 49, 49, 48])) ∧ w = w' := by
  go_enter Tryz.func129, Tryz.ntmps129
  go_wp2_with (go_at_call 153; refine (vec_base4 _).mono ?_; rintro e w' ⟨rfl, rfl⟩)
  go_ret
  exact ⟨ret_strk (by kernel_rfl), rfl⟩
theorem vec_code_p5 (w : World) : Calls Tryz.prog 129 #[.int .i64 5] w fun e w' => e = .returned (.string (bs [48, 48, 48, 48, 49, 48, 49, 48])) ∧ w = w' := by
  go_enter Tryz.func129, Tryz.ntmps129
  go_wp2_with (go_at_call 153; refine (vec_base5 _).mono ?_; rintro e w' ⟨rfl, rfl⟩)
  go_ret
  exact ⟨ret_strk (by kernel_rfl), rfl⟩
theorem vec_code_p6 (w : World) : Calls Tryz.prog 129 #[.int .i64 6] w fun e w' => e = .returned (.string (bs [48, 48, 48, 48, 49, 48, 48, 48])) ∧ w = w' := by
  go_enter Tryz.func129, Tryz.ntmps129
  go_wp2_with (go_at_call 153; refine (vec_base6 _).mono ?_; rintro e w' ⟨rfl, rfl⟩)
  go_ret
  exact ⟨ret_strk (by kernel_rfl), rfl⟩
theorem vec_code_p7 (w : World) : Calls Tryz.prog 129 #[.int .i64 7] w fun e w' => e = .returned (.string (bs [48, 48, 48, 48, 48, 49, 49, 48])) ∧ w = w' := by
  go_enter Tryz.func129, Tryz.ntmps129
  go_wp2_with (go_at_call 153; refine (vec_base7 _).mono ?_; rintro e w' ⟨rfl, rfl⟩)
  go_ret
  exact ⟨ret_strk (by kernel_rfl), rfl⟩
theorem vec_code_p8 (w : World) : Calls Tryz.prog 129 #[.int .i64 8] w fun e w' => e = .returned (.string (bs [48, 48, 48, 48, 48, 49, 48, 49, 49, 48])) ∧ w = w' := by
  go_enter Tryz.func129, Tryz.ntmps129
  go_wp2_with (go_at_call 153; refine (vec_base8 _).mono ?_; rintro e w' ⟨rfl, rfl⟩)
  go_ret
  exact ⟨ret_strk (by kernel_rfl), rfl⟩
theorem vec_code_p9 (w : World) : Calls Tryz.prog 129 #[.int .i64 9] w fun e w' => e = .returned (.string (bs [48, 48, 48, 48, 48, 49, 48, 49, 48, 48])) ∧ w = w' := by
  go_enter Tryz.func129, Tryz.ntmps129
  go_wp2_with (go_at_call 153; refine (vec_base9 _).mono ?_; rintro e w' ⟨rfl, rfl⟩)
  go_ret
  exact ⟨ret_strk (by kernel_rfl), rfl⟩
theorem vec_code_p10 (w : World) : Calls Tryz.prog 129 #[.int .i64 10] w fun e w' => e = .returned (.string (bs [48, 48, 48, 48, 48, 49, 48, 48, 49, 48])) ∧ w = w' := by
  go_enter Tryz.func129, Tryz.ntmps129
  go_wp2_with (go_at_call 153; refine (vec_base10 _).mono ?_; rintro e w' ⟨rfl, rfl⟩)
  go_ret
  exact ⟨ret_strk (by kernel_rfl), rfl⟩
theorem vec_code_p11 (w : World) : Calls Tryz.prog 129 #[.int .i64 11] w fun e w' => e = .returned (.string (bs [48, 48, 48, 48, 48, 49, 48, 48, 48, 49, 48])) ∧ w = w' := by
  go_enter Tryz.func129, Tryz.ntmps129
  go_wp2_with (go_at_call 153; refine (vec_base11 _).mono ?_; rintro e w' ⟨rfl, rfl⟩)
  go_ret
  exact ⟨ret_strk (by kernel_rfl), rfl⟩
theorem vec_code_p12 (w : World) : Calls Tryz.prog 129 #[.int .i64 12] w fun e w' => e = .returned (.string (bs [48, 48, 48, 48, 48, 49, 48, 48, 48, 48, 48])) ∧ w = w' := by
  go_enter Tryz.func129, Tryz.ntmps129
  go_wp2_with (go_at_call 153; refine (vec_base12 _).mono ?_; rintro e w' ⟨rfl, rfl⟩)
  go_ret
  exact ⟨ret_strk (by kernel_rfl), rfl⟩
theorem vec_code_p13 (w : World) : Calls Tryz.prog 129 #[.int .i64 13] w fun e w' => e = .returned (.string (bs [48, 48, 48, 48, 48, 48, 49, 49, 49, 49, 48])) ∧ w = w' := by
  go_enter Tryz.func129, Tryz.ntmps129
  go_wp2_with (go_at_call 153; refine (vec_base13 _).mono ?_; rintro e w' ⟨rfl, rfl⟩)
  go_ret
  exact ⟨ret_strk (by kernel_rfl), rfl⟩
theorem vec_code_p14 (w : World) : Calls Tryz.prog 129 #[.int .i64 14] w fun e w' => e = .returned (.string (bs [48, 48, 48, 48, 48, 48, 49, 49, 49, 48, 48])) ∧ w = w' := by
  go_enter Tryz.func129, Tryz.ntmps129
  go_wp2_with (go_at_call 153; refine (vec_base14 _).mono ?_; rintro e w' ⟨rfl, rfl⟩)
  go_ret
  exact ⟨ret_strk (by kernel_rfl), rfl⟩
theorem vec_code_p15 (w : World) : Calls Tryz.prog 129 #[.int .i64 15] w fun e w' => e = .returned (.string (bs [48, 48, 48, 48, 48, 48, 49, 49, 48, 49, 48])) ∧ w = w' := by
  go_enter Tryz.func129, Tryz.ntmps129
  go_wp2_with (go_at_call 153; refine (vec_base15 _).mono ?_; rintro e w' ⟨rfl, rfl⟩)
  go_ret
  exact ⟨ret_strk (by kernel_rfl), rfl⟩
theorem vector_code (d : Int) (h1 : -16 ≤ d) (h2 : d ≤ 15) (w : World) : Calls Tryz.prog 129 #[.int .i64 d] w fun e w' => e = .returned (.string (bs (vecP d))) ∧ w = w' := by
  have h : d = (-16) ∨ d = (-15) ∨ d = (-14) ∨ d = (-13) ∨ d = (-12) ∨ d = (-11) ∨ d = (-10) ∨ d = (-9) ∨ d = (-8) ∨ d = (-7) ∨ d = (-6) ∨ d = (-5) ∨ d = (-4) ∨ d = (-3) ∨ d = (-2) ∨ d = (-1) ∨ d = 0 ∨ d = 1 ∨ d = 2 ∨ d = 3 ∨ d = 4 ∨ d = 5 ∨ d = 6 ∨ d = 7 ∨ d = 8 ∨ d = 9 ∨ d = 10 ∨ d = 11 ∨ d = 12 ∨ d = 13 ∨ d = 14 ∨ d = 15 := by omega
  rcases h with rfl | rfl | rfl | rfl | rfl | rfl | rfl | rfl | rfl | rfl | rfl | rfl | rfl | rfl | rfl | rfl | rfl | rfl | rfl | rfl | rfl | rfl | rfl | rfl | rfl | rfl | rfl | rfl | rfl | rfl | rfl | rfl
  · rw [show vecP (-16) = [48, 48, 48, 48, 48, 48, 49, 49, 48, 48, 49] by kernel_rfl]; exact vec_code_m16 w
  · rw [show vecP (-15) = [48, 48, 48, 48, 48, 48, 49, 49, 48, 49, 49] by kernel_rfl]; exact vec_code_m15 w
  · rw [show vecP (-14) = [48, 48, 48, 48, 48, 48, 49, 49, 49, 48, 49] by kernel_rfl]; exact vec_code_m14 w
  · rw [show vecP (-13) = [48, 48, 48, 48, 48, 48, 49, 49, 49, 49, 49] by kernel_rfl]; exact vec_code_m13 w
  · rw [show vecP (-12) = [48, 48, 48, 48, 48, 49, 48, 48, 48, 48, 49] by kernel_rfl]; exact vec_code_m12 w
  · rw [show vecP (-11) = [48, 48, 48, 48, 48, 49, 48, 48, 48, 49, 49] by kernel_rfl]; exact vec_code_m11 w
  · rw [show vecP (-10) = [48, 48, 48, 48, 48, 49, 48, 48, 49, 49] by kernel_rfl]; exact vec_code_m10 w
  · rw [show vecP (-9) = [48, 48, 48, 48, 48, 49, 48, 49, 48, 49] by kernel_rfl]; exact vec_code_m9 w
  · rw [show vecP (-8) = [48, 48, 48, 48, 48, 49, 48, 49, 49, 49] by kernel_rfl]; exact vec_code_m8 w
  · rw [show vecP (-7) = [48, 48, 48, 48, 48, 49, 49, 49] by kernel_rfl]; exact vec_code_m7 w
  · rw [show vecP (-6) = [48, 48, 48, 48, 49, 48, 48, 49] by kernel_rfl]; exact vec_code_m6 w
  · rw [show vecP (-5) = [48, 48, 48, 48, 49, 48, 49, 49] by kernel_rfl]; exact vec_code_m5 w
  · rw [show vecP (-4) = [48, 48, 48, 48, 49, 49, 49] by kernel_rfl]; exact vec_code_m4 w
  · rw [show vecP (-3) = [48, 48, 48, 49, 49] by kernel_rfl]; exact vec_code_m3 w
  · rw [show vecP (-2) = [48, 48, 49, 49] by kernel_rfl]; exact vec_code_m2 w
  · rw [show vecP (-1) = [48, 49, 49] by kernel_rfl]; exact vec_code_m1 w
  · rw [show vecP 0 = [49] by kernel_rfl]; exact vec_code_p0 w
  · rw [show vecP 1 = [48, 49, 48] by kernel_rfl]; exact vec_code_p1 w
  · rw [show vecP 2 = [48, 48, 49, 48] by kernel_rfl]; exact vec_code_p2 w
  · rw [show vecP 3 = [48, 48, 48, 49, 48] by kernel_rfl]; exact vec_code_p3 w
  · rw [show vecP 4 = [48, 48, 48, 48, 49, 49, 48] by kernel_rfl]; exact vec_code_p4 w
  · rw [show vecP 5 = [48, 48, 48, 48, 49, 48, 49, 48] by kernel_rfl]; exact vec_code_p5 w
  · rw [show vecP 6 = [48, 48, 48, 48, 49, 48, 48, 48] by kernel_rfl]; exact vec_code_p6 w
  · rw [show vecP 7 = [48, 48, 48, 48, 48, 49, 49, 48] by kernel_rfl]; exact vec_code_p7 w
  · rw [show vecP 8 = [48, 48, 48, 48, 48, 49, 48, 49, 49, 48] by kernel_rfl]; exact vec_code_p8 w
  · rw [show vecP 9 = [48, 48, 48, 48, 48, 49, 48, 49, 48, 48] by kernel_rfl]; exact vec_code_p9 w
  · rw [show vecP 10 = [48, 48, 48, 48, 48, 49, 48, 48, 49, 48] by kernel_rfl]; exact vec_code_p10 w
  · rw [show vecP 11 = [48, 48, 48, 48, 48, 49, 48, 48, 48, 49, 48] by kernel_rfl]; exact vec_code_p11 w
  · rw [show vecP 12 = [48, 48, 48, 48, 48, 49, 48, 48, 48, 48, 48] by kernel_rfl]; exact vec_code_p12 w
  · rw [show vecP 13 = [48, 48, 48, 48, 48, 48, 49, 49, 49, 49, 48] by kernel_rfl]; exact vec_code_p13 w
  · rw [show vecP 14 = [48, 48, 48, 48, 48, 48, 49, 49, 49, 48, 48] by kernel_rfl]; exact vec_code_p14 w
  · rw [show vecP 15 = [48, 48, 48, 48, 48, 48, 49, 49, 48, 49, 48] by kernel_rfl]; exact vec_code_p15 w
theorem vector_part (n : Int) (w : World) : Calls Tryz.prog 128 #[.int .i64 n] w fun e w' => e = .returned (.bool (partB n)) ∧ w = w' := by
  by_cases a : -15 ≤ n
  · have a1 : decide (-15 ≤ n) = true := decide_eq_true a
    by_cases b : n ≤ 15
    · have b1 : decide (n ≤ 15) = true := decide_eq_true b
      have hv : partB n = true := by simp [partB, a, b]
      rw [hv]; clear hv
      go_enter Tryz.func128, Tryz.ntmps128
      go_wp2
      go_ret
      exact ⟨rfl, rfl⟩
    · have b1 : decide (n ≤ 15) = false := decide_eq_false b
      have hv : partB n = false := by simp [partB]; omega
      rw [hv]; clear hv
      go_enter Tryz.func128, Tryz.ntmps128
      go_wp2
      go_ret
      exact ⟨rfl, rfl⟩
  · have a1 : decide (-15 ≤ n) = false := decide_eq_false a
    have hv : partB n = false := by simp [partB]; omega
    rw [hv]; clear hv
    go_enter Tryz.func128, Tryz.ntmps128
    go_wp2
    go_ret
    exact ⟨rfl, rfl⟩
theorem vector_Diff (fr to : Int) (w : World) (h1 : partB fr = true) (h2 : partB to = true) : Calls Tryz.prog 92 #[.int .i64 fr, .int .i64 to] w fun e w' => e = .returned (.tuple #[.int .i64 (diffP fr to), .int .i64 0]) ∧ w = w' := by
  have ⟨a1, a2⟩ : -15 ≤ fr ∧ fr ≤ 15 := by simpa [partB] using h1
  have ⟨b1, b2⟩ : -15 ≤ to ∧ to ≤ 15 := by simpa [partB] using h2
  have hp : 0 ≤ to - fr + 16 + 64 := by omega
  have hd := Lib.hid (show diffP fr to = (to - fr + 80) % 32 - 16 from rfl)
  go_enter Tryz.func92, Tryz.ntmps92
  go_wp2_with (go_at_call 128; refine (vector_part _ _).mono ?_; rintro e w' ⟨rfl, rfl⟩)
  go_ret2
  rw [hd.out, show to - fr + 80 = to - fr + 16 + 64 by omega]
  exact ⟨rfl, rfl⟩
theorem vector_Predict (ad d : Int) (had : Bool) (x y : Int) (w : World) : Calls Tryz.prog 70 #[.int .i64 ad, .int .i64 d, .bool had, .int .i64 x, .int .i64 y] w fun e w' => e = .returned (.tuple #[.int .i64 (predP ad d had x y).1, .int .i64 (predP ad d had x y).2]) ∧ w = w' := by
  unfold predP
  obtain ⟨b, hb⟩ : ∃ b, newB ad d had = b := ⟨_, rfl⟩
  rw [hb]
  unfold newB at hb
  cases had with
  | false =>
    simp at hb; subst hb
    go_enter Tryz.func70, Tryz.ntmps70
    go_wp2
    go_ret2
    exact ⟨rfl, rfl⟩
  | true =>
    by_cases h1 : d = 1
    · subst h1
      by_cases h2 : ad = 1
      · subst h2
        simp at hb; subst hb
        go_enter Tryz.func70, Tryz.ntmps70
        go_wp2
        go_ret2
        exact ⟨rfl, rfl⟩
      · have h2b : (ad == 1) = false := beq_eq_false_iff_ne.2 h2
        by_cases h3 : ad = 12
        · subst h3
          simp at hb; subst hb
          go_enter Tryz.func70, Tryz.ntmps70
          go_wp2
          go_ret2
          exact ⟨rfl, rfl⟩
        · have h3b : (ad == 12) = false := beq_eq_false_iff_ne.2 h3
          by_cases h4 : ad = 23
          · subst h4
            simp at hb; subst hb
            go_enter Tryz.func70, Tryz.ntmps70
            go_wp2
            go_ret2
            exact ⟨rfl, rfl⟩
          · have h4b : (ad == 23) = false := beq_eq_false_iff_ne.2 h4
            simp [h2b, h3b, h4b] at hb; subst hb
            clear h2 h3 h4
            go_enter Tryz.func70, Tryz.ntmps70
            go_wp2
            go_ret2
            exact ⟨rfl, rfl⟩
    · have h1b : (d != 1) = true := bne_iff_ne.2 h1
      simp [h1b] at hb; subst hb
      clear h1
      go_enter Tryz.func70, Tryz.ntmps70
      go_wp2
      go_ret2
      exact ⟨rfl, rfl⟩
set_option maxRecDepth 100000 in
theorem vector_Put (d : Int) (w : World) (h1 : -16 ≤ d) (h2 : d ≤ 15) : Calls Tryz.prog 93 #[.int .i64 d] w fun e w' => e = .returned (.tuple #[.string (bs (vecP d)), .int .i64 0]) ∧ w = w' := by
  have C := Lib.hid (fun W => vector_code d h1 h2 W)
  have a1 : decide (d < -16) = false := decide_eq_false (by omega)
  have a2 : decide (15 < d) = false := decide_eq_false (by omega)
  go_enter Tryz.func93, Tryz.ntmps93
  go_wp2_with (go_at_call 129; refine (C.out _).mono ?_; rintro e w' ⟨rfl, rfl⟩)
  go_ret2
  exact ⟨rfl, rfl⟩
theorem turn_ok {pr d : Int} (h1 : partB pr = true) (h2 : -16 ≤ d) (h3 : d ≤ 15) : turnP pr d = if partB (pr + d) then (pr + d, 0) else if partB (pr + d + 32) then (pr + d + 32, 0) else if partB (pr + d - 32) then (pr + d - 32, 0) else (0, 12) := by
  unfold turnP
  rw [h1]
  simp [decide_eq_false (show ¬ d < -16 by omega), decide_eq_false (show ¬ 15 < d by omega)]
set_option maxRecDepth 100000 in
set_option maxHeartbeats 1000000 in
theorem vector_Turn (pr d : Int) (w : World) (h1 : partB pr = true) (h2 : -16 ≤ d) (h3 : d ≤ 15) : Calls Tryz.prog 113 #[.int .i64 pr, .int .i64 d] w fun e w' => e = .returned (.tuple #[.int .i64 (turnP pr d).1, .int .i64 (turnP pr d).2]) ∧ w = w' := by
  have HT := Lib.hid (turn_ok h1 h2 h3)
  have P1 := Lib.hid (fun W => vector_part pr W)
  rw [h1] at P1
  have hpr : -15 ≤ pr ∧ pr ≤ 15 := by simpa [partB] using h1
  obtain ⟨a1, a2⟩ := hpr
  have b1 : decide (d < -16) = false := decide_eq_false (by omega)
  have b2 : decide (15 < d) = false := decide_eq_false (by omega)
  have i0 : ∀ W : World, (Instr.index 171 (.agg #[.int .i64 0, .int .i64 32, .int .i64 (-32)]) (.int .i64 0)).run Tryz.prog W = .ok (.int .i64 0) W := fun _ => by kernel_rfl
  have i1 : ∀ W : World, (Instr.index 171 (.agg #[.int .i64 0, .int .i64 32, .int .i64 (-32)]) (.int .i64 1)).run Tryz.prog W = .ok (.int .i64 32) W := fun _ => by kernel_rfl
  have i2 : ∀ W : World, (Instr.index 171 (.agg #[.int .i64 0, .int .i64 32, .int .i64 (-32)]) (.int .i64 2)).run Tryz.prog W = .ok (.int .i64 (-32)) W := fun _ => by kernel_rfl
  clear h1
  go_enter Tryz.func113, Tryz.ntmps113
  go_wp2_with (go_at_call 128; refine (P1.out _).mono ?_; rintro e w' ⟨rfl, rfl⟩)
  go_step3
  go_wp2_with (go_at_call 128; refine (P1.out _).mono ?_; rintro e w' ⟨rfl, rfl⟩)
  go_step3
  go_wp2_with fail
  go_loopg [6, 7, 23] 3 (fun g x e i => fun wr => ∃ j : Nat, j + g = 3 ∧ x = .int .i64 0 ∧ e = .int .i64 12 ∧ i = .int .i64 (j : Int) ∧ w = wr ∧ Hid ((1 ≤ j → partB (pr + d) = false) ∧ (2 ≤ j → partB (pr + d + 32) = false) ∧ (3 ≤ j → partB (pr + d + (-32)) = false)))
  case atStart => exact ⟨0, by omega, rfl, rfl, rfl, rfl, Lib.hid ⟨by omega, by omega, by omega⟩⟩
  case round =>
    obtain ⟨j, hj, rfl, rfl, rfl, rfl, HJ⟩ := hrel
    rw [show pr + d - 32 = pr + d + (-32) by omega] at HT
    have hj4 : j = 0 ∨ j = 1 ∨ j = 2 ∨ j = 3 := by omega
    rcases hj4 with rfl | rfl | rfl | rfl
    · by_cases hp : partB (pr + d) = true
      · go_wp2_with (go_at_call 128; refine (vector_part _ _).mono ?_; rintro e w' ⟨rfl, rfl⟩)
        rw [Exit.noGoto_ret]
        go_ret2
        rw [HT.out, if_pos hp]
        exact ⟨rfl, rfl⟩
      · have hp : partB (pr + d) = false := by simpa using hp
        go_wp2_with (go_at_call 128; refine (vector_part _ _).mono ?_; rintro e w' ⟨rfl, rfl⟩)
        go_roundg 2
        case measure => omega
        case rel => exact ⟨1, by omega, rfl, rfl, rfl, rfl, Lib.hid ⟨fun _ => hp, by omega, by omega⟩⟩
    · by_cases hp : partB (pr + d + 32) = true
      · go_wp2_with (go_at_call 128; refine (vector_part _ _).mono ?_; rintro e w' ⟨rfl, rfl⟩)
        rw [Exit.noGoto_ret]
        go_ret2
        rw [HT.out, if_neg (by rw [HJ.out.1 (by omega)]; decide), if_pos hp]
        exact ⟨rfl, rfl⟩
      · have hp : partB (pr + d + 32) = false := by simpa using hp
        go_wp2_with (go_at_call 128; refine (vector_part _ _).mono ?_; rintro e w' ⟨rfl, rfl⟩)
        go_roundg 1
        case measure => omega
        case rel => exact ⟨2, by omega, rfl, rfl, rfl, rfl, Lib.hid ⟨fun _ => HJ.out.1 (by omega), fun _ => hp, by omega⟩⟩
    · by_cases hp : partB (pr + d + (-32)) = true
      · go_wp2_with (go_at_call 128; refine (vector_part _ _).mono ?_; rintro e w' ⟨rfl, rfl⟩)
        rw [Exit.noGoto_ret]
        go_ret2
        rw [HT.out, if_neg (by rw [HJ.out.1 (by omega)]; decide), if_neg (by rw [HJ.out.2.1 (by omega)]; decide), if_pos hp]
        exact ⟨rfl, rfl⟩
      · have hp : partB (pr + d + (-32)) = false := by simpa using hp
        go_wp2_with (go_at_call 128; refine (vector_part _ _).mono ?_; rintro e w' ⟨rfl, rfl⟩)
        go_roundg 0
        case measure => omega
        case rel => exact ⟨3, by omega, rfl, rfl, rfl, rfl, Lib.hid ⟨fun _ => HJ.out.1 (by omega), fun _ => HJ.out.2.1 (by omega), fun _ => hp⟩⟩
    · go_wp2_with fail
      rw [Exit.noGoto_ret]
      go_ret2
      rw [HT.out, if_neg (by rw [HJ.out.1 (by omega)]; decide), if_neg (by rw [HJ.out.2.1 (by omega)]; decide), if_neg (by rw [HJ.out.2.2 (by omega)]; decide)]
      exact ⟨rfl, rfl⟩
set_option maxRecDepth 100000 in
set_option maxHeartbeats 2000000 in
theorem vector_tree (w : World) : Calls Tryz.prog 144 #[] w (TreePost vecC vecN w) := by
  have hc : ∀ j (h : j < 32), vecC.take (j + 1) = vecC.take j ++ [vecP ((j : Int) - 16)] := by decide +kernel
  have hn : ∀ j (h : j < 32), vecN.take (j + 1) = vecN.take j ++ [(j : Int) - 16] := by decide +kernel
  have HC := Lib.hid hc; have HN := Lib.hid hn
  clear hc hn
  go_enter Tryz.func144, Tryz.ntmps144
  go_wp2_with fail
  go_loopg [1, 2, 3] 32 (fun g v1 v2 i => fun wr => ∃ j : Nat, j + g = 32 ∧ i = .int .i64 ((j : Int) - 16) ∧ Hid (TwoRows w (vecC.take j) (vecN.take j) v1 v2 wr))
  case atStart => exact ⟨0, by omega, rfl, Lib.hid (two_start w)⟩
  case round =>
    obtain ⟨j, hj, rfl, HR⟩ := hrel
    cases gk with
    | succ g =>
      have hlt : ((j : Int) - 16) < 16 := by omega
      have hl1 : (vecC.take j).length = j := by rw [List.length_take, vecC_len]; omega
      have hl2 : (vecN.take j).length = j := by rw [List.length_take, show vecN.length = 32 by kernel_rfl]; omega
      have hr := HR.out
      unfold TwoRows at hr
      rw [hl1, hl2] at hr
      obtain ⟨A1, c1, e1, _⟩ := own_sl hr.2.2.head
      obtain ⟨A2, c2, e2, _⟩ := own_sl hr.2.2.tail.head
      dsimp only at e1 e2
      subst e1 e2
      have HR1 := Lib.hid hr
      have hj32 : j ≤ 31 := by omega
      have HHJ := Lib.hid hj
      have tok : True := trivial
      clear hl1 hl2 hr hj
      obtain ⟨d, hd⟩ : ∃ d, d = (j : Int) - 16 := ⟨_, rfl⟩
      have hd1 : -16 ≤ d := by omega
      have hd2 : d ≤ 15 := by omega
      rw [← hd] at hlt ⊢
      have HDD := Lib.hid hd
      clear hd
      go_wp2_with (first
        | (go_at_call 129; refine (vector_code d hd1 hd2 _).mono ?_; rintro e w' ⟨rfl, rfl⟩)
        | (at_builtin; have _t := tok; refine wpList_appC etStr rfl rfl 1 [strV (vecP d)] rfl HR1.out rfl rfl (strV1 _) (by omega) ⟨Nat.le_refl _, HR1.out.1.size⟩ (by simp) (by simp) ?_; clear tok; intro v1 W1 hc1; have HC1 := Lib.hid hc1; clear hc1)
        | (at_builtin; refine wpList_appC etInt rfl rfl 1 [intV d] rfl (cons_swap HC1.out) rfl rfl (intV1 _) (by omega) ⟨Nat.le_refl _, HC1.out.1.size⟩ (by simp) (by simp) ?_; intro v2 W2 hc2; have HC2 := Lib.hid hc2; clear hc2))
      go_roundg g
      case measure => omega
      case rel =>
        refine ⟨j + 1, by have := HHJ.out; omega, ?_, Lib.hid ?_⟩
        · rw [HDD.out]; congr 1; omega
        · unfold TwoRows
          rw [HC.out j (by omega), HN.out j (by omega), ← HDD.out]
          simp only [List.length_append, List.map_append, List.length_take, vecC_len, show vecN.length = 32 by kernel_rfl, Nat.min_eq_left (show j ≤ 32 by omega), List.length_cons, List.length_nil, List.map_cons, List.map_nil]
          exact cons_swap HC2.out
    | zero =>
      obtain rfl : j = 32 := by omega
      have hr := HR.out
      rw [show vecC.take 32 = vecC by kernel_rfl, show vecN.take 32 = vecN by kernel_rfl] at hr
      obtain ⟨A, B, c, d, rfl, rfl, hA, hB, hb⟩ := two_get hr (by rw [vecC_len]; decide) (by kernel_rfl)
      have CM := Lib.hid (make_tree vec_codes A B c d wr hA hB)
      have HB := Lib.hid hb
      rw [vecC_len] at CM ⊢
      clear hr hA hB hb
      go_wp2_with (go_at_call 125; refine CM.out.mono ?_; rintro e w' ⟨T, rfl, hpt⟩; have HPT := Lib.hid hpt; clear hpt)
      go_ret
      exact ⟨_, T, rfl, HPT.out.1, HB.out.trans (HPT.out.2.mono HB.out.size)⟩
theorem vector_Get (A : Option Addr) (n c : Nat) (l : List UInt8) (i : Int) (w : World) (hA : Sl w A (l.map byteV)) (hn : l.length = n) (hsz : n ≤ 2 ^ 47) (hi : -9223372036854775808 ≤ i ∧ i ≤ 9223372036854775807) :
    Calls Tryz.prog 112 #[.slice A n c, .int .i64 i] w fun e w' => e = .returned (.tuple #[.int .i64 (treeR vecC vecN l i).1, .int .i64 (treeR vecC vecN l i).2.1, .int .i64 (treeR vecC vecN l i).2.2]) ∧ Below w.heap.size w w' := by
  have HA := Lib.hid hA; have Hn := Lib.hid hn
  clear hA hn
  go_enter Tryz.func112, Tryz.ntmps112
  go_wp2_with (first
    | (go_at_call 144; refine (vector_tree _).mono ?_; rintro e w1 ⟨base, T, rfl, hpt, hb1⟩; have HPT := Lib.hid hpt; have HB1 := Lib.hid hb1; clear hpt hb1)
    | (go_at_call 141; refine (get_tree vec_codes _ base T HPT.out A n c l i (HA.out.below HB1.out) Hn.out hsz hi).mono ?_; rintro e w2 ⟨rfl, hb2⟩; have HB2 := Lib.hid hb2; clear hb2))
  go_ret3
  exact ⟨rfl, HB1.out.trans (HB2.out.mono HB1.out.size)⟩
end Go.Proofs.YtcojnigkgbmbmaaGreatDoor
