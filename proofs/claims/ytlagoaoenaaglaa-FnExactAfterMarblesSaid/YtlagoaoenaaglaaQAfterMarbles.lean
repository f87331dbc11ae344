/- AfterMarbles of the program and of the reference agree for all int64 arguments: the walk, case by case. -/
import Derived.Test.YtlagoaoenaaglaaPx3
import Derived.RegionTactic
import Derived.ChangeAlike
namespace Go.Proofs.Ytlagoaoenaaglaa.QAfterMarbles
open Go.RowKit Go.Proofs.YtlagoaoenaaglaaW.PrintWords Go.Proofs.YtlagoaoenaaglaaW.PrintLast Go.Proofs.YtlagoaoenaaglaaW.PrintMore
set_option linter.unusedVariables false
set_option linter.unusedSimpArgs false
set_option maxHeartbeats 1000000 in
set_option maxRecDepth 100000 in
theorem spec_n_low (n v t : Int) (w : World) (h0 : n < 1) : Calls Try.prog 11 #[.int .i64 n, .int .i64 v, .int .i64 t] w fun e w' => e = .returned (.tuple #[.int .i64 0, .int .i64 0, .bool false]) ∧ Drawn0 w w' := by
  have e0 : decide (n < 1) = true := by simp; omega
  have e1 : decide (1 ≤ n) = false := by simp; omega
  go_enter Try.func11, Try.ntmps11
  go_wp2
  iterate 4 ((all_goals (try go_region)); (all_goals (try go_wp2)))
  all_goals
    go_ret3
    exact ⟨by first | rfl | (simp; done) | (simp [*]; done), by repeat (first | exact Drawn0.refl _ | apply Drawn0.step)⟩
set_option maxHeartbeats 1000000 in
set_option maxRecDepth 100000 in
theorem impl_n_low (n v t : Int) (w : World) (h0 : n < 1) : Calls Try.prog 12 #[.int .i64 n, .int .i64 v, .int .i64 t] w fun e w' => e = .returned (.tuple #[.int .i64 0, .int .i64 0, .bool false]) ∧ Drawn0 w w' := by
  have e0 : decide (n < 1) = true := by simp; omega
  have e1 : decide (1 ≤ n) = false := by simp; omega
  go_enter Try.func12, Try.ntmps12
  go_wp2
  iterate 4 ((all_goals (try go_region)); (all_goals (try go_wp2)))
  all_goals
    go_ret3
    exact ⟨by first | rfl | (simp; done) | (simp [*]; done), by repeat (first | exact Drawn0.refl _ | apply Drawn0.step)⟩
set_option maxHeartbeats 1000000 in
set_option maxRecDepth 100000 in
theorem law_n_low (n v t : Int) (w : World) (h0 : n < 1) : Calls Try.prog 4 #[.int .i64 n, .int .i64 v, .int .i64 t] w fun e w' => e = .returned (.bool true) ∧ Drawn0 w w' := by
  go_enter Try.func4, Try.ntmps4
  go_wp2_with (first | (go_at_call 11; refine (spec_n_low n v t _ h0).mono ?_; rintro e w' ⟨rfl, ⟨nd, rfl⟩⟩) | (go_at_call 12; refine (impl_n_low n v t _ h0).mono ?_; rintro e w' ⟨rfl, ⟨nd, rfl⟩⟩))
  go_ret
  exact ⟨by first | rfl | (simp; done) | (simp [*]; done), by repeat (first | exact Drawn0.refl _ | apply Drawn0.step | exact ⟨_, rfl⟩)⟩
set_option maxHeartbeats 1000000 in
set_option maxRecDepth 100000 in
theorem spec_n_high (n v t : Int) (w : World) (h0 : 5 < n) : Calls Try.prog 11 #[.int .i64 n, .int .i64 v, .int .i64 t] w fun e w' => e = .returned (.tuple #[.int .i64 0, .int .i64 0, .bool false]) ∧ Drawn0 w w' := by
  have e0 : decide (n < 1) = false := by simp; omega
  have e1 : decide (1 ≤ n) = true := by simp; omega
  have e2 : decide (5 < n) = true := by simp; omega
  have e3 : decide (n ≤ 5) = false := by simp; omega
  go_enter Try.func11, Try.ntmps11
  go_wp2
  iterate 4 ((all_goals (try go_region)); (all_goals (try go_wp2)))
  all_goals
    go_ret3
    exact ⟨by first | rfl | (simp; done) | (simp [*]; done), by repeat (first | exact Drawn0.refl _ | apply Drawn0.step)⟩
set_option maxHeartbeats 1000000 in
set_option maxRecDepth 100000 in
theorem impl_n_high (n v t : Int) (w : World) (h0 : 5 < n) : Calls Try.prog 12 #[.int .i64 n, .int .i64 v, .int .i64 t] w fun e w' => e = .returned (.tuple #[.int .i64 0, .int .i64 0, .bool false]) ∧ Drawn0 w w' := by
  have e0 : decide (n < 1) = false := by simp; omega
  have e1 : decide (1 ≤ n) = true := by simp; omega
  have e2 : decide (5 < n) = true := by simp; omega
  have e3 : decide (n ≤ 5) = false := by simp; omega
  go_enter Try.func12, Try.ntmps12
  go_wp2
  iterate 4 ((all_goals (try go_region)); (all_goals (try go_wp2)))
  all_goals
    go_ret3
    exact ⟨by first | rfl | (simp; done) | (simp [*]; done), by repeat (first | exact Drawn0.refl _ | apply Drawn0.step)⟩
set_option maxHeartbeats 1000000 in
set_option maxRecDepth 100000 in
theorem law_n_high (n v t : Int) (w : World) (h0 : 5 < n) : Calls Try.prog 4 #[.int .i64 n, .int .i64 v, .int .i64 t] w fun e w' => e = .returned (.bool true) ∧ Drawn0 w w' := by
  go_enter Try.func4, Try.ntmps4
  go_wp2_with (first | (go_at_call 11; refine (spec_n_high n v t _ h0).mono ?_; rintro e w' ⟨rfl, ⟨nd, rfl⟩⟩) | (go_at_call 12; refine (impl_n_high n v t _ h0).mono ?_; rintro e w' ⟨rfl, ⟨nd, rfl⟩⟩))
  go_ret
  exact ⟨by first | rfl | (simp; done) | (simp [*]; done), by repeat (first | exact Drawn0.refl _ | apply Drawn0.step | exact ⟨_, rfl⟩)⟩
set_option maxHeartbeats 1000000 in
set_option maxRecDepth 100000 in
theorem spec_v_low1 (v t : Int) (w : World) (h0 : v < 0) : Calls Try.prog 11 #[.int .i64 1, .int .i64 v, .int .i64 t] w fun e w' => e = .returned (.tuple #[.int .i64 0, .int .i64 0, .bool false]) ∧ Drawn0 w w' := by
  have e0 : decide (v < 0) = true := by simp; omega
  have e1 : decide (0 ≤ v) = false := by simp; omega
  go_enter Try.func11, Try.ntmps11
  go_wp2
  iterate 4 ((all_goals (try go_region)); (all_goals (try go_wp2)))
  all_goals
    go_ret3
    exact ⟨by first | rfl | (simp; done) | (simp [*]; done), by repeat (first | exact Drawn0.refl _ | apply Drawn0.step)⟩
set_option maxHeartbeats 1000000 in
set_option maxRecDepth 100000 in
theorem impl_v_low1 (v t : Int) (w : World) (h0 : v < 0) : Calls Try.prog 12 #[.int .i64 1, .int .i64 v, .int .i64 t] w fun e w' => e = .returned (.tuple #[.int .i64 0, .int .i64 0, .bool false]) ∧ Drawn0 w w' := by
  have e0 : decide (v < 0) = true := by simp; omega
  have e1 : decide (0 ≤ v) = false := by simp; omega
  go_enter Try.func12, Try.ntmps12
  go_wp2
  iterate 4 ((all_goals (try go_region)); (all_goals (try go_wp2)))
  all_goals
    go_ret3
    exact ⟨by first | rfl | (simp; done) | (simp [*]; done), by repeat (first | exact Drawn0.refl _ | apply Drawn0.step)⟩
set_option maxHeartbeats 1000000 in
set_option maxRecDepth 100000 in
theorem law_v_low1 (v t : Int) (w : World) (h0 : v < 0) : Calls Try.prog 4 #[.int .i64 1, .int .i64 v, .int .i64 t] w fun e w' => e = .returned (.bool true) ∧ Drawn0 w w' := by
  go_enter Try.func4, Try.ntmps4
  go_wp2_with (first | (go_at_call 11; refine (spec_v_low1 v t _ h0).mono ?_; rintro e w' ⟨rfl, ⟨nd, rfl⟩⟩) | (go_at_call 12; refine (impl_v_low1 v t _ h0).mono ?_; rintro e w' ⟨rfl, ⟨nd, rfl⟩⟩))
  go_ret
  exact ⟨by first | rfl | (simp; done) | (simp [*]; done), by repeat (first | exact Drawn0.refl _ | apply Drawn0.step | exact ⟨_, rfl⟩)⟩
set_option maxHeartbeats 1000000 in
set_option maxRecDepth 100000 in
theorem spec_v_high1 (v t : Int) (w : World) (h0 : 2 ≤ v) : Calls Try.prog 11 #[.int .i64 1, .int .i64 v, .int .i64 t] w fun e w' => e = .returned (.tuple #[.int .i64 0, .int .i64 0, .bool false]) ∧ Drawn0 w w' := by
  have e0 : decide (v < 0) = false := by simp; omega
  have e1 : decide (0 ≤ v) = true := by simp; omega
  have e2 : decide (2 ≤ v) = true := by simp; omega
  have e3 : decide (v ≤ 1) = false := by simp; omega
  go_enter Try.func11, Try.ntmps11
  go_wp2
  iterate 4 ((all_goals (try go_region)); (all_goals (try go_wp2)))
  all_goals
    go_ret3
    exact ⟨by first | rfl | (simp; done) | (simp [*]; done), by repeat (first | exact Drawn0.refl _ | apply Drawn0.step)⟩
set_option maxHeartbeats 1000000 in
set_option maxRecDepth 100000 in
theorem impl_v_high1 (v t : Int) (w : World) (h0 : 2 ≤ v) : Calls Try.prog 12 #[.int .i64 1, .int .i64 v, .int .i64 t] w fun e w' => e = .returned (.tuple #[.int .i64 0, .int .i64 0, .bool false]) ∧ Drawn0 w w' := by
  have e0 : decide (v < 0) = false := by simp; omega
  have e1 : decide (0 ≤ v) = true := by simp; omega
  have e2 : decide (2 ≤ v) = true := by simp; omega
  have e3 : decide (v ≤ 1) = false := by simp; omega
  go_enter Try.func12, Try.ntmps12
  go_wp2
  iterate 4 ((all_goals (try go_region)); (all_goals (try go_wp2)))
  all_goals
    go_ret3
    exact ⟨by first | rfl | (simp; done) | (simp [*]; done), by repeat (first | exact Drawn0.refl _ | apply Drawn0.step)⟩
set_option maxHeartbeats 1000000 in
set_option maxRecDepth 100000 in
theorem law_v_high1 (v t : Int) (w : World) (h0 : 2 ≤ v) : Calls Try.prog 4 #[.int .i64 1, .int .i64 v, .int .i64 t] w fun e w' => e = .returned (.bool true) ∧ Drawn0 w w' := by
  go_enter Try.func4, Try.ntmps4
  go_wp2_with (first | (go_at_call 11; refine (spec_v_high1 v t _ h0).mono ?_; rintro e w' ⟨rfl, ⟨nd, rfl⟩⟩) | (go_at_call 12; refine (impl_v_high1 v t _ h0).mono ?_; rintro e w' ⟨rfl, ⟨nd, rfl⟩⟩))
  go_ret
  exact ⟨by first | rfl | (simp; done) | (simp [*]; done), by repeat (first | exact Drawn0.refl _ | apply Drawn0.step | exact ⟨_, rfl⟩)⟩
set_option maxHeartbeats 1000000 in
set_option maxRecDepth 100000 in
theorem spec_t_low1 (v t : Int) (w : World) (h0 : 0 ≤ v) (h1 : v < 2) (h2 : t < 0) : Calls Try.prog 11 #[.int .i64 1, .int .i64 v, .int .i64 t] w fun e w' => e = .returned (.tuple #[.int .i64 0, .int .i64 0, .bool false]) ∧ Drawn0 w w' := by
  have e0 : decide (v < 0) = false := by simp; omega
  have e1 : decide (0 ≤ v) = true := by simp; omega
  have e2 : decide (2 ≤ v) = false := by simp; omega
  have e3 : decide (v ≤ 1) = true := by simp; omega
  have e4 : decide (t < 0) = true := by simp; omega
  have e5 : decide (0 ≤ t) = false := by simp; omega
  go_enter Try.func11, Try.ntmps11
  go_wp2
  iterate 4 ((all_goals (try go_region)); (all_goals (try go_wp2)))
  all_goals
    go_ret3
    exact ⟨by first | rfl | (simp; done) | (simp [*]; done), by repeat (first | exact Drawn0.refl _ | apply Drawn0.step)⟩
set_option maxHeartbeats 1000000 in
set_option maxRecDepth 100000 in
theorem impl_t_low1 (v t : Int) (w : World) (h0 : 0 ≤ v) (h1 : v < 2) (h2 : t < 0) : Calls Try.prog 12 #[.int .i64 1, .int .i64 v, .int .i64 t] w fun e w' => e = .returned (.tuple #[.int .i64 0, .int .i64 0, .bool false]) ∧ Drawn0 w w' := by
  have e0 : decide (v < 0) = false := by simp; omega
  have e1 : decide (0 ≤ v) = true := by simp; omega
  have e2 : decide (2 ≤ v) = false := by simp; omega
  have e3 : decide (v ≤ 1) = true := by simp; omega
  have e4 : decide (t < 0) = true := by simp; omega
  have e5 : decide (0 ≤ t) = false := by simp; omega
  go_enter Try.func12, Try.ntmps12
  go_wp2
  iterate 4 ((all_goals (try go_region)); (all_goals (try go_wp2)))
  all_goals
    go_ret3
    exact ⟨by first | rfl | (simp; done) | (simp [*]; done), by repeat (first | exact Drawn0.refl _ | apply Drawn0.step)⟩
set_option maxHeartbeats 1000000 in
set_option maxRecDepth 100000 in
theorem law_t_low1 (v t : Int) (w : World) (h0 : 0 ≤ v) (h1 : v < 2) (h2 : t < 0) : Calls Try.prog 4 #[.int .i64 1, .int .i64 v, .int .i64 t] w fun e w' => e = .returned (.bool true) ∧ Drawn0 w w' := by
  go_enter Try.func4, Try.ntmps4
  go_wp2_with (first | (go_at_call 11; refine (spec_t_low1 v t _ h0 h1 h2).mono ?_; rintro e w' ⟨rfl, ⟨nd, rfl⟩⟩) | (go_at_call 12; refine (impl_t_low1 v t _ h0 h1 h2).mono ?_; rintro e w' ⟨rfl, ⟨nd, rfl⟩⟩))
  go_ret
  exact ⟨by first | rfl | (simp; done) | (simp [*]; done), by repeat (first | exact Drawn0.refl _ | apply Drawn0.step | exact ⟨_, rfl⟩)⟩
set_option maxHeartbeats 1000000 in
set_option maxRecDepth 100000 in
theorem spec_t_high1 (v t : Int) (w : World) (h0 : 0 ≤ v) (h1 : v < 2) (h2 : 1000 < t) : Calls Try.prog 11 #[.int .i64 1, .int .i64 v, .int .i64 t] w fun e w' => e = .returned (.tuple #[.int .i64 0, .int .i64 0, .bool false]) ∧ Drawn0 w w' := by
  have e0 : decide (v < 0) = false := by simp; omega
  have e1 : decide (0 ≤ v) = true := by simp; omega
  have e2 : decide (2 ≤ v) = false := by simp; omega
  have e3 : decide (v ≤ 1) = true := by simp; omega
  have e4 : decide (t < 0) = false := by simp; omega
  have e5 : decide (0 ≤ t) = true := by simp; omega
  have e6 : decide (1000 < t) = true := by simp; omega
  have e7 : decide (t ≤ 1000) = false := by simp; omega
  go_enter Try.func11, Try.ntmps11
  go_wp2
  iterate 4 ((all_goals (try go_region)); (all_goals (try go_wp2)))
  all_goals
    go_ret3
    exact ⟨by first | rfl | (simp; done) | (simp [*]; done), by repeat (first | exact Drawn0.refl _ | apply Drawn0.step)⟩
set_option maxHeartbeats 1000000 in
set_option maxRecDepth 100000 in
theorem impl_t_high1 (v t : Int) (w : World) (h0 : 0 ≤ v) (h1 : v < 2) (h2 : 1000 < t) : Calls Try.prog 12 #[.int .i64 1, .int .i64 v, .int .i64 t] w fun e w' => e = .returned (.tuple #[.int .i64 0, .int .i64 0, .bool false]) ∧ Drawn0 w w' := by
  have e0 : decide (v < 0) = false := by simp; omega
  have e1 : decide (0 ≤ v) = true := by simp; omega
  have e2 : decide (2 ≤ v) = false := by simp; omega
  have e3 : decide (v ≤ 1) = true := by simp; omega
  have e4 : decide (t < 0) = false := by simp; omega
  have e5 : decide (0 ≤ t) = true := by simp; omega
  have e6 : decide (1000 < t) = true := by simp; omega
  have e7 : decide (t ≤ 1000) = false := by simp; omega
  go_enter Try.func12, Try.ntmps12
  go_wp2
  iterate 4 ((all_goals (try go_region)); (all_goals (try go_wp2)))
  all_goals
    go_ret3
    exact ⟨by first | rfl | (simp; done) | (simp [*]; done), by repeat (first | exact Drawn0.refl _ | apply Drawn0.step)⟩
set_option maxHeartbeats 1000000 in
set_option maxRecDepth 100000 in
theorem law_t_high1 (v t : Int) (w : World) (h0 : 0 ≤ v) (h1 : v < 2) (h2 : 1000 < t) : Calls Try.prog 4 #[.int .i64 1, .int .i64 v, .int .i64 t] w fun e w' => e = .returned (.bool true) ∧ Drawn0 w w' := by
  go_enter Try.func4, Try.ntmps4
  go_wp2_with (first | (go_at_call 11; refine (spec_t_high1 v t _ h0 h1 h2).mono ?_; rintro e w' ⟨rfl, ⟨nd, rfl⟩⟩) | (go_at_call 12; refine (impl_t_high1 v t _ h0 h1 h2).mono ?_; rintro e w' ⟨rfl, ⟨nd, rfl⟩⟩))
  go_ret
  exact ⟨by first | rfl | (simp; done) | (simp [*]; done), by repeat (first | exact Drawn0.refl _ | apply Drawn0.step | exact ⟨_, rfl⟩)⟩
set_option maxHeartbeats 1000000 in
set_option maxRecDepth 100000 in
theorem spec_t_ok1 (v t : Int) (w : World) (h0 : 0 ≤ v) (h1 : v < 2) (h2 : 0 ≤ t) (h3 : t ≤ 1000) : Calls Try.prog 11 #[.int .i64 1, .int .i64 v, .int .i64 t] w fun e w' => e = .returned (.tuple #[.int .i64 ((v + t) % 2), .int .i64 ((v + t) / 2), .bool true]) ∧ Drawn0 w w' := by
  have e0 : decide (v < 0) = false := by simp; omega
  have e1 : decide (0 ≤ v) = true := by simp; omega
  have e2 : decide (2 ≤ v) = false := by simp; omega
  have e3 : decide (v ≤ 1) = true := by simp; omega
  have e4 : decide (t < 0) = false := by simp; omega
  have e5 : decide (0 ≤ t) = true := by simp; omega
  have e6 : decide (1000 < t) = false := by simp; omega
  have e7 : decide (t ≤ 1000) = true := by simp; omega
  go_enter Try.func11, Try.ntmps11
  go_wp2
  iterate 4 ((all_goals (try go_region)); (all_goals (try go_wp2)))
  all_goals
    go_ret3
    exact ⟨by first | rfl | (simp; done) | (simp [*]; done), by repeat (first | exact Drawn0.refl _ | apply Drawn0.step)⟩
set_option maxHeartbeats 1000000 in
set_option maxRecDepth 100000 in
theorem impl_t_ok1 (v t : Int) (w : World) (h0 : 0 ≤ v) (h1 : v < 2) (h2 : 0 ≤ t) (h3 : t ≤ 1000) : Calls Try.prog 12 #[.int .i64 1, .int .i64 v, .int .i64 t] w fun e w' => e = .returned (.tuple #[.int .i64 ((v + t) % 2), .int .i64 ((v + t) / 2), .bool true]) ∧ Drawn0 w w' := by
  have e0 : decide (v < 0) = false := by simp; omega
  have e1 : decide (0 ≤ v) = true := by simp; omega
  have e2 : decide (2 ≤ v) = false := by simp; omega
  have e3 : decide (v ≤ 1) = true := by simp; omega
  have e4 : decide (t < 0) = false := by simp; omega
  have e5 : decide (0 ≤ t) = true := by simp; omega
  have e6 : decide (1000 < t) = false := by simp; omega
  have e7 : decide (t ≤ 1000) = true := by simp; omega
  go_enter Try.func12, Try.ntmps12
  go_wp2
  iterate 4 ((all_goals (try go_region)); (all_goals (try go_wp2)))
  all_goals
    go_ret3
    exact ⟨by first | rfl | (simp; done) | (simp [*]; done), by repeat (first | exact Drawn0.refl _ | apply Drawn0.step)⟩
set_option maxHeartbeats 1000000 in
set_option maxRecDepth 100000 in
theorem law_t_ok1 (v t : Int) (w : World) (h0 : 0 ≤ v) (h1 : v < 2) (h2 : 0 ≤ t) (h3 : t ≤ 1000) : Calls Try.prog 4 #[.int .i64 1, .int .i64 v, .int .i64 t] w fun e w' => e = .returned (.bool true) ∧ Drawn0 w w' := by
  go_enter Try.func4, Try.ntmps4
  go_wp2_with (first | (go_at_call 11; refine (spec_t_ok1 v t _ h0 h1 h2 h3).mono ?_; rintro e w' ⟨rfl, ⟨nd, rfl⟩⟩) | (go_at_call 12; refine (impl_t_ok1 v t _ h0 h1 h2 h3).mono ?_; rintro e w' ⟨rfl, ⟨nd, rfl⟩⟩))
  go_ret
  exact ⟨by first | rfl | (simp; done) | (simp [*]; done), by repeat (first | exact Drawn0.refl _ | apply Drawn0.step | exact ⟨_, rfl⟩)⟩
theorem at1 (v t : Int) (w : World) : Calls Try.prog 4 #[.int .i64 1, .int .i64 v, .int .i64 t] w fun e w' => e = .returned (.bool true) ∧ Drawn0 w w' := by
  by_cases h0 : v < 0
  · exact law_v_low1 v t w h0
  by_cases h1 : 2 ≤ v
  · exact law_v_high1 v t w h1
  by_cases h2 : t < 0
  · exact law_t_low1 v t w (by omega) (by omega) h2
  by_cases h3 : 1000 < t
  · exact law_t_high1 v t w (by omega) (by omega) h3
  exact law_t_ok1 v t w (by omega) (by omega) (by omega) (by omega)
set_option maxHeartbeats 1000000 in
set_option maxRecDepth 100000 in
theorem spec_v_low2 (v t : Int) (w : World) (h0 : v < 0) : Calls Try.prog 11 #[.int .i64 2, .int .i64 v, .int .i64 t] w fun e w' => e = .returned (.tuple #[.int .i64 0, .int .i64 0, .bool false]) ∧ Drawn0 w w' := by
  have e0 : decide (v < 0) = true := by simp; omega
  have e1 : decide (0 ≤ v) = false := by simp; omega
  go_enter Try.func11, Try.ntmps11
  go_wp2
  iterate 4 ((all_goals (try go_region)); (all_goals (try go_wp2)))
  all_goals
    go_ret3
    exact ⟨by first | rfl | (simp; done) | (simp [*]; done), by repeat (first | exact Drawn0.refl _ | apply Drawn0.step)⟩
set_option maxHeartbeats 1000000 in
set_option maxRecDepth 100000 in
theorem impl_v_low2 (v t : Int) (w : World) (h0 : v < 0) : Calls Try.prog 12 #[.int .i64 2, .int .i64 v, .int .i64 t] w fun e w' => e = .returned (.tuple #[.int .i64 0, .int .i64 0, .bool false]) ∧ Drawn0 w w' := by
  have e0 : decide (v < 0) = true := by simp; omega
  have e1 : decide (0 ≤ v) = false := by simp; omega
  go_enter Try.func12, Try.ntmps12
  go_wp2
  iterate 4 ((all_goals (try go_region)); (all_goals (try go_wp2)))
  all_goals
    go_ret3
    exact ⟨by first | rfl | (simp; done) | (simp [*]; done), by repeat (first | exact Drawn0.refl _ | apply Drawn0.step)⟩
set_option maxHeartbeats 1000000 in
set_option maxRecDepth 100000 in
theorem law_v_low2 (v t : Int) (w : World) (h0 : v < 0) : Calls Try.prog 4 #[.int .i64 2, .int .i64 v, .int .i64 t] w fun e w' => e = .returned (.bool true) ∧ Drawn0 w w' := by
  go_enter Try.func4, Try.ntmps4
  go_wp2_with (first | (go_at_call 11; refine (spec_v_low2 v t _ h0).mono ?_; rintro e w' ⟨rfl, ⟨nd, rfl⟩⟩) | (go_at_call 12; refine (impl_v_low2 v t _ h0).mono ?_; rintro e w' ⟨rfl, ⟨nd, rfl⟩⟩))
  go_ret
  exact ⟨by first | rfl | (simp; done) | (simp [*]; done), by repeat (first | exact Drawn0.refl _ | apply Drawn0.step | exact ⟨_, rfl⟩)⟩
set_option maxHeartbeats 1000000 in
set_option maxRecDepth 100000 in
theorem spec_v_high2 (v t : Int) (w : World) (h0 : 4 ≤ v) : Calls Try.prog 11 #[.int .i64 2, .int .i64 v, .int .i64 t] w fun e w' => e = .returned (.tuple #[.int .i64 0, .int .i64 0, .bool false]) ∧ Drawn0 w w' := by
  have e0 : decide (v < 0) = false := by simp; omega
  have e1 : decide (0 ≤ v) = true := by simp; omega
  have e2 : decide (4 ≤ v) = true := by simp; omega
  have e3 : decide (v ≤ 3) = false := by simp; omega
  go_enter Try.func11, Try.ntmps11
  go_wp2
  iterate 4 ((all_goals (try go_region)); (all_goals (try go_wp2)))
  all_goals
    go_ret3
    exact ⟨by first | rfl | (simp; done) | (simp [*]; done), by repeat (first | exact Drawn0.refl _ | apply Drawn0.step)⟩
set_option maxHeartbeats 1000000 in
set_option maxRecDepth 100000 in
theorem impl_v_high2 (v t : Int) (w : World) (h0 : 4 ≤ v) : Calls Try.prog 12 #[.int .i64 2, .int .i64 v, .int .i64 t] w fun e w' => e = .returned (.tuple #[.int .i64 0, .int .i64 0, .bool false]) ∧ Drawn0 w w' := by
  have e0 : decide (v < 0) = false := by simp; omega
  have e1 : decide (0 ≤ v) = true := by simp; omega
  have e2 : decide (4 ≤ v) = true := by simp; omega
  have e3 : decide (v ≤ 3) = false := by simp; omega
  go_enter Try.func12, Try.ntmps12
  go_wp2
  iterate 4 ((all_goals (try go_region)); (all_goals (try go_wp2)))
  all_goals
    go_ret3
    exact ⟨by first | rfl | (simp; done) | (simp [*]; done), by repeat (first | exact Drawn0.refl _ | apply Drawn0.step)⟩
set_option maxHeartbeats 1000000 in
set_option maxRecDepth 100000 in
theorem law_v_high2 (v t : Int) (w : World) (h0 : 4 ≤ v) : Calls Try.prog 4 #[.int .i64 2, .int .i64 v, .int .i64 t] w fun e w' => e = .returned (.bool true) ∧ Drawn0 w w' := by
  go_enter Try.func4, Try.ntmps4
  go_wp2_with (first | (go_at_call 11; refine (spec_v_high2 v t _ h0).mono ?_; rintro e w' ⟨rfl, ⟨nd, rfl⟩⟩) | (go_at_call 12; refine (impl_v_high2 v t _ h0).mono ?_; rintro e w' ⟨rfl, ⟨nd, rfl⟩⟩))
  go_ret
  exact ⟨by first | rfl | (simp; done) | (simp [*]; done), by repeat (first | exact Drawn0.refl _ | apply Drawn0.step | exact ⟨_, rfl⟩)⟩
set_option maxHeartbeats 1000000 in
set_option maxRecDepth 100000 in
theorem spec_t_low2 (v t : Int) (w : World) (h0 : 0 ≤ v) (h1 : v < 4) (h2 : t < 0) : Calls Try.prog 11 #[.int .i64 2, .int .i64 v, .int .i64 t] w fun e w' => e = .returned (.tuple #[.int .i64 0, .int .i64 0, .bool false]) ∧ Drawn0 w w' := by
  have e0 : decide (v < 0) = false := by simp; omega
  have e1 : decide (0 ≤ v) = true := by simp; omega
  have e2 : decide (4 ≤ v) = false := by simp; omega
  have e3 : decide (v ≤ 3) = true := by simp; omega
  have e4 : decide (t < 0) = true := by simp; omega
  have e5 : decide (0 ≤ t) = false := by simp; omega
  go_enter Try.func11, Try.ntmps11
  go_wp2
  iterate 4 ((all_goals (try go_region)); (all_goals (try go_wp2)))
  all_goals
    go_ret3
    exact ⟨by first | rfl | (simp; done) | (simp [*]; done), by repeat (first | exact Drawn0.refl _ | apply Drawn0.step)⟩
set_option maxHeartbeats 1000000 in
set_option maxRecDepth 100000 in
theorem impl_t_low2 (v t : Int) (w : World) (h0 : 0 ≤ v) (h1 : v < 4) (h2 : t < 0) : Calls Try.prog 12 #[.int .i64 2, .int .i64 v, .int .i64 t] w fun e w' => e = .returned (.tuple #[.int .i64 0, .int .i64 0, .bool false]) ∧ Drawn0 w w' := by
  have e0 : decide (v < 0) = false := by simp; omega
  have e1 : decide (0 ≤ v) = true := by simp; omega
  have e2 : decide (4 ≤ v) = false := by simp; omega
  have e3 : decide (v ≤ 3) = true := by simp; omega
  have e4 : decide (t < 0) = true := by simp; omega
  have e5 : decide (0 ≤ t) = false := by simp; omega
  go_enter Try.func12, Try.ntmps12
  go_wp2
  iterate 4 ((all_goals (try go_region)); (all_goals (try go_wp2)))
  all_goals
    go_ret3
    exact ⟨by first | rfl | (simp; done) | (simp [*]; done), by repeat (first | exact Drawn0.refl _ | apply Drawn0.step)⟩
set_option maxHeartbeats 1000000 in
set_option maxRecDepth 100000 in
theorem law_t_low2 (v t : Int) (w : World) (h0 : 0 ≤ v) (h1 : v < 4) (h2 : t < 0) : Calls Try.prog 4 #[.int .i64 2, .int .i64 v, .int .i64 t] w fun e w' => e = .returned (.bool true) ∧ Drawn0 w w' := by
  go_enter Try.func4, Try.ntmps4
  go_wp2_with (first | (go_at_call 11; refine (spec_t_low2 v t _ h0 h1 h2).mono ?_; rintro e w' ⟨rfl, ⟨nd, rfl⟩⟩) | (go_at_call 12; refine (impl_t_low2 v t _ h0 h1 h2).mono ?_; rintro e w' ⟨rfl, ⟨nd, rfl⟩⟩))
  go_ret
  exact ⟨by first | rfl | (simp; done) | (simp [*]; done), by repeat (first | exact Drawn0.refl _ | apply Drawn0.step | exact ⟨_, rfl⟩)⟩
set_option maxHeartbeats 1000000 in
set_option maxRecDepth 100000 in
theorem spec_t_high2 (v t : Int) (w : World) (h0 : 0 ≤ v) (h1 : v < 4) (h2 : 1000 < t) : Calls Try.prog 11 #[.int .i64 2, .int .i64 v, .int .i64 t] w fun e w' => e = .returned (.tuple #[.int .i64 0, .int .i64 0, .bool false]) ∧ Drawn0 w w' := by
  have e0 : decide (v < 0) = false := by simp; omega
  have e1 : decide (0 ≤ v) = true := by simp; omega
  have e2 : decide (4 ≤ v) = false := by simp; omega
  have e3 : decide (v ≤ 3) = true := by simp; omega
  have e4 : decide (t < 0) = false := by simp; omega
  have e5 : decide (0 ≤ t) = true := by simp; omega
  have e6 : decide (1000 < t) = true := by simp; omega
  have e7 : decide (t ≤ 1000) = false := by simp; omega
  go_enter Try.func11, Try.ntmps11
  go_wp2
  iterate 4 ((all_goals (try go_region)); (all_goals (try go_wp2)))
  all_goals
    go_ret3
    exact ⟨by first | rfl | (simp; done) | (simp [*]; done), by repeat (first | exact Drawn0.refl _ | apply Drawn0.step)⟩
set_option maxHeartbeats 1000000 in
set_option maxRecDepth 100000 in
theorem impl_t_high2 (v t : Int) (w : World) (h0 : 0 ≤ v) (h1 : v < 4) (h2 : 1000 < t) : Calls Try.prog 12 #[.int .i64 2, .int .i64 v, .int .i64 t] w fun e w' => e = .returned (.tuple #[.int .i64 0, .int .i64 0, .bool false]) ∧ Drawn0 w w' := by
  have e0 : decide (v < 0) = false := by simp; omega
  have e1 : decide (0 ≤ v) = true := by simp; omega
  have e2 : decide (4 ≤ v) = false := by simp; omega
  have e3 : decide (v ≤ 3) = true := by simp; omega
  have e4 : decide (t < 0) = false := by simp; omega
  have e5 : decide (0 ≤ t) = true := by simp; omega
  have e6 : decide (1000 < t) = true := by simp; omega
  have e7 : decide (t ≤ 1000) = false := by simp; omega
  go_enter Try.func12, Try.ntmps12
  go_wp2
  iterate 4 ((all_goals (try go_region)); (all_goals (try go_wp2)))
  all_goals
    go_ret3
    exact ⟨by first | rfl | (simp; done) | (simp [*]; done), by repeat (first | exact Drawn0.refl _ | apply Drawn0.step)⟩
set_option maxHeartbeats 1000000 in
set_option maxRecDepth 100000 in
theorem law_t_high2 (v t : Int) (w : World) (h0 : 0 ≤ v) (h1 : v < 4) (h2 : 1000 < t) : Calls Try.prog 4 #[.int .i64 2, .int .i64 v, .int .i64 t] w fun e w' => e = .returned (.bool true) ∧ Drawn0 w w' := by
  go_enter Try.func4, Try.ntmps4
  go_wp2_with (first | (go_at_call 11; refine (spec_t_high2 v t _ h0 h1 h2).mono ?_; rintro e w' ⟨rfl, ⟨nd, rfl⟩⟩) | (go_at_call 12; refine (impl_t_high2 v t _ h0 h1 h2).mono ?_; rintro e w' ⟨rfl, ⟨nd, rfl⟩⟩))
  go_ret
  exact ⟨by first | rfl | (simp; done) | (simp [*]; done), by repeat (first | exact Drawn0.refl _ | apply Drawn0.step | exact ⟨_, rfl⟩)⟩
set_option maxHeartbeats 1000000 in
set_option maxRecDepth 100000 in
theorem spec_t_ok2 (v t : Int) (w : World) (h0 : 0 ≤ v) (h1 : v < 4) (h2 : 0 ≤ t) (h3 : t ≤ 1000) : Calls Try.prog 11 #[.int .i64 2, .int .i64 v, .int .i64 t] w fun e w' => e = .returned (.tuple #[.int .i64 ((v + t) % 4), .int .i64 ((v + t) / 4), .bool true]) ∧ Drawn0 w w' := by
  have e0 : decide (v < 0) = false := by simp; omega
  have e1 : decide (0 ≤ v) = true := by simp; omega
  have e2 : decide (4 ≤ v) = false := by simp; omega
  have e3 : decide (v ≤ 3) = true := by simp; omega
  have e4 : decide (t < 0) = false := by simp; omega
  have e5 : decide (0 ≤ t) = true := by simp; omega
  have e6 : decide (1000 < t) = false := by simp; omega
  have e7 : decide (t ≤ 1000) = true := by simp; omega
  go_enter Try.func11, Try.ntmps11
  go_wp2
  iterate 4 ((all_goals (try go_region)); (all_goals (try go_wp2)))
  all_goals
    go_ret3
    exact ⟨by first | rfl | (simp; done) | (simp [*]; done), by repeat (first | exact Drawn0.refl _ | apply Drawn0.step)⟩
set_option maxHeartbeats 1000000 in
set_option maxRecDepth 100000 in
theorem impl_t_ok2 (v t : Int) (w : World) (h0 : 0 ≤ v) (h1 : v < 4) (h2 : 0 ≤ t) (h3 : t ≤ 1000) : Calls Try.prog 12 #[.int .i64 2, .int .i64 v, .int .i64 t] w fun e w' => e = .returned (.tuple #[.int .i64 ((v + t) % 4), .int .i64 ((v + t) / 4), .bool true]) ∧ Drawn0 w w' := by
  have e0 : decide (v < 0) = false := by simp; omega
  have e1 : decide (0 ≤ v) = true := by simp; omega
  have e2 : decide (4 ≤ v) = false := by simp; omega
  have e3 : decide (v ≤ 3) = true := by simp; omega
  have e4 : decide (t < 0) = false := by simp; omega
  have e5 : decide (0 ≤ t) = true := by simp; omega
  have e6 : decide (1000 < t) = false := by simp; omega
  have e7 : decide (t ≤ 1000) = true := by simp; omega
  go_enter Try.func12, Try.ntmps12
  go_wp2
  iterate 4 ((all_goals (try go_region)); (all_goals (try go_wp2)))
  all_goals
    go_ret3
    exact ⟨by first | rfl | (simp; done) | (simp [*]; done), by repeat (first | exact Drawn0.refl _ | apply Drawn0.step)⟩
set_option maxHeartbeats 1000000 in
set_option maxRecDepth 100000 in
theorem law_t_ok2 (v t : Int) (w : World) (h0 : 0 ≤ v) (h1 : v < 4) (h2 : 0 ≤ t) (h3 : t ≤ 1000) : Calls Try.prog 4 #[.int .i64 2, .int .i64 v, .int .i64 t] w fun e w' => e = .returned (.bool true) ∧ Drawn0 w w' := by
  go_enter Try.func4, Try.ntmps4
  go_wp2_with (first | (go_at_call 11; refine (spec_t_ok2 v t _ h0 h1 h2 h3).mono ?_; rintro e w' ⟨rfl, ⟨nd, rfl⟩⟩) | (go_at_call 12; refine (impl_t_ok2 v t _ h0 h1 h2 h3).mono ?_; rintro e w' ⟨rfl, ⟨nd, rfl⟩⟩))
  go_ret
  exact ⟨by first | rfl | (simp; done) | (simp [*]; done), by repeat (first | exact Drawn0.refl _ | apply Drawn0.step | exact ⟨_, rfl⟩)⟩
theorem at2 (v t : Int) (w : World) : Calls Try.prog 4 #[.int .i64 2, .int .i64 v, .int .i64 t] w fun e w' => e = .returned (.bool true) ∧ Drawn0 w w' := by
  by_cases h0 : v < 0
  · exact law_v_low2 v t w h0
  by_cases h1 : 4 ≤ v
  · exact law_v_high2 v t w h1
  by_cases h2 : t < 0
  · exact law_t_low2 v t w (by omega) (by omega) h2
  by_cases h3 : 1000 < t
  · exact law_t_high2 v t w (by omega) (by omega) h3
  exact law_t_ok2 v t w (by omega) (by omega) (by omega) (by omega)
set_option maxHeartbeats 1000000 in
set_option maxRecDepth 100000 in
theorem spec_v_low3 (v t : Int) (w : World) (h0 : v < 0) : Calls Try.prog 11 #[.int .i64 3, .int .i64 v, .int .i64 t] w fun e w' => e = .returned (.tuple #[.int .i64 0, .int .i64 0, .bool false]) ∧ Drawn0 w w' := by
  have e0 : decide (v < 0) = true := by simp; omega
  have e1 : decide (0 ≤ v) = false := by simp; omega
  go_enter Try.func11, Try.ntmps11
  go_wp2
  iterate 4 ((all_goals (try go_region)); (all_goals (try go_wp2)))
  all_goals
    go_ret3
    exact ⟨by first | rfl | (simp; done) | (simp [*]; done), by repeat (first | exact Drawn0.refl _ | apply Drawn0.step)⟩
set_option maxHeartbeats 1000000 in
set_option maxRecDepth 100000 in
theorem impl_v_low3 (v t : Int) (w : World) (h0 : v < 0) : Calls Try.prog 12 #[.int .i64 3, .int .i64 v, .int .i64 t] w fun e w' => e = .returned (.tuple #[.int .i64 0, .int .i64 0, .bool false]) ∧ Drawn0 w w' := by
  have e0 : decide (v < 0) = true := by simp; omega
  have e1 : decide (0 ≤ v) = false := by simp; omega
  go_enter Try.func12, Try.ntmps12
  go_wp2
  iterate 4 ((all_goals (try go_region)); (all_goals (try go_wp2)))
  all_goals
    go_ret3
    exact ⟨by first | rfl | (simp; done) | (simp [*]; done), by repeat (first | exact Drawn0.refl _ | apply Drawn0.step)⟩
set_option maxHeartbeats 1000000 in
set_option maxRecDepth 100000 in
theorem law_v_low3 (v t : Int) (w : World) (h0 : v < 0) : Calls Try.prog 4 #[.int .i64 3, .int .i64 v, .int .i64 t] w fun e w' => e = .returned (.bool true) ∧ Drawn0 w w' := by
  go_enter Try.func4, Try.ntmps4
  go_wp2_with (first | (go_at_call 11; refine (spec_v_low3 v t _ h0).mono ?_; rintro e w' ⟨rfl, ⟨nd, rfl⟩⟩) | (go_at_call 12; refine (impl_v_low3 v t _ h0).mono ?_; rintro e w' ⟨rfl, ⟨nd, rfl⟩⟩))
  go_ret
  exact ⟨by first | rfl | (simp; done) | (simp [*]; done), by repeat (first | exact Drawn0.refl _ | apply Drawn0.step | exact ⟨_, rfl⟩)⟩
set_option maxHeartbeats 1000000 in
set_option maxRecDepth 100000 in
theorem spec_v_high3 (v t : Int) (w : World) (h0 : 8 ≤ v) : Calls Try.prog 11 #[.int .i64 3, .int .i64 v, .int .i64 t] w fun e w' => e = .returned (.tuple #[.int .i64 0, .int .i64 0, .bool false]) ∧ Drawn0 w w' := by
  have e0 : decide (v < 0) = false := by simp; omega
  have e1 : decide (0 ≤ v) = true := by simp; omega
  have e2 : decide (8 ≤ v) = true := by simp; omega
  have e3 : decide (v ≤ 7) = false := by simp; omega
  go_enter Try.func11, Try.ntmps11
  go_wp2
  iterate 4 ((all_goals (try go_region)); (all_goals (try go_wp2)))
  all_goals
    go_ret3
    exact ⟨by first | rfl | (simp; done) | (simp [*]; done), by repeat (first | exact Drawn0.refl _ | apply Drawn0.step)⟩
set_option maxHeartbeats 1000000 in
set_option maxRecDepth 100000 in
theorem impl_v_high3 (v t : Int) (w : World) (h0 : 8 ≤ v) : Calls Try.prog 12 #[.int .i64 3, .int .i64 v, .int .i64 t] w fun e w' => e = .returned (.tuple #[.int .i64 0, .int .i64 0, .bool false]) ∧ Drawn0 w w' := by
  have e0 : decide (v < 0) = false := by simp; omega
  have e1 : decide (0 ≤ v) = true := by simp; omega
  have e2 : decide (8 ≤ v) = true := by simp; omega
  have e3 : decide (v ≤ 7) = false := by simp; omega
  go_enter Try.func12, Try.ntmps12
  go_wp2
  iterate 4 ((all_goals (try go_region)); (all_goals (try go_wp2)))
  all_goals
    go_ret3
    exact ⟨by first | rfl | (simp; done) | (simp [*]; done), by repeat (first | exact Drawn0.refl _ | apply Drawn0.step)⟩
set_option maxHeartbeats 1000000 in
set_option maxRecDepth 100000 in
theorem law_v_high3 (v t : Int) (w : World) (h0 : 8 ≤ v) : Calls Try.prog 4 #[.int .i64 3, .int .i64 v, .int .i64 t] w fun e w' => e = .returned (.bool true) ∧ Drawn0 w w' := by
  go_enter Try.func4, Try.ntmps4
  go_wp2_with (first | (go_at_call 11; refine (spec_v_high3 v t _ h0).mono ?_; rintro e w' ⟨rfl, ⟨nd, rfl⟩⟩) | (go_at_call 12; refine (impl_v_high3 v t _ h0).mono ?_; rintro e w' ⟨rfl, ⟨nd, rfl⟩⟩))
  go_ret
  exact ⟨by first | rfl | (simp; done) | (simp [*]; done), by repeat (first | exact Drawn0.refl _ | apply Drawn0.step | exact ⟨_, rfl⟩)⟩
set_option maxHeartbeats 1000000 in
set_option maxRecDepth 100000 in
theorem spec_t_low3 (v t : Int) (w : World) (h0 : 0 ≤ v) (h1 : v < 8) (h2 : t < 0) : Calls Try.prog 11 #[.int .i64 3, .int .i64 v, .int .i64 t] w fun e w' => e = .returned (.tuple #[.int .i64 0, .int .i64 0, .bool false]) ∧ Drawn0 w w' := by
  have e0 : decide (v < 0) = false := by simp; omega
  have e1 : decide (0 ≤ v) = true := by simp; omega
  have e2 : decide (8 ≤ v) = false := by simp; omega
  have e3 : decide (v ≤ 7) = true := by simp; omega
  have e4 : decide (t < 0) = true := by simp; omega
  have e5 : decide (0 ≤ t) = false := by simp; omega
  go_enter Try.func11, Try.ntmps11
  go_wp2
  iterate 4 ((all_goals (try go_region)); (all_goals (try go_wp2)))
  all_goals
    go_ret3
    exact ⟨by first | rfl | (simp; done) | (simp [*]; done), by repeat (first | exact Drawn0.refl _ | apply Drawn0.step)⟩
set_option maxHeartbeats 1000000 in
set_option maxRecDepth 100000 in
theorem impl_t_low3 (v t : Int) (w : World) (h0 : 0 ≤ v) (h1 : v < 8) (h2 : t < 0) : Calls Try.prog 12 #[.int .i64 3, .int .i64 v, .int .i64 t] w fun e w' => e = .returned (.tuple #[.int .i64 0, .int .i64 0, .bool false]) ∧ Drawn0 w w' := by
  have e0 : decide (v < 0) = false := by simp; omega
  have e1 : decide (0 ≤ v) = true := by simp; omega
  have e2 : decide (8 ≤ v) = false := by simp; omega
  have e3 : decide (v ≤ 7) = true := by simp; omega
  have e4 : decide (t < 0) = true := by simp; omega
  have e5 : decide (0 ≤ t) = false := by simp; omega
  go_enter Try.func12, Try.ntmps12
  go_wp2
  iterate 4 ((all_goals (try go_region)); (all_goals (try go_wp2)))
  all_goals
    go_ret3
    exact ⟨by first | rfl | (simp; done) | (simp [*]; done), by repeat (first | exact Drawn0.refl _ | apply Drawn0.step)⟩
set_option maxHeartbeats 1000000 in
set_option maxRecDepth 100000 in
theorem law_t_low3 (v t : Int) (w : World) (h0 : 0 ≤ v) (h1 : v < 8) (h2 : t < 0) : Calls Try.prog 4 #[.int .i64 3, .int .i64 v, .int .i64 t] w fun e w' => e = .returned (.bool true) ∧ Drawn0 w w' := by
  go_enter Try.func4, Try.ntmps4
  go_wp2_with (first | (go_at_call 11; refine (spec_t_low3 v t _ h0 h1 h2).mono ?_; rintro e w' ⟨rfl, ⟨nd, rfl⟩⟩) | (go_at_call 12; refine (impl_t_low3 v t _ h0 h1 h2).mono ?_; rintro e w' ⟨rfl, ⟨nd, rfl⟩⟩))
  go_ret
  exact ⟨by first | rfl | (simp; done) | (simp [*]; done), by repeat (first | exact Drawn0.refl _ | apply Drawn0.step | exact ⟨_, rfl⟩)⟩
set_option maxHeartbeats 1000000 in
set_option maxRecDepth 100000 in
theorem spec_t_high3 (v t : Int) (w : World) (h0 : 0 ≤ v) (h1 : v < 8) (h2 : 1000 < t) : Calls Try.prog 11 #[.int .i64 3, .int .i64 v, .int .i64 t] w fun e w' => e = .returned (.tuple #[.int .i64 0, .int .i64 0, .bool false]) ∧ Drawn0 w w' := by
  have e0 : decide (v < 0) = false := by simp; omega
  have e1 : decide (0 ≤ v) = true := by simp; omega
  have e2 : decide (8 ≤ v) = false := by simp; omega
  have e3 : decide (v ≤ 7) = true := by simp; omega
  have e4 : decide (t < 0) = false := by simp; omega
  have e5 : decide (0 ≤ t) = true := by simp; omega
  have e6 : decide (1000 < t) = true := by simp; omega
  have e7 : decide (t ≤ 1000) = false := by simp; omega
  go_enter Try.func11, Try.ntmps11
  go_wp2
  iterate 4 ((all_goals (try go_region)); (all_goals (try go_wp2)))
  all_goals
    go_ret3
    exact ⟨by first | rfl | (simp; done) | (simp [*]; done), by repeat (first | exact Drawn0.refl _ | apply Drawn0.step)⟩
set_option maxHeartbeats 1000000 in
set_option maxRecDepth 100000 in
theorem impl_t_high3 (v t : Int) (w : World) (h0 : 0 ≤ v) (h1 : v < 8) (h2 : 1000 < t) : Calls Try.prog 12 #[.int .i64 3, .int .i64 v, .int .i64 t] w fun e w' => e = .returned (.tuple #[.int .i64 0, .int .i64 0, .bool false]) ∧ Drawn0 w w' := by
  have e0 : decide (v < 0) = false := by simp; omega
  have e1 : decide (0 ≤ v) = true := by simp; omega
  have e2 : decide (8 ≤ v) = false := by simp; omega
  have e3 : decide (v ≤ 7) = true := by simp; omega
  have e4 : decide (t < 0) = false := by simp; omega
  have e5 : decide (0 ≤ t) = true := by simp; omega
  have e6 : decide (1000 < t) = true := by simp; omega
  have e7 : decide (t ≤ 1000) = false := by simp; omega
  go_enter Try.func12, Try.ntmps12
  go_wp2
  iterate 4 ((all_goals (try go_region)); (all_goals (try go_wp2)))
  all_goals
    go_ret3
    exact ⟨by first | rfl | (simp; done) | (simp [*]; done), by repeat (first | exact Drawn0.refl _ | apply Drawn0.step)⟩
set_option maxHeartbeats 1000000 in
set_option maxRecDepth 100000 in
theorem law_t_high3 (v t : Int) (w : World) (h0 : 0 ≤ v) (h1 : v < 8) (h2 : 1000 < t) : Calls Try.prog 4 #[.int .i64 3, .int .i64 v, .int .i64 t] w fun e w' => e = .returned (.bool true) ∧ Drawn0 w w' := by
  go_enter Try.func4, Try.ntmps4
  go_wp2_with (first | (go_at_call 11; refine (spec_t_high3 v t _ h0 h1 h2).mono ?_; rintro e w' ⟨rfl, ⟨nd, rfl⟩⟩) | (go_at_call 12; refine (impl_t_high3 v t _ h0 h1 h2).mono ?_; rintro e w' ⟨rfl, ⟨nd, rfl⟩⟩))
  go_ret
  exact ⟨by first | rfl | (simp; done) | (simp [*]; done), by repeat (first | exact Drawn0.refl _ | apply Drawn0.step | exact ⟨_, rfl⟩)⟩
set_option maxHeartbeats 1000000 in
set_option maxRecDepth 100000 in
theorem spec_t_ok3 (v t : Int) (w : World) (h0 : 0 ≤ v) (h1 : v < 8) (h2 : 0 ≤ t) (h3 : t ≤ 1000) : Calls Try.prog 11 #[.int .i64 3, .int .i64 v, .int .i64 t] w fun e w' => e = .returned (.tuple #[.int .i64 ((v + t) % 8), .int .i64 ((v + t) / 8), .bool true]) ∧ Drawn0 w w' := by
  have e0 : decide (v < 0) = false := by simp; omega
  have e1 : decide (0 ≤ v) = true := by simp; omega
  have e2 : decide (8 ≤ v) = false := by simp; omega
  have e3 : decide (v ≤ 7) = true := by simp; omega
  have e4 : decide (t < 0) = false := by simp; omega
  have e5 : decide (0 ≤ t) = true := by simp; omega
  have e6 : decide (1000 < t) = false := by simp; omega
  have e7 : decide (t ≤ 1000) = true := by simp; omega
  go_enter Try.func11, Try.ntmps11
  go_wp2
  iterate 4 ((all_goals (try go_region)); (all_goals (try go_wp2)))
  all_goals
    go_ret3
    exact ⟨by first | rfl | (simp; done) | (simp [*]; done), by repeat (first | exact Drawn0.refl _ | apply Drawn0.step)⟩
set_option maxHeartbeats 1000000 in
set_option maxRecDepth 100000 in
theorem impl_t_ok3 (v t : Int) (w : World) (h0 : 0 ≤ v) (h1 : v < 8) (h2 : 0 ≤ t) (h3 : t ≤ 1000) : Calls Try.prog 12 #[.int .i64 3, .int .i64 v, .int .i64 t] w fun e w' => e = .returned (.tuple #[.int .i64 ((v + t) % 8), .int .i64 ((v + t) / 8), .bool true]) ∧ Drawn0 w w' := by
  have e0 : decide (v < 0) = false := by simp; omega
  have e1 : decide (0 ≤ v) = true := by simp; omega
  have e2 : decide (8 ≤ v) = false := by simp; omega
  have e3 : decide (v ≤ 7) = true := by simp; omega
  have e4 : decide (t < 0) = false := by simp; omega
  have e5 : decide (0 ≤ t) = true := by simp; omega
  have e6 : decide (1000 < t) = false := by simp; omega
  have e7 : decide (t ≤ 1000) = true := by simp; omega
  go_enter Try.func12, Try.ntmps12
  go_wp2
  iterate 4 ((all_goals (try go_region)); (all_goals (try go_wp2)))
  all_goals
    go_ret3
    exact ⟨by first | rfl | (simp; done) | (simp [*]; done), by repeat (first | exact Drawn0.refl _ | apply Drawn0.step)⟩
set_option maxHeartbeats 1000000 in
set_option maxRecDepth 100000 in
theorem law_t_ok3 (v t : Int) (w : World) (h0 : 0 ≤ v) (h1 : v < 8) (h2 : 0 ≤ t) (h3 : t ≤ 1000) : Calls Try.prog 4 #[.int .i64 3, .int .i64 v, .int .i64 t] w fun e w' => e = .returned (.bool true) ∧ Drawn0 w w' := by
  go_enter Try.func4, Try.ntmps4
  go_wp2_with (first | (go_at_call 11; refine (spec_t_ok3 v t _ h0 h1 h2 h3).mono ?_; rintro e w' ⟨rfl, ⟨nd, rfl⟩⟩) | (go_at_call 12; refine (impl_t_ok3 v t _ h0 h1 h2 h3).mono ?_; rintro e w' ⟨rfl, ⟨nd, rfl⟩⟩))
  go_ret
  exact ⟨by first | rfl | (simp; done) | (simp [*]; done), by repeat (first | exact Drawn0.refl _ | apply Drawn0.step | exact ⟨_, rfl⟩)⟩
theorem at3 (v t : Int) (w : World) : Calls Try.prog 4 #[.int .i64 3, .int .i64 v, .int .i64 t] w fun e w' => e = .returned (.bool true) ∧ Drawn0 w w' := by
  by_cases h0 : v < 0
  · exact law_v_low3 v t w h0
  by_cases h1 : 8 ≤ v
  · exact law_v_high3 v t w h1
  by_cases h2 : t < 0
  · exact law_t_low3 v t w (by omega) (by omega) h2
  by_cases h3 : 1000 < t
  · exact law_t_high3 v t w (by omega) (by omega) h3
  exact law_t_ok3 v t w (by omega) (by omega) (by omega) (by omega)
set_option maxHeartbeats 1000000 in
set_option maxRecDepth 100000 in
theorem spec_v_low4 (v t : Int) (w : World) (h0 : v < 0) : Calls Try.prog 11 #[.int .i64 4, .int .i64 v, .int .i64 t] w fun e w' => e = .returned (.tuple #[.int .i64 0, .int .i64 0, .bool false]) ∧ Drawn0 w w' := by
  have e0 : decide (v < 0) = true := by simp; omega
  have e1 : decide (0 ≤ v) = false := by simp; omega
  go_enter Try.func11, Try.ntmps11
  go_wp2
  iterate 4 ((all_goals (try go_region)); (all_goals (try go_wp2)))
  all_goals
    go_ret3
    exact ⟨by first | rfl | (simp; done) | (simp [*]; done), by repeat (first | exact Drawn0.refl _ | apply Drawn0.step)⟩
set_option maxHeartbeats 1000000 in
set_option maxRecDepth 100000 in
theorem impl_v_low4 (v t : Int) (w : World) (h0 : v < 0) : Calls Try.prog 12 #[.int .i64 4, .int .i64 v, .int .i64 t] w fun e w' => e = .returned (.tuple #[.int .i64 0, .int .i64 0, .bool false]) ∧ Drawn0 w w' := by
  have e0 : decide (v < 0) = true := by simp; omega
  have e1 : decide (0 ≤ v) = false := by simp; omega
  go_enter Try.func12, Try.ntmps12
  go_wp2
  iterate 4 ((all_goals (try go_region)); (all_goals (try go_wp2)))
  all_goals
    go_ret3
    exact ⟨by first | rfl | (simp; done) | (simp [*]; done), by repeat (first | exact Drawn0.refl _ | apply Drawn0.step)⟩
set_option maxHeartbeats 1000000 in
set_option maxRecDepth 100000 in
theorem law_v_low4 (v t : Int) (w : World) (h0 : v < 0) : Calls Try.prog 4 #[.int .i64 4, .int .i64 v, .int .i64 t] w fun e w' => e = .returned (.bool true) ∧ Drawn0 w w' := by
  go_enter Try.func4, Try.ntmps4
  go_wp2_with (first | (go_at_call 11; refine (spec_v_low4 v t _ h0).mono ?_; rintro e w' ⟨rfl, ⟨nd, rfl⟩⟩) | (go_at_call 12; refine (impl_v_low4 v t _ h0).mono ?_; rintro e w' ⟨rfl, ⟨nd, rfl⟩⟩))
  go_ret
  exact ⟨by first | rfl | (simp; done) | (simp [*]; done), by repeat (first | exact Drawn0.refl _ | apply Drawn0.step | exact ⟨_, rfl⟩)⟩
set_option maxHeartbeats 1000000 in
set_option maxRecDepth 100000 in
theorem spec_v_high4 (v t : Int) (w : World) (h0 : 16 ≤ v) : Calls Try.prog 11 #[.int .i64 4, .int .i64 v, .int .i64 t] w fun e w' => e = .returned (.tuple #[.int .i64 0, .int .i64 0, .bool false]) ∧ Drawn0 w w' := by
  have e0 : decide (v < 0) = false := by simp; omega
  have e1 : decide (0 ≤ v) = true := by simp; omega
  have e2 : decide (16 ≤ v) = true := by simp; omega
  have e3 : decide (v ≤ 15) = false := by simp; omega
  go_enter Try.func11, Try.ntmps11
  go_wp2
  iterate 4 ((all_goals (try go_region)); (all_goals (try go_wp2)))
  all_goals
    go_ret3
    exact ⟨by first | rfl | (simp; done) | (simp [*]; done), by repeat (first | exact Drawn0.refl _ | apply Drawn0.step)⟩
set_option maxHeartbeats 1000000 in
set_option maxRecDepth 100000 in
theorem impl_v_high4 (v t : Int) (w : World) (h0 : 16 ≤ v) : Calls Try.prog 12 #[.int .i64 4, .int .i64 v, .int .i64 t] w fun e w' => e = .returned (.tuple #[.int .i64 0, .int .i64 0, .bool false]) ∧ Drawn0 w w' := by
  have e0 : decide (v < 0) = false := by simp; omega
  have e1 : decide (0 ≤ v) = true := by simp; omega
  have e2 : decide (16 ≤ v) = true := by simp; omega
  have e3 : decide (v ≤ 15) = false := by simp; omega
  go_enter Try.func12, Try.ntmps12
  go_wp2
  iterate 4 ((all_goals (try go_region)); (all_goals (try go_wp2)))
  all_goals
    go_ret3
    exact ⟨by first | rfl | (simp; done) | (simp [*]; done), by repeat (first | exact Drawn0.refl _ | apply Drawn0.step)⟩
set_option maxHeartbeats 1000000 in
set_option maxRecDepth 100000 in
theorem law_v_high4 (v t : Int) (w : World) (h0 : 16 ≤ v) : Calls Try.prog 4 #[.int .i64 4, .int .i64 v, .int .i64 t] w fun e w' => e = .returned (.bool true) ∧ Drawn0 w w' := by
  go_enter Try.func4, Try.ntmps4
  go_wp2_with (first | (go_at_call 11; refine (spec_v_high4 v t _ h0).mono ?_; rintro e w' ⟨rfl, ⟨nd, rfl⟩⟩) | (go_at_call 12; refine (impl_v_high4 v t _ h0).mono ?_; rintro e w' ⟨rfl, ⟨nd, rfl⟩⟩))
  go_ret
  exact ⟨by first | rfl | (simp; done) | (simp [*]; done), by repeat (first | exact Drawn0.refl _ | apply Drawn0.step | exact ⟨_, rfl⟩)⟩
set_option maxHeartbeats 1000000 in
set_option maxRecDepth 100000 in
theorem spec_t_low4 (v t : Int) (w : World) (h0 : 0 ≤ v) (h1 : v < 16) (h2 : t < 0) : Calls Try.prog 11 #[.int .i64 4, .int .i64 v, .int .i64 t] w fun e w' => e = .returned (.tuple #[.int .i64 0, .int .i64 0, .bool false]) ∧ Drawn0 w w' := by
  have e0 : decide (v < 0) = false := by simp; omega
  have e1 : decide (0 ≤ v) = true := by simp; omega
  have e2 : decide (16 ≤ v) = false := by simp; omega
  have e3 : decide (v ≤ 15) = true := by simp; omega
  have e4 : decide (t < 0) = true := by simp; omega
  have e5 : decide (0 ≤ t) = false := by simp; omega
  go_enter Try.func11, Try.ntmps11
  go_wp2
  iterate 4 ((all_goals (try go_region)); (all_goals (try go_wp2)))
  all_goals
    go_ret3
    exact ⟨by first | rfl | (simp; done) | (simp [*]; done), by repeat (first | exact Drawn0.refl _ | apply Drawn0.step)⟩
set_option maxHeartbeats 1000000 in
set_option maxRecDepth 100000 in
theorem impl_t_low4 (v t : Int) (w : World) (h0 : 0 ≤ v) (h1 : v < 16) (h2 : t < 0) : Calls Try.prog 12 #[.int .i64 4, .int .i64 v, .int .i64 t] w fun e w' => e = .returned (.tuple #[.int .i64 0, .int .i64 0, .bool false]) ∧ Drawn0 w w' := by
  have e0 : decide (v < 0) = false := by simp; omega
  have e1 : decide (0 ≤ v) = true := by simp; omega
  have e2 : decide (16 ≤ v) = false := by simp; omega
  have e3 : decide (v ≤ 15) = true := by simp; omega
  have e4 : decide (t < 0) = true := by simp; omega
  have e5 : decide (0 ≤ t) = false := by simp; omega
  go_enter Try.func12, Try.ntmps12
  go_wp2
  iterate 4 ((all_goals (try go_region)); (all_goals (try go_wp2)))
  all_goals
    go_ret3
    exact ⟨by first | rfl | (simp; done) | (simp [*]; done), by repeat (first | exact Drawn0.refl _ | apply Drawn0.step)⟩
set_option maxHeartbeats 1000000 in
set_option maxRecDepth 100000 in
theorem law_t_low4 (v t : Int) (w : World) (h0 : 0 ≤ v) (h1 : v < 16) (h2 : t < 0) : Calls Try.prog 4 #[.int .i64 4, .int .i64 v, .int .i64 t] w fun e w' => e = .returned (.bool true) ∧ Drawn0 w w' := by
  go_enter Try.func4, Try.ntmps4
  go_wp2_with (first | (go_at_call 11; refine (spec_t_low4 v t _ h0 h1 h2).mono ?_; rintro e w' ⟨rfl, ⟨nd, rfl⟩⟩) | (go_at_call 12; refine (impl_t_low4 v t _ h0 h1 h2).mono ?_; rintro e w' ⟨rfl, ⟨nd, rfl⟩⟩))
  go_ret
  exact ⟨by first | rfl | (simp; done) | (simp [*]; done), by repeat (first | exact Drawn0.refl _ | apply Drawn0.step | exact ⟨_, rfl⟩)⟩
set_option maxHeartbeats 1000000 in
set_option maxRecDepth 100000 in
theorem spec_t_high4 (v t : Int) (w : World) (h0 : 0 ≤ v) (h1 : v < 16) (h2 : 1000 < t) : Calls Try.prog 11 #[.int .i64 4, .int .i64 v, .int .i64 t] w fun e w' => e = .returned (.tuple #[.int .i64 0, .int .i64 0, .bool false]) ∧ Drawn0 w w' := by
  have e0 : decide (v < 0) = false := by simp; omega
  have e1 : decide (0 ≤ v) = true := by simp; omega
  have e2 : decide (16 ≤ v) = false := by simp; omega
  have e3 : decide (v ≤ 15) = true := by simp; omega
  have e4 : decide (t < 0) = false := by simp; omega
  have e5 : decide (0 ≤ t) = true := by simp; omega
  have e6 : decide (1000 < t) = true := by simp; omega
  have e7 : decide (t ≤ 1000) = false := by simp; omega
  go_enter Try.func11, Try.ntmps11
  go_wp2
  iterate 4 ((all_goals (try go_region)); (all_goals (try go_wp2)))
  all_goals
    go_ret3
    exact ⟨by first | rfl | (simp; done) | (simp [*]; done), by repeat (first | exact Drawn0.refl _ | apply Drawn0.step)⟩
set_option maxHeartbeats 1000000 in
set_option maxRecDepth 100000 in
theorem impl_t_high4 (v t : Int) (w : World) (h0 : 0 ≤ v) (h1 : v < 16) (h2 : 1000 < t) : Calls Try.prog 12 #[.int .i64 4, .int .i64 v, .int .i64 t] w fun e w' => e = .returned (.tuple #[.int .i64 0, .int .i64 0, .bool false]) ∧ Drawn0 w w' := by
  have e0 : decide (v < 0) = false := by simp; omega
  have e1 : decide (0 ≤ v) = true := by simp; omega
  have e2 : decide (16 ≤ v) = false := by simp; omega
  have e3 : decide (v ≤ 15) = true := by simp; omega
  have e4 : decide (t < 0) = false := by simp; omega
  have e5 : decide (0 ≤ t) = true := by simp; omega
  have e6 : decide (1000 < t) = true := by simp; omega
  have e7 : decide (t ≤ 1000) = false := by simp; omega
  go_enter Try.func12, Try.ntmps12
  go_wp2
  iterate 4 ((all_goals (try go_region)); (all_goals (try go_wp2)))
  all_goals
    go_ret3
    exact ⟨by first | rfl | (simp; done) | (simp [*]; done), by repeat (first | exact Drawn0.refl _ | apply Drawn0.step)⟩
set_option maxHeartbeats 1000000 in
set_option maxRecDepth 100000 in
theorem law_t_high4 (v t : Int) (w : World) (h0 : 0 ≤ v) (h1 : v < 16) (h2 : 1000 < t) : Calls Try.prog 4 #[.int .i64 4, .int .i64 v, .int .i64 t] w fun e w' => e = .returned (.bool true) ∧ Drawn0 w w' := by
  go_enter Try.func4, Try.ntmps4
  go_wp2_with (first | (go_at_call 11; refine (spec_t_high4 v t _ h0 h1 h2).mono ?_; rintro e w' ⟨rfl, ⟨nd, rfl⟩⟩) | (go_at_call 12; refine (impl_t_high4 v t _ h0 h1 h2).mono ?_; rintro e w' ⟨rfl, ⟨nd, rfl⟩⟩))
  go_ret
  exact ⟨by first | rfl | (simp; done) | (simp [*]; done), by repeat (first | exact Drawn0.refl _ | apply Drawn0.step | exact ⟨_, rfl⟩)⟩
set_option maxHeartbeats 1000000 in
set_option maxRecDepth 100000 in
theorem spec_t_ok4 (v t : Int) (w : World) (h0 : 0 ≤ v) (h1 : v < 16) (h2 : 0 ≤ t) (h3 : t ≤ 1000) : Calls Try.prog 11 #[.int .i64 4, .int .i64 v, .int .i64 t] w fun e w' => e = .returned (.tuple #[.int .i64 ((v + t) % 16), .int .i64 ((v + t) / 16), .bool true]) ∧ Drawn0 w w' := by
  have e0 : decide (v < 0) = false := by simp; omega
  have e1 : decide (0 ≤ v) = true := by simp; omega
  have e2 : decide (16 ≤ v) = false := by simp; omega
  have e3 : decide (v ≤ 15) = true := by simp; omega
  have e4 : decide (t < 0) = false := by simp; omega
  have e5 : decide (0 ≤ t) = true := by simp; omega
  have e6 : decide (1000 < t) = false := by simp; omega
  have e7 : decide (t ≤ 1000) = true := by simp; omega
  go_enter Try.func11, Try.ntmps11
  go_wp2
  iterate 4 ((all_goals (try go_region)); (all_goals (try go_wp2)))
  all_goals
    go_ret3
    exact ⟨by first | rfl | (simp; done) | (simp [*]; done), by repeat (first | exact Drawn0.refl _ | apply Drawn0.step)⟩
set_option maxHeartbeats 1000000 in
set_option maxRecDepth 100000 in
theorem impl_t_ok4 (v t : Int) (w : World) (h0 : 0 ≤ v) (h1 : v < 16) (h2 : 0 ≤ t) (h3 : t ≤ 1000) : Calls Try.prog 12 #[.int .i64 4, .int .i64 v, .int .i64 t] w fun e w' => e = .returned (.tuple #[.int .i64 ((v + t) % 16), .int .i64 ((v + t) / 16), .bool true]) ∧ Drawn0 w w' := by
  have e0 : decide (v < 0) = false := by simp; omega
  have e1 : decide (0 ≤ v) = true := by simp; omega
  have e2 : decide (16 ≤ v) = false := by simp; omega
  have e3 : decide (v ≤ 15) = true := by simp; omega
  have e4 : decide (t < 0) = false := by simp; omega
  have e5 : decide (0 ≤ t) = true := by simp; omega
  have e6 : decide (1000 < t) = false := by simp; omega
  have e7 : decide (t ≤ 1000) = true := by simp; omega
  go_enter Try.func12, Try.ntmps12
  go_wp2
  iterate 4 ((all_goals (try go_region)); (all_goals (try go_wp2)))
  all_goals
    go_ret3
    exact ⟨by first | rfl | (simp; done) | (simp [*]; done), by repeat (first | exact Drawn0.refl _ | apply Drawn0.step)⟩
set_option maxHeartbeats 1000000 in
set_option maxRecDepth 100000 in
theorem law_t_ok4 (v t : Int) (w : World) (h0 : 0 ≤ v) (h1 : v < 16) (h2 : 0 ≤ t) (h3 : t ≤ 1000) : Calls Try.prog 4 #[.int .i64 4, .int .i64 v, .int .i64 t] w fun e w' => e = .returned (.bool true) ∧ Drawn0 w w' := by
  go_enter Try.func4, Try.ntmps4
  go_wp2_with (first | (go_at_call 11; refine (spec_t_ok4 v t _ h0 h1 h2 h3).mono ?_; rintro e w' ⟨rfl, ⟨nd, rfl⟩⟩) | (go_at_call 12; refine (impl_t_ok4 v t _ h0 h1 h2 h3).mono ?_; rintro e w' ⟨rfl, ⟨nd, rfl⟩⟩))
  go_ret
  exact ⟨by first | rfl | (simp; done) | (simp [*]; done), by repeat (first | exact Drawn0.refl _ | apply Drawn0.step | exact ⟨_, rfl⟩)⟩
theorem at4 (v t : Int) (w : World) : Calls Try.prog 4 #[.int .i64 4, .int .i64 v, .int .i64 t] w fun e w' => e = .returned (.bool true) ∧ Drawn0 w w' := by
  by_cases h0 : v < 0
  · exact law_v_low4 v t w h0
  by_cases h1 : 16 ≤ v
  · exact law_v_high4 v t w h1
  by_cases h2 : t < 0
  · exact law_t_low4 v t w (by omega) (by omega) h2
  by_cases h3 : 1000 < t
  · exact law_t_high4 v t w (by omega) (by omega) h3
  exact law_t_ok4 v t w (by omega) (by omega) (by omega) (by omega)
set_option maxHeartbeats 1000000 in
set_option maxRecDepth 100000 in
theorem spec_v_low5 (v t : Int) (w : World) (h0 : v < 0) : Calls Try.prog 11 #[.int .i64 5, .int .i64 v, .int .i64 t] w fun e w' => e = .returned (.tuple #[.int .i64 0, .int .i64 0, .bool false]) ∧ Drawn0 w w' := by
  have e0 : decide (v < 0) = true := by simp; omega
  have e1 : decide (0 ≤ v) = false := by simp; omega
  go_enter Try.func11, Try.ntmps11
  go_wp2
  iterate 4 ((all_goals (try go_region)); (all_goals (try go_wp2)))
  all_goals
    go_ret3
    exact ⟨by first | rfl | (simp; done) | (simp [*]; done), by repeat (first | exact Drawn0.refl _ | apply Drawn0.step)⟩
set_option maxHeartbeats 1000000 in
set_option maxRecDepth 100000 in
theorem impl_v_low5 (v t : Int) (w : World) (h0 : v < 0) : Calls Try.prog 12 #[.int .i64 5, .int .i64 v, .int .i64 t] w fun e w' => e = .returned (.tuple #[.int .i64 0, .int .i64 0, .bool false]) ∧ Drawn0 w w' := by
  have e0 : decide (v < 0) = true := by simp; omega
  have e1 : decide (0 ≤ v) = false := by simp; omega
  go_enter Try.func12, Try.ntmps12
  go_wp2
  iterate 4 ((all_goals (try go_region)); (all_goals (try go_wp2)))
  all_goals
    go_ret3
    exact ⟨by first | rfl | (simp; done) | (simp [*]; done), by repeat (first | exact Drawn0.refl _ | apply Drawn0.step)⟩
set_option maxHeartbeats 1000000 in
set_option maxRecDepth 100000 in
theorem law_v_low5 (v t : Int) (w : World) (h0 : v < 0) : Calls Try.prog 4 #[.int .i64 5, .int .i64 v, .int .i64 t] w fun e w' => e = .returned (.bool true) ∧ Drawn0 w w' := by
  go_enter Try.func4, Try.ntmps4
  go_wp2_with (first | (go_at_call 11; refine (spec_v_low5 v t _ h0).mono ?_; rintro e w' ⟨rfl, ⟨nd, rfl⟩⟩) | (go_at_call 12; refine (impl_v_low5 v t _ h0).mono ?_; rintro e w' ⟨rfl, ⟨nd, rfl⟩⟩))
  go_ret
  exact ⟨by first | rfl | (simp; done) | (simp [*]; done), by repeat (first | exact Drawn0.refl _ | apply Drawn0.step | exact ⟨_, rfl⟩)⟩
set_option maxHeartbeats 1000000 in
set_option maxRecDepth 100000 in
theorem spec_v_high5 (v t : Int) (w : World) (h0 : 32 ≤ v) : Calls Try.prog 11 #[.int .i64 5, .int .i64 v, .int .i64 t] w fun e w' => e = .returned (.tuple #[.int .i64 0, .int .i64 0, .bool false]) ∧ Drawn0 w w' := by
  have e0 : decide (v < 0) = false := by simp; omega
  have e1 : decide (0 ≤ v) = true := by simp; omega
  have e2 : decide (32 ≤ v) = true := by simp; omega
  have e3 : decide (v ≤ 31) = false := by simp; omega
  go_enter Try.func11, Try.ntmps11
  go_wp2
  iterate 4 ((all_goals (try go_region)); (all_goals (try go_wp2)))
  all_goals
    go_ret3
    exact ⟨by first | rfl | (simp; done) | (simp [*]; done), by repeat (first | exact Drawn0.refl _ | apply Drawn0.step)⟩
set_option maxHeartbeats 1000000 in
set_option maxRecDepth 100000 in
theorem impl_v_high5 (v t : Int) (w : World) (h0 : 32 ≤ v) : Calls Try.prog 12 #[.int .i64 5, .int .i64 v, .int .i64 t] w fun e w' => e = .returned (.tuple #[.int .i64 0, .int .i64 0, .bool false]) ∧ Drawn0 w w' := by
  have e0 : decide (v < 0) = false := by simp; omega
  have e1 : decide (0 ≤ v) = true := by simp; omega
  have e2 : decide (32 ≤ v) = true := by simp; omega
  have e3 : decide (v ≤ 31) = false := by simp; omega
  go_enter Try.func12, Try.ntmps12
  go_wp2
  iterate 4 ((all_goals (try go_region)); (all_goals (try go_wp2)))
  all_goals
    go_ret3
    exact ⟨by first | rfl | (simp; done) | (simp [*]; done), by repeat (first | exact Drawn0.refl _ | apply Drawn0.step)⟩
set_option maxHeartbeats 1000000 in
set_option maxRecDepth 100000 in
theorem law_v_high5 (v t : Int) (w : World) (h0 : 32 ≤ v) : Calls Try.prog 4 #[.int .i64 5, .int .i64 v, .int .i64 t] w fun e w' => e = .returned (.bool true) ∧ Drawn0 w w' := by
  go_enter Try.func4, Try.ntmps4
  go_wp2_with (first | (go_at_call 11; refine (spec_v_high5 v t _ h0).mono ?_; rintro e w' ⟨rfl, ⟨nd, rfl⟩⟩) | (go_at_call 12; refine (impl_v_high5 v t _ h0).mono ?_; rintro e w' ⟨rfl, ⟨nd, rfl⟩⟩))
  go_ret
  exact ⟨by first | rfl | (simp; done) | (simp [*]; done), by repeat (first | exact Drawn0.refl _ | apply Drawn0.step | exact ⟨_, rfl⟩)⟩
set_option maxHeartbeats 1000000 in
set_option maxRecDepth 100000 in
theorem spec_t_low5 (v t : Int) (w : World) (h0 : 0 ≤ v) (h1 : v < 32) (h2 : t < 0) : Calls Try.prog 11 #[.int .i64 5, .int .i64 v, .int .i64 t] w fun e w' => e = .returned (.tuple #[.int .i64 0, .int .i64 0, .bool false]) ∧ Drawn0 w w' := by
  have e0 : decide (v < 0) = false := by simp; omega
  have e1 : decide (0 ≤ v) = true := by simp; omega
  have e2 : decide (32 ≤ v) = false := by simp; omega
  have e3 : decide (v ≤ 31) = true := by simp; omega
  have e4 : decide (t < 0) = true := by simp; omega
  have e5 : decide (0 ≤ t) = false := by simp; omega
  go_enter Try.func11, Try.ntmps11
  go_wp2
  iterate 4 ((all_goals (try go_region)); (all_goals (try go_wp2)))
  all_goals
    go_ret3
    exact ⟨by first | rfl | (simp; done) | (simp [*]; done), by repeat (first | exact Drawn0.refl _ | apply Drawn0.step)⟩
set_option maxHeartbeats 1000000 in
set_option maxRecDepth 100000 in
theorem impl_t_low5 (v t : Int) (w : World) (h0 : 0 ≤ v) (h1 : v < 32) (h2 : t < 0) : Calls Try.prog 12 #[.int .i64 5, .int .i64 v, .int .i64 t] w fun e w' => e = .returned (.tuple #[.int .i64 0, .int .i64 0, .bool false]) ∧ Drawn0 w w' := by
  have e0 : decide (v < 0) = false := by simp; omega
  have e1 : decide (0 ≤ v) = true := by simp; omega
  have e2 : decide (32 ≤ v) = false := by simp; omega
  have e3 : decide (v ≤ 31) = true := by simp; omega
  have e4 : decide (t < 0) = true := by simp; omega
  have e5 : decide (0 ≤ t) = false := by simp; omega
  go_enter Try.func12, Try.ntmps12
  go_wp2
  iterate 4 ((all_goals (try go_region)); (all_goals (try go_wp2)))
  all_goals
    go_ret3
    exact ⟨by first | rfl | (simp; done) | (simp [*]; done), by repeat (first | exact Drawn0.refl _ | apply Drawn0.step)⟩
set_option maxHeartbeats 1000000 in
set_option maxRecDepth 100000 in
theorem law_t_low5 (v t : Int) (w : World) (h0 : 0 ≤ v) (h1 : v < 32) (h2 : t < 0) : Calls Try.prog 4 #[.int .i64 5, .int .i64 v, .int .i64 t] w fun e w' => e = .returned (.bool true) ∧ Drawn0 w w' := by
  go_enter Try.func4, Try.ntmps4
  go_wp2_with (first | (go_at_call 11; refine (spec_t_low5 v t _ h0 h1 h2).mono ?_; rintro e w' ⟨rfl, ⟨nd, rfl⟩⟩) | (go_at_call 12; refine (impl_t_low5 v t _ h0 h1 h2).mono ?_; rintro e w' ⟨rfl, ⟨nd, rfl⟩⟩))
  go_ret
  exact ⟨by first | rfl | (simp; done) | (simp [*]; done), by repeat (first | exact Drawn0.refl _ | apply Drawn0.step | exact ⟨_, rfl⟩)⟩
set_option maxHeartbeats 1000000 in
set_option maxRecDepth 100000 in
theorem spec_t_high5 (v t : Int) (w : World) (h0 : 0 ≤ v) (h1 : v < 32) (h2 : 1000 < t) : Calls Try.prog 11 #[.int .i64 5, .int .i64 v, .int .i64 t] w fun e w' => e = .returned (.tuple #[.int .i64 0, .int .i64 0, .bool false]) ∧ Drawn0 w w' := by
  have e0 : decide (v < 0) = false := by simp; omega
  have e1 : decide (0 ≤ v) = true := by simp; omega
  have e2 : decide (32 ≤ v) = false := by simp; omega
  have e3 : decide (v ≤ 31) = true := by simp; omega
  have e4 : decide (t < 0) = false := by simp; omega
  have e5 : decide (0 ≤ t) = true := by simp; omega
  have e6 : decide (1000 < t) = true := by simp; omega
  have e7 : decide (t ≤ 1000) = false := by simp; omega
  go_enter Try.func11, Try.ntmps11
  go_wp2
  iterate 4 ((all_goals (try go_region)); (all_goals (try go_wp2)))
  all_goals
    go_ret3
    exact ⟨by first | rfl | (simp; done) | (simp [*]; done), by repeat (first | exact Drawn0.refl _ | apply Drawn0.step)⟩
set_option maxHeartbeats 1000000 in
set_option maxRecDepth 100000 in
theorem impl_t_high5 (v t : Int) (w : World) (h0 : 0 ≤ v) (h1 : v < 32) (h2 : 1000 < t) : Calls Try.prog 12 #[.int .i64 5, .int .i64 v, .int .i64 t] w fun e w' => e = .returned (.tuple #[.int .i64 0, .int .i64 0, .bool false]) ∧ Drawn0 w w' := by
  have e0 : decide (v < 0) = false := by simp; omega
  have e1 : decide (0 ≤ v) = true := by simp; omega
  have e2 : decide (32 ≤ v) = false := by simp; omega
  have e3 : decide (v ≤ 31) = true := by simp; omega
  have e4 : decide (t < 0) = false := by simp; omega
  have e5 : decide (0 ≤ t) = true := by simp; omega
  have e6 : decide (1000 < t) = true := by simp; omega
  have e7 : decide (t ≤ 1000) = false := by simp; omega
  go_enter Try.func12, Try.ntmps12
  go_wp2
  iterate 4 ((all_goals (try go_region)); (all_goals (try go_wp2)))
  all_goals
    go_ret3
    exact ⟨by first | rfl | (simp; done) | (simp [*]; done), by repeat (first | exact Drawn0.refl _ | apply Drawn0.step)⟩
set_option maxHeartbeats 1000000 in
set_option maxRecDepth 100000 in
theorem law_t_high5 (v t : Int) (w : World) (h0 : 0 ≤ v) (h1 : v < 32) (h2 : 1000 < t) : Calls Try.prog 4 #[.int .i64 5, .int .i64 v, .int .i64 t] w fun e w' => e = .returned (.bool true) ∧ Drawn0 w w' := by
  go_enter Try.func4, Try.ntmps4
  go_wp2_with (first | (go_at_call 11; refine (spec_t_high5 v t _ h0 h1 h2).mono ?_; rintro e w' ⟨rfl, ⟨nd, rfl⟩⟩) | (go_at_call 12; refine (impl_t_high5 v t _ h0 h1 h2).mono ?_; rintro e w' ⟨rfl, ⟨nd, rfl⟩⟩))
  go_ret
  exact ⟨by first | rfl | (simp; done) | (simp [*]; done), by repeat (first | exact Drawn0.refl _ | apply Drawn0.step | exact ⟨_, rfl⟩)⟩
set_option maxHeartbeats 1000000 in
set_option maxRecDepth 100000 in
theorem spec_t_ok5 (v t : Int) (w : World) (h0 : 0 ≤ v) (h1 : v < 32) (h2 : 0 ≤ t) (h3 : t ≤ 1000) : Calls Try.prog 11 #[.int .i64 5, .int .i64 v, .int .i64 t] w fun e w' => e = .returned (.tuple #[.int .i64 ((v + t) % 32), .int .i64 ((v + t) / 32), .bool true]) ∧ Drawn0 w w' := by
  have e0 : decide (v < 0) = false := by simp; omega
  have e1 : decide (0 ≤ v) = true := by simp; omega
  have e2 : decide (32 ≤ v) = false := by simp; omega
  have e3 : decide (v ≤ 31) = true := by simp; omega
  have e4 : decide (t < 0) = false := by simp; omega
  have e5 : decide (0 ≤ t) = true := by simp; omega
  have e6 : decide (1000 < t) = false := by simp; omega
  have e7 : decide (t ≤ 1000) = true := by simp; omega
  go_enter Try.func11, Try.ntmps11
  go_wp2
  iterate 4 ((all_goals (try go_region)); (all_goals (try go_wp2)))
  all_goals
    go_ret3
    exact ⟨by first | rfl | (simp; done) | (simp [*]; done), by repeat (first | exact Drawn0.refl _ | apply Drawn0.step)⟩
set_option maxHeartbeats 1000000 in
set_option maxRecDepth 100000 in
theorem impl_t_ok5 (v t : Int) (w : World) (h0 : 0 ≤ v) (h1 : v < 32) (h2 : 0 ≤ t) (h3 : t ≤ 1000) : Calls Try.prog 12 #[.int .i64 5, .int .i64 v, .int .i64 t] w fun e w' => e = .returned (.tuple #[.int .i64 ((v + t) % 32), .int .i64 ((v + t) / 32), .bool true]) ∧ Drawn0 w w' := by
  have e0 : decide (v < 0) = false := by simp; omega
  have e1 : decide (0 ≤ v) = true := by simp; omega
  have e2 : decide (32 ≤ v) = false := by simp; omega
  have e3 : decide (v ≤ 31) = true := by simp; omega
  have e4 : decide (t < 0) = false := by simp; omega
  have e5 : decide (0 ≤ t) = true := by simp; omega
  have e6 : decide (1000 < t) = false := by simp; omega
  have e7 : decide (t ≤ 1000) = true := by simp; omega
  go_enter Try.func12, Try.ntmps12
  go_wp2
  iterate 4 ((all_goals (try go_region)); (all_goals (try go_wp2)))
  all_goals
    go_ret3
    exact ⟨by first | rfl | (simp; done) | (simp [*]; done), by repeat (first | exact Drawn0.refl _ | apply Drawn0.step)⟩
set_option maxHeartbeats 1000000 in
set_option maxRecDepth 100000 in
theorem law_t_ok5 (v t : Int) (w : World) (h0 : 0 ≤ v) (h1 : v < 32) (h2 : 0 ≤ t) (h3 : t ≤ 1000) : Calls Try.prog 4 #[.int .i64 5, .int .i64 v, .int .i64 t] w fun e w' => e = .returned (.bool true) ∧ Drawn0 w w' := by
  go_enter Try.func4, Try.ntmps4
  go_wp2_with (first | (go_at_call 11; refine (spec_t_ok5 v t _ h0 h1 h2 h3).mono ?_; rintro e w' ⟨rfl, ⟨nd, rfl⟩⟩) | (go_at_call 12; refine (impl_t_ok5 v t _ h0 h1 h2 h3).mono ?_; rintro e w' ⟨rfl, ⟨nd, rfl⟩⟩))
  go_ret
  exact ⟨by first | rfl | (simp; done) | (simp [*]; done), by repeat (first | exact Drawn0.refl _ | apply Drawn0.step | exact ⟨_, rfl⟩)⟩
theorem at5 (v t : Int) (w : World) : Calls Try.prog 4 #[.int .i64 5, .int .i64 v, .int .i64 t] w fun e w' => e = .returned (.bool true) ∧ Drawn0 w w' := by
  by_cases h0 : v < 0
  · exact law_v_low5 v t w h0
  by_cases h1 : 32 ≤ v
  · exact law_v_high5 v t w h1
  by_cases h2 : t < 0
  · exact law_t_low5 v t w (by omega) (by omega) h2
  by_cases h3 : 1000 < t
  · exact law_t_high5 v t w (by omega) (by omega) h3
  exact law_t_ok5 v t w (by omega) (by omega) (by omega) (by omega)
theorem all (n v t : Int) (w : World) : Calls Try.prog 4 #[.int .i64 n, .int .i64 v, .int .i64 t] w fun e w' => e = .returned (.bool true) ∧ Drawn0 w w' := by
  by_cases h0 : n < 1
  · exact law_n_low n v t w h0
  by_cases h1 : 5 < n
  · exact law_n_high n v t w h1
  have h : n = 1 ∨ n = 2 ∨ n = 3 ∨ n = 4 ∨ n = 5 := by omega
  rcases h with rfl | rfl | rfl | rfl | rfl
  · exact at1 v t w
  · exact at2 v t w
  · exact at3 v t w
  · exact at4 v t w
  · exact at5 v t w
end Go.Proofs.Ytlagoaoenaaglaa.QAfterMarbles
