/- CounterDistance of the program and of the reference agree for all int64 arguments: the walk, case by case. -/
import Derived.Test.YtlagoaoenaaglaaPx3
import Derived.RegionTactic
import Derived.ChangeAlike
namespace Go.Proofs.Ytlagoaoenaaglaa.QCounterDistance
open Go.RowKit Go.Proofs.YtlagoaoenaaglaaW.PrintWords Go.Proofs.YtlagoaoenaaglaaW.PrintLast Go.Proofs.YtlagoaoenaaglaaW.PrintMore
set_option linter.unusedVariables false
set_option linter.unusedSimpArgs false
set_option maxHeartbeats 1000000 in
set_option maxRecDepth 100000 in
theorem n_low (n v t : Int) (w : World) (h0 : n < 1) :
    Calls Try.prog 3 #[.int .i64 n, .int .i64 v, .int .i64 t] w fun e w' => e = .returned (.bool true) ∧ Drawn0 w w' := by
  have e0 : decide (n < 1) = true := by simp; omega
  have e1 : decide (1 ≤ n) = false := by simp; omega
  go_enter Try.func3, Try.ntmps3
  go_wp2
  iterate 4 ((all_goals (try go_region)); (all_goals (try go_wp2)))
  all_goals
    go_ret
    exact ⟨by first | rfl | (simp; done) | (simp [*]; done), by repeat (first | exact Drawn0.refl _ | apply Drawn0.step)⟩
set_option maxHeartbeats 1000000 in
set_option maxRecDepth 100000 in
theorem n_high (n v t : Int) (w : World) (h0 : 5 < n) :
    Calls Try.prog 3 #[.int .i64 n, .int .i64 v, .int .i64 t] w fun e w' => e = .returned (.bool true) ∧ Drawn0 w w' := by
  have e0 : decide (n < 1) = false := by simp; omega
  have e1 : decide (1 ≤ n) = true := by simp; omega
  have e2 : decide (5 < n) = true := by simp; omega
  have e3 : decide (n ≤ 5) = false := by simp; omega
  go_enter Try.func3, Try.ntmps3
  go_wp2
  iterate 4 ((all_goals (try go_region)); (all_goals (try go_wp2)))
  all_goals
    go_ret
    exact ⟨by first | rfl | (simp; done) | (simp [*]; done), by repeat (first | exact Drawn0.refl _ | apply Drawn0.step)⟩
set_option maxHeartbeats 1000000 in
set_option maxRecDepth 100000 in
theorem v_low1 (v t : Int) (w : World) (h0 : v < 0) :
    Calls Try.prog 3 #[.int .i64 1, .int .i64 v, .int .i64 t] w fun e w' => e = .returned (.bool true) ∧ Drawn0 w w' := by
  have e0 : decide (v < 0) = true := by simp; omega
  have e1 : decide (0 ≤ v) = false := by simp; omega
  go_enter Try.func3, Try.ntmps3
  go_wp2
  iterate 4 ((all_goals (try go_region)); (all_goals (try go_wp2)))
  all_goals
    go_ret
    exact ⟨by first | rfl | (simp; done) | (simp [*]; done), by repeat (first | exact Drawn0.refl _ | apply Drawn0.step)⟩
set_option maxHeartbeats 1000000 in
set_option maxRecDepth 100000 in
theorem v_high1 (v t : Int) (w : World) (h0 : 2 ≤ v) :
    Calls Try.prog 3 #[.int .i64 1, .int .i64 v, .int .i64 t] w fun e w' => e = .returned (.bool true) ∧ Drawn0 w w' := by
  have e0 : decide (v < 0) = false := by simp; omega
  have e1 : decide (0 ≤ v) = true := by simp; omega
  have e2 : decide (2 ≤ v) = true := by simp; omega
  have e3 : decide (v ≤ 1) = false := by simp; omega
  go_enter Try.func3, Try.ntmps3
  go_wp2
  iterate 4 ((all_goals (try go_region)); (all_goals (try go_wp2)))
  all_goals
    go_ret
    exact ⟨by first | rfl | (simp; done) | (simp [*]; done), by repeat (first | exact Drawn0.refl _ | apply Drawn0.step)⟩
set_option maxHeartbeats 1000000 in
set_option maxRecDepth 100000 in
theorem t_low1 (v t : Int) (w : World) (h0 : 0 ≤ v) (h1 : v < 2) (h2 : t < 0) :
    Calls Try.prog 3 #[.int .i64 1, .int .i64 v, .int .i64 t] w fun e w' => e = .returned (.bool true) ∧ Drawn0 w w' := by
  have e0 : decide (v < 0) = false := by simp; omega
  have e1 : decide (0 ≤ v) = true := by simp; omega
  have e2 : decide (2 ≤ v) = false := by simp; omega
  have e3 : decide (v ≤ 1) = true := by simp; omega
  have e4 : decide (t < 0) = true := by simp; omega
  have e5 : decide (0 ≤ t) = false := by simp; omega
  go_enter Try.func3, Try.ntmps3
  go_wp2
  iterate 4 ((all_goals (try go_region)); (all_goals (try go_wp2)))
  all_goals
    go_ret
    exact ⟨by first | rfl | (simp; done) | (simp [*]; done), by repeat (first | exact Drawn0.refl _ | apply Drawn0.step)⟩
set_option maxHeartbeats 1000000 in
set_option maxRecDepth 100000 in
theorem t_high1 (v t : Int) (w : World) (h0 : 0 ≤ v) (h1 : v < 2) (h2 : 2 ≤ t) :
    Calls Try.prog 3 #[.int .i64 1, .int .i64 v, .int .i64 t] w fun e w' => e = .returned (.bool true) ∧ Drawn0 w w' := by
  have e0 : decide (v < 0) = false := by simp; omega
  have e1 : decide (0 ≤ v) = true := by simp; omega
  have e2 : decide (2 ≤ v) = false := by simp; omega
  have e3 : decide (v ≤ 1) = true := by simp; omega
  have e4 : decide (t < 0) = false := by simp; omega
  have e5 : decide (0 ≤ t) = true := by simp; omega
  have e6 : decide (2 ≤ t) = true := by simp; omega
  have e7 : decide (t ≤ 1) = false := by simp; omega
  go_enter Try.func3, Try.ntmps3
  go_wp2
  iterate 4 ((all_goals (try go_region)); (all_goals (try go_wp2)))
  all_goals
    go_ret
    exact ⟨by first | rfl | (simp; done) | (simp [*]; done), by repeat (first | exact Drawn0.refl _ | apply Drawn0.step)⟩
set_option maxHeartbeats 1000000 in
set_option maxRecDepth 100000 in
theorem t_ok1 (v t : Int) (w : World) (h0 : 0 ≤ v) (h1 : v < 2) (h2 : 0 ≤ t) (h3 : t < 2) :
    Calls Try.prog 3 #[.int .i64 1, .int .i64 v, .int .i64 t] w fun e w' => e = .returned (.bool true) ∧ Drawn0 w w' := by
  have e0 : decide (v < 0) = false := by simp; omega
  have e1 : decide (0 ≤ v) = true := by simp; omega
  have e2 : decide (2 ≤ v) = false := by simp; omega
  have e3 : decide (v ≤ 1) = true := by simp; omega
  have e4 : decide (t < 0) = false := by simp; omega
  have e5 : decide (0 ≤ t) = true := by simp; omega
  have e6 : decide (2 ≤ t) = false := by simp; omega
  have e7 : decide (t ≤ 1) = true := by simp; omega
  go_enter Try.func3, Try.ntmps3
  go_wp2
  iterate 4 ((all_goals (try go_region)); (all_goals (try go_wp2)))
  all_goals
    go_ret
    exact ⟨by first | rfl | (simp; done) | (simp [*]; done), by repeat (first | exact Drawn0.refl _ | apply Drawn0.step)⟩
theorem at1 (v t : Int) (w : World) : Calls Try.prog 3 #[.int .i64 1, .int .i64 v, .int .i64 t] w fun e w' => e = .returned (.bool true) ∧ Drawn0 w w' := by
  by_cases h0 : v < 0
  · exact v_low1 v t w h0
  by_cases h1 : 2 ≤ v
  · exact v_high1 v t w h1
  by_cases h2 : t < 0
  · exact t_low1 v t w (by omega) (by omega) h2
  by_cases h3 : 2 ≤ t
  · exact t_high1 v t w (by omega) (by omega) h3
  exact t_ok1 v t w (by omega) (by omega) (by omega) (by omega)
set_option maxHeartbeats 1000000 in
set_option maxRecDepth 100000 in
theorem v_low2 (v t : Int) (w : World) (h0 : v < 0) :
    Calls Try.prog 3 #[.int .i64 2, .int .i64 v, .int .i64 t] w fun e w' => e = .returned (.bool true) ∧ Drawn0 w w' := by
  have e0 : decide (v < 0) = true := by simp; omega
  have e1 : decide (0 ≤ v) = false := by simp; omega
  go_enter Try.func3, Try.ntmps3
  go_wp2
  iterate 4 ((all_goals (try go_region)); (all_goals (try go_wp2)))
  all_goals
    go_ret
    exact ⟨by first | rfl | (simp; done) | (simp [*]; done), by repeat (first | exact Drawn0.refl _ | apply Drawn0.step)⟩
set_option maxHeartbeats 1000000 in
set_option maxRecDepth 100000 in
theorem v_high2 (v t : Int) (w : World) (h0 : 4 ≤ v) :
    Calls Try.prog 3 #[.int .i64 2, .int .i64 v, .int .i64 t] w fun e w' => e = .returned (.bool true) ∧ Drawn0 w w' := by
  have e0 : decide (v < 0) = false := by simp; omega
  have e1 : decide (0 ≤ v) = true := by simp; omega
  have e2 : decide (4 ≤ v) = true := by simp; omega
  have e3 : decide (v ≤ 3) = false := by simp; omega
  go_enter Try.func3, Try.ntmps3
  go_wp2
  iterate 4 ((all_goals (try go_region)); (all_goals (try go_wp2)))
  all_goals
    go_ret
    exact ⟨by first | rfl | (simp; done) | (simp [*]; done), by repeat (first | exact Drawn0.refl _ | apply Drawn0.step)⟩
set_option maxHeartbeats 1000000 in
set_option maxRecDepth 100000 in
theorem t_low2 (v t : Int) (w : World) (h0 : 0 ≤ v) (h1 : v < 4) (h2 : t < 0) :
    Calls Try.prog 3 #[.int .i64 2, .int .i64 v, .int .i64 t] w fun e w' => e = .returned (.bool true) ∧ Drawn0 w w' := by
  have e0 : decide (v < 0) = false := by simp; omega
  have e1 : decide (0 ≤ v) = true := by simp; omega
  have e2 : decide (4 ≤ v) = false := by simp; omega
  have e3 : decide (v ≤ 3) = true := by simp; omega
  have e4 : decide (t < 0) = true := by simp; omega
  have e5 : decide (0 ≤ t) = false := by simp; omega
  go_enter Try.func3, Try.ntmps3
  go_wp2
  iterate 4 ((all_goals (try go_region)); (all_goals (try go_wp2)))
  all_goals
    go_ret
    exact ⟨by first | rfl | (simp; done) | (simp [*]; done), by repeat (first | exact Drawn0.refl _ | apply Drawn0.step)⟩
set_option maxHeartbeats 1000000 in
set_option maxRecDepth 100000 in
theorem t_high2 (v t : Int) (w : World) (h0 : 0 ≤ v) (h1 : v < 4) (h2 : 4 ≤ t) :
    Calls Try.prog 3 #[.int .i64 2, .int .i64 v, .int .i64 t] w fun e w' => e = .returned (.bool true) ∧ Drawn0 w w' := by
  have e0 : decide (v < 0) = false := by simp; omega
  have e1 : decide (0 ≤ v) = true := by simp; omega
  have e2 : decide (4 ≤ v) = false := by simp; omega
  have e3 : decide (v ≤ 3) = true := by simp; omega
  have e4 : decide (t < 0) = false := by simp; omega
  have e5 : decide (0 ≤ t) = true := by simp; omega
  have e6 : decide (4 ≤ t) = true := by simp; omega
  have e7 : decide (t ≤ 3) = false := by simp; omega
  go_enter Try.func3, Try.ntmps3
  go_wp2
  iterate 4 ((all_goals (try go_region)); (all_goals (try go_wp2)))
  all_goals
    go_ret
    exact ⟨by first | rfl | (simp; done) | (simp [*]; done), by repeat (first | exact Drawn0.refl _ | apply Drawn0.step)⟩
set_option maxHeartbeats 1000000 in
set_option maxRecDepth 100000 in
theorem t_ok2 (v t : Int) (w : World) (h0 : 0 ≤ v) (h1 : v < 4) (h2 : 0 ≤ t) (h3 : t < 4) :
    Calls Try.prog 3 #[.int .i64 2, .int .i64 v, .int .i64 t] w fun e w' => e = .returned (.bool true) ∧ Drawn0 w w' := by
  have e0 : decide (v < 0) = false := by simp; omega
  have e1 : decide (0 ≤ v) = true := by simp; omega
  have e2 : decide (4 ≤ v) = false := by simp; omega
  have e3 : decide (v ≤ 3) = true := by simp; omega
  have e4 : decide (t < 0) = false := by simp; omega
  have e5 : decide (0 ≤ t) = true := by simp; omega
  have e6 : decide (4 ≤ t) = false := by simp; omega
  have e7 : decide (t ≤ 3) = true := by simp; omega
  go_enter Try.func3, Try.ntmps3
  go_wp2
  iterate 4 ((all_goals (try go_region)); (all_goals (try go_wp2)))
  all_goals
    go_ret
    exact ⟨by first | rfl | (simp; done) | (simp [*]; done), by repeat (first | exact Drawn0.refl _ | apply Drawn0.step)⟩
theorem at2 (v t : Int) (w : World) : Calls Try.prog 3 #[.int .i64 2, .int .i64 v, .int .i64 t] w fun e w' => e = .returned (.bool true) ∧ Drawn0 w w' := by
  by_cases h0 : v < 0
  · exact v_low2 v t w h0
  by_cases h1 : 4 ≤ v
  · exact v_high2 v t w h1
  by_cases h2 : t < 0
  · exact t_low2 v t w (by omega) (by omega) h2
  by_cases h3 : 4 ≤ t
  · exact t_high2 v t w (by omega) (by omega) h3
  exact t_ok2 v t w (by omega) (by omega) (by omega) (by omega)
set_option maxHeartbeats 1000000 in
set_option maxRecDepth 100000 in
theorem v_low3 (v t : Int) (w : World) (h0 : v < 0) :
    Calls Try.prog 3 #[.int .i64 3, .int .i64 v, .int .i64 t] w fun e w' => e = .returned (.bool true) ∧ Drawn0 w w' := by
  have e0 : decide (v < 0) = true := by simp; omega
  have e1 : decide (0 ≤ v) = false := by simp; omega
  go_enter Try.func3, Try.ntmps3
  go_wp2
  iterate 4 ((all_goals (try go_region)); (all_goals (try go_wp2)))
  all_goals
    go_ret
    exact ⟨by first | rfl | (simp; done) | (simp [*]; done), by repeat (first | exact Drawn0.refl _ | apply Drawn0.step)⟩
set_option maxHeartbeats 1000000 in
set_option maxRecDepth 100000 in
theorem v_high3 (v t : Int) (w : World) (h0 : 8 ≤ v) :
    Calls Try.prog 3 #[.int .i64 3, .int .i64 v, .int .i64 t] w fun e w' => e = .returned (.bool true) ∧ Drawn0 w w' := by
  have e0 : decide (v < 0) = false := by simp; omega
  have e1 : decide (0 ≤ v) = true := by simp; omega
  have e2 : decide (8 ≤ v) = true := by simp; omega
  have e3 : decide (v ≤ 7) = false := by simp; omega
  go_enter Try.func3, Try.ntmps3
  go_wp2
  iterate 4 ((all_goals (try go_region)); (all_goals (try go_wp2)))
  all_goals
    go_ret
    exact ⟨by first | rfl | (simp; done) | (simp [*]; done), by repeat (first | exact Drawn0.refl _ | apply Drawn0.step)⟩
set_option maxHeartbeats 1000000 in
set_option maxRecDepth 100000 in
theorem t_low3 (v t : Int) (w : World) (h0 : 0 ≤ v) (h1 : v < 8) (h2 : t < 0) :
    Calls Try.prog 3 #[.int .i64 3, .int .i64 v, .int .i64 t] w fun e w' => e = .returned (.bool true) ∧ Drawn0 w w' := by
  have e0 : decide (v < 0) = false := by simp; omega
  have e1 : decide (0 ≤ v) = true := by simp; omega
  have e2 : decide (8 ≤ v) = false := by simp; omega
  have e3 : decide (v ≤ 7) = true := by simp; omega
  have e4 : decide (t < 0) = true := by simp; omega
  have e5 : decide (0 ≤ t) = false := by simp; omega
  go_enter Try.func3, Try.ntmps3
  go_wp2
  iterate 4 ((all_goals (try go_region)); (all_goals (try go_wp2)))
  all_goals
    go_ret
    exact ⟨by first | rfl | (simp; done) | (simp [*]; done), by repeat (first | exact Drawn0.refl _ | apply Drawn0.step)⟩
set_option maxHeartbeats 1000000 in
set_option maxRecDepth 100000 in
theorem t_high3 (v t : Int) (w : World) (h0 : 0 ≤ v) (h1 : v < 8) (h2 : 8 ≤ t) :
    Calls Try.prog 3 #[.int .i64 3, .int .i64 v, .int .i64 t] w fun e w' => e = .returned (.bool true) ∧ Drawn0 w w' := by
  have e0 : decide (v < 0) = false := by simp; omega
  have e1 : decide (0 ≤ v) = true := by simp; omega
  have e2 : decide (8 ≤ v) = false := by simp; omega
  have e3 : decide (v ≤ 7) = true := by simp; omega
  have e4 : decide (t < 0) = false := by simp; omega
  have e5 : decide (0 ≤ t) = true := by simp; omega
  have e6 : decide (8 ≤ t) = true := by simp; omega
  have e7 : decide (t ≤ 7) = false := by simp; omega
  go_enter Try.func3, Try.ntmps3
  go_wp2
  iterate 4 ((all_goals (try go_region)); (all_goals (try go_wp2)))
  all_goals
    go_ret
    exact ⟨by first | rfl | (simp; done) | (simp [*]; done), by repeat (first | exact Drawn0.refl _ | apply Drawn0.step)⟩
set_option maxHeartbeats 1000000 in
set_option maxRecDepth 100000 in
theorem t_ok3 (v t : Int) (w : World) (h0 : 0 ≤ v) (h1 : v < 8) (h2 : 0 ≤ t) (h3 : t < 8) :
    Calls Try.prog 3 #[.int .i64 3, .int .i64 v, .int .i64 t] w fun e w' => e = .returned (.bool true) ∧ Drawn0 w w' := by
  have e0 : decide (v < 0) = false := by simp; omega
  have e1 : decide (0 ≤ v) = true := by simp; omega
  have e2 : decide (8 ≤ v) = false := by simp; omega
  have e3 : decide (v ≤ 7) = true := by simp; omega
  have e4 : decide (t < 0) = false := by simp; omega
  have e5 : decide (0 ≤ t) = true := by simp; omega
  have e6 : decide (8 ≤ t) = false := by simp; omega
  have e7 : decide (t ≤ 7) = true := by simp; omega
  go_enter Try.func3, Try.ntmps3
  go_wp2
  iterate 4 ((all_goals (try go_region)); (all_goals (try go_wp2)))
  all_goals
    go_ret
    exact ⟨by first | rfl | (simp; done) | (simp [*]; done), by repeat (first | exact Drawn0.refl _ | apply Drawn0.step)⟩
theorem at3 (v t : Int) (w : World) : Calls Try.prog 3 #[.int .i64 3, .int .i64 v, .int .i64 t] w fun e w' => e = .returned (.bool true) ∧ Drawn0 w w' := by
  by_cases h0 : v < 0
  · exact v_low3 v t w h0
  by_cases h1 : 8 ≤ v
  · exact v_high3 v t w h1
  by_cases h2 : t < 0
  · exact t_low3 v t w (by omega) (by omega) h2
  by_cases h3 : 8 ≤ t
  · exact t_high3 v t w (by omega) (by omega) h3
  exact t_ok3 v t w (by omega) (by omega) (by omega) (by omega)
set_option maxHeartbeats 1000000 in
set_option maxRecDepth 100000 in
theorem v_low4 (v t : Int) (w : World) (h0 : v < 0) :
    Calls Try.prog 3 #[.int .i64 4, .int .i64 v, .int .i64 t] w fun e w' => e = .returned (.bool true) ∧ Drawn0 w w' := by
  have e0 : decide (v < 0) = true := by simp; omega
  have e1 : decide (0 ≤ v) = false := by simp; omega
  go_enter Try.func3, Try.ntmps3
  go_wp2
  iterate 4 ((all_goals (try go_region)); (all_goals (try go_wp2)))
  all_goals
    go_ret
    exact ⟨by first | rfl | (simp; done) | (simp [*]; done), by repeat (first | exact Drawn0.refl _ | apply Drawn0.step)⟩
set_option maxHeartbeats 1000000 in
set_option maxRecDepth 100000 in
theorem v_high4 (v t : Int) (w : World) (h0 : 16 ≤ v) :
    Calls Try.prog 3 #[.int .i64 4, .int .i64 v, .int .i64 t] w fun e w' => e = .returned (.bool true) ∧ Drawn0 w w' := by
  have e0 : decide (v < 0) = false := by simp; omega
  have e1 : decide (0 ≤ v) = true := by simp; omega
  have e2 : decide (16 ≤ v) = true := by simp; omega
  have e3 : decide (v ≤ 15) = false := by simp; omega
  go_enter Try.func3, Try.ntmps3
  go_wp2
  iterate 4 ((all_goals (try go_region)); (all_goals (try go_wp2)))
  all_goals
    go_ret
    exact ⟨by first | rfl | (simp; done) | (simp [*]; done), by repeat (first | exact Drawn0.refl _ | apply Drawn0.step)⟩
set_option maxHeartbeats 1000000 in
set_option maxRecDepth 100000 in
theorem t_low4 (v t : Int) (w : World) (h0 : 0 ≤ v) (h1 : v < 16) (h2 : t < 0) :
    Calls Try.prog 3 #[.int .i64 4, .int .i64 v, .int .i64 t] w fun e w' => e = .returned (.bool true) ∧ Drawn0 w w' := by
  have e0 : decide (v < 0) = false := by simp; omega
  have e1 : decide (0 ≤ v) = true := by simp; omega
  have e2 : decide (16 ≤ v) = false := by simp; omega
  have e3 : decide (v ≤ 15) = true := by simp; omega
  have e4 : decide (t < 0) = true := by simp; omega
  have e5 : decide (0 ≤ t) = false := by simp; omega
  go_enter Try.func3, Try.ntmps3
  go_wp2
  iterate 4 ((all_goals (try go_region)); (all_goals (try go_wp2)))
  all_goals
    go_ret
    exact ⟨by first | rfl | (simp; done) | (simp [*]; done), by repeat (first | exact Drawn0.refl _ | apply Drawn0.step)⟩
set_option maxHeartbeats 1000000 in
set_option maxRecDepth 100000 in
theorem t_high4 (v t : Int) (w : World) (h0 : 0 ≤ v) (h1 : v < 16) (h2 : 16 ≤ t) :
    Calls Try.prog 3 #[.int .i64 4, .int .i64 v, .int .i64 t] w fun e w' => e = .returned (.bool true) ∧ Drawn0 w w' := by
  have e0 : decide (v < 0) = false := by simp; omega
  have e1 : decide (0 ≤ v) = true := by simp; omega
  have e2 : decide (16 ≤ v) = false := by simp; omega
  have e3 : decide (v ≤ 15) = true := by simp; omega
  have e4 : decide (t < 0) = false := by simp; omega
  have e5 : decide (0 ≤ t) = true := by simp; omega
  have e6 : decide (16 ≤ t) = true := by simp; omega
  have e7 : decide (t ≤ 15) = false := by simp; omega
  go_enter Try.func3, Try.ntmps3
  go_wp2
  iterate 4 ((all_goals (try go_region)); (all_goals (try go_wp2)))
  all_goals
    go_ret
    exact ⟨by first | rfl | (simp; done) | (simp [*]; done), by repeat (first | exact Drawn0.refl _ | apply Drawn0.step)⟩
set_option maxHeartbeats 1000000 in
set_option maxRecDepth 100000 in
theorem t_ok4 (v t : Int) (w : World) (h0 : 0 ≤ v) (h1 : v < 16) (h2 : 0 ≤ t) (h3 : t < 16) :
    Calls Try.prog 3 #[.int .i64 4, .int .i64 v, .int .i64 t] w fun e w' => e = .returned (.bool true) ∧ Drawn0 w w' := by
  have e0 : decide (v < 0) = false := by simp; omega
  have e1 : decide (0 ≤ v) = true := by simp; omega
  have e2 : decide (16 ≤ v) = false := by simp; omega
  have e3 : decide (v ≤ 15) = true := by simp; omega
  have e4 : decide (t < 0) = false := by simp; omega
  have e5 : decide (0 ≤ t) = true := by simp; omega
  have e6 : decide (16 ≤ t) = false := by simp; omega
  have e7 : decide (t ≤ 15) = true := by simp; omega
  go_enter Try.func3, Try.ntmps3
  go_wp2
  iterate 4 ((all_goals (try go_region)); (all_goals (try go_wp2)))
  all_goals
    go_ret
    exact ⟨by first | rfl | (simp; done) | (simp [*]; done), by repeat (first | exact Drawn0.refl _ | apply Drawn0.step)⟩
theorem at4 (v t : Int) (w : World) : Calls Try.prog 3 #[.int .i64 4, .int .i64 v, .int .i64 t] w fun e w' => e = .returned (.bool true) ∧ Drawn0 w w' := by
  by_cases h0 : v < 0
  · exact v_low4 v t w h0
  by_cases h1 : 16 ≤ v
  · exact v_high4 v t w h1
  by_cases h2 : t < 0
  · exact t_low4 v t w (by omega) (by omega) h2
  by_cases h3 : 16 ≤ t
  · exact t_high4 v t w (by omega) (by omega) h3
  exact t_ok4 v t w (by omega) (by omega) (by omega) (by omega)
set_option maxHeartbeats 1000000 in
set_option maxRecDepth 100000 in
theorem v_low5 (v t : Int) (w : World) (h0 : v < 0) :
    Calls Try.prog 3 #[.int .i64 5, .int .i64 v, .int .i64 t] w fun e w' => e = .returned (.bool true) ∧ Drawn0 w w' := by
  have e0 : decide (v < 0) = true := by simp; omega
  have e1 : decide (0 ≤ v) = false := by simp; omega
  go_enter Try.func3, Try.ntmps3
  go_wp2
  iterate 4 ((all_goals (try go_region)); (all_goals (try go_wp2)))
  all_goals
    go_ret
    exact ⟨by first | rfl | (simp; done) | (simp [*]; done), by repeat (first | exact Drawn0.refl _ | apply Drawn0.step)⟩
set_option maxHeartbeats 1000000 in
set_option maxRecDepth 100000 in
theorem v_high5 (v t : Int) (w : World) (h0 : 32 ≤ v) :
    Calls Try.prog 3 #[.int .i64 5, .int .i64 v, .int .i64 t] w fun e w' => e = .returned (.bool true) ∧ Drawn0 w w' := by
  have e0 : decide (v < 0) = false := by simp; omega
  have e1 : decide (0 ≤ v) = true := by simp; omega
  have e2 : decide (32 ≤ v) = true := by simp; omega
  have e3 : decide (v ≤ 31) = false := by simp; omega
  go_enter Try.func3, Try.ntmps3
  go_wp2
  iterate 4 ((all_goals (try go_region)); (all_goals (try go_wp2)))
  all_goals
    go_ret
    exact ⟨by first | rfl | (simp; done) | (simp [*]; done), by repeat (first | exact Drawn0.refl _ | apply Drawn0.step)⟩
set_option maxHeartbeats 1000000 in
set_option maxRecDepth 100000 in
theorem t_low5 (v t : Int) (w : World) (h0 : 0 ≤ v) (h1 : v < 32) (h2 : t < 0) :
    Calls Try.prog 3 #[.int .i64 5, .int .i64 v, .int .i64 t] w fun e w' => e = .returned (.bool true) ∧ Drawn0 w w' := by
  have e0 : decide (v < 0) = false := by simp; omega
  have e1 : decide (0 ≤ v) = true := by simp; omega
  have e2 : decide (32 ≤ v) = false := by simp; omega
  have e3 : decide (v ≤ 31) = true := by simp; omega
  have e4 : decide (t < 0) = true := by simp; omega
  have e5 : decide (0 ≤ t) = false := by simp; omega
  go_enter Try.func3, Try.ntmps3
  go_wp2
  iterate 4 ((all_goals (try go_region)); (all_goals (try go_wp2)))
  all_goals
    go_ret
    exact ⟨by first | rfl | (simp; done) | (simp [*]; done), by repeat (first | exact Drawn0.refl _ | apply Drawn0.step)⟩
set_option maxHeartbeats 1000000 in
set_option maxRecDepth 100000 in
theorem t_high5 (v t : Int) (w : World) (h0 : 0 ≤ v) (h1 : v < 32) (h2 : 32 ≤ t) :
    Calls Try.prog 3 #[.int .i64 5, .int .i64 v, .int .i64 t] w fun e w' => e = .returned (.bool true) ∧ Drawn0 w w' := by
  have e0 : decide (v < 0) = false := by simp; omega
  have e1 : decide (0 ≤ v) = true := by simp; omega
  have e2 : decide (32 ≤ v) = false := by simp; omega
  have e3 : decide (v ≤ 31) = true := by simp; omega
  have e4 : decide (t < 0) = false := by simp; omega
  have e5 : decide (0 ≤ t) = true := by simp; omega
  have e6 : decide (32 ≤ t) = true := by simp; omega
  have e7 : decide (t ≤ 31) = false := by simp; omega
  go_enter Try.func3, Try.ntmps3
  go_wp2
  iterate 4 ((all_goals (try go_region)); (all_goals (try go_wp2)))
  all_goals
    go_ret
    exact ⟨by first | rfl | (simp; done) | (simp [*]; done), by repeat (first | exact Drawn0.refl _ | apply Drawn0.step)⟩
set_option maxHeartbeats 1000000 in
set_option maxRecDepth 100000 in
theorem t_ok5 (v t : Int) (w : World) (h0 : 0 ≤ v) (h1 : v < 32) (h2 : 0 ≤ t) (h3 : t < 32) :
    Calls Try.prog 3 #[.int .i64 5, .int .i64 v, .int .i64 t] w fun e w' => e = .returned (.bool true) ∧ Drawn0 w w' := by
  have e0 : decide (v < 0) = false := by simp; omega
  have e1 : decide (0 ≤ v) = true := by simp; omega
  have e2 : decide (32 ≤ v) = false := by simp; omega
  have e3 : decide (v ≤ 31) = true := by simp; omega
  have e4 : decide (t < 0) = false := by simp; omega
  have e5 : decide (0 ≤ t) = true := by simp; omega
  have e6 : decide (32 ≤ t) = false := by simp; omega
  have e7 : decide (t ≤ 31) = true := by simp; omega
  go_enter Try.func3, Try.ntmps3
  go_wp2
  iterate 4 ((all_goals (try go_region)); (all_goals (try go_wp2)))
  all_goals
    go_ret
    exact ⟨by first | rfl | (simp; done) | (simp [*]; done), by repeat (first | exact Drawn0.refl _ | apply Drawn0.step)⟩
theorem at5 (v t : Int) (w : World) : Calls Try.prog 3 #[.int .i64 5, .int .i64 v, .int .i64 t] w fun e w' => e = .returned (.bool true) ∧ Drawn0 w w' := by
  by_cases h0 : v < 0
  · exact v_low5 v t w h0
  by_cases h1 : 32 ≤ v
  · exact v_high5 v t w h1
  by_cases h2 : t < 0
  · exact t_low5 v t w (by omega) (by omega) h2
  by_cases h3 : 32 ≤ t
  · exact t_high5 v t w (by omega) (by omega) h3
  exact t_ok5 v t w (by omega) (by omega) (by omega) (by omega)
theorem all (n v t : Int) (w : World) : Calls Try.prog 3 #[.int .i64 n, .int .i64 v, .int .i64 t] w fun e w' => e = .returned (.bool true) ∧ Drawn0 w w' := by
  by_cases h0 : n < 1
  · exact n_low n v t w h0
  by_cases h1 : 5 < n
  · exact n_high n v t w h1
  have h : n = 1 ∨ n = 2 ∨ n = 3 ∨ n = 4 ∨ n = 5 := by omega
  rcases h with rfl | rfl | rfl | rfl | rfl
  · exact at1 v t w
  · exact at2 v t w
  · exact at3 v t w
  · exact at4 v t w
  · exact at5 v t w
end Go.Proofs.Ytlagoaoenaaglaa.QCounterDistance
