/- Contracts of package disk: New where it refuses; what is kept by all calls. -/
import Derived.Test.YtfimeiicidcoiaaDkL
namespace Go.Proofs.Ytfimeiicidcoiaa.Dk
open Go.RowKit Go.Proofs.YtfimeiicidcoiaaW.PrintWords Go.Proofs.YtfimeiicidcoiaaW.PrintLast Go.Proofs.YtfimeiicidcoiaaW.PrintMore
set_option linter.unusedVariables false
set_option linter.unusedSimpArgs false
variable {w W W1 : World} {B g N : Nat} {F : Nat → Prop} {D : DM} {vs vh vc : Value}
set_option maxHeartbeats 4000000 in
theorem New_fails (A : Option Addr) (c : Nat) (x : List Int) (n : Int) (hx : x.length ≤ 1000000000) (hbad : newBad x n) :
    Calls Try.prog 30 #[.slice A x.length c, .int .i64 n] w fun e w' => e = .returned (.tuple #[.pointer none, .int .i64 1]) ∧ w = w' := by
  by_cases h1 : n < 1
  · clear hbad
    go_enter Try.func30, Try.ntmps30
    go_wp2
    refine bodyPost_ret (results_tmp2 rfl _ _ _) rfl ?_
    exact ⟨rfl, rfl⟩
  · by_cases h2 : 16384 < n
    · clear hbad
      go_enter Try.func30, Try.ntmps30
      go_wp2
      refine bodyPost_ret (results_tmp2 rfl _ _ _) rfl ?_
      exact ⟨rfl, rfl⟩
    · have h3 : n * 64 < (x.length : Int) := by
        rcases hbad with h | h | h
        · exact absurd h h1
        · exact absurd h h2
        · exact h
      clear hbad
      go_enter Try.func30, Try.ntmps30
      go_wp2
      refine bodyPost_ret (results_tmp2 rfl _ _ _) rfl ?_
      exact ⟨rfl, rfl⟩
theorem newM_ok (x : List Int) (n : Nat) (h : n ≤ 16384) : DOk (newM x n n) := by
  refine ⟨fun y hy => by simp [newM] at hy, ?_, by simp [newM], by simp [newM], by simp [newM]⟩
  show (secTo x n n).length ≤ 16384
  rw [secTo_length x n n (Nat.le_refl _)]
  exact h
end Go.Proofs.Ytfimeiicidcoiaa.Dk
