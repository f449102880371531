/- The reference's full. -/
import Derived.Test.YtfimeiicidcoiaaReD
namespace Go.Proofs.Ytfimeiicidcoiaa.Dk
open Go.RowKit Go.Proofs.YtfimeiicidcoiaaW.PrintWords Go.Proofs.YtfimeiicidcoiaaW.PrintLast Go.Proofs.YtfimeiicidcoiaaW.PrintMore
set_option linter.unusedVariables false
set_option linter.unusedSimpArgs false
variable {w w1 : World} {B g : Nat} {F G : Nat → Prop} {R : RM} {vs vh vc : Value}
set_option maxHeartbeats 8000000 in
theorem full_calls (A : Option Addr) (c : Nat) (x : List Int) (hx : x.length ≤ 1000000000) (hC : Kd.C (Kd.int .u8) w A x.length x) :
    Calls Try.prog 39 #[.slice A x.length c] w fun e w' => ∃ v xs, e = .returned v ∧ xs.length = 64 ∧ Kd.R (Kd.int .u8) 5 w' w.heap.size (fun k => w.heap.size ≤ k) v xs ∧ Below w.heap.size w w' := by
  have HC := Aside0.mk hC
  clear hC
  go_enter Try.func39, Try.ntmps39
  go_wp2_with (first | ((with_reducible refine gate_builtin (b := .append) (xs := #[.tmp 4, .tmp 5]) rfl ?_); at_builtin; refine Kd.R_append_rows (Kd.int .u8) (Rr := (Kd.int .u8).K w) (w0 := w) w.heap.size rfl (.tmp 4) (.tmp 5) 22 5 (.int .u8 0) 1 rfl Try.underlying22 info5 rfl (by decide) (by omega) (.slice none 0 0) [] x A x.length c (fun k => w.heap.size ≤ k) (fun _ => False) rfl rfl (Kd.R_nil _ _ _ _ _) HC.out (fun _ _ h => h) (fun _ h => h.elim) (fun _ h => h) (Below.refl _ _) (Nat.le_refl _) ?aL ?_; (case aL => simp; omega); intro v1 w1 hr1 hb1 hg1 _; simp only [List.nil_append] at hr1; have HR1 := Aside0.mk hr1; have HB1 := Aside0.mk hb1; clear hr1 hb1 hg1))
  go_loopw [3] (fun v3 w' => ∃ xs : List Int, xs.length ≤ 1000000064 ∧ Aside0 (Kd.R (Kd.int .u8) 5 w' w.heap.size (fun k => w.heap.size ≤ k) v3 xs) ∧ Aside0 (Below w.heap.size w w') ∧ ∃ A c, v3 = .slice A xs.length c) (fun v3 _ => 64 - (match v3 with | .slice _ n _ => n | _ => 0))
  case atStart => exact ⟨x, by omega, HR1, HB1, Kd.R_slice HR1.out⟩
  case round =>
    obtain ⟨xs, hl, HR, HB, A3, c3, rfl⟩ := hrel
    by_cases hlt : xs.length < 64
    · have HA := heap_alloc_new wr (.cells #[.int .u8 0] 5)
      have HC0 := Aside0.mk (show Kd.C (Kd.int .u8) (wr.alloc (.cells #[.int .u8 0] 5)) (some ⟨wr.heap.size, 0, none⟩) 1 [0] from C_block (x := [0]) HA (by decide))
      have HBA := Aside0.mk (below_alloc HB.out (.cells #[.int .u8 0] 5))
      have HRA := Aside0.mk (Kd.R_below HR.out (below_alloc (Below.refl wr.heap.size wr) (.cells #[.int .u8 0] 5)))
      clear HA
      go_wp2_with (first | ((with_reducible refine gate_builtin (b := .append) (xs := #[.tmp 10, .tmp 11]) rfl ?_); at_builtin; refine Kd.R_append_rows (Kd.int .u8) (Rr := (Kd.int .u8).K w) (w0 := w) w.heap.size rfl (.tmp 10) (.tmp 11) 22 5 (.int .u8 0) 1 rfl Try.underlying22 info5 rfl (by decide) (by omega) _ xs [0] (some ⟨wr.heap.size, 0, none⟩) 1 1 (fun k => w.heap.size ≤ k) (fun _ => False) rfl rfl HRA.out HC0.out (fun _ _ h => h) (fun _ h => h.elim) (fun _ h => Nat.le_trans HBA.out.size h) HBA.out HBA.out.size ?aL ?_; (case aL => omega); intro v1 w1 hr1 hb1 hg1 _; obtain ⟨A1, c1, rfl⟩ := Kd.R_slice hr1; have HR1 := Aside0.mk hr1; have HB1 := Aside0.mk hb1; clear hr1 hb1 hg1))
      go_roundw
      case rel => exact ⟨xs ++ [0], by rw [List.length_append]; show xs.length + 1 ≤ _; omega, ⟨by have := HR1.out; rw [List.length_append] at this; exact this⟩, HB1, _, _, by rw [List.length_append]; rfl⟩
      case measure => simp; omega
    · obtain ⟨_, _, e, hc, hC3⟩ := Kd.R_reads HR.out
      injection e with e1 e2 e3
      subst e1; subst e3
      clear e2 hC3
      have HT := Aside0.mk (Kd.R_take HR.out (m := 64) (by omega))
      go_wp2
      go_ret
      exact ⟨_, xs.take 64, rfl, by rw [List.length_take]; omega, HT.out, HB.out⟩
end Go.Proofs.Ytfimeiicidcoiaa.Dk
