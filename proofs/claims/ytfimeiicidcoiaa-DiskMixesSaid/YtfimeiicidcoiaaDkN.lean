/- Contracts of package disk: Read where it refuses; rows beside a disk. -/
import Derived.Test.YtfimeiicidcoiaaDkM
namespace Go.Proofs.Ytfimeiicidcoiaa.Dk
open Go.RowKit Go.Proofs.YtfimeiicidcoiaaW.PrintWords Go.Proofs.YtfimeiicidcoiaaW.PrintLast Go.Proofs.YtfimeiicidcoiaaW.PrintMore
set_option linter.unusedVariables false
set_option linter.unusedSimpArgs false
variable {w W W' : World} {B g N : Nat} {F G : Nat → Prop} {D : DM} {vs vh vc : Value}
theorem Read_fails (h : DAt w B g F D vs vh vc) (k : Int) (hk : atM D k ≠ 0) :
    Calls Try.prog 27 #[.pointer (some ⟨g, 0, none⟩), .int .i64 k] w fun e w' => e = .returned (.tuple #[.slice none 0 0, .int .i64 (atM D k)]) ∧ w = w' := by
  have H := Aside0.mk h
  obtain ⟨q, hq0⟩ : ∃ q, atM D k = q := ⟨_, rfl⟩
  have HA := Lib.hid hq0
  rw [hq0] at hk
  clear h hq0
  go_enter Try.func27, Try.ntmps27
  go_wp2_with (first | (go_at_call 36; refine (at_calls H.out k).mono ?_; rintro e w' ⟨rfl, rfl⟩; rw [HA.out]))
  refine bodyPost_ret (results_tmp2 rfl _ _ _) rfl ?_
  exact ⟨by rw [HA.out] <;> rfl, rfl⟩
/-- A row of bytes beside a disk: what the disk's calls leave as it was. -/
structure Row (W : World) (F : Nat → Prop) (v : Value) (xs : List Int) : Prop where
  row : ∃ G, Kd.R (Kd.int .u8) 5 W 0 G v xs ∧ ∀ k, G k → k < W.heap.size ∧ ¬ F k
theorem Row.step {v : Value} {xs : List Int} (h : Row W F v xs) (hu : Upd W W' F) : Row W' (Grow F W W') v xs := by
  obtain ⟨G, h1, h2⟩ := h.row
  exact ⟨G, Kd.R_kept h1 hu.kept (fun k hk => (h2 k hk).2), fun k hk => ⟨Nat.lt_of_lt_of_le (h2 k hk).1 hu.size, fun hg => hg.elim (h2 k hk).2 (fun h => by have := (h2 k hk).1; omega)⟩⟩
theorem Row.same {v : Value} {xs : List Int} (h : Row W F v xs) (hu : Upd W W' F) : Row W' F v xs := by
  obtain ⟨G, h1, h2⟩ := h.row
  exact ⟨G, Kd.R_kept h1 hu.kept (fun k hk => (h2 k hk).2), fun k hk => ⟨Nat.lt_of_lt_of_le (h2 k hk).1 hu.size, (h2 k hk).2⟩⟩
theorem Row.reads {v : Value} {xs : List Int} (h : Row W F v xs) : ∃ A c, v = .slice A xs.length c ∧ xs.length ≤ c ∧ Kd.C (Kd.int .u8) W A xs.length xs := by
  obtain ⟨G, h1, _⟩ := h.row
  exact Kd.R_reads h1
/-- A row that is made beside a disk. -/
theorem Row.new {v : Value} {xs : List Int} {base : Nat} (h : Kd.R (Kd.int .u8) 5 W' base (fun k => base ≤ k) v xs) (hF : ∀ k, F k → k < base) : Row W' F v xs := by
  refine ⟨⟨fun k => base ≤ k ∧ k < W'.heap.size, ?_, fun k hk => ⟨hk.2, fun hf => by have := hF k hf; omega⟩⟩⟩
  have := Kd.R_mono (Kd.R_bound h) (ok' := fun k => base ≤ k ∧ k < W'.heap.size) (fun k hk => ⟨hk.1, hk.2.2.1⟩)
  exact Kd.R_lower this (Nat.zero_le _)
theorem DiskAt.lt (h : DiskAt w B g F D) : ∀ k, F k → k < w.heap.size := by
  obtain ⟨_, _, _, h⟩ := h
  exact fun k hk => (h.lt k hk).2
end Go.Proofs.Ytfimeiicidcoiaa.Dk
