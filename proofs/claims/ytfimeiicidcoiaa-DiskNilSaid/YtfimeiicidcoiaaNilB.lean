/- The law's DiskNil. -/
import Derived.Test.YtfimeiicidcoiaaNilA
import Derived.Test.YtfimeiicidcoiaaDkO
namespace Go.Proofs.Ytfimeiicidcoiaa.Dk
open Go.RowKit Go.Proofs.YtfimeiicidcoiaaW.PrintWords Go.Proofs.YtfimeiicidcoiaaW.PrintLast Go.Proofs.YtfimeiicidcoiaaW.PrintMore
set_option linter.unusedVariables false
set_option linter.unusedSimpArgs false
variable {w : World}
set_option maxHeartbeats 8000000 in
theorem DiskNil_calls (k n : Int) (A : Option Addr) (l c : Nat) : Calls Try.prog 8 #[.int .i64 k, .int .i64 n, .slice A l c] w fun e w' => e = .returned (.bool true) ∧ Below w.heap.size w w' := by
  go_enter Try.func8, Try.ntmps8
  go_wp2_with (first | (go_at_call 27; refine (ReadNil _).mono ?_; rintro e w' ⟨rfl, rfl⟩) | (go_at_call 23; refine (LoadNil _ _).mono ?_; rintro e w' ⟨rfl, rfl⟩) | (go_at_call 15; refine (LoseNil none 0 0).mono ?_; rintro e w1 ⟨rfl, hb1⟩; have HB1 := Aside0.mk hb1; clear hb1) | (go_at_call 12; refine StartNil.mono ?_; rintro e w' ⟨rfl, rfl⟩) | (go_at_call 21; refine SizeNil.mono ?_; rintro e w' ⟨rfl, rfl⟩) | (go_at_call 10; refine UpNil.mono ?_; rintro e w' ⟨rfl, rfl⟩) | (go_at_call 26; refine StrokesNil.mono ?_; rintro e w' ⟨rfl, rfl⟩) | (go_at_call 17; refine HeldNil.mono ?_; rintro e w' ⟨rfl, rfl⟩))
  go_wp2_with (first | (go_at_call 19; refine (WriteNil _ _).mono ?_; rintro e w' ⟨rfl, rfl⟩) | (go_at_call 13; refine FlushNil.mono ?_; rintro e w' ⟨rfl, rfl⟩) | (go_at_call 25; refine (SetNil _ _).mono ?_; rintro e w' ⟨rfl, rfl⟩) | (go_at_call 14; refine BytesNil.mono ?_; rintro e w' ⟨rfl, rfl⟩) | (go_at_call 24; refine CopyNil.mono ?_; rintro e w' ⟨rfl, rfl⟩))
  go_wp2_with (first | (go_at_call 22; refine (SaveNil _ _ _ _).mono ?_; rintro e w' ⟨rfl, rfl⟩) | (go_at_call 11; refine known_calls.mono ?_; rintro e w2 ⟨rfl, hb2⟩; have HB2 := Aside0.mk hb2; clear hb2))
  go_ret
  refine ⟨rfl, ?_⟩
  exact Upd.below (F := fun _ => False) ((Upd.of_below (F := fun _ => False) HB1.out).trans (Upd.of_below (F := fun _ => False) HB2.out) (fun _ h => h.elim)) (fun _ h => h.elim)
end Go.Proofs.Ytfimeiicidcoiaa.Dk
