/- The law WordsCounts: the walk. -/
import Derived.Test.YtmmpppahagknpaaWcF
namespace Go.Proofs.Ytmmpppahagknpaa.Wc
open Go.RowKit Go.Proofs.Ytmmpppahagknpaa.P Go.Proofs.Ytmmpppahagknpaa.Pure Go.Proofs.YtmmpppahagknpaaW.PrintWords Go.Proofs.YtmmpppahagknpaaW.PrintLast Go.Proofs.YtmmpppahagknpaaW.PrintMore
set_option linter.unusedVariables false
set_option linter.unusedSimpArgs false
set_option maxRecDepth 30000

set_option maxHeartbeats 16000000 in
theorem counts_law {w : World} (A : Option Addr) (c : Nat) (T : List (List Int)) (hT : Kd.C (Kd.slice 5 (Kd.int .u8)) w A T.length T) (hc : T.length ≤ c) (hB : ∀ t ∈ T, Byts t) (hl : ∀ t ∈ T, t.length ≤ 140737488355328) (hTl : T.length ≤ 140737488355328) :
    Calls Try.prog 8 #[.slice A T.length c] w fun e w' => e = .returned (.bool true) ∧ Below w.heap.size w w' := by
  have HT := Aside0.mk hT
  have HC := Aside0.mk hc
  have HB := Aside0.mk hB
  have HL := Aside0.mk hl
  have HTL := Aside0.mk hTl
  obtain ⟨b, hb, hm⟩ := c_much hT hc hTl hl
  have HM := Aside0.mk hm
  clear hT hB hl hm hTl
  cases b with
  | true =>
    go_enter Try.func8, Try.ntmps8
    go_wp2_with (first | (go_at_call 21; (with_reducible refine HM.out.mono ?_); rintro e w1 ⟨rfl, m1, rfl⟩) | (go_at_call 12; (with_reducible refine (c_known).mono ?_); rintro e w2 ⟨rfl, hb2⟩))
    go_ret
    exact ⟨rfl, below_step (pw_below_drewN (Below.refl _ _) m1) hb2⟩
  | false =>
    have hs := hb rfl
    have HS := Aside0.mk (show T.length + tot T ≤ 16384 by omega)
    have HLL := Aside0.mk (show (countsR (wordsOf T)).length ≤ 100000 by
      have h1 := countsR_length (wordsOf T)
      have h2 := wordsOf_tot HB.out (by omega)
      omega)
    clear hb hs
    go_enter Try.func8, Try.ntmps8
    go_wp2_with (first | (go_at_call 21; (with_reducible refine HM.out.mono ?_); rintro e w1 ⟨rfl, m1, rfl⟩) | (go_at_call 22; (with_reducible refine (counts_calls A c T (Kd.C_drewN HT.out m1) HC.out HB.out HL.out HTL.out).mono ?_); rintro e w2 (⟨_, v3, cs, Z, rfl, hct⟩ | ⟨hbad, rfl, _⟩); focus (have HCT := Aside0.mk hct; have HB3 := Aside0.mk (below_step (pw_below_drewN (Below.refl w.heap.size w) m1) hct.b); have HT3 := Aside0.mk (Kd.C_below HT.out HB3.out); clear hct)) | (go_at_call 24; (with_reducible refine (c_is HCT.out HLL.out).mono ?_); rintro e w4 ⟨v4, rfl, hr4, hb4⟩; have HR4 := Aside0.mk hr4; have HB4 := Aside0.mk (below_step HB3.out hb4); have HT4 := Aside0.mk (Kd.C_below HT3.out hb4); clear hr4 hb4) | (go_at_call 25; (with_reducible refine (c_ref HT4.out HC.out HB.out HS.out).mono ?_); rintro e w5 ⟨v5, rfl, hr5, hb5⟩; have HR5 := Aside0.mk hr5; have HR6 := Aside0.mk (HR4.out.below hb5); have HB5 := Aside0.mk (below_step HB4.out hb5); clear hr5 hb5) | (go_at_call 23; (with_reducible refine (c_same HR6.out HR5.out HLL.out).mono ?_); rintro e w6 ⟨rfl, m6, rfl⟩; have HB6 := Aside0.mk (pw_below_drewN HB5.out m6)) | (go_at_call 12; (with_reducible refine (c_known).mono ?_); rintro e w7 ⟨rfl, hb7⟩; have HB7 := Aside0.mk (below_step HB6.out hb7); clear hb7))
    · go_ret
      exact ⟨rfl, HB7.out⟩
    · exact absurd hbad (by have := HS.out; omega)

end Go.Proofs.Ytmmpppahagknpaa.Wc
