/- Functions of the program and of its laws, each with a Lean function and the proof that a call comes to what that function tells, under the conditions that its contract names. (Laid by a program of this session, out of the translation; Lean checks it.) -/
import Derived.Test.YtmmpppahagknpaaPx0
import Derived.Test.YtmmpppahagknpaaPx1
import Derived.Test.YtmmpppahagknpaaPx2
namespace Go.Proofs.Ytmmpppahagknpaa.P
open Go.RowKit Go.Proofs.YtmmpppahagknpaaW.PrintWords Go.Proofs.YtmmpppahagknpaaW.PrintLast Go.Proofs.YtmmpppahagknpaaW.PrintMore
attribute [local go_sem] max2_int min2_int max_two min_two max_three min_three max_four min_four   -- for this text's walks alone
set_option linter.unusedVariables false
set_option linter.unusedSimpArgs false

/-! ### words_word: function 37 -/
def words_word.j0 : Nat → List Int → Bool → Option (Int)
  | 0, _, _ => none
  | k + 1, x0, x17 => if x17 = true then (if 1 ≤ (x0.length : Int) then ((words_run.f k (x0.drop 1)).bind fun bt113 => (some (wrap64 (1 + bt113.2.1)))) else (none)) else ((words_run.f k x0).bind fun bt116 => (if bt116.1 = 3 then (if bt116.2.2 > 0 then (if 0 ≤ bt116.2.2 then (if bt116.2.2 < (x0.length : Int) then (if (rd x0 bt116.2.2) = 32 then (if 0 ≤ bt116.2.1 then (if bt116.2.1 ≤ (x0.length : Int) then ((words_solid.f k (x0.drop (bt116.2.1 : Int).toNat)).bind fun t121 => (if t121 = true then (some bt116.2.2) else (some bt116.2.1))) else (none)) else (none)) else (some bt116.2.1)) else (none)) else (none)) else (some bt116.2.1)) else (some bt116.2.1)))
def words_word.f (k : Nat) (l0 : List Int) : Option (Int) := if 0 < (l0.length : Int) then (if (rd l0 0) = 32 then (if 1 ≤ (l0.length : Int) then ((words_solid.f k (l0.drop 1)).bind fun t111 => (words_word.j0 k l0 t111)) else (none)) else (words_word.j0 k l0 false)) else (none)
theorem words_word.mono_l : ∀ k, (∀ y0 y1, LeO (words_word.j0 k y0 y1) (words_word.j0 (k + 1) y0 y1))
  | 0 => fun _ _ r h => by simp [words_word.j0] at h
  | k + 1 => by
    have ih0 := words_word.mono_l k
    · intro y0 y1
      unfold words_word.j0
      repeat' first
      | (with_reducible exact ih0 _ _)
      | (with_reducible exact words_run.mono _ _)
      | (with_reducible exact words_solid.mono _ _)
      | (with_reducible exact LeO.refl _)
      | (with_reducible exact LeO.none _)
      | (with_reducible refine LeO.ite ?_ ?_)
      | (with_reducible refine LeO.bind ?_ (fun _ => ?_))
      | exact ih0 _ _
      | exact words_run.mono _ _
      | exact words_solid.mono _ _
      | exact LeO.none _
      | refine LeO.ite ?_ ?_
      | refine LeO.bind ?_ (fun _ => ?_)
theorem words_word.mono : ∀ a0 k, LeO (words_word.f k a0) (words_word.f (k + 1) a0) := by
  intro a0 k
  have ih0 := words_word.mono_l k
  unfold words_word.f
  repeat' first
      | (with_reducible exact ih0 _ _)
      | (with_reducible exact words_run.mono _ _)
      | (with_reducible exact words_solid.mono _ _)
      | (with_reducible exact LeO.refl _)
      | (with_reducible exact LeO.none _)
      | (with_reducible refine LeO.ite ?_ ?_)
      | (with_reducible refine LeO.bind ?_ (fun _ => ?_))
      | exact ih0 _ _
      | exact words_run.mono _ _
      | exact words_solid.mono _ _
      | exact LeO.none _
      | refine LeO.ite ?_ ?_
      | refine LeO.bind ?_ (fun _ => ?_)
set_option maxHeartbeats 8000000 in
set_option maxRecDepth 100000 in
theorem words_word.calls (k : Nat) (A0 : Option Addr) (c0 : Nat) (l0 : List Int) (r : Int) (w : World) (hr0 : Kd.C (Kd.int .u8) w A0 l0.length l0) (hc0 : l0.length ≤ c0) (h : words_word.f k l0 = some r) :
    Calls Try.prog 37 #[.slice A0 l0.length c0] w fun e w' => e = .returned (.int .i64 r) ∧ Below w.heap.size w w' := by
  have HR0 := Aside0.mk hr0
  have HC0 := Aside0.mk hc0
  clear hr0 hc0
  have HB := Aside0.mk (Below.refl w.heap.size w)
  have H : (if 0 < (l0.length : Int) then (if (rd l0 0) = 32 then (if 1 ≤ (l0.length : Int) then ((words_solid.f k (l0.drop 1)).bind fun t111 => (words_word.j0 k l0 t111)) else (none)) else (words_word.j0 k l0 false)) else (none)) = some r := h
  clear h
  have HC2 := Aside0.mk H
  clear H
  go_enter Try.func37, Try.ntmps37
  go_upto_region 1 with (fail)
  go_cut [17] (fun v17 wc => ∃ (kq : Nat) (x17_1 : Bool), v17 = .bool x17_1 ∧ Aside0 (words_word.j0 kq l0 x17_1 = some r) ∧ Aside0 (kq ≤ k) ∧ Aside0 (Below w.heap.size w wc))
  case first =>
    have H := HC2.out
    clear HC2
    by_cases c3 : 0 < (l0.length : Int)
    · rw [if_pos c3] at H
      have c3b0 : decide (0 < (l0.length : Int)) = true := decide_eq_true c3
      have c3b1 : decide (0 < l0.length) = true := decide_eq_true (by omega)
      clear c3
      (first | rw [c3b0] | (simp only [i64_w, i32_w]; rw [c3b0]) | skip)
      by_cases c4 : (rd l0 0) = 32
      · rw [if_pos c4] at H
        have c4b0 : ((rd l0 0) == 32) = true := beq_iff_eq.mpr c4
        have c4b1 : ((rd l0 0) != 32) = false := bne_eq_false_iff_eq.mpr c4
        clear c4
        by_cases c5 : 1 ≤ (l0.length : Int)
        · rw [if_pos c5] at H
          have c5b0 := eq_true c5
          have c5b1 : decide (1 ≤ (l0.length : Int)) = true := decide_eq_true c5
          clear c5
          replace H := Option.bind_eq_some_iff.mp H
          obtain ⟨t111, A60, H⟩ := H
          replace H : (words_word.j0 k l0 t111) = some r := H
          have A6 := Aside0.mk A60
          clear A60
          have H' := Aside0.mk H
          clear H
          have p109 : 0 ≤ (0 : Int) := (by omega)
          have q109 : 0 < (l0.length : Int) := of_decide_eq_true (by first | (with_reducible assumption) | assumption)
          obtain ⟨ad109, e109, hx109_0⟩ := Kd.at_int HR0.out 0 p109 q109
          cases e109
          have qi109 : (0 < l0.length) = True := eq_true (by omega)
          (try rw [show ((0 : Int)).toNat = 0 from rfl] at hx109_0)
          (try rw [Addr.add_zero'] at hx109_0)
          replace hx109_0 := (HB.out.cell (World.block_lt_of_cell? w _ hx109_0)).trans hx109_0
          replace p109 := eq_true p109
          replace q109 := eq_true q109
          obtain ⟨i07, hi07, _, hsz7, _⟩ := info_parts info5
          obtain ⟨A7, hcut7, hA7, hC7⟩ := print_drop_of (P := Try.prog) (Value.int .u8) 0 22 5 .i64 Try.underlying22 hi07 hsz7 (some ad109) c0 l0 1 (by omega) (of_decide_eq_true (by first | (with_reducible assumption) | assumption)) HC0.out
          have HR110 := Aside0.mk (Kd.C_of_reads (h1 := fun _ => rfl) (hA7 _ (Kd.reads_of_C HR0.out)))
          have HC110 := Aside0.mk hC7
          clear hA7 hC7 hi07 hsz7
          go_wp2_with (first | (go_at_call 43; refine calls_of_args (args' := #[.slice A7 (l0.drop 1).length (c0 - 1)]) (by first | rfl | (rw [show (l0.drop 1).length = (l0.length - 1) from List.length_drop] <;> rfl) | (simp only [List.length_drop, List.length_take]; rfl) | (simp; done)) ?_; (with_reducible refine (words_solid.calls k _ _ (l0.drop 1) t111 _ ?side1 ?side2 A6.out).mono ?_); (case side1 => repeat (first | exact (Kd.C_below HR110.out HB.out) | (with_reducible refine Kd.C_alloc ?_ _) | (with_reducible refine Kd.C_drewN ?_ _) | (with_reducible refine Kd.C_drew ?_))); (case side2 => exact HC110.out); rintro e w' ⟨rfl, ⟨nd, rfl⟩⟩))
          go_meet
          case rel => exact ⟨_, (t111), (by first | rfl | (simp; done) | (simp [*]; done)), H', ⟨by first | omega | exact Nat.le_refl _⟩, ⟨by repeat (first | (with_reducible first | exact HB.out | apply below_alloc | apply pw_below_drewN | apply below_drew1) | exact HB.out)⟩⟩
        · rw [if_neg c5] at H
          exact absurd H (by simp)
      · rw [if_neg c4] at H
        have c4b0 : ((rd l0 0) == 32) = false := beq_eq_false_iff_ne.mpr c4
        have c4b1 : ((rd l0 0) != 32) = true := bne_iff_ne.mpr c4
        have H' := Aside0.mk H
        clear H
        have p109 : 0 ≤ (0 : Int) := (by omega)
        have q109 : 0 < (l0.length : Int) := of_decide_eq_true (by first | (with_reducible assumption) | assumption)
        obtain ⟨ad109, e109, hx109_0⟩ := Kd.at_int HR0.out 0 p109 q109
        cases e109
        have qi109 : (0 < l0.length) = True := eq_true (by omega)
        (try rw [show ((0 : Int)).toNat = 0 from rfl] at hx109_0)
        (try rw [Addr.add_zero'] at hx109_0)
        replace hx109_0 := (HB.out.cell (World.block_lt_of_cell? w _ hx109_0)).trans hx109_0
        replace p109 := eq_true p109
        replace q109 := eq_true q109
        go_wp2
        go_meet
        case rel => exact ⟨_, (false), (by first | rfl | (simp; done) | (simp [*]; done)), H', ⟨by first | omega | exact Nat.le_refl _⟩, ⟨by repeat (first | (with_reducible first | exact HB.out | apply below_alloc | apply pw_below_drewN | apply below_drew1) | exact HB.out)⟩⟩
    · rw [if_neg c3] at H
      exact absurd H (by simp)
  case rest =>
    clear HC2
    try clear p1
    try clear q1
    try clear hx1
    try clear qi1
    try clear p2
    try clear c3
    try clear c3b0
    try clear c3b1
    try clear c4
    try clear c4b0
    try clear c4b1
    try clear c5
    try clear c5b0
    try clear c5b1
    try clear hx109_0
    try clear p109
    try clear q109
    obtain ⟨kq, x17_1, rfl, HA, HJ1, HB⟩ := hcut
    cases kq with
    | zero => exact absurd HA.out (by simp [words_word.j0])
    | succ kj1 =>
      have H := HA.out
      clear HA
      simp only [words_word.j0] at H
      by_cases c8 : x17_1 = true
      · subst c8
        have H1 : (if 1 ≤ (l0.length : Int) then ((words_run.f kj1 (l0.drop 1)).bind fun bt113 => (some (wrap64 (1 + bt113.2.1)))) else (none)) = some r := by rw [if_pos rfl] at H; exact H
        clear H
        have H := H1
        clear H1
        by_cases c9 : 1 ≤ (l0.length : Int)
        · rw [if_pos c9] at H
          have c9b0 := eq_true c9
          have c9b1 : decide (1 ≤ (l0.length : Int)) = true := decide_eq_true c9
          clear c9
          replace H := Option.bind_eq_some_iff.mp H
          obtain ⟨⟨t113, t114, t115⟩, A100, H⟩ := H
          replace H : (some (wrap64 (1 + t114))) = some r := H
          have A10 := Aside0.mk A100
          clear A100
          obtain rfl := Option.some.inj H
          obtain ⟨i011, hi011, _, hsz11, _⟩ := info_parts info5
          obtain ⟨A11, hcut11, hA11, hC11⟩ := print_drop_of (P := Try.prog) (Value.int .u8) 0 22 5 .i64 Try.underlying22 hi011 hsz11 A0 c0 l0 1 (by omega) (of_decide_eq_true (by first | (with_reducible assumption) | assumption)) HC0.out
          have HR112 := Aside0.mk (Kd.C_of_reads (h1 := fun _ => rfl) (hA11 _ (Kd.reads_of_C HR0.out)))
          have HC112 := Aside0.mk hC11
          clear hA11 hC11 hi011 hsz11
          go_wp2_with (first | ((with_reducible refine gate_callee (f := 44) rfl ?_); refine goesL_ (some 21) rfl rfl Try.func44 (by kernel_rfl) rfl #[.slice A11 (l0.drop 1).length (c0 - 1)] rfl (by (try simp only [List.map_toArray, List.map_cons, List.map_nil]); first | done | (rw [show (l0.drop 1).length = (l0.length - 1) from List.length_drop] <;> rfl) | rfl | (simp only [List.length_drop, List.length_take]; rfl)) ?_; (with_reducible refine (words_run.calls kj1 _ _ (l0.drop 1) t113 t114 t115 _ ?side1 ?side2 A10.out).mono ?_); (case side1 => repeat (first | exact (Kd.C_below HR112.out HB.out) | (with_reducible refine Kd.C_alloc ?_ _) | (with_reducible refine Kd.C_drewN ?_ _) | (with_reducible refine Kd.C_drew ?_))); (case side2 => exact HC112.out); rintro e w12 ⟨rfl, hb⟩; refine ⟨_, rfl, ?_⟩; have n0_ := Aside0.mk (below_step (by repeat (first | (with_reducible first | exact HB.out | apply below_alloc | apply pw_below_drewN | apply below_drew1) | exact HB.out)) hb); clear HB; have HB := n0_; clear n0_; (try clear hb); (try clear hb2); (try clear hk); (try clear hi)))
          go_ret
          exact ⟨by first | rfl | (simp [errW_none, errW_some] <;> rfl) | (simp [*, errW_none, errW_some] <;> rfl), by repeat (first | (with_reducible first | exact HB.out | apply below_alloc | apply pw_below_drewN | apply below_drew1) | exact HB.out)⟩
        · rw [if_neg c9] at H
          exact absurd H (by simp)
      · replace c8 := Bool.eq_false_iff.mpr c8
        subst c8
        have H1 : ((words_run.f kj1 l0).bind fun bt116 => (if bt116.1 = 3 then (if bt116.2.2 > 0 then (if 0 ≤ bt116.2.2 then (if bt116.2.2 < (l0.length : Int) then (if (rd l0 bt116.2.2) = 32 then (if 0 ≤ bt116.2.1 then (if bt116.2.1 ≤ (l0.length : Int) then ((words_solid.f kj1 (l0.drop (bt116.2.1 : Int).toNat)).bind fun t121 => (if t121 = true then (some bt116.2.2) else (some bt116.2.1))) else (none)) else (none)) else (some bt116.2.1)) else (none)) else (none)) else (some bt116.2.1)) else (some bt116.2.1))) = some r := by rw [if_neg (show ¬ (false = true) by decide)] at H; exact H
        clear H
        have H := H1
        clear H1
        replace H := Option.bind_eq_some_iff.mp H
        obtain ⟨⟨t116, t117, t118⟩, A130, H⟩ := H
        replace H : (if t116 = 3 then (if t118 > 0 then (if 0 ≤ t118 then (if t118 < (l0.length : Int) then (if (rd l0 t118) = 32 then (if 0 ≤ t117 then (if t117 ≤ (l0.length : Int) then ((words_solid.f kj1 (l0.drop (t117 : Int).toNat)).bind fun t121 => (if t121 = true then (some t118) else (some t117))) else (none)) else (none)) else (some t117)) else (none)) else (none)) else (some t117)) else (some t117)) = some r := H
        have A13 := Aside0.mk A130
        clear A130
        by_cases c14 : t116 = 3
        · rw [if_pos c14] at H
          have c14b0 : (t116 == 3) = true := beq_iff_eq.mpr c14
          have c14b1 : (t116 != 3) = false := bne_eq_false_iff_eq.mpr c14
          clear c14
          by_cases c15 : t118 > 0
          · rw [if_pos c15] at H
            have c15b0 : decide (0 < t118) = true := decide_eq_true c15
            clear c15
            by_cases c16 : 0 ≤ t118
            · rw [if_pos c16] at H
              have c16b0 : decide (0 ≤ t118) = true := decide_eq_true c16
              clear c16
              by_cases c17 : t118 < (l0.length : Int)
              · rw [if_pos c17] at H
                have c17b0 : decide (t118 < (l0.length : Int)) = true := decide_eq_true c17
                clear c17
                by_cases c18 : (rd l0 t118) = 32
                · rw [if_pos c18] at H
                  have c18b0 : ((rd l0 t118) == 32) = true := beq_iff_eq.mpr c18
                  have c18b1 : ((rd l0 t118) != 32) = false := bne_eq_false_iff_eq.mpr c18
                  clear c18
                  by_cases c19 : 0 ≤ t117
                  · rw [if_pos c19] at H
                    have c19b0 := eq_true c19
                    have c19b1 : decide (0 ≤ t117) = true := decide_eq_true c19
                    clear c19
                    by_cases c20 : t117 ≤ (l0.length : Int)
                    · rw [if_pos c20] at H
                      have c20b0 := eq_true c20
                      have c20b1 : decide (t117 ≤ (l0.length : Int)) = true := decide_eq_true c20
                      clear c20
                      replace H := Option.bind_eq_some_iff.mp H
                      obtain ⟨t121, A210, H⟩ := H
                      replace H : (if t121 = true then (some t118) else (some t117)) = some r := H
                      have A21 := Aside0.mk A210
                      clear A210
                      by_cases c22 : t121 = true
                      · subst c22
                        have H1 : (some t118) = some r := by rw [if_pos rfl] at H; exact H
                        clear H
                        have H := H1
                        clear H1
                        obtain rfl := Option.some.inj H
                        go_wp2_with (first | ((with_reducible refine gate_callee (f := 44) rfl ?_); refine goesL_ (some 29) rfl rfl Try.func44 (by kernel_rfl) rfl #[.slice A0 l0.length c0] rfl (by (try simp only [List.map_toArray, List.map_cons, List.map_nil]); first | done | rfl | (simp only [List.length_drop, List.length_take]; rfl)) ?_; (with_reducible refine (words_run.calls kj1 _ _ l0 t116 t117 t118 _ ?side1 ?side2 A13.out).mono ?_); (case side1 => repeat (first | exact (Kd.C_below HR0.out HB.out) | (with_reducible refine Kd.C_alloc ?_ _) | (with_reducible refine Kd.C_drewN ?_ _) | (with_reducible refine Kd.C_drew ?_))); (case side2 => exact HC0.out); rintro e w23 ⟨rfl, hb⟩; refine ⟨_, rfl, ?_⟩; have n0_ := Aside0.mk (below_step (by repeat (first | (with_reducible first | exact HB.out | apply below_alloc | apply pw_below_drewN | apply below_drew1) | exact HB.out)) hb); clear HB; have HB := n0_; clear n0_; (try clear hb); (try clear hb2); (try clear hk); (try clear hi); have p119 : 0 ≤ (t118 : Int) := of_decide_eq_true (by first | (with_reducible assumption) | assumption); have q119 : t118 < (l0.length : Int) := of_decide_eq_true (by first | (with_reducible assumption) | assumption); obtain ⟨ad119, e119, hx119_0⟩ := Kd.at_int HR0.out t118 p119 q119; cases e119; replace hx119_0 := (HB.out.cell (World.block_lt_of_cell? w _ hx119_0)).trans hx119_0; replace p119 := eq_true p119; replace q119 := eq_true q119; obtain ⟨i024, hi024, _, hsz24, _⟩ := info_parts info5; obtain ⟨A24, hcut24, hA24, hC24⟩ := print_drop_of (P := Try.prog) (Value.int .u8) 0 22 5 .i64 Try.underlying22 hi024 hsz24 (some ad119) c0 l0 t117 (of_decide_eq_true (by first | (with_reducible assumption) | assumption)) (of_decide_eq_true (by first | (with_reducible assumption) | assumption)) HC0.out; have HR120 := Aside0.mk (Kd.C_of_reads (h1 := fun _ => rfl) (hA24 _ (Kd.reads_of_C HR0.out))); have HC120 := Aside0.mk hC24; clear hA24 hC24 hi024 hsz24) | (go_at_call 43; refine calls_of_args (args' := #[.slice A24 (l0.drop (t117 : Int).toNat).length (c0 - t117.toNat)]) (by first | rfl | (rw [show (l0.drop (t117 : Int).toNat).length = (l0.length - t117.toNat) from List.length_drop] <;> rfl) | (simp only [List.length_drop, List.length_take]; rfl) | (simp; done)) ?_; (with_reducible refine (words_solid.calls kj1 _ _ (l0.drop (t117 : Int).toNat) true _ ?side1 ?side2 A21.out).mono ?_); (case side1 => repeat (first | exact (Kd.C_below HR120.out HB.out) | (with_reducible refine Kd.C_alloc ?_ _) | (with_reducible refine Kd.C_drewN ?_ _) | (with_reducible refine Kd.C_drew ?_))); (case side2 => exact HC120.out); rintro e w' ⟨rfl, ⟨nd, rfl⟩⟩))
                        go_ret
                        exact ⟨by first | rfl | (simp [errW_none, errW_some] <;> rfl) | (simp [*, errW_none, errW_some] <;> rfl), by repeat (first | (with_reducible first | exact HB.out | apply below_alloc | apply pw_below_drewN | apply below_drew1) | exact HB.out)⟩
                      · replace c22 := Bool.eq_false_iff.mpr c22
                        subst c22
                        have H1 : (some t117) = some r := by rw [if_neg (show ¬ (false = true) by decide)] at H; exact H
                        clear H
                        have H := H1
                        clear H1
                        obtain rfl := Option.some.inj H
                        go_wp2_with (first | ((with_reducible refine gate_callee (f := 44) rfl ?_); refine goesL_ (some 29) rfl rfl Try.func44 (by kernel_rfl) rfl #[.slice A0 l0.length c0] rfl (by (try simp only [List.map_toArray, List.map_cons, List.map_nil]); first | done | rfl | (simp only [List.length_drop, List.length_take]; rfl)) ?_; (with_reducible refine (words_run.calls kj1 _ _ l0 t116 t117 t118 _ ?side1 ?side2 A13.out).mono ?_); (case side1 => repeat (first | exact (Kd.C_below HR0.out HB.out) | (with_reducible refine Kd.C_alloc ?_ _) | (with_reducible refine Kd.C_drewN ?_ _) | (with_reducible refine Kd.C_drew ?_))); (case side2 => exact HC0.out); rintro e w25 ⟨rfl, hb⟩; refine ⟨_, rfl, ?_⟩; have n0_ := Aside0.mk (below_step (by repeat (first | (with_reducible first | exact HB.out | apply below_alloc | apply pw_below_drewN | apply below_drew1) | exact HB.out)) hb); clear HB; have HB := n0_; clear n0_; (try clear hb); (try clear hb2); (try clear hk); (try clear hi); have p119 : 0 ≤ (t118 : Int) := of_decide_eq_true (by first | (with_reducible assumption) | assumption); have q119 : t118 < (l0.length : Int) := of_decide_eq_true (by first | (with_reducible assumption) | assumption); obtain ⟨ad119, e119, hx119_0⟩ := Kd.at_int HR0.out t118 p119 q119; cases e119; replace hx119_0 := (HB.out.cell (World.block_lt_of_cell? w _ hx119_0)).trans hx119_0; replace p119 := eq_true p119; replace q119 := eq_true q119; obtain ⟨i026, hi026, _, hsz26, _⟩ := info_parts info5; (try clear hcut24); obtain ⟨A26, hcut26, hA26, hC26⟩ := print_drop_of (P := Try.prog) (Value.int .u8) 0 22 5 .i64 Try.underlying22 hi026 hsz26 (some ad119) c0 l0 t117 (of_decide_eq_true (by first | (with_reducible assumption) | assumption)) (of_decide_eq_true (by first | (with_reducible assumption) | assumption)) HC0.out; have HR120 := Aside0.mk (Kd.C_of_reads (h1 := fun _ => rfl) (hA26 _ (Kd.reads_of_C HR0.out))); have HC120 := Aside0.mk hC26; clear hA26 hC26 hi026 hsz26) | (go_at_call 43; refine calls_of_args (args' := #[.slice A26 (l0.drop (t117 : Int).toNat).length (c0 - t117.toNat)]) (by first | rfl | (rw [show (l0.drop (t117 : Int).toNat).length = (l0.length - t117.toNat) from List.length_drop] <;> rfl) | (simp only [List.length_drop, List.length_take]; rfl) | (simp; done)) ?_; (with_reducible refine (words_solid.calls kj1 _ _ (l0.drop (t117 : Int).toNat) false _ ?side1 ?side2 A21.out).mono ?_); (case side1 => repeat (first | exact (Kd.C_below HR120.out HB.out) | (with_reducible refine Kd.C_alloc ?_ _) | (with_reducible refine Kd.C_drewN ?_ _) | (with_reducible refine Kd.C_drew ?_))); (case side2 => exact HC120.out); rintro e w' ⟨rfl, ⟨nd, rfl⟩⟩))
                        go_ret
                        exact ⟨by first | rfl | (simp [errW_none, errW_some] <;> rfl) | (simp [*, errW_none, errW_some] <;> rfl), by repeat (first | (with_reducible first | exact HB.out | apply below_alloc | apply pw_below_drewN | apply below_drew1) | exact HB.out)⟩
                    · rw [if_neg c20] at H
                      exact absurd H (by simp)
                  · rw [if_neg c19] at H
                    exact absurd H (by simp)
                · rw [if_neg c18] at H
                  have c18b0 : ((rd l0 t118) == 32) = false := beq_eq_false_iff_ne.mpr c18
                  have c18b1 : ((rd l0 t118) != 32) = true := bne_iff_ne.mpr c18
                  obtain rfl := Option.some.inj H
                  go_wp2_with (first | ((with_reducible refine gate_callee (f := 44) rfl ?_); refine goesL_ (some 29) rfl rfl Try.func44 (by kernel_rfl) rfl #[.slice A0 l0.length c0] rfl (by (try simp only [List.map_toArray, List.map_cons, List.map_nil]); first | done | rfl | (simp only [List.length_drop, List.length_take]; rfl)) ?_; (with_reducible refine (words_run.calls kj1 _ _ l0 t116 t117 t118 _ ?side1 ?side2 A13.out).mono ?_); (case side1 => repeat (first | exact (Kd.C_below HR0.out HB.out) | (with_reducible refine Kd.C_alloc ?_ _) | (with_reducible refine Kd.C_drewN ?_ _) | (with_reducible refine Kd.C_drew ?_))); (case side2 => exact HC0.out); rintro e w27 ⟨rfl, hb⟩; refine ⟨_, rfl, ?_⟩; have n0_ := Aside0.mk (below_step (by repeat (first | (with_reducible first | exact HB.out | apply below_alloc | apply pw_below_drewN | apply below_drew1) | exact HB.out)) hb); clear HB; have HB := n0_; clear n0_; (try clear hb); (try clear hb2); (try clear hk); (try clear hi); have p119 : 0 ≤ (t118 : Int) := of_decide_eq_true (by first | (with_reducible assumption) | assumption); have q119 : t118 < (l0.length : Int) := of_decide_eq_true (by first | (with_reducible assumption) | assumption); obtain ⟨ad119, e119, hx119_0⟩ := Kd.at_int HR0.out t118 p119 q119; cases e119; replace hx119_0 := (HB.out.cell (World.block_lt_of_cell? w _ hx119_0)).trans hx119_0; replace p119 := eq_true p119; replace q119 := eq_true q119))
                  go_ret
                  exact ⟨by first | rfl | (simp [errW_none, errW_some] <;> rfl) | (simp [*, errW_none, errW_some] <;> rfl), by repeat (first | (with_reducible first | exact HB.out | apply below_alloc | apply pw_below_drewN | apply below_drew1) | exact HB.out)⟩
              · rw [if_neg c17] at H
                exact absurd H (by simp)
            · rw [if_neg c16] at H
              exact absurd H (by simp)
          · rw [if_neg c15] at H
            have c15b0 : decide (0 < t118) = false := decide_eq_false c15
            clear c15
            obtain rfl := Option.some.inj H
            go_wp2_with (first | ((with_reducible refine gate_callee (f := 44) rfl ?_); refine goesL_ (some 29) rfl rfl Try.func44 (by kernel_rfl) rfl #[.slice A0 l0.length c0] rfl (by (try simp only [List.map_toArray, List.map_cons, List.map_nil]); first | done | rfl | (simp only [List.length_drop, List.length_take]; rfl)) ?_; (with_reducible refine (words_run.calls kj1 _ _ l0 t116 t117 t118 _ ?side1 ?side2 A13.out).mono ?_); (case side1 => repeat (first | exact (Kd.C_below HR0.out HB.out) | (with_reducible refine Kd.C_alloc ?_ _) | (with_reducible refine Kd.C_drewN ?_ _) | (with_reducible refine Kd.C_drew ?_))); (case side2 => exact HC0.out); rintro e w28 ⟨rfl, hb⟩; refine ⟨_, rfl, ?_⟩; have n0_ := Aside0.mk (below_step (by repeat (first | (with_reducible first | exact HB.out | apply below_alloc | apply pw_below_drewN | apply below_drew1) | exact HB.out)) hb); clear HB; have HB := n0_; clear n0_; (try clear hb); (try clear hb2); (try clear hk); (try clear hi)))
            go_ret
            exact ⟨by first | rfl | (simp [errW_none, errW_some] <;> rfl) | (simp [*, errW_none, errW_some] <;> rfl), by repeat (first | (with_reducible first | exact HB.out | apply below_alloc | apply pw_below_drewN | apply below_drew1) | exact HB.out)⟩
        · rw [if_neg c14] at H
          have c14b0 : (t116 == 3) = false := beq_eq_false_iff_ne.mpr c14
          have c14b1 : (t116 != 3) = true := bne_iff_ne.mpr c14
          obtain rfl := Option.some.inj H
          go_wp2_with (first | ((with_reducible refine gate_callee (f := 44) rfl ?_); refine goesL_ (some 29) rfl rfl Try.func44 (by kernel_rfl) rfl #[.slice A0 l0.length c0] rfl (by (try simp only [List.map_toArray, List.map_cons, List.map_nil]); first | done | rfl | (simp only [List.length_drop, List.length_take]; rfl)) ?_; (with_reducible refine (words_run.calls kj1 _ _ l0 t116 t117 t118 _ ?side1 ?side2 A13.out).mono ?_); (case side1 => repeat (first | exact (Kd.C_below HR0.out HB.out) | (with_reducible refine Kd.C_alloc ?_ _) | (with_reducible refine Kd.C_drewN ?_ _) | (with_reducible refine Kd.C_drew ?_))); (case side2 => exact HC0.out); rintro e w29 ⟨rfl, hb⟩; refine ⟨_, rfl, ?_⟩; have n0_ := Aside0.mk (below_step (by repeat (first | (with_reducible first | exact HB.out | apply below_alloc | apply pw_below_drewN | apply below_drew1) | exact HB.out)) hb); clear HB; have HB := n0_; clear n0_; (try clear hb); (try clear hb2); (try clear hk); (try clear hi)))
          go_ret
          exact ⟨by first | rfl | (simp [errW_none, errW_some] <;> rfl) | (simp [*, errW_none, errW_some] <;> rfl), by repeat (first | (with_reducible first | exact HB.out | apply below_alloc | apply pw_below_drewN | apply below_drew1) | exact HB.out)⟩

/-! ### words_cut: function 27 -/
def words_cut.l0 : Nat → List Int → List (List Int) → Option ((List (List Int)))
  | 0, _, _ => none
  | k + 1, x0, x3 => if (x0.length : Int) > 0 then ((words_word.f k x0).bind fun t122 => (if 0 ≤ t122 then (if t122 ≤ (x0.length : Int) then ((slices_Clone_byte_byte.f (x0.take (t122 : Int).toNat)).bind fun t128 => (if x3.length < 5864062014805 then (words_cut.l0 k (x0.drop (t122 : Int).toNat) (x3 ++ [t128])) else (none))) else (none)) else (none))) else (some x3)
def words_cut.f (k : Nat) (l0 : List Int) : Option ((List (List Int))) := words_cut.l0 k l0 ([] : List (List Int))
theorem words_cut.mono_l : ∀ k, (∀ y0 y1, LeO (words_cut.l0 k y0 y1) (words_cut.l0 (k + 1) y0 y1))
  | 0 => fun _ _ r h => by simp [words_cut.l0] at h
  | k + 1 => by
    have ih0 := words_cut.mono_l k
    · intro y0 y1
      unfold words_cut.l0
      repeat' first
      | (with_reducible exact ih0 _ _)
      | (with_reducible exact words_word.mono _ _)
      | (with_reducible exact LeO.refl _)
      | (with_reducible exact LeO.none _)
      | (with_reducible refine LeO.ite ?_ ?_)
      | (with_reducible refine LeO.bind ?_ (fun _ => ?_))
      | exact ih0 _ _
      | exact words_word.mono _ _
      | exact LeO.none _
      | refine LeO.ite ?_ ?_
      | refine LeO.bind ?_ (fun _ => ?_)
theorem words_cut.mono : ∀ a0 k, LeO (words_cut.f k a0) (words_cut.f (k + 1) a0) := by
  intro a0 k
  have ih0 := words_cut.mono_l k
  unfold words_cut.f
  repeat' first
      | (with_reducible exact ih0 _ _)
      | (with_reducible exact words_word.mono _ _)
      | (with_reducible exact LeO.refl _)
      | (with_reducible exact LeO.none _)
      | (with_reducible refine LeO.ite ?_ ?_)
      | (with_reducible refine LeO.bind ?_ (fun _ => ?_))
      | exact ih0 _ _
      | exact words_word.mono _ _
      | exact LeO.none _
      | refine LeO.ite ?_ ?_
      | refine LeO.bind ?_ (fun _ => ?_)
set_option maxHeartbeats 8000000 in
set_option maxRecDepth 100000 in
theorem words_cut.calls (k : Nat) (P0_ : Nat → Prop) (A0 : Option Addr) (c0 : Nat) (l0 : List Int) (r : List (List Int)) (w : World) (hs0 : Kd.V (Kd.int .u8) 5 w w.heap.size (fun k_ => P0_ k_) (.slice A0 l0.length c0) l0) (h : words_cut.f k l0 = some r) :
    Calls Try.prog 27 #[.slice A0 l0.length c0] w fun e w' => ∃ v0_ : Value, e = .returned (v0_) ∧ Kd.S (Kd.slice 5 (Kd.int .u8)) 22 w' w.heap.size (fun k_ => (w.heap.size ≤ k_)) v0_ r ∧ Below w.heap.size w w' := by
  have HO0 := Aside0.mk (show Kd.V (Kd.int .u8) 5 w w.heap.size (fun k_ => (P0_ k_ ∨ w.heap.size ≤ k_)) (.slice A0 l0.length c0) l0 from Kd.V_mono hs0 (fun k_ hk => .inl hk))
  have HB := Aside0.mk (Below.refl w.heap.size w)
  have H : (words_cut.l0 k l0 ([] : List (List Int))) = some r := h
  clear h
  have H' := Aside0.mk H
  clear H
  go_enter Try.func27, Try.ntmps27
  go_wp2
  go_loopg [0, 3] k (fun kq v0 v3 w' => ∃ (x0_1 : List Int) (x3_1 : List (List Int)), Aside0 (words_cut.l0 kq x0_1 x3_1 = some r) ∧ Aside0 (kq ≤ k) ∧ Aside0 (Kd.V (Kd.int .u8) 5 w' w.heap.size (fun k_ => (P0_ k_ ∨ w.heap.size ≤ k_) ∧ some k_ ≠ (v3 : Value).ownBlock) v0 x0_1) ∧ Aside0 (Kd.S (Kd.slice 5 (Kd.int .u8)) 22 w' w.heap.size (fun k_ => (w.heap.size ≤ k_)) v3 x3_1) ∧ Aside0 (Below w.heap.size w w'))
  case atStart => exact ⟨(l0), (([] : List (List Int))), H', ⟨Nat.le_refl _⟩, ⟨by (with_reducible repeat (first | apply Kd.V_alloc | apply Kd.V_drewN | apply Kd.V_drew)); exact Kd.V_mono HO0.out (fun _ hk => ⟨hk, (by simp [Value.ownBlock])⟩)⟩, ⟨by first | exact Kd.S_nil _ _ _ _ _ | exact Kd.N_nil _ _ _ _ _ | exact Kd.V_nil _ _ _ _ _ | exact Kd.Q_nil _ _ _ _ _ | exact Kd.R_nil _ _ _ _ _⟩, ⟨by repeat (first | (with_reducible first | exact HB.out | apply below_alloc | apply pw_below_drewN | apply below_drew1) | exact HB.out)⟩⟩
  case round =>
    clear H'
    obtain ⟨x0_1, x3_1, HA, HK1, HO_0, HO_3, HB⟩ := hrel
    cases gk with
    | zero => exact absurd HA.out (by simp [words_cut.l0])
    | succ k1 =>
      have H := HA.out
      clear HA
      simp only [words_cut.l0] at H
      by_cases c2 : (x0_1.length : Int) > 0
      · rw [if_pos c2] at H
        have c2b0 : decide (0 < (x0_1.length : Int)) = true := decide_eq_true c2
        have c2b1 : decide (0 < x0_1.length) = true := decide_eq_true (by omega)
        clear c2
        replace H := Option.bind_eq_some_iff.mp H
        obtain ⟨t122, A30, H⟩ := H
        replace H : (if 0 ≤ t122 then (if t122 ≤ (x0_1.length : Int) then ((slices_Clone_byte_byte.f (x0_1.take (t122 : Int).toNat)).bind fun t128 => (if x3_1.length < 5864062014805 then (words_cut.l0 k1 (x0_1.drop (t122 : Int).toNat) (x3_1 ++ [t128])) else (none))) else (none)) else (none)) = some r := H
        have A3 := Aside0.mk A30
        clear A30
        by_cases c4 : 0 ≤ t122
        · rw [if_pos c4] at H
          have c4b0 := eq_true c4
          have c4b1 : decide (0 ≤ t122) = true := decide_eq_true c4
          clear c4
          by_cases c5 : t122 ≤ (x0_1.length : Int)
          · rw [if_pos c5] at H
            have c5b0 := eq_true c5
            have c5b1 : decide (t122 ≤ (x0_1.length : Int)) = true := decide_eq_true c5
            clear c5
            obtain ⟨y123, hy123⟩ : ∃ y_ : List Int, y_ = (x0_1.take (t122 : Int).toNat) := ⟨_, rfl⟩
            replace H : ((slices_Clone_byte_byte.f y123).bind fun t128 => (if x3_1.length < 5864062014805 then (words_cut.l0 k1 (x0_1.drop (t122 : Int).toNat) (x3_1 ++ [t128])) else (none))) = some r := by first | (rw [hy123]; with_reducible exact H) | (have H2_ := (Option.bind_some _ _).symm.trans H; rw [hy123]; with_reducible exact H2_) | (have H2_ := (Option.bind_some _ _).symm.trans H; with_reducible exact H2_) | with_reducible exact H | (rw [hy123]; exact H) | exact H
            have Ny123 := Aside0.mk hy123
            clear hy123
            replace H := Option.bind_eq_some_iff.mp H
            obtain ⟨t128, A60, H⟩ := H
            replace H : (if x3_1.length < 5864062014805 then (words_cut.l0 k1 (x0_1.drop (t122 : Int).toNat) (x3_1 ++ [t128])) else (none)) = some r := H
            have A6 := Aside0.mk A60
            clear A60
            by_cases c7 : x3_1.length < 5864062014805
            · rw [if_pos c7] at H
              have LMc7 := Aside0.mk c7
              clear c7
              obtain ⟨y131, hy131⟩ : ∃ y_ : List (List Int), y_ = (x3_1 ++ [t128]) := ⟨_, rfl⟩
              replace H : (words_cut.l0 k1 (x0_1.drop (t122 : Int).toNat) y131) = some r := by first | (rw [hy131]; with_reducible exact H) | (have H2_ := (Option.bind_some _ _).symm.trans H; rw [hy131]; with_reducible exact H2_) | (have H2_ := (Option.bind_some _ _).symm.trans H; with_reducible exact H2_) | with_reducible exact H | (rw [hy131]; exact H) | exact H
              have Ny131 := Aside0.mk hy131
              clear hy131
              have c8b0 := eq_true (of_decide_eq_true (by first | (with_reducible assumption) | assumption) : 0 ≤ t122)
              have c9b0 := eq_true (of_decide_eq_true (by first | (with_reducible assumption) | assumption) : t122 ≤ (x0_1.length : Int))
              obtain ⟨y134, hy134⟩ : ∃ y_ : List Int, y_ = (x0_1.drop (t122 : Int).toNat) := ⟨_, rfl⟩
              replace H : (words_cut.l0 k1 y134 y131) = some r := by first | (rw [hy134]; with_reducible exact H) | (have H2_ := (Option.bind_some _ _).symm.trans H; rw [hy134]; with_reducible exact H2_) | (have H2_ := (Option.bind_some _ _).symm.trans H; with_reducible exact H2_) | with_reducible exact H | (rw [hy134]; exact H) | exact H
              have Ny134 := Aside0.mk hy134
              clear hy134
              have H' := Aside0.mk H
              clear H
              obtain ⟨Ao10, co10, eo10⟩ := Kd.V_slice HO_0.out
              subst eo10
              go_wp2_with (first | ((with_reducible refine gate_callee (f := 37) rfl ?_); refine goesL_ (some 9) rfl rfl Try.func37 (by kernel_rfl) rfl #[.slice Ao10 x0_1.length co10] rfl (by (try simp only [List.map_toArray, List.map_cons, List.map_nil]); first | done | rfl | (simp only [List.length_drop, List.length_take]; rfl)) ?_; (with_reducible refine (words_word.calls k1 _ _ x0_1 t122 _ ?side1 ?side2 A3.out).mono ?_); (case side1 => repeat (first | exact (Kd.V_reads' HO_0.out).2.2 | (with_reducible refine Kd.C_alloc ?_ _) | (with_reducible refine Kd.C_drewN ?_ _) | (with_reducible refine Kd.C_drew ?_))); (case side2 => exact (Kd.V_reads' HO_0.out).2.1); rintro e w11 ⟨rfl, hb⟩; refine ⟨_, rfl, ?_⟩; have n0_ := Aside0.mk (Kd.V_below (by (with_reducible repeat (first | apply Kd.V_alloc | apply Kd.V_drewN | apply Kd.V_drew)); exact HO_0.out) hb); have n1_ := Aside0.mk (Kd.S_below (by (with_reducible repeat (first | apply Kd.S_alloc | apply Kd.S_drewN | apply Kd.S_drew)); exact HO_3.out) hb); have n2_ := Aside0.mk (below_step (by repeat (first | (with_reducible first | exact HB.out | apply below_alloc | apply pw_below_drewN | apply below_drew1) | exact HB.out)) hb); clear HO_0; clear HO_3; clear HB; have HO_0 := n0_; have HO_3 := n1_; have HB := n2_; clear n0_ n1_ n2_; (try clear hb); (try clear hb2); (try clear hk); (try clear hi); have q12 : (t122 : Int) ≤ ((x0_1.length : Int) : Int) := of_decide_eq_true (by first | (with_reducible assumption) | assumption); obtain ⟨i012, hi012, _, hsz12, _⟩ := info_parts info5; have hroom12 : x0_1.length ≤ co10 := (Kd.V_reads' HO_0.out).2.1; have hC12 : Kd.F (Kd.int .u8) _ _ Ao10 x0_1.length x0_1 := (Kd.V_at (base := w.heap.size) HO_0.out).2.2; have hcut12 := cut_to (P := Try.prog) 22 5 .i64 Try.underlying22 hi012 Ao10 x0_1.length co10 t122 (of_decide_eq_true (by first | (with_reducible assumption) | assumption)) q12 hroom12; have hr12 := Kd.F_take (m := (t122 : Int).toNat) hC12 (by omega); have hy12 : y123.length = (t122 : Int).toNat := (by rw [Ny123.out, List.length_take]; omega); rw [← Ny123.out] at hr12; rw [← hy12] at hcut12; have HO127 := Aside0.mk (show Kd.V (Kd.int .u8) 5 _ w.heap.size _ (.slice Ao10 y123.length co10) y123 from Kd.V_mk (by omega) hr12); have HC127 := Aside0.mk (show y123.length ≤ co10 from by omega); clear hr12 hC12 hroom12 hi012 hsz12; have KY12 := Aside0.mk hy12; clear hy12; replace q12 := eq_true q12) | ((with_reducible refine gate_callee (f := 32) rfl ?_); refine goesL_ (some 14) rfl rfl Try.func32 (by kernel_rfl) rfl #[.slice Ao10 y123.length co10] rfl (by (try simp only [List.map_toArray, List.map_cons, List.map_nil]); first | done | rfl | (simp only [List.length_drop, List.length_take]; rfl)) ?_; (with_reducible refine (slices_Clone_byte_byte.calls _ _ y123 t128 _ ?side1 ?side2 A6.out).mono ?_); (case side1 => repeat (first | exact (Kd.V_reads' HO127.out).2.2 | (with_reducible refine Kd.C_alloc ?_ _) | (with_reducible refine Kd.C_drewN ?_ _) | (with_reducible refine Kd.C_drew ?_))); (case side2 => exact (Kd.V_reads' HO127.out).2.1); rintro e w13 ⟨v129, rfl, ho0, hb⟩; refine ⟨_, rfl, ?_⟩; have n0_ := Aside0.mk (Kd.V_elder' (by (with_reducible repeat (first | apply Kd.V_alloc | apply Kd.V_drewN | apply Kd.V_drew)); exact HO_0.out) (Kd.R_base ho0) hb); have n1_ := Aside0.mk (Kd.S_elder' (by (with_reducible repeat (first | apply Kd.S_alloc | apply Kd.S_drewN | apply Kd.S_drew)); exact HO_3.out) (Kd.R_base ho0) hb); have n2_ := Aside0.mk (Kd.V_elder' (by (with_reducible repeat (first | apply Kd.V_alloc | apply Kd.V_drewN | apply Kd.V_drew)); exact HO127.out) (Kd.R_base ho0) hb); have n3_ := Aside0.mk (Kd.R_lower (Kd.R_newM (M := fun k_ => (w.heap.size ≤ k_)) ho0 (below_size (by repeat (first | (with_reducible first | exact HB.out | apply below_alloc | apply pw_below_drewN | apply below_drew1) | exact HB.out))) (fun k_ h_ => h_)) (below_size (by repeat (first | (with_reducible first | exact HB.out | apply below_alloc | apply pw_below_drewN | apply below_drew1) | exact HB.out)))); have n4_ := Aside0.mk (below_step (by repeat (first | (with_reducible first | exact HB.out | apply below_alloc | apply pw_below_drewN | apply below_drew1) | exact HB.out)) hb); clear HO_0; clear HO_3; clear HO127; clear HB; have HO_0 := n0_; have HO_3 := n1_; have HO127 := n2_; have HO130 := n3_; have HB := n4_; clear n0_ n1_ n2_ n3_ n4_; (try clear hb); (try clear hb2); (try clear hk); (try clear hi); (try clear ho0); obtain ⟨Ao15, co15, eo15⟩ := Kd.R_slice HO130.out; subst eo15) | ((with_reducible refine gate_builtin (b := .append) (xs := #[.tmp 10, .tmp 15]) rfl ?_); at_builtin; refine Kd.S_append (Kd.slice 5 (Kd.int .u8)) (w0 := w) w.heap.size rfl (.tmp 10) (.tmp 15) 25 22 (.slice none 0 0) 24 rfl Try.underlying25 info22 rfl (by decide) (by omega) u3 x3_1 t128 [.slice Ao15 t128.length co15] (fun k_ => (w.heap.size ≤ k_)) (fun k_ => some k_ = (.slice Ao15 t128.length co15 : Value).ownBlock) rfl rfl ?aP (fun k_ hk_ => ((Kd.R_mono (ok' := fun k_ => ((fun k_ => (w.heap.size ≤ k_))) k_ ∧ some k_ ≠ (u3 : Value).ownBlock) (Kd.R_apart' (HO130.out) (Kd.S_typed HO_3.out) (by decide)) (fun k_ hk => ⟨hk.1.1, hk.2⟩))).1 k_ hk_.symm) ?aF ?aO ?aB ?aS ?aL ?_; (case aP => exact Kd.M_row (Kd.R_mono (Kd.R_tight rfl (Kd.R_mono (ok' := fun k_ => ((fun k_ => (w.heap.size ≤ k_))) k_ ∧ some k_ ≠ (u3 : Value).ownBlock) (Kd.R_apart' (HO130.out) (Kd.S_typed HO_3.out) (by decide)) (fun k_ hk => ⟨hk.1.1, hk.2⟩))) (fun _ h_ => h_))); (case aB => exact (by repeat (first | (with_reducible first | exact HB.out | apply below_alloc | apply pw_below_drewN | apply below_drew1) | exact HB.out))); (case aF => exact (fun k_ hk => (Nat.le_trans (below_size (by repeat (first | (with_reducible first | exact HB.out | apply below_alloc | apply pw_below_drewN | apply below_drew1) | exact HB.out))) hk))); (case aO => exact (by (with_reducible repeat (first | apply Kd.S_alloc | apply Kd.S_drewN | apply Kd.S_drew)); exact Kd.S_mono HO_3.out (fun k_ hk => ⟨hk.1, fun e_ => hk.2 e_⟩))); (case aS => exact (below_size (by repeat (first | (with_reducible first | exact HB.out | apply below_alloc | apply pw_below_drewN | apply below_drew1) | exact HB.out)))); (case aL => have := LMc7.out; omega); intro v132 w14 ho hb hg hat; rw [← Ny131.out] at ho; have n0_ := Aside0.mk (Kd.V_afterv (ok := (fun k_ => (P0_ k_ ∨ w.heap.size ≤ k_) ∧ some k_ ≠ (.slice Ao15 t128.length co15 : Value).ownBlock)) (by (with_reducible repeat (first | apply Kd.V_alloc | apply Kd.V_drewN | apply Kd.V_drew)); exact Kd.V_mono HO_0.out (fun _ hk => ⟨⟨hk.1.1, hk.2⟩, hk.1.2⟩)) hg hat); have n1_ := Aside0.mk (Kd.V_afterv (ok := (fun k_ => (P0_ k_ ∨ w.heap.size ≤ k_) ∧ some k_ ≠ (.slice Ao15 t128.length co15 : Value).ownBlock)) (by (with_reducible repeat (first | apply Kd.V_alloc | apply Kd.V_drewN | apply Kd.V_drew)); exact Kd.V_mono HO127.out (fun _ hk => ⟨⟨hk.1.1, hk.2⟩, hk.1.2⟩)) hg hat); have n2_ := Aside0.mk (hb); have n3_ := Aside0.mk (ho); clear HO_0; clear HO127; clear HB; clear HO_3; clear HO130; have HO_0 := n0_; have HO127 := n1_; have HB := n2_; have HO133 := n3_; clear n0_ n1_ n2_ n3_; clear ho hb hg hat; have q16 : (t122 : Int) ≤ ((x0_1.length : Int) : Int) := of_decide_eq_true (by first | (with_reducible assumption) | assumption); obtain ⟨i016, hi016, _, hsz16, _⟩ := info_parts info5; have hroom16 : x0_1.length ≤ co10 := (Kd.V_reads' HO_0.out).2.1; have hC16 : Kd.F (Kd.int .u8) _ _ Ao10 x0_1.length x0_1 := (Kd.V_at (base := w.heap.size) HO_0.out).2.2; have q016 : (0 : Int) ≤ (t122 : Int) := of_decide_eq_true (by first | (with_reducible assumption) | assumption); have hcut16 := cut_from (P := Try.prog) 22 5 .i64 Try.underlying22 hi016 1 hsz16 Ao10 x0_1.length co10 t122 q016 q16; have hr16 := Kd.F_cut (m := (t122 : Int).toNat) (c := co10) hC16 (by omega) hroom16; obtain ⟨A16, hA16⟩ : ∃ A1, A1 = (if co10 = (t122 : Int).toNat then Ao10 else (Ao10 : Option Addr).map (·.add ((t122 : Int).toNat * 1))) := ⟨_, rfl⟩; obtain ⟨c16, hc16⟩ : ∃ c1, c1 = co10 - (t122 : Int).toNat := ⟨_, rfl⟩; have hy16 : y134.length = x0_1.length - (t122 : Int).toNat := (by rw [Ny134.out, List.length_drop] <;> omega); rw [show (x0_1).drop (t122 : Int).toNat = y134 from Ny134.out.symm] at hr16; replace hr16 : Kd.F (Kd.int .u8) _ _ A16 y134.length y134 := (by rw [hA16]; exact hr16); rw [← hy16, ← hA16, ← hc16] at hcut16; have HO138 := Aside0.mk (show Kd.V (Kd.int .u8) 5 _ w.heap.size _ (.slice A16 y134.length c16) y134 from Kd.V_mk (by rw [hy16, hc16]; exact Nat.sub_le_sub_right hroom16 _) hr16); have HC138 := Aside0.mk (show y134.length ≤ c16 from by rw [hy16, hc16]; exact Nat.sub_le_sub_right hroom16 _); clear hr16 hC16 hroom16 hi016 hsz16 hc16; have KY16 := Aside0.mk hy16; have KA16 := Aside0.mk hA16; clear hy16 hA16; replace q16 := eq_true q16))
              go_roundg k1
              case measure => have := HK1.out; omega
              case rel => exact ⟨(y134), (y131), H', ⟨by have := HK1.out; omega⟩, ⟨by (with_reducible repeat (first | apply Kd.V_alloc | apply Kd.V_drewN | apply Kd.V_drew)); exact Kd.V_mono HO138.out (fun _ hk => ⟨hk.1.1, hk.2⟩)⟩, ⟨by (with_reducible repeat (first | apply Kd.S_alloc | apply Kd.S_drewN | apply Kd.S_drew)); exact HO133.out⟩, ⟨by repeat (first | (with_reducible first | exact HB.out | apply below_alloc | apply pw_below_drewN | apply below_drew1) | exact HB.out)⟩⟩
            · rw [if_neg c7] at H
              exact absurd H (by simp)
          · rw [if_neg c5] at H
            exact absurd H (by simp)
        · rw [if_neg c4] at H
          exact absurd H (by simp)
      · rw [if_neg c2] at H
        have c2b0 : decide (0 < (x0_1.length : Int)) = false := decide_eq_false c2
        have c2b1 : decide (0 < x0_1.length) = false := decide_eq_false (by omega)
        clear c2
        obtain rfl := Option.some.inj H
        obtain ⟨Ao17, co17, eo17⟩ := Kd.V_slice HO_0.out
        subst eo17
        go_wp2
        go_ret
        exact ⟨_, by first | rfl | (simp [errW_none, errW_some] <;> rfl) | (simp [*, errW_none, errW_some] <;> rfl), by (with_reducible repeat (first | apply Kd.S_alloc | apply Kd.S_drewN | apply Kd.S_drew)); exact HO_3.out, by repeat (first | (with_reducible first | exact HB.out | apply below_alloc | apply pw_below_drewN | apply below_drew1) | exact HB.out)⟩

/-! ### words_Cut: function 13 -/
def words_Cut.f (k : Nat) (l0 : List Int) : Option ((List (List Int)) × Int) := if (l0.length : Int) > 16384 then (some (([] : List (List Int)), 2)) else ((words_cut.f k l0).bind fun t139 => (some (t139, 0)))
theorem words_Cut.mono : ∀ a0 k, LeO (words_Cut.f k a0) (words_Cut.f (k + 1) a0) := by
  intro a0 k
  unfold words_Cut.f
  repeat' first
      | (with_reducible exact words_cut.mono _ _)
      | (with_reducible exact LeO.refl _)
      | (with_reducible exact LeO.none _)
      | (with_reducible refine LeO.ite ?_ ?_)
      | (with_reducible refine LeO.bind ?_ (fun _ => ?_))
      | exact words_cut.mono _ _
      | exact LeO.none _
      | refine LeO.ite ?_ ?_
      | refine LeO.bind ?_ (fun _ => ?_)
set_option maxHeartbeats 8000000 in
set_option maxRecDepth 100000 in
theorem words_Cut.calls (k : Nat) (A0 : Option Addr) (c0 : Nat) (l0 : List Int) (r1 : List (List Int)) (r2 : Int) (w : World) (hr0 : Kd.C (Kd.int .u8) w A0 l0.length l0) (hc0 : l0.length ≤ c0) (h : words_Cut.f k l0 = some (r1, r2)) :
    Calls Try.prog 13 #[.slice A0 l0.length c0] w fun e w' => ∃ v0_ : Value, e = .returned (.tuple #[v0_, .int .i64 r2]) ∧ Kd.S (Kd.slice 5 (Kd.int .u8)) 22 w' w.heap.size (fun _ => True) v0_ r1 ∧ Below w.heap.size w w' := by
  have HR0 := Aside0.mk hr0
  have HC0 := Aside0.mk hc0
  clear hr0 hc0
  have HB := Aside0.mk (Below.refl w.heap.size w)
  have H : (if (l0.length : Int) > 16384 then (some (([] : List (List Int)), 2)) else ((words_cut.f k l0).bind fun t139 => (some (t139, 0)))) = some (r1, r2) := h
  clear h
  by_cases c2 : (l0.length : Int) > 16384
  · rw [if_pos c2] at H
    have c2b0 : decide (16384 < (l0.length : Int)) = true := decide_eq_true c2
    have c2b1 : decide (16384 < l0.length) = true := decide_eq_true (by omega)
    clear c2
    simp only [Option.some.injEq, Prod.mk.injEq] at H
    obtain ⟨rfl, rfl⟩ := H
    go_enter Try.func13, Try.ntmps13
    go_wp2
    go_ret2
    exact ⟨_, by first | rfl | (simp [errW_none, errW_some] <;> rfl) | (simp [*, errW_none, errW_some] <;> rfl), by first | exact Kd.S_nil _ _ _ _ _ | exact Kd.N_nil _ _ _ _ _ | exact Kd.V_nil _ _ _ _ _ | exact Kd.Q_nil _ _ _ _ _ | exact Kd.R_nil _ _ _ _ _, by repeat (first | (with_reducible first | exact HB.out | apply below_alloc | apply pw_below_drewN | apply below_drew1) | exact HB.out)⟩
  · rw [if_neg c2] at H
    have c2b0 : decide (16384 < (l0.length : Int)) = false := decide_eq_false c2
    have c2b1 : decide (16384 < l0.length) = false := decide_eq_false (by omega)
    clear c2
    replace H := Option.bind_eq_some_iff.mp H
    obtain ⟨t139, A30, H⟩ := H
    replace H : (some (t139, 0)) = some (r1, r2) := H
    have A3 := Aside0.mk A30
    clear A30
    simp only [Option.some.injEq, Prod.mk.injEq] at H
    obtain ⟨rfl, rfl⟩ := H
    go_enter Try.func13, Try.ntmps13
    go_wp2_with (first | ((with_reducible refine gate_callee (f := 27) rfl ?_); refine goesL_ (some 8) rfl rfl Try.func27 (by kernel_rfl) rfl #[.slice A0 l0.length c0] rfl (by (try simp only [List.map_toArray, List.map_cons, List.map_nil]); first | done | rfl | (simp only [List.length_drop, List.length_take]; rfl)) ?_; (with_reducible refine (words_cut.calls k (fun k_ => k_ < w.heap.size) _ _ l0 t139 _ ?side1 A3.out).mono ?_); (case side1 => exact Kd.V_mk HC0.out (Kd.F_below (Kd.C_F (Kd.heap_int .u8) HR0.out) (by repeat (first | (with_reducible first | exact HB.out | apply below_alloc | apply pw_below_drewN | apply below_drew1) | exact HB.out)))); rintro e w4 ⟨v140, rfl, ho0, hb⟩; refine ⟨_, rfl, ?_⟩; have n0_ := Aside0.mk (Kd.S_lower (Kd.S_mono (ok' := fun k_ => True) ho0 (fun _ hk_ => trivial)) (below_size (by repeat (first | (with_reducible first | exact HB.out | apply below_alloc | apply pw_below_drewN | apply below_drew1) | exact HB.out)))); have n1_ := Aside0.mk (below_step (by repeat (first | (with_reducible first | exact HB.out | apply below_alloc | apply pw_below_drewN | apply below_drew1) | exact HB.out)) hb); clear HB; have HO141 := n0_; have HB := n1_; clear n0_ n1_; (try clear hb); (try clear hb2); (try clear hk); (try clear hi); (try clear ho0)))
    go_ret2
    exact ⟨_, by first | rfl | (simp [errW_none, errW_some] <;> rfl) | (simp [*, errW_none, errW_some] <;> rfl), by (with_reducible repeat (first | apply Kd.S_alloc | apply Kd.S_drewN | apply Kd.S_drew)); exact HO141.out, by repeat (first | (with_reducible first | exact HB.out | apply below_alloc | apply pw_below_drewN | apply below_drew1) | exact HB.out)⟩

/-! ### imprimaturref06_Same: function 14 -/
def imprimaturref06_Same.l0 : Nat → List (List Int) → List (List Int) → Int → Option (Bool)
  | 0, _, _, _ => none
  | k + 1, x0, x1, x5 => if x5 < (x0.length : Int) then (if 0 ≤ x5 then (if x5 < (x1.length : Int) then (if (strOfNums (rd_L1 x0 x5)).toList = (strOfNums (rd_L1 x1 x5)).toList then (imprimaturref06_Same.l0 k x0 x1 (wrap64 (x5 + 1))) else (some false)) else (none)) else (none)) else (some true)
def imprimaturref06_Same.f (k : Nat) (l0 : List (List Int)) (l1 : List (List Int)) : Option (Bool) := if (l0.length : Int) = (l1.length : Int) then (imprimaturref06_Same.l0 k l0 l1 0) else (some false)
theorem imprimaturref06_Same.mono_l : ∀ k, (∀ y0 y1 y2, LeO (imprimaturref06_Same.l0 k y0 y1 y2) (imprimaturref06_Same.l0 (k + 1) y0 y1 y2))
  | 0 => fun _ _ _ r h => by simp [imprimaturref06_Same.l0] at h
  | k + 1 => by
    have ih0 := imprimaturref06_Same.mono_l k
    · intro y0 y1 y2
      unfold imprimaturref06_Same.l0
      repeat' first
      | (with_reducible exact ih0 _ _ _)
      | (with_reducible exact LeO.refl _)
      | (with_reducible exact LeO.none _)
      | (with_reducible refine LeO.ite ?_ ?_)
      | (with_reducible refine LeO.bind ?_ (fun _ => ?_))
      | exact ih0 _ _ _
      | exact LeO.none _
      | refine LeO.ite ?_ ?_
      | refine LeO.bind ?_ (fun _ => ?_)
theorem imprimaturref06_Same.mono : ∀ a0 a1 k, LeO (imprimaturref06_Same.f k a0 a1) (imprimaturref06_Same.f (k + 1) a0 a1) := by
  intro a0 a1 k
  have ih0 := imprimaturref06_Same.mono_l k
  unfold imprimaturref06_Same.f
  repeat' first
      | (with_reducible exact ih0 _ _ _)
      | (with_reducible exact LeO.refl _)
      | (with_reducible exact LeO.none _)
      | (with_reducible refine LeO.ite ?_ ?_)
      | (with_reducible refine LeO.bind ?_ (fun _ => ?_))
      | exact ih0 _ _ _
      | exact LeO.none _
      | refine LeO.ite ?_ ?_
      | refine LeO.bind ?_ (fun _ => ?_)
set_option maxHeartbeats 8000000 in
set_option maxRecDepth 100000 in
theorem imprimaturref06_Same.calls (k : Nat) (A0 : Option Addr) (c0 : Nat) (l0 : List (List Int)) (A1 : Option Addr) (c1 : Nat) (l1 : List (List Int)) (r : Bool) (w : World) (hr0 : Kd.C (Kd.slice 5 (Kd.int .u8)) w A0 l0.length l0) (hc0 : l0.length ≤ c0) (hr1 : Kd.C (Kd.slice 5 (Kd.int .u8)) w A1 l1.length l1) (hc1 : l1.length ≤ c1) (h : imprimaturref06_Same.f k l0 l1 = some r) :
    Calls Try.prog 14 #[.slice A0 l0.length c0, .slice A1 l1.length c1] w fun e w' => e = .returned (.bool r) ∧ Drawn0 w w' := by
  have HR0 := Aside0.mk hr0
  have HC0 := Aside0.mk hc0
  clear hr0 hc0
  have HR1 := Aside0.mk hr1
  have HC1 := Aside0.mk hc1
  clear hr1 hc1
  have H : (if (l0.length : Int) = (l1.length : Int) then (imprimaturref06_Same.l0 k l0 l1 0) else (some false)) = some r := h
  clear h
  by_cases c3 : (l0.length : Int) = (l1.length : Int)
  · rw [if_pos c3] at H
    have c3b0 : ((l0.length : Int) == (l1.length : Int)) = true := beq_iff_eq.mpr c3
    have c3b1 : ((l0.length : Int) != (l1.length : Int)) = false := bne_eq_false_iff_eq.mpr c3
    have c3b2 : (l0.length == l1.length) = true := by first | simpa using c3 | (simp at c3 ⊢; omega)
    clear c3
    have H' := Aside0.mk H
    clear H
    go_enter Try.func14, Try.ntmps14
    go_wp2
    repeat (go_quiet (fail); try go_wp2)
    go_loopg [5] k (fun kq v5 w' => ∃ (x5_1 : Int), v5 = .int .i64 x5_1 ∧ Aside0 (imprimaturref06_Same.l0 kq l0 l1 x5_1 = some r) ∧ Aside0 (kq ≤ k) ∧ Drawn0 w w')
    case atStart => exact ⟨(0), (by first | rfl | (simp; done) | (simp [*]; done)), H', ⟨Nat.le_refl _⟩, by repeat (first | exact Drawn0.refl _ | apply Drawn0.step)⟩
    case round =>
      clear H'
      try clear c1
      try clear p2
      try clear c3
      try clear c3b0
      try clear c3b1
      try clear c3b2
      obtain ⟨x5_1, rfl, HA, HK1, ⟨m1, rfl⟩⟩ := hrel
      cases gk with
      | zero => exact absurd HA.out (by simp [imprimaturref06_Same.l0])
      | succ k1 =>
        have H := HA.out
        clear HA
        simp only [imprimaturref06_Same.l0] at H
        by_cases c4 : x5_1 < (l0.length : Int)
        · rw [if_pos c4] at H
          have c4b0 : decide (x5_1 < (l0.length : Int)) = true := decide_eq_true c4
          clear c4
          by_cases c5 : 0 ≤ x5_1
          · rw [if_pos c5] at H
            have c5b0 : decide (0 ≤ x5_1) = true := decide_eq_true c5
            clear c5
            by_cases c6 : x5_1 < (l1.length : Int)
            · rw [if_pos c6] at H
              have c6b0 : decide (x5_1 < (l1.length : Int)) = true := decide_eq_true c6
              clear c6
              by_cases c7 : (strOfNums (rd_L1 l0 x5_1)).toList = (strOfNums (rd_L1 l1 x5_1)).toList
              · rw [if_pos c7] at H
                have c7b0 : ((strOfNums (rd_L1 l0 x5_1)).toList == (strOfNums (rd_L1 l1 x5_1)).toList) = true := beq_iff_eq.mpr c7
                have c7b1 : ((strOfNums (rd_L1 l0 x5_1)).toList != (strOfNums (rd_L1 l1 x5_1)).toList) = false := bne_eq_false_iff_eq.mpr c7
                clear c7
                have H' := Aside0.mk H
                clear H
                have p142 : 0 ≤ (x5_1 : Int) := of_decide_eq_true (by first | (with_reducible assumption) | assumption)
                have q142 : x5_1 < (l0.length : Int) := of_decide_eq_true (by first | (with_reducible assumption) | assumption)
                obtain ⟨ad142, A142_0, c142_0, e142, hx142_0, hl142_0, hi142_0⟩ := at_L1 HR0.out x5_1 p142 q142
                cases e142
                have HR142_0 := Aside0.mk hi142_0
                have HC142_0 := Aside0.mk hl142_0
                clear hi142_0 hl142_0
                replace p142 := eq_true p142
                replace q142 := eq_true q142
                have hcv8 := Kd.C_string (P := Try.prog) (A := A142_0) (c := c142_0) Try.underlying22 Try.underlying5 Try.underlying9 HR142_0.out
                have hcv8d := fun m_ => Kd.C_string (P := Try.prog) (A := A142_0) (c := c142_0) Try.underlying22 Try.underlying5 Try.underlying9 (Kd.C_drewN HR142_0.out m_)
                have hcv8e := fun m_ n_ => Kd.C_string (P := Try.prog) (A := A142_0) (c := c142_0) Try.underlying22 Try.underlying5 Try.underlying9 (Kd.C_drewN (Kd.C_drewN HR142_0.out m_) n_)
                have p143 : 0 ≤ (x5_1 : Int) := of_decide_eq_true (by first | (with_reducible assumption) | assumption)
                have q143 : x5_1 < (l1.length : Int) := of_decide_eq_true (by first | (with_reducible assumption) | assumption)
                obtain ⟨ad143, A143_0, c143_0, e143, hx143_0, hl143_0, hi143_0⟩ := at_L1 HR1.out x5_1 p143 q143
                cases e143
                have HR143_0 := Aside0.mk hi143_0
                have HC143_0 := Aside0.mk hl143_0
                clear hi143_0 hl143_0
                replace p143 := eq_true p143
                replace q143 := eq_true q143
                have hcv9 := Kd.C_string (P := Try.prog) (A := A143_0) (c := c143_0) Try.underlying22 Try.underlying5 Try.underlying9 HR143_0.out
                have hcv9d := fun m_ => Kd.C_string (P := Try.prog) (A := A143_0) (c := c143_0) Try.underlying22 Try.underlying5 Try.underlying9 (Kd.C_drewN HR143_0.out m_)
                have hcv9e := fun m_ n_ => Kd.C_string (P := Try.prog) (A := A143_0) (c := c143_0) Try.underlying22 Try.underlying5 Try.underlying9 (Kd.C_drewN (Kd.C_drewN HR143_0.out m_) n_)
                go_wp2
                repeat (go_quiet (fail); try go_wp2)
                go_roundg k1
                case measure => have := HK1.out; omega
                case rel => exact ⟨(wrap64 (x5_1 + 1)), (by first | rfl | (simp; done) | (simp [*]; done)), H', ⟨by have := HK1.out; omega⟩, by repeat (first | exact Drawn0.refl _ | apply Drawn0.step)⟩
              · rw [if_neg c7] at H
                have c7b0 : ((strOfNums (rd_L1 l0 x5_1)).toList == (strOfNums (rd_L1 l1 x5_1)).toList) = false := beq_eq_false_iff_ne.mpr c7
                have c7b1 : ((strOfNums (rd_L1 l0 x5_1)).toList != (strOfNums (rd_L1 l1 x5_1)).toList) = true := bne_iff_ne.mpr c7
                obtain rfl := Option.some.inj H
                have p142 : 0 ≤ (x5_1 : Int) := of_decide_eq_true (by first | (with_reducible assumption) | assumption)
                have q142 : x5_1 < (l0.length : Int) := of_decide_eq_true (by first | (with_reducible assumption) | assumption)
                obtain ⟨ad142, A142_0, c142_0, e142, hx142_0, hl142_0, hi142_0⟩ := at_L1 HR0.out x5_1 p142 q142
                cases e142
                have HR142_0 := Aside0.mk hi142_0
                have HC142_0 := Aside0.mk hl142_0
                clear hi142_0 hl142_0
                replace p142 := eq_true p142
                replace q142 := eq_true q142
                have hcv10 := Kd.C_string (P := Try.prog) (A := A142_0) (c := c142_0) Try.underlying22 Try.underlying5 Try.underlying9 HR142_0.out
                have hcv10d := fun m_ => Kd.C_string (P := Try.prog) (A := A142_0) (c := c142_0) Try.underlying22 Try.underlying5 Try.underlying9 (Kd.C_drewN HR142_0.out m_)
                have hcv10e := fun m_ n_ => Kd.C_string (P := Try.prog) (A := A142_0) (c := c142_0) Try.underlying22 Try.underlying5 Try.underlying9 (Kd.C_drewN (Kd.C_drewN HR142_0.out m_) n_)
                have p143 : 0 ≤ (x5_1 : Int) := of_decide_eq_true (by first | (with_reducible assumption) | assumption)
                have q143 : x5_1 < (l1.length : Int) := of_decide_eq_true (by first | (with_reducible assumption) | assumption)
                obtain ⟨ad143, A143_0, c143_0, e143, hx143_0, hl143_0, hi143_0⟩ := at_L1 HR1.out x5_1 p143 q143
                cases e143
                have HR143_0 := Aside0.mk hi143_0
                have HC143_0 := Aside0.mk hl143_0
                clear hi143_0 hl143_0
                replace p143 := eq_true p143
                replace q143 := eq_true q143
                have hcv11 := Kd.C_string (P := Try.prog) (A := A143_0) (c := c143_0) Try.underlying22 Try.underlying5 Try.underlying9 HR143_0.out
                have hcv11d := fun m_ => Kd.C_string (P := Try.prog) (A := A143_0) (c := c143_0) Try.underlying22 Try.underlying5 Try.underlying9 (Kd.C_drewN HR143_0.out m_)
                have hcv11e := fun m_ n_ => Kd.C_string (P := Try.prog) (A := A143_0) (c := c143_0) Try.underlying22 Try.underlying5 Try.underlying9 (Kd.C_drewN (Kd.C_drewN HR143_0.out m_) n_)
                go_wp2
                repeat (go_quiet (fail); try go_wp2)
                go_ret
                exact ⟨by first | rfl | (simp; done) | (simp [*]; done), by repeat (first | exact Drawn0.refl _ | apply Drawn0.step)⟩
            · rw [if_neg c6] at H
              exact absurd H (by simp)
          · rw [if_neg c5] at H
            exact absurd H (by simp)
        · rw [if_neg c4] at H
          have c4b0 : decide (x5_1 < (l0.length : Int)) = false := decide_eq_false c4
          clear c4
          obtain rfl := Option.some.inj H
          go_wp2
          repeat (go_quiet (fail); try go_wp2)
          go_ret
          exact ⟨by first | rfl | (simp; done) | (simp [*]; done), by repeat (first | exact Drawn0.refl _ | apply Drawn0.step)⟩
  · rw [if_neg c3] at H
    have c3b0 : ((l0.length : Int) == (l1.length : Int)) = false := beq_eq_false_iff_ne.mpr c3
    have c3b1 : ((l0.length : Int) != (l1.length : Int)) = true := bne_iff_ne.mpr c3
    have c3b2 : (l0.length == l1.length) = false := by first | simpa using c3 | (simp at c3 ⊢; omega)
    obtain rfl := Option.some.inj H
    go_enter Try.func14, Try.ntmps14
    go_wp2
    repeat (go_quiet (fail); try go_wp2)
    go_ret
    exact ⟨by first | rfl | (simp; done) | (simp [*]; done), by repeat (first | exact Drawn0.refl _ | apply Drawn0.step)⟩

/-! ### imprimaturlaw18_known: function 12 -/
theorem C_block {W : World} {g : Nat} {cs : Array Value} {e : TypeId} {m : Nat × Nat} {xs : List Int} (h : W.heap[g]? = some (.cells cs e m)) (hc : cs.toList = nums .u8 xs) (hl : xs.length ≤ 9223372036854775807) : Kd.C (Kd.int .u8) W (some ⟨g, 0, none⟩) xs.length xs := by
  refine Kd.C_of_reads (enc := Value.int .u8) (d := (0 : Int)) (h1 := fun _ => rfl) ⟨rfl, hl, fun hp => ⟨_, rfl, fun j hj => ?_⟩⟩
  have e : (⟨g, 0, none⟩ : Addr).add j = ⟨g, j, none⟩ := by unfold Addr.add; split <;> simp_all
  rw [e]
  have hj' : j < cs.size := by rw [← Array.length_toList, hc, nums_length]; exact hj
  have hv : cs[j]? = some (.int .u8 (xs.getD j 0)) := by
    rw [← Array.getElem?_toList, hc, nums, List.getElem?_map, List.getElem?_eq_getElem hj]
    simp [List.getD_eq_getElem?_getD, List.getElem?_eq_getElem hj]
  simp [World.cell?, h, hv]
theorem alloc_get (w : World) (o : Obj) (i : Nat) : (w.alloc o).heap[i]? = if i = w.heap.size then some o else w.heap[i]? := by
  show (w.heap.push o)[i]? = _
  rw [Array.getElem?_push]
theorem alloc_at {w : World} {o : Obj} {g : Nat} (h : w.heap.size = g) : (w.alloc o).heap[g]? = some o := by rw [alloc_get, if_pos h.symm]
theorem alloc_under {w : World} {o x : Obj} {g : Nat} (h : g < w.heap.size) (h2 : w.heap[g]? = some x) : (w.alloc o).heap[g]? = some x := by rw [alloc_get, if_neg (by omega), h2]
theorem C_rows {W : World} {g : Nat} {cs : Array Value} {e : TypeId} {m : Nat × Nat} {xss : List (List Int)} (h : W.heap[g]? = some (.cells cs e m)) (hl : xss.length ≤ 9223372036854775807)
    (hc : ∀ (j : Nat) (p : List Int), xss[j]? = some p → ∃ A c, cs[j]? = some (Value.slice A p.length c) ∧ p.length ≤ c ∧ Kd.C (Kd.int .u8) W A p.length p) : Kd.C (Kd.slice 5 (Kd.int .u8)) W (some ⟨g, 0, none⟩) xss.length xss := by
  refine ⟨rfl, hl, fun _ => ⟨_, rfl, fun j p hp => ?_⟩⟩
  obtain ⟨A, c, hj, hle, hC⟩ := hc j p hp
  refine ⟨[.slice A p.length c], rfl, ⟨A, c, rfl, hle, hC⟩, fun i u hu => ?_⟩
  rcases i with _ | i
  · have e : (⟨g, 0, none⟩ : Addr).add (j * 1 + 0) = ⟨g, j, none⟩ := by unfold Addr.add; split <;> simp_all
    have hu' : Value.slice A p.length c = u := by simpa using hu
    show W.cell? ((⟨g, 0, none⟩ : Addr).add (j * 1 + 0)) = _
    rw [e]
    simp [World.cell?, h, hj, hu']
  · simp at hu
def cutA : List (List Int) := [[97, 98], [32, 49, 50, 51], [52, 53], [33]]
def cutB : List (List Int) := [[32], [32, 97]]
theorem cutA_eq : words_Cut.f 40 [97, 98, 32, 49, 50, 51, 52, 53, 33] = some (cutA, 0) := by decide +kernel
theorem cutB_eq : words_Cut.f 40 [32, 32, 97] = some (cutB, 0) := by decide +kernel
theorem kindN_eq : words_Kind.f 40 [] = some (-1, 0) := by decide +kernel
theorem sameA_eq : imprimaturref06_Same.f 40 cutA [[97, 98], [32, 49, 50, 51], [52, 53], [33]] = some true := by decide +kernel
theorem sameB_eq : imprimaturref06_Same.f 40 cutB [[32], [32, 97]] = some true := by decide +kernel
def imprimaturlaw18_known.f : Option Bool := some true
set_option maxHeartbeats 1000000 in
theorem imprimaturlaw18_known.calls (r : Bool) (w : World) (h : imprimaturlaw18_known.f = some r) :
    Calls Try.prog 12 #[] w fun e w' => e = .returned (.bool r) ∧ Below w.heap.size w w' := by
  obtain rfl := Option.some.inj h
  clear h
  have kc := fun (w : World) (C : Array Value) (n c : Nat) => Lib.run_convert_bytes_const (P := Try.prog) w 22 5 C n c Try.underlying22 Try.underlying5
  have kd : ∀ (w : World) (g : Nat) (C : Array Value) (n c : Nat), w.heap.size = g → (convert 22 22 (.slice (some ⟨g, 0, none⟩) n c)).run Try.prog (w.alloc (.cells C 5)) = .ok (.slice (some ⟨g, 0, none⟩) n c) (w.alloc (.cells C 5 (C.size, C.size + 1))) := fun w g C n c h => by subst h; exact kc w C n c
  clear kc
  have HB := Aside0.mk (Below.refl w.heap.size w)
  go_enter Try.func12, Try.ntmps12
  go_wp2_with fail
  refine (words_Cut.calls 40 (some ⟨w.heap.size, 0, none⟩) 9 [97, 98, 32, 49, 50, 51, 52, 53, 33] cutA 0 _ (C_block (heap_alloc_new w _) rfl (by simp)) (by simp) cutA_eq).mono ?_
  rintro e w1 ⟨va, rfl, ho, hb⟩
  have HO := Aside0.mk (Kd.S_R ho)
  have HB1 := Aside0.mk (HB.out.trans ((below_alloc (Below.refl _ _) _).trans (hb.mono (by simp))))
  clear ho hb HB
  obtain ⟨A1, c1, e1, hl1, hr1⟩ := Kd.R_reads HO.out
  subst e1
  have HR1 := Aside0.mk hr1
  have HL1 := Aside0.mk hl1
  clear hr1 hl1 HO
  go_wp2_with fail
  refine (words_Cut.calls 40 (some ⟨w1.heap.size, 0, none⟩) 3 [32, 32, 97] cutB 0 _ (C_block (heap_alloc_new w1 _) rfl (by simp)) (by simp) cutB_eq).mono ?_
  rintro e w2 ⟨vb, rfl, ho, hb⟩
  have HO := Aside0.mk (Kd.S_R ho)
  have HB12 := Aside0.mk ((below_alloc (Below.refl _ _) _).trans (hb.mono (by simp)) : Below w1.heap.size w1 w2)
  clear ho hb
  obtain ⟨A2, c2, e2, hl2, hr2⟩ := Kd.R_reads HO.out
  subst e2
  have HR2 := Aside0.mk hr2
  have HL2 := Aside0.mk hl2
  clear hr2 hl2 HO
  go_wp2_with fail
  refine (words_Kind.calls 40 none 0 [] (-1) 0 w2 ⟨rfl, by simp, fun h => absurd h (by simp)⟩ (by simp) kindN_eq).mono ?_
  rintro e w3 ⟨rfl, ⟨nd, hw3⟩⟩
  have HR1' := Aside0.mk (hw3 ▸ Kd.C_drewN (Kd.C_below HR1.out HB12.out) nd : Kd.C (Kd.slice 5 (Kd.int .u8)) w3 A1 cutA.length cutA)
  have HR2' := Aside0.mk (hw3 ▸ Kd.C_drewN HR2.out nd : Kd.C (Kd.slice 5 (Kd.int .u8)) w3 A2 cutB.length cutB)
  have HB3 := Aside0.mk (hw3 ▸ pw_below_drewN (HB1.out.trans (HB12.out.mono HB1.out.size)) nd : Below w.heap.size w w3)
  clear HR1 HR2 HB12 HB1 hw3
  go_wp2_with fail
  refine (imprimaturref06_Same.calls 40 A1 c1 cutA (some ⟨w3.heap.size + 1 + 1 + 1 + 1, 0, none⟩) 4 [[97, 98], [32, 49, 50, 51], [52, 53], [33]] true _ ?s1 HL1.out ?s2 (by simp) sameA_eq).mono ?_
  case s1 => repeat (first | exact HR1'.out | (with_reducible refine Kd.C_alloc ?_ _))
  case s2 =>
    refine C_rows (e := 22) (m := (0, 0)) (alloc_at (by simp)) (by simp) ?_
    intro j p hp
    match j, hp with
    | 0, hp => obtain rfl := Option.some.inj hp; exact ⟨_, _, rfl, by simp, C_block (cs := #[.int .u8 97, .int .u8 98]) (e := 5) (m := (2, 3)) (alloc_under (by first | (simp; done) | (simp; omega)) (alloc_under (by first | (simp; done) | (simp; omega)) (alloc_under (by first | (simp; done) | (simp; omega)) (alloc_under (by first | (simp; done) | (simp; omega)) (alloc_at (by first | (simp; done) | (simp; omega))))))) rfl (by simp)⟩
    | 1, hp => obtain rfl := Option.some.inj hp; exact ⟨_, _, rfl, by simp, C_block (cs := #[.int .u8 32, .int .u8 49, .int .u8 50, .int .u8 51]) (e := 5) (m := (4, 5)) (alloc_under (by first | (simp; done) | (simp; omega)) (alloc_under (by first | (simp; done) | (simp; omega)) (alloc_under (by first | (simp; done) | (simp; omega)) (alloc_at (by first | (simp; done) | (simp; omega)))))) rfl (by simp)⟩
    | 2, hp => obtain rfl := Option.some.inj hp; exact ⟨_, _, rfl, by simp, C_block (cs := #[.int .u8 52, .int .u8 53]) (e := 5) (m := (2, 3)) (alloc_under (by first | (simp; done) | (simp; omega)) (alloc_under (by first | (simp; done) | (simp; omega)) (alloc_at (by first | (simp; done) | (simp; omega))))) rfl (by simp)⟩
    | 3, hp => obtain rfl := Option.some.inj hp; exact ⟨_, _, rfl, by simp, C_block (cs := #[.int .u8 33]) (e := 5) (m := (1, 2)) (alloc_under (by first | (simp; done) | (simp; omega)) (alloc_at (by first | (simp; done) | (simp; omega)))) rfl (by simp)⟩
    | j + 4, hp => simp at hp
  rintro e w4 ⟨rfl, ⟨nd4, hw4⟩⟩
  have HB4 := Aside0.mk (hw4 ▸ pw_below_drewN (below_alloc (below_alloc (below_alloc (below_alloc (below_alloc HB3.out _) _) _) _) _) nd4 : Below w.heap.size w w4)
  have HR2 := Aside0.mk (hw4 ▸ Kd.C_drewN (Kd.C_alloc (Kd.C_alloc (Kd.C_alloc (Kd.C_alloc (Kd.C_alloc HR2'.out _) _) _) _) _) nd4 : Kd.C (Kd.slice 5 (Kd.int .u8)) w4 A2 cutB.length cutB)
  clear HR1' HR2' HB3 hw4 HL1
  go_wp2_with fail
  refine (imprimaturref06_Same.calls 40 A2 c2 cutB (some ⟨w4.heap.size + 1 + 1, 0, none⟩) 2 [[32], [32, 97]] true _ ?t1 HL2.out ?t2 (by simp) sameB_eq).mono ?_
  case t1 => repeat (first | exact HR2.out | (with_reducible refine Kd.C_alloc ?_ _))
  case t2 =>
    refine C_rows (e := 22) (m := (0, 0)) (alloc_at (by simp)) (by simp) ?_
    intro j p hp
    match j, hp with
    | 0, hp => obtain rfl := Option.some.inj hp; exact ⟨_, _, rfl, by simp, C_block (cs := #[.int .u8 32]) (e := 5) (m := (1, 2)) (alloc_under (by first | (simp; done) | (simp; omega)) (alloc_under (by first | (simp; done) | (simp; omega)) (alloc_at (by first | (simp; done) | (simp; omega))))) rfl (by simp)⟩
    | 1, hp => obtain rfl := Option.some.inj hp; exact ⟨_, _, rfl, by simp, C_block (cs := #[.int .u8 32, .int .u8 97]) (e := 5) (m := (2, 3)) (alloc_under (by first | (simp; done) | (simp; omega)) (alloc_at (by first | (simp; done) | (simp; omega)))) rfl (by simp)⟩
    | j + 2, hp => simp at hp
  rintro e w5 ⟨rfl, ⟨nd5, hw5⟩⟩
  have HB5 := Aside0.mk (hw5 ▸ pw_below_drewN (below_alloc (below_alloc (below_alloc HB4.out _) _) _) nd5 : Below w.heap.size w w5)
  clear HR2 HB4 hw5 HL2
  go_wp2
  go_ret
  exact ⟨rfl, HB5.out⟩

end Go.Proofs.Ytmmpppahagknpaa.P
