/- StoreAsks: the texts Px1 ShR RsA RsB RsC RsD PlT StH. -/
import Derived.Test.YtmblnflfklmmkaaGreatDoorPStoreAsks2
import Derived.Test.YtmblnflfklmmkaaGreatDoorPStoreAsks4
/- Functions of the program and of its laws, each with a Lean function and the proof that a call comes to what that function tells, under the conditions that its contract names. (Laid by a program of this session, out of the translation; Lean checks it.) -/
namespace Go.Proofs.YtmblnflfklmmkaaGreatDoor.P
open Go.RowKit Go.Proofs.YtmblnflfklmmkaaGreatDoorW.PrintWords Go.Proofs.YtmblnflfklmmkaaGreatDoorW.PrintLast Go.Proofs.YtmblnflfklmmkaaGreatDoorW.PrintMore
attribute [local go_sem] max2_int min2_int max_two min_two max_three min_three max_four min_four   -- for this text's walks alone
set_option linter.unusedVariables false
set_option linter.unusedSimpArgs false

/-! ### imprimaturlaw08_wide: function 5 -/
def imprimaturlaw08_wide.f (l0 : List Int) (a1 : Int) : Option (Bool) := if (l0.length : Int) > 2000 then (some true) else (some (decide (a1 > 60)))
set_option maxHeartbeats 8000000 in
set_option maxRecDepth 100000 in
theorem imprimaturlaw08_wide.calls (A0 : Option Addr) (c0 : Nat) (l0 : List Int) (a1 : Int) (r : Bool) (w : World) (hr0 : Kd.C (Kd.int .u8) w A0 l0.length l0) (hc0 : l0.length ≤ c0) (h : imprimaturlaw08_wide.f l0 a1 = some r) :
    Calls Tryz.prog 5 #[.slice A0 l0.length c0, .int .i64 a1] w fun e w' => e = .returned (.bool r) ∧ Drawn0 w w' := by
  have HR0 := Aside0.mk hr0
  have HC0 := Aside0.mk hc0
  clear hr0 hc0
  have H : (if (l0.length : Int) > 2000 then (some true) else (some (decide (a1 > 60)))) = some r := h
  clear h
  by_cases c3 : (l0.length : Int) > 2000
  · rw [if_pos c3] at H
    have c3b0 : decide (2000 < (l0.length : Int)) = true := decide_eq_true c3
    have c3b1 : decide (2000 < l0.length) = true := decide_eq_true (by omega)
    clear c3
    obtain rfl := Option.some.inj H
    go_enter Tryz.func5, Tryz.ntmps5
    go_wp2
    go_ret
    exact ⟨by first | rfl | (simp; done) | (simp [*]; done), by repeat (first | exact Drawn0.refl _ | apply Drawn0.step)⟩
  · rw [if_neg c3] at H
    have c3b0 : decide (2000 < (l0.length : Int)) = false := decide_eq_false c3
    have c3b1 : decide (2000 < l0.length) = false := decide_eq_false (by omega)
    clear c3
    obtain rfl := Option.some.inj H
    go_enter Tryz.func5, Tryz.ntmps5
    go_wp2
    go_ret
    exact ⟨by first | rfl | (simp; done) | (simp [*]; done), by repeat (first | exact Drawn0.refl _ | apply Drawn0.step)⟩

/-! ### imprimaturlaw08_long: function 6 -/
def imprimaturlaw08_long.l0 : Nat → List (S37) → Int → Int → Option (Bool)
  | 0, _, _, _ => none
  | k + 1, x0, x3, x4 => if x4 < (x0.length : Int) then (if x3 ≤ 2500 then (if 0 ≤ x4 then (imprimaturlaw08_long.l0 k x0 (wrap64 ((wrap64 ((wrap64 (x3 + 5)) + (((rd_T37 x0 x4).f3).length : Int))) + (((rd_T37 x0 x4).f4).length : Int))) (wrap64 (x4 + 1))) else (none)) else (some (decide (x3 > 2500)))) else (some (decide (x3 > 2500)))
def imprimaturlaw08_long.f (k : Nat) (l0 : List (S37)) : Option (Bool) := imprimaturlaw08_long.l0 k l0 0 0
set_option maxHeartbeats 8000000 in
set_option maxRecDepth 100000 in
theorem imprimaturlaw08_long.calls (k : Nat) (A0 : Option Addr) (c0 : Nat) (l0 : List (S37)) (r : Bool) (w : World) (hr0 : Kd.C k37 w A0 l0.length l0) (hc0 : l0.length ≤ c0) (h : imprimaturlaw08_long.f k l0 = some r) :
    Calls Tryz.prog 6 #[.slice A0 l0.length c0] w fun e w' => e = .returned (.bool r) ∧ Drawn0 w w' := by
  have HR0 := Aside0.mk hr0
  have HC0 := Aside0.mk hc0
  clear hr0 hc0
  have H : (imprimaturlaw08_long.l0 k l0 0 0) = some r := h
  clear h
  have H' := Aside0.mk H
  clear H
  go_enter Tryz.func6, Tryz.ntmps6
  go_wp2
  repeat (go_quiet (fail); try go_wp2)
  go_loopg [3, 4] k (fun kq v3 v4 w' => ∃ (x3_1 : Int) (x4_1 : Int), v3 = .int .i64 x3_1 ∧ v4 = .int .i64 x4_1 ∧ Aside0 (imprimaturlaw08_long.l0 kq l0 x3_1 x4_1 = some r) ∧ Aside0 (kq ≤ k) ∧ Drawn0 w w')
  case atStart => exact ⟨(0), (0), (by first | rfl | (simp; done) | (simp [*]; done)), (by first | rfl | (simp; done) | (simp [*]; done)), H', ⟨Nat.le_refl _⟩, by repeat (first | exact Drawn0.refl _ | apply Drawn0.step)⟩
  case round =>
    clear H'
    obtain ⟨x3_1, x4_1, rfl, rfl, HA, HK1, ⟨m1, rfl⟩⟩ := hrel
    cases gk with
    | zero => exact absurd HA.out (by simp [imprimaturlaw08_long.l0])
    | succ k1 =>
      have H := HA.out
      clear HA
      simp only [imprimaturlaw08_long.l0] at H
      by_cases c2 : x4_1 < (l0.length : Int)
      · rw [if_pos c2] at H
        have c2b0 : decide (x4_1 < (l0.length : Int)) = true := decide_eq_true c2
        clear c2
        by_cases c3 : x3_1 ≤ 2500
        · rw [if_pos c3] at H
          have c3b0 : decide (x3_1 ≤ 2500) = true := decide_eq_true c3
          clear c3
          by_cases c4 : 0 ≤ x4_1
          · rw [if_pos c4] at H
            have c4b0 : decide (0 ≤ x4_1) = true := decide_eq_true c4
            clear c4
            have H' := Aside0.mk H
            clear H
            have p101 : 0 ≤ (x4_1 : Int) := of_decide_eq_true (by first | (with_reducible assumption) | assumption)
            have q101 : x4_1 < (l0.length : Int) := of_decide_eq_true (by first | (with_reducible assumption) | assumption)
            obtain ⟨ad101, A101_3, c101_3, A101_4, c101_4, e101, hx101_0, hx101_1, hx101_2, hx101_3, hx101_4, hl101_3, hi101_3, hl101_4, hi101_4⟩ := at_T37 HR0.out x4_1 p101 q101
            cases e101
            have HR101_3 := Aside0.mk hi101_3
            have HC101_3 := Aside0.mk hl101_3
            clear hi101_3 hl101_3
            have HR101_4 := Aside0.mk hi101_4
            have HC101_4 := Aside0.mk hl101_4
            clear hi101_4 hl101_4
            replace p101 := eq_true p101
            replace q101 := eq_true q101
            have p102 : 0 ≤ (x4_1 : Int) := of_decide_eq_true (by first | (with_reducible assumption) | assumption)
            have q102 : x4_1 < (l0.length : Int) := of_decide_eq_true (by first | (with_reducible assumption) | assumption)
            obtain ⟨ad102, A102_3, c102_3, A102_4, c102_4, e102, hx102_0, hx102_1, hx102_2, hx102_3, hx102_4, hl102_3, hi102_3, hl102_4, hi102_4⟩ := at_T37 HR0.out x4_1 p102 q102
            obtain rfl : ad101 = ad102 := (by injection e102)
            have HR102_3 := Aside0.mk hi102_3
            have HC102_3 := Aside0.mk hl102_3
            clear hi102_3 hl102_3
            have HR102_4 := Aside0.mk hi102_4
            have HC102_4 := Aside0.mk hl102_4
            clear hi102_4 hl102_4
            replace p102 := eq_true p102
            replace q102 := eq_true q102
            have ea_ := Option.some.inj (hx101_3.symm.trans hx102_3)
            injection ea_ with ea_ en_ ec_
            subst ea_
            subst ec_
            clear en_
            have ea_ := Option.some.inj (hx101_4.symm.trans hx102_4)
            injection ea_ with ea_ en_ ec_
            subst ea_
            subst ec_
            clear en_
            go_wp2
            repeat (go_quiet (fail); try go_wp2)
            go_roundg k1
            case measure => have := HK1.out; omega
            case rel => exact ⟨(wrap64 ((wrap64 ((wrap64 (x3_1 + 5)) + (((rd_T37 l0 x4_1).f3).length : Int))) + (((rd_T37 l0 x4_1).f4).length : Int))), (wrap64 (x4_1 + 1)), (by first | rfl | (simp; done) | (simp [*]; done)), (by first | rfl | (simp; done) | (simp [*]; done)), H', ⟨by have := HK1.out; omega⟩, by repeat (first | exact Drawn0.refl _ | apply Drawn0.step)⟩
          · rw [if_neg c4] at H
            exact absurd H (by simp)
        · rw [if_neg c3] at H
          have c3b0 : decide (x3_1 ≤ 2500) = false := decide_eq_false c3
          clear c3
          obtain rfl := Option.some.inj H
          go_wp2
          repeat (go_quiet (fail); try go_wp2)
          go_ret
          exact ⟨by first | rfl | (simp; done) | (simp [*]; done), by repeat (first | exact Drawn0.refl _ | apply Drawn0.step)⟩
      · rw [if_neg c2] at H
        have c2b0 : decide (x4_1 < (l0.length : Int)) = false := decide_eq_false c2
        clear c2
        obtain rfl := Option.some.inj H
        go_wp2
        repeat (go_quiet (fail); try go_wp2)
        go_ret
        exact ⟨by first | rfl | (simp; done) | (simp [*]; done), by repeat (first | exact Drawn0.refl _ | apply Drawn0.step)⟩

-- NOT PRINTED: function 9 (store_Store_Room)

-- NOT PRINTED: function 39 (store_Store_ready)

-- NOT PRINTED: function 42 (store_Store_place)

/-! ### store_put: function 60 -/
def store_put.l0 : Nat → List Int → Int → Int → Option (List Int)
  | 0, _, _, _ => none
  | k + 1, x0, x1, x4 => if x4 ≥ 0 then (if 0 ≤ x4 then (if x4 < (x0.length : Int) then (store_put.l0 k (x0.set (x4 : Int).toNat ((x1) % 256)) (x1 / 256) (wrap64 (x4 - 1))) else (none)) else (none)) else (some x0)
def store_put.f (k : Nat) (l0 : List Int) (a1 : Int) : Option (List Int) := store_put.l0 k l0 a1 (wrap64 ((l0.length : Int) - 1))
set_option maxHeartbeats 8000000 in
set_option maxRecDepth 100000 in
theorem store_put.calls (k : Nat) (P0_ : Nat → Prop) (u9000_ : Value) (l0 : List Int) (a1 : Int) (r : List Int) (w0 w : World) (hB : Below w0.heap.size w0 w) (ho0 : Kd.R (Kd.int .u8) 5 w w0.heap.size P0_ u9000_ l0) (h : store_put.f k l0 a1 = some r) :
    Calls Tryz.prog 60 #[u9000_, .int .u64 a1] w fun e w' => e = .returned (.tuple #[]) ∧ Kd.R (Kd.int .u8) 5 w' w0.heap.size (fun k_ => (P0_ k_ ∨ w.heap.size ≤ k_)) u9000_ r ∧ Below w0.heap.size w0 w' ∧ Kept w w' (fun k_ => P0_ k_) := by
  have HO0 := Aside0.mk (show Kd.R (Kd.int .u8) 5 w w0.heap.size (fun k_ => (P0_ k_ ∨ w.heap.size ≤ k_)) u9000_ l0 from Kd.R_mono ho0 (fun k_ hk => (.inl hk)))
  have HK := Aside0.mk (Kept.refl w (fun k_ => P0_ k_))
  have HW0 := Aside0.mk hB.size
  have HB := Aside0.mk hB
  clear hB
  have H : (store_put.l0 k l0 a1 (wrap64 ((l0.length : Int) - 1))) = some r := h
  clear h
  have H' := Aside0.mk H
  clear H
  obtain ⟨Ao3, co3, eo3⟩ := Kd.R_slice HO0.out
  subst eo3
  go_enter Tryz.func60, Tryz.ntmps60
  go_wp2
  go_loopg [1, 4] k (fun kq v1 v4 w' => ∃ (x0_1 : List Int) (x1_1 : Int) (x4_1 : Int), v1 = .int .u64 x1_1 ∧ v4 = .int .i64 x4_1 ∧ Aside0 (store_put.l0 kq x0_1 x1_1 x4_1 = some r) ∧ Aside0 (kq ≤ k) ∧ Aside0 (Kd.R (Kd.int .u8) 5 w' w0.heap.size (fun k_ => (P0_ k_ ∨ w.heap.size ≤ k_)) (.slice Ao3 l0.length co3) x0_1) ∧ Aside0 (Kept w w' (fun k_ => P0_ k_)) ∧ Aside0 (Below w0.heap.size w0 w'))
  case atStart => exact ⟨(l0), (a1), (wrap64 ((l0.length : Int) - 1)), (by first | rfl | (simp; done) | (simp [*]; done)), (by first | rfl | (simp; done) | (simp [*]; done)), H', ⟨Nat.le_refl _⟩, ⟨by (with_reducible repeat (first | apply Kd.R_alloc | apply Kd.R_drewN | apply Kd.R_drew)); exact HO0.out⟩, ⟨by repeat (first | (with_reducible first | exact HK.out | apply Kept.alloc | apply Kept.drewN | apply Kept.drew) | exact HK.out)⟩, ⟨by repeat (first | (with_reducible first | exact HB.out | apply below_alloc | apply pw_below_drewN | apply below_drew1) | exact HB.out)⟩⟩
  case round =>
    clear H'
    try clear p2
    obtain ⟨x0_1, x1_1, x4_1, rfl, rfl, HA, HK1, HO_0, HK, HB⟩ := hrel
    have hl0_1 := (Kd.R_reads' HO_0.out).1
    rw [hl0_1] at HO_0
    (try simp only [hl0_1])
    cases gk with
    | zero => exact absurd HA.out (by simp [store_put.l0])
    | succ k1 =>
      have H := HA.out
      clear HA
      simp only [store_put.l0] at H
      by_cases c4 : x4_1 ≥ 0
      · rw [if_pos c4] at H
        have c4b0 : decide (0 ≤ x4_1) = true := decide_eq_true c4
        clear c4
        by_cases c5 : 0 ≤ x4_1
        · rw [if_pos c5] at H
          have c5b0 : decide (0 ≤ x4_1) = true := decide_eq_true c5
          clear c5
          by_cases c6 : x4_1 < (x0_1.length : Int)
          · rw [if_pos c6] at H
            have c6b0 : decide (x4_1 < (x0_1.length : Int)) = true := decide_eq_true c6
            clear c6
            obtain ⟨y103, hy103⟩ : ∃ y_ : List Int, y_ = (x0_1.set (x4_1 : Int).toNat ((x1_1) % 256)) := ⟨_, rfl⟩
            replace H : (store_put.l0 k1 y103 (x1_1 / 256) (wrap64 (x4_1 - 1))) = some r := by first | (rw [hy103]; with_reducible exact H) | (have H2_ := (Option.bind_some _ _).symm.trans H; rw [hy103]; with_reducible exact H2_) | (have H2_ := (Option.bind_some _ _).symm.trans H; with_reducible exact H2_) | with_reducible exact H | (rw [hy103]; exact H) | exact H
            have Ny103 := Aside0.mk hy103
            clear hy103
            have H' := Aside0.mk H
            clear H
            have p7 : 0 ≤ (x4_1 : Int) := of_decide_eq_true (by first | (with_reducible assumption) | assumption)
            have q7 : (x4_1 : Int) < ((x0_1.length : Int) : Int) := of_decide_eq_true (by first | (with_reducible assumption) | assumption)
            obtain ⟨go7, co7, eo7, gb7, gl7, cl7, HG7⟩ := Kd.R_form HO_0.out (by omega)
            (first | cases eo7 | (injection eo7 with ea_ en_ ec_; (first | subst ea_ | (injection ea_ with ea_; subst ea_)); subst ec_; clear en_))
            have GB7 := Aside0.mk gb7
            have GG7 := Aside0.mk HG7
            clear gb7 gl7 HG7
            have HMgo7 := Aside0.mk (show (P0_ go7 ∨ w.heap.size ≤ go7) from (HO_0.out.1 _ rfl))
            obtain ⟨hx7_0, hf7_0⟩ := Kd.R_celln 0 HO_0.out (x4_1 : Int) p7 q7
            replace p7 := eq_true p7
            replace q7 := eq_true q7
            have HP8 := Kd.R_putg HO_0.out (x4_1 : Int) ((x1_1) % 256)
            go_wp2_with (first | ((with_reducible refine gate_store (t := 5) (p := 16) rfl ?_); refine store_event (t := 5) (p := 16) (v := ?vo_w9) (w1 := (wr.setCell ⟨go7, (x4_1 : Int).toNat, none⟩ (.int .u8 ((x1_1) % 256)))) ?hg ?ho ?hn ?hr ?_; (case ho => rfl); (case hg => rfl); (case hn => rfl); (case hr => first | (go_simp; done) | (go_simp; rfl)); intro w9 hw; have hg : wr.grownBy w9 (some go7) := (by rw [hw]; exact HP8.2); have hp_ : Kd.R (Kd.int .u8) 5 w9 w0.heap.size (fun k_ => (P0_ k_ ∨ w.heap.size ≤ k_)) (.slice (some ⟨go7, 0, none⟩) x0_1.length co3) y103 := (by rw [hw, Ny103.out]; exact HP8.1); clear HP8; have n0_ := Aside0.mk (hp_); have n1_ := Aside0.mk ((by rw [hw]; exact below_set (HB.out) GB7.out : Below w0.heap.size w0 w9)); have n2_ := Aside0.mk (Kept.of_grown (S := (fun k_ => P0_ k_)) hg (by repeat (first | (with_reducible first | exact HK.out | apply Kept.alloc | apply Kept.drewN | apply Kept.drew) | exact HK.out)) (fun k_ e_ => (HO_0.out.1 k_ e_))); clear HO_0; clear HB; clear HK; have HO_0 := n0_; have HB := n1_; have HK := n2_; clear n0_ n1_ n2_; clear hg hw hp_))
            (try simp only [← hl0_1])
            go_roundg k1
            case measure => have := HK1.out; omega
            case rel => exact ⟨(y103), (x1_1 / 256), (wrap64 (x4_1 - 1)), (by first | rfl | (simp; done) | (simp [*]; done)), (by first | rfl | (simp; done) | (simp [*]; done)), H', ⟨by have := HK1.out; omega⟩, ⟨by (try simp only [hl0_1]); (with_reducible repeat (first | apply Kd.R_alloc | apply Kd.R_drewN | apply Kd.R_drew)); exact HO_0.out⟩, ⟨by repeat (first | (with_reducible first | exact HK.out | apply Kept.alloc | apply Kept.drewN | apply Kept.drew) | exact HK.out)⟩, ⟨by repeat (first | (with_reducible first | exact HB.out | apply below_alloc | apply pw_below_drewN | apply below_drew1) | exact HB.out)⟩⟩
          · rw [if_neg c6] at H
            exact absurd H (by simp)
        · rw [if_neg c5] at H
          exact absurd H (by simp)
      · rw [if_neg c4] at H
        have c4b0 : decide (0 ≤ x4_1) = false := decide_eq_false c4
        clear c4
        obtain rfl := Option.some.inj H
        go_wp2
        first | go_end0 | ((try simp only [Exit.inBlock, Exit.then]); refine bodyPost_ret (results_none rfl _ _ _) rfl ?_)
        exact ⟨by first | rfl | (simp [errW_none, errW_some] <;> rfl) | (simp [*, errW_none, errW_some] <;> rfl), (by first | exact (by (with_reducible repeat (first | apply Kd.R_alloc | apply Kd.R_drewN | apply Kd.R_drew)); exact HO_0.out) | (simp only [hl0_1]; exact (by (with_reducible repeat (first | apply Kd.R_alloc | apply Kd.R_drewN | apply Kd.R_drew)); exact HO_0.out))), by repeat (first | (with_reducible first | exact HB.out | apply below_alloc | apply pw_below_drewN | apply below_drew1) | exact HB.out), by repeat (first | (with_reducible first | exact HK.out | apply Kept.alloc | apply Kept.drewN | apply Kept.drew) | exact HK.out)⟩

-- NOT PRINTED: function 90 (sha2_narrow)

-- NOT PRINTED: function 91 (sha2_wide)

-- NOT PRINTED: function 77 (sha2_of)

-- NOT PRINTED: function 92 (sha2_begin_uint32)

-- NOT PRINTED: function 93 (sha2_begin_uint64)

-- NOT PRINTED: function 78 (sha2_Hash_Reset)

-- NOT PRINTED: function 73 (sha2_New)

-- NOT PRINTED: function 94 (sha2_shape_block)

/-! ### sha2_turn_uint32: function 105 -/
def sha2_turn_uint32.f (a0 : Int) (a1 : Int) (a2 : Int) : Option (Int) := if 0 ≤ a1 then (if 0 ≤ (wrap64 (a2 - a1)) then (some (Go.bits .or .u32 (shr .u32 a0 a1) (shl .u32 a0 (wrap64 (a2 - a1))))) else (none)) else (none)
set_option maxHeartbeats 8000000 in
set_option maxRecDepth 100000 in
theorem sha2_turn_uint32.calls (a0 : Int) (a1 : Int) (a2 : Int) (r : Int) (w : World) (h : sha2_turn_uint32.f a0 a1 a2 = some r) :
    Calls Tryz.prog 105 #[.int .u32 a0, .int .i64 a1, .int .i64 a2] w fun e w' => e = .returned (.int .u32 r) ∧ Drawn0 w w' := by
  have H : (if 0 ≤ a1 then (if 0 ≤ (wrap64 (a2 - a1)) then (some (Go.bits .or .u32 (shr .u32 a0 a1) (shl .u32 a0 (wrap64 (a2 - a1))))) else (none)) else (none)) = some r := h
  clear h
  by_cases c4 : 0 ≤ a1
  · rw [if_pos c4] at H
    have c4b0 := eq_true c4
    have c4b1 : decide (0 ≤ a1) = true := decide_eq_true c4
    clear c4
    obtain ⟨ji5, hji5⟩ : ∃ j_ : Int, (shr .u32 a0 a1) = j_ := ⟨_, rfl⟩
    replace H : (if 0 ≤ (wrap64 (a2 - a1)) then (some (Go.bits .or .u32 (ji5) (shl .u32 a0 (wrap64 (a2 - a1))))) else (none)) = some r := by first | (rw [hji5] at H; exact H) | (simp only [hji5] at H ⊢; exact H)
    have hji5_ : (a0 / 2 ^ min a1.toNat 32) = ji5 := hji5
    have hji5z : a1 ≤ 32 → (a0 / 2 ^ a1.toNat) = ji5 := shr_small hji5
    obtain ⟨ji6, hji6⟩ : ∃ j_ : Int, (wrap64 (a2 - a1)) = j_ := ⟨_, rfl⟩
    replace H : (if 0 ≤ (ji6) then (some (Go.bits .or .u32 (ji5) (shl .u32 a0 (ji6)))) else (none)) = some r := by first | (rw [hji6] at H; exact H) | (simp only [hji6] at H ⊢; exact H)
    have hji6w : (IntKind.i64.wrap (a2 - a1)) = ji6 := (i64_w _).trans hji6
    by_cases c7 : 0 ≤ (ji6)
    · rw [if_pos c7] at H
      have c7b0 := eq_true c7
      have c7b1 : decide (0 ≤ (ji6)) = true := decide_eq_true c7
      clear c7
      obtain ⟨ji8, hji8⟩ : ∃ j_ : Int, (shl .u32 a0 (ji6)) = j_ := ⟨_, rfl⟩
      replace H : (some (Go.bits .or .u32 (ji5) (ji8))) = some r := by first | (rw [hji8] at H; exact H) | (simp only [hji8] at H ⊢; exact H)
      have hji8_ : (IntKind.u32.wrap (a0 * 2 ^ min (ji6).toNat 32)) = ji8 := hji8
      have hji8z : (ji6) ≤ 32 → (IntKind.u32.wrap (a0 * 2 ^ (ji6).toNat)) = ji8 := shl_small hji8
      obtain rfl := Option.some.inj H
      go_enter Tryz.func105, Tryz.ntmps105
      go_wp2
      repeat (go_quiet (fail); try go_wp2)
      go_ret
      exact ⟨by first | rfl | (simp; done) | (simp only [← hji5, ← hji6, ← hji8] <;> (first | rfl | simp)) | (simp [*]; done), by repeat (first | exact Drawn0.refl _ | apply Drawn0.step)⟩
    · rw [if_neg c7] at H
      exact absurd H (by simp)
  · rw [if_neg c4] at H
    exact absurd H (by simp)

-- NOT PRINTED: function 104 (sha2_small_uint32)

-- NOT PRINTED: function 99 (sha2_words_uint32)

-- NOT PRINTED: function 100 (sha2_big_uint32)

-- NOT PRINTED: function 95 (sha2_mix_uint32)

/-! ### sha2_turn_uint64: function 107 -/
def sha2_turn_uint64.f (a0 : Int) (a1 : Int) (a2 : Int) : Option (Int) := if 0 ≤ a1 then (if 0 ≤ (wrap64 (a2 - a1)) then (some (Go.bits .or .u64 (shr .u64 a0 a1) (shl .u64 a0 (wrap64 (a2 - a1))))) else (none)) else (none)
set_option maxHeartbeats 8000000 in
set_option maxRecDepth 100000 in
theorem sha2_turn_uint64.calls (a0 : Int) (a1 : Int) (a2 : Int) (r : Int) (w : World) (h : sha2_turn_uint64.f a0 a1 a2 = some r) :
    Calls Tryz.prog 107 #[.int .u64 a0, .int .i64 a1, .int .i64 a2] w fun e w' => e = .returned (.int .u64 r) ∧ Drawn0 w w' := by
  have H : (if 0 ≤ a1 then (if 0 ≤ (wrap64 (a2 - a1)) then (some (Go.bits .or .u64 (shr .u64 a0 a1) (shl .u64 a0 (wrap64 (a2 - a1))))) else (none)) else (none)) = some r := h
  clear h
  by_cases c4 : 0 ≤ a1
  · rw [if_pos c4] at H
    have c4b0 := eq_true c4
    have c4b1 : decide (0 ≤ a1) = true := decide_eq_true c4
    clear c4
    obtain ⟨ji5, hji5⟩ : ∃ j_ : Int, (shr .u64 a0 a1) = j_ := ⟨_, rfl⟩
    replace H : (if 0 ≤ (wrap64 (a2 - a1)) then (some (Go.bits .or .u64 (ji5) (shl .u64 a0 (wrap64 (a2 - a1))))) else (none)) = some r := by first | (rw [hji5] at H; exact H) | (simp only [hji5] at H ⊢; exact H)
    have hji5_ : (a0 / 2 ^ min a1.toNat 64) = ji5 := hji5
    have hji5z : a1 ≤ 64 → (a0 / 2 ^ a1.toNat) = ji5 := shr_small hji5
    obtain ⟨ji6, hji6⟩ : ∃ j_ : Int, (wrap64 (a2 - a1)) = j_ := ⟨_, rfl⟩
    replace H : (if 0 ≤ (ji6) then (some (Go.bits .or .u64 (ji5) (shl .u64 a0 (ji6)))) else (none)) = some r := by first | (rw [hji6] at H; exact H) | (simp only [hji6] at H ⊢; exact H)
    have hji6w : (IntKind.i64.wrap (a2 - a1)) = ji6 := (i64_w _).trans hji6
    by_cases c7 : 0 ≤ (ji6)
    · rw [if_pos c7] at H
      have c7b0 := eq_true c7
      have c7b1 : decide (0 ≤ (ji6)) = true := decide_eq_true c7
      clear c7
      obtain ⟨ji8, hji8⟩ : ∃ j_ : Int, (shl .u64 a0 (ji6)) = j_ := ⟨_, rfl⟩
      replace H : (some (Go.bits .or .u64 (ji5) (ji8))) = some r := by first | (rw [hji8] at H; exact H) | (simp only [hji8] at H ⊢; exact H)
      have hji8_ : (IntKind.u64.wrap (a0 * 2 ^ min (ji6).toNat 64)) = ji8 := hji8
      have hji8z : (ji6) ≤ 64 → (IntKind.u64.wrap (a0 * 2 ^ (ji6).toNat)) = ji8 := shl_small hji8
      obtain rfl := Option.some.inj H
      go_enter Tryz.func107, Tryz.ntmps107
      go_wp2
      repeat (go_quiet (fail); try go_wp2)
      go_ret
      exact ⟨by first | rfl | (simp; done) | (simp only [← hji5, ← hji6, ← hji8] <;> (first | rfl | simp)) | (simp [*]; done), by repeat (first | exact Drawn0.refl _ | apply Drawn0.step)⟩
    · rw [if_neg c7] at H
      exact absurd H (by simp)
  · rw [if_neg c4] at H
    exact absurd H (by simp)

-- NOT PRINTED: function 106 (sha2_small_uint64)

-- NOT PRINTED: function 101 (sha2_words_uint64)

-- NOT PRINTED: function 102 (sha2_big_uint64)

-- NOT PRINTED: function 96 (sha2_mix_uint64)

-- NOT PRINTED: function 79 (sha2_Hash_take)

-- NOT PRINTED: function 74 (sha2_Hash_Write)

-- NOT PRINTED: function 80 (sha2_Hash_Copy)

-- NOT PRINTED: function 81 (sha2_Pad)

-- NOT PRINTED: function 82 (sha2_tell_uint32)

-- NOT PRINTED: function 83 (sha2_tell_uint64)

-- NOT PRINTED: function 75 (sha2_Hash_Sum)

-- NOT PRINTED: function 61 (store_digest)

-- NOT PRINTED: function 44 (store_headOf)

/-! ### store_number: function 69 -/
def store_number.l0 : Nat → Int → List Int → Int → Int → Option (Int)
  | 0, _, _, _, _ => none
  | k + 1, x3, x6, x7, x8 => if x8 < x7 then (if 0 ≤ x8 then (if x8 < (x6.length : Int) then (store_number.l0 k (Go.bits .or .u64 (IntKind.u64.wrap (x3 * 256)) (IntKind.u64.wrap (rd x6 x8))) x6 x7 (wrap64 (x8 + 1))) else (none)) else (none)) else (some x3)
def store_number.f (k : Nat) (l0 : List Int) : Option (Int) := store_number.l0 k 0 l0 (l0.length : Int) 0
set_option maxHeartbeats 8000000 in
set_option maxRecDepth 100000 in
theorem store_number.calls (k : Nat) (A0 : Option Addr) (c0 : Nat) (l0 : List Int) (r : Int) (w : World) (hr0 : Kd.C (Kd.int .u8) w A0 l0.length l0) (hc0 : l0.length ≤ c0) (h : store_number.f k l0 = some r) :
    Calls Tryz.prog 69 #[.slice A0 l0.length c0] w fun e w' => e = .returned (.int .u64 r) ∧ Drawn0 w w' := by
  have HR0 := Aside0.mk hr0
  have HC0 := Aside0.mk hc0
  clear hr0 hc0
  have H : (store_number.l0 k 0 l0 (l0.length : Int) 0) = some r := h
  clear h
  have H' := Aside0.mk H
  clear H
  go_enter Tryz.func69, Tryz.ntmps69
  go_wp2
  go_loopg [3, 8] k (fun kq v3 v8 w' => ∃ (x3_1 : Int) (x8_1 : Int), v3 = .int .u64 x3_1 ∧ v8 = .int .i64 x8_1 ∧ Aside0 (store_number.l0 kq x3_1 l0 (l0.length : Int) x8_1 = some r) ∧ Aside0 (kq ≤ k) ∧ Drawn0 w w')
  case atStart => exact ⟨(0), (0), (by first | rfl | (simp; done) | (simp [*]; done)), (by first | rfl | (simp; done) | (simp [*]; done)), H', ⟨Nat.le_refl _⟩, by repeat (first | exact Drawn0.refl _ | apply Drawn0.step)⟩
  case round =>
    clear H'
    obtain ⟨x3_1, x8_1, rfl, rfl, HA, HK1, ⟨m1, rfl⟩⟩ := hrel
    cases gk with
    | zero => exact absurd HA.out (by simp [store_number.l0])
    | succ k1 =>
      have H := HA.out
      clear HA
      simp only [store_number.l0] at H
      by_cases c2 : x8_1 < (l0.length : Int)
      · rw [if_pos c2] at H
        have c2b0 : decide (x8_1 < (l0.length : Int)) = true := decide_eq_true c2
        clear c2
        by_cases c3 : 0 ≤ x8_1
        · rw [if_pos c3] at H
          have c3b0 : decide (0 ≤ x8_1) = true := decide_eq_true c3
          clear c3
          by_cases c4 : x8_1 < (l0.length : Int)
          · rw [if_pos c4] at H
            have c4b0 : decide (x8_1 < (l0.length : Int)) = true := decide_eq_true c4
            clear c4
            have H' := Aside0.mk H
            clear H
            have p104 : 0 ≤ (x8_1 : Int) := of_decide_eq_true (by first | (with_reducible assumption) | assumption)
            have q104 : x8_1 < (l0.length : Int) := of_decide_eq_true (by first | (with_reducible assumption) | assumption)
            obtain ⟨ad104, e104, hx104_0⟩ := Kd.at_int HR0.out x8_1 p104 q104
            cases e104
            replace p104 := eq_true p104
            replace q104 := eq_true q104
            go_wp2
            go_roundg k1
            case measure => have := HK1.out; omega
            case rel => exact ⟨(Go.bits .or .u64 (IntKind.u64.wrap (x3_1 * 256)) (IntKind.u64.wrap (rd l0 x8_1))), (wrap64 (x8_1 + 1)), (by first | rfl | (simp; done) | (simp [*]; done)), (by first | rfl | (simp; done) | (simp [*]; done)), H', ⟨by have := HK1.out; omega⟩, by repeat (first | exact Drawn0.refl _ | apply Drawn0.step)⟩
          · rw [if_neg c4] at H
            exact absurd H (by simp)
        · rw [if_neg c3] at H
          exact absurd H (by simp)
      · rw [if_neg c2] at H
        have c2b0 : decide (x8_1 < (l0.length : Int)) = false := decide_eq_false c2
        clear c2
        obtain rfl := Option.some.inj H
        go_wp2
        go_ret
        exact ⟨by first | rfl | (simp; done) | (simp [*]; done), by repeat (first | exact Drawn0.refl _ | apply Drawn0.step)⟩

-- NOT PRINTED: function 56 (disk_Disk_ready)

-- NOT PRINTED: function 52 (disk_Disk_at)

-- NOT PRINTED: function 68 (disk_Disk_Read)

/-! ### disk_need: function 72 -/
def disk_need.f (a0 : Int) : Option (Int) := if (Int.tmod a0 64) > 0 then (some (wrap64 ((wrap64 (Int.tdiv a0 64)) + 1))) else (some (wrap64 (Int.tdiv a0 64)))
set_option maxHeartbeats 8000000 in
set_option maxRecDepth 100000 in
theorem disk_need.calls (a0 : Int) (r : Int) (w : World) (h : disk_need.f a0 = some r) :
    Calls Tryz.prog 72 #[.int .i64 a0] w fun e w' => e = .returned (.int .i64 r) ∧ Drawn0 w w' := by
  have H : (if (Int.tmod a0 64) > 0 then (some (wrap64 ((wrap64 (Int.tdiv a0 64)) + 1))) else (some (wrap64 (Int.tdiv a0 64)))) = some r := h
  clear h
  by_cases c2 : (Int.tmod a0 64) > 0
  · rw [if_pos c2] at H
    have c2b0 : decide (0 < (Int.tmod a0 64)) = true := decide_eq_true c2
    clear c2
    obtain rfl := Option.some.inj H
    go_enter Tryz.func72, Tryz.ntmps72
    go_wp2
    go_ret
    exact ⟨by first | rfl | (simp; done) | (simp [*]; done), by repeat (first | exact Drawn0.refl _ | apply Drawn0.step)⟩
  · rw [if_neg c2] at H
    have c2b0 : decide (0 < (Int.tmod a0 64)) = false := decide_eq_false c2
    clear c2
    obtain rfl := Option.some.inj H
    go_enter Tryz.func72, Tryz.ntmps72
    go_wp2
    go_ret
    exact ⟨by first | rfl | (simp; done) | (simp [*]; done), by repeat (first | exact Drawn0.refl _ | apply Drawn0.step)⟩

-- NOT PRINTED: function 71 (disk_span)

-- NOT PRINTED: function 70 (disk_Load)

-- NOT PRINTED: function 58 (store_Store_area)

-- NOT PRINTED: function 40 (store_Store_newest)

-- NOT PRINTED: function 17 (store_Store_Get)

-- NOT PRINTED: function 18 (store_Store_Newest)

-- NOT PRINTED: function 20 (disk_New)

-- NOT PRINTED: function 41 (disk_Disk_Size)

-- NOT PRINTED: function 21 (store_Open)

-- NOT PRINTED: function 49 (disk_Disk_Up)

-- NOT PRINTED: function 50 (disk_Disk_puts)

-- NOT PRINTED: function 31 (disk_Disk_Lose)

-- NOT PRINTED: function 53 (disk_Disk_goes)

-- NOT PRINTED: function 35 (disk_Disk_Write)

-- NOT PRINTED: function 59 (disk_Save)

-- NOT PRINTED: function 43 (store_Store_step)

-- NOT PRINTED: function 22 (store_Store_Put)

-- NOT PRINTED: function 7 (imprimaturlaw08_known)

/-! ### imprimaturref07_full: function 45 -/
def imprimaturref07_full.l0 : Nat → List Int → Option (List Int)
  | 0, _ => none
  | k + 1, x3 => if (x3.length : Int) < 64 then (if x3.length < 140737488355328 then (imprimaturref07_full.l0 k (x3 ++ [0])) else (none)) else (if 64 ≤ (x3.length : Int) then (some (x3.take (64 : Int).toNat)) else (none))
def imprimaturref07_full.f (k : Nat) (l0 : List Int) : Option (List Int) := if ([] : List Int).length + l0.length < 140737488355328 then (imprimaturref07_full.l0 k (([] : List Int) ++ l0)) else (none)
set_option maxHeartbeats 8000000 in
set_option maxRecDepth 100000 in
theorem imprimaturref07_full.calls (k : Nat) (A0 : Option Addr) (c0 : Nat) (l0 : List Int) (r : List Int) (w : World) (hr0 : Kd.C (Kd.int .u8) w A0 l0.length l0) (hc0 : l0.length ≤ c0) (h : imprimaturref07_full.f k l0 = some r) :
    Calls Tryz.prog 45 #[.slice A0 l0.length c0] w fun e w' => ∃ v0_ : Value, e = .returned (v0_) ∧ Kd.R (Kd.int .u8) 5 w' w.heap.size (fun _ => True) v0_ r ∧ Below w.heap.size w w' := by
  have HR0 := Aside0.mk hr0
  have HC0 := Aside0.mk hc0
  clear hr0 hc0
  have HB := Aside0.mk (Below.refl w.heap.size w)
  have H : (if ([] : List Int).length + l0.length < 140737488355328 then (imprimaturref07_full.l0 k (([] : List Int) ++ l0)) else (none)) = some r := h
  clear h
  by_cases c2 : ([] : List Int).length + l0.length < 140737488355328
  · rw [if_pos c2] at H
    have LMc2 := Aside0.mk c2
    clear c2
    obtain ⟨y105, hy105⟩ : ∃ y_ : List Int, y_ = (([] : List Int) ++ l0) := ⟨_, rfl⟩
    replace H : (imprimaturref07_full.l0 k y105) = some r := by first | (rw [hy105]; with_reducible exact H) | (have H2_ := (Option.bind_some _ _).symm.trans H; rw [hy105]; with_reducible exact H2_) | (have H2_ := (Option.bind_some _ _).symm.trans H; with_reducible exact H2_) | with_reducible exact H | (rw [hy105]; exact H) | exact H
    have Ny105 := Aside0.mk hy105
    clear hy105
    have H' := Aside0.mk H
    clear H
    go_enter Tryz.func45, Tryz.ntmps45
    go_wp2_with (first | ((with_reducible refine gate_builtin (b := .append) (xs := #[.tmp 4, .tmp 5]) rfl ?_); at_builtin; refine Kd.R_append_rows (Kd.int .u8) (w0 := w) w.heap.size rfl (.tmp 4) (.tmp 5) 22 5 (.int .u8 0) 1 rfl Tryz.underlying22 info5 rfl (by decide) (by omega) (.slice none 0 0) ([] : List Int) l0 _ _ _ (fun _ => True) (fun _ => False) rfl rfl ?aO ?aR (fun _ _ h => h) (fun _ h => h.elim) ?aF ?aB ?aS ?aL ?_; (case aR => repeat (first | exact HR0.out | (with_reducible refine Kd.C_alloc ?_ _) | (with_reducible refine Kd.C_drewN ?_ _) | (with_reducible refine Kd.C_drew ?_))); (case aB => exact (by repeat (first | (with_reducible first | exact HB.out | apply below_alloc | apply pw_below_drewN | apply below_drew1) | exact HB.out))); (case aF => exact (fun _ _ => trivial)); (case aO => exact ((Kd.R_nil _ _ _ _ (fun _ => True)))); (case aS => exact (below_size (by repeat (first | (with_reducible first | exact HB.out | apply below_alloc | apply pw_below_drewN | apply below_drew1) | exact HB.out)))); (case aL => have := LMc2.out; omega); intro v106 w3 ho hb hg hat; rw [← Ny105.out] at ho; have n0_ := Aside0.mk (hb); have n1_ := Aside0.mk (ho); clear HB; have HB := n0_; have HO107 := n1_; clear n0_ n1_; clear ho hb hg hat))
    go_loopg [3] k (fun kq v3 w' => ∃ (x3_1 : List Int), Aside0 (imprimaturref07_full.l0 kq x3_1 = some r) ∧ Aside0 (kq ≤ k) ∧ Aside0 (Kd.R (Kd.int .u8) 5 w' w.heap.size (fun _ => True) v3 x3_1) ∧ Aside0 (Below w.heap.size w w'))
    case atStart => exact ⟨(y105), H', ⟨Nat.le_refl _⟩, ⟨by (with_reducible repeat (first | apply Kd.R_alloc | apply Kd.R_drewN | apply Kd.R_drew)); exact HO107.out⟩, ⟨by repeat (first | (with_reducible first | exact HB.out | apply below_alloc | apply pw_below_drewN | apply below_drew1) | exact HB.out)⟩⟩
    case round =>
      clear H'
      try clear c2
      try clear p2
      obtain ⟨x3_1, HA, HK1, HO_3, HB⟩ := hrel
      cases gk with
      | zero => exact absurd HA.out (by simp [imprimaturref07_full.l0])
      | succ k1 =>
        have H := HA.out
        clear HA
        simp only [imprimaturref07_full.l0] at H
        by_cases c4 : (x3_1.length : Int) < 64
        · rw [if_pos c4] at H
          have c4b0 : decide ((x3_1.length : Int) < 64) = true := decide_eq_true c4
          have c4b1 : decide (x3_1.length < 64) = true := decide_eq_true (by omega)
          clear c4
          by_cases c5 : x3_1.length < 140737488355328
          · rw [if_pos c5] at H
            have LMc5 := Aside0.mk c5
            clear c5
            obtain ⟨y108, hy108⟩ : ∃ y_ : List Int, y_ = (x3_1 ++ [0]) := ⟨_, rfl⟩
            replace H : (imprimaturref07_full.l0 k1 y108) = some r := by first | (rw [hy108]; with_reducible exact H) | (have H2_ := (Option.bind_some _ _).symm.trans H; rw [hy108]; with_reducible exact H2_) | (have H2_ := (Option.bind_some _ _).symm.trans H; with_reducible exact H2_) | with_reducible exact H | (rw [hy108]; exact H) | exact H
            have Ny108 := Aside0.mk hy108
            clear hy108
            have H' := Aside0.mk H
            clear H
            obtain ⟨Ao6, co6, eo6⟩ := Kd.R_slice HO_3.out
            subst eo6
            go_wp2_with (first | ((with_reducible refine gate_builtin (b := .append) (xs := #[.tmp 10, .tmp 11]) rfl ?_); at_builtin; refine Kd.R_append (Kd.int .u8) (w0 := w) w.heap.size rfl (.tmp 10) (.tmp 11) 22 5 (.int .u8 0) 1 rfl Tryz.underlying22 info5 rfl (by decide) (by omega) (.slice Ao6 x3_1.length co6) x3_1 0 [.int .u8 0] (fun _ => True) (fun _ => False) rfl rfl ?aP (fun _ hk => hk.elim) ?aF ?aO ?aB ?aS ?aL ?_; (case aP => exact rfl); (case aB => exact (by repeat (first | (with_reducible first | exact HB.out | apply below_alloc | apply pw_below_drewN | apply below_drew1) | exact HB.out))); (case aF => exact (fun _ _ => trivial)); (case aO => exact (by (with_reducible repeat (first | apply Kd.R_alloc | apply Kd.R_drewN | apply Kd.R_drew)); exact HO_3.out)); (case aS => exact (below_size (by repeat (first | (with_reducible first | exact HB.out | apply below_alloc | apply pw_below_drewN | apply below_drew1) | exact HB.out)))); (case aL => have := LMc5.out; omega); intro v109 w7 ho hb hg hat; rw [← Ny108.out] at ho; have n0_ := Aside0.mk (hb); have n1_ := Aside0.mk (ho); clear HB; clear HO_3; have HB := n0_; have HO110 := n1_; clear n0_ n1_; clear ho hb hg hat))
            go_roundg k1
            case measure => have := HK1.out; omega
            case rel => exact ⟨(y108), H', ⟨by have := HK1.out; omega⟩, ⟨by (with_reducible repeat (first | apply Kd.R_alloc | apply Kd.R_drewN | apply Kd.R_drew)); exact HO110.out⟩, ⟨by repeat (first | (with_reducible first | exact HB.out | apply below_alloc | apply pw_below_drewN | apply below_drew1) | exact HB.out)⟩⟩
          · rw [if_neg c5] at H
            exact absurd H (by simp)
        · rw [if_neg c4] at H
          have c4b0 : decide ((x3_1.length : Int) < 64) = false := decide_eq_false c4
          have c4b1 : decide (x3_1.length < 64) = false := decide_eq_false (by omega)
          clear c4
          by_cases c8 : 64 ≤ (x3_1.length : Int)
          · rw [if_pos c8] at H
            have c8b0 := eq_true c8
            have c8b1 : decide (64 ≤ (x3_1.length : Int)) = true := decide_eq_true c8
            clear c8
            obtain ⟨y111, hy111⟩ : ∃ y_ : List Int, y_ = (x3_1.take (64 : Int).toNat) := ⟨_, rfl⟩
            replace H : (some y111) = some r := by first | (rw [hy111]; with_reducible exact H) | (have H2_ := (Option.bind_some _ _).symm.trans H; rw [hy111]; with_reducible exact H2_) | (have H2_ := (Option.bind_some _ _).symm.trans H; with_reducible exact H2_) | with_reducible exact H | (rw [hy111]; exact H) | exact H
            have Ny111 := Aside0.mk hy111
            clear hy111
            obtain rfl := Option.some.inj H
            obtain ⟨Ao9, co9, eo9⟩ := Kd.R_slice HO_3.out
            subst eo9
            have q10 : (64 : Int) ≤ ((x3_1.length : Int) : Int) := of_decide_eq_true (by first | (with_reducible assumption) | assumption)
            obtain ⟨i010, hi010, _, hsz10, _⟩ := info_parts info5
            have hcut10 := cut_to (P := Tryz.prog) 22 5 .i64 Tryz.underlying22 hi010 Ao9 x3_1.length co9 64 (by omega) q10 (Kd.R_reads' HO_3.out).2.1
            have hr10 := Kd.R_take (m := (64 : Int).toNat) HO_3.out (by omega)
            have hy10 : y111.length = (64 : Int).toNat := (by rw [Ny111.out, List.length_take]; omega)
            rw [← Ny111.out] at hr10
            rw [← hy10] at hr10 hcut10
            clear hy10 hi010 hsz10 HO_3
            have HO113 := Aside0.mk hr10
            clear hr10
            replace q10 := eq_true q10
            go_wp2
            go_ret
            exact ⟨_, by first | rfl | (simp [errW_none, errW_some] <;> rfl) | (simp [*, errW_none, errW_some] <;> rfl), by (with_reducible repeat (first | apply Kd.R_alloc | apply Kd.R_drewN | apply Kd.R_drew)); exact HO113.out, by repeat (first | (with_reducible first | exact HB.out | apply below_alloc | apply pw_below_drewN | apply below_drew1) | exact HB.out)⟩
          · rw [if_neg c8] at H
            exact absurd H (by simp)
  · rw [if_neg c2] at H
    exact absurd H (by simp)

-- NOT PRINTED: function 23 (imprimaturref07_New)

-- NOT PRINTED: function 24 (imprimaturref08_Open)

-- NOT PRINTED: function 8 (imprimaturlaw08_both)

-- NOT PRINTED: function 10 (imprimaturref08_Store_Room)

-- NOT PRINTED: function 14 (disk_Disk_Bytes)

-- NOT PRINTED: function 15 (disk_Disk_Strokes)

/-! ### imprimaturref01_SameBytes: function 19 -/
def imprimaturref01_SameBytes.f (l0 : List Int) (l1 : List Int) : Option (Bool) := some ((strOfNums l0).toList == (strOfNums l1).toList)
set_option maxHeartbeats 8000000 in
set_option maxRecDepth 100000 in
theorem imprimaturref01_SameBytes.calls (A0 : Option Addr) (c0 : Nat) (l0 : List Int) (A1 : Option Addr) (c1 : Nat) (l1 : List Int) (r : Bool) (w : World) (hr0 : Kd.C (Kd.int .u8) w A0 l0.length l0) (hc0 : l0.length ≤ c0) (hr1 : Kd.C (Kd.int .u8) w A1 l1.length l1) (hc1 : l1.length ≤ c1) (h : imprimaturref01_SameBytes.f l0 l1 = some r) :
    Calls Tryz.prog 19 #[.slice A0 l0.length c0, .slice A1 l1.length c1] w fun e w' => e = .returned (.bool r) ∧ Drawn0 w w' := by
  have HR0 := Aside0.mk hr0
  have HC0 := Aside0.mk hc0
  clear hr0 hc0
  have HR1 := Aside0.mk hr1
  have HC1 := Aside0.mk hc1
  clear hr1 hc1
  have H : (some ((strOfNums l0).toList == (strOfNums l1).toList)) = some r := h
  clear h
  obtain rfl := Option.some.inj H
  have hcv3 := Kd.C_string (P := Tryz.prog) (A := A0) (c := c0) Tryz.underlying22 Tryz.underlying5 Tryz.underlying9 HR0.out
  have hcv3d := fun m_ => Kd.C_string (P := Tryz.prog) (A := A0) (c := c0) Tryz.underlying22 Tryz.underlying5 Tryz.underlying9 (Kd.C_drewN HR0.out m_)
  have hcv3e := fun m_ n_ => Kd.C_string (P := Tryz.prog) (A := A0) (c := c0) Tryz.underlying22 Tryz.underlying5 Tryz.underlying9 (Kd.C_drewN (Kd.C_drewN HR0.out m_) n_)
  have hcv4 := Kd.C_string (P := Tryz.prog) (A := A1) (c := c1) Tryz.underlying22 Tryz.underlying5 Tryz.underlying9 HR1.out
  have hcv4d := fun m_ => Kd.C_string (P := Tryz.prog) (A := A1) (c := c1) Tryz.underlying22 Tryz.underlying5 Tryz.underlying9 (Kd.C_drewN HR1.out m_)
  have hcv4e := fun m_ n_ => Kd.C_string (P := Tryz.prog) (A := A1) (c := c1) Tryz.underlying22 Tryz.underlying5 Tryz.underlying9 (Kd.C_drewN (Kd.C_drewN HR1.out m_) n_)
  go_enter Tryz.func19, Tryz.ntmps19
  go_wp2
  go_ret
  exact ⟨by first | rfl | (simp; done) | (simp [*]; done), by repeat (first | exact Drawn0.refl _ | apply Drawn0.step)⟩

/-! ### imprimaturref08_big: function 65 -/
def imprimaturref08_big.l0 : Nat → Int → Int → List Int → Int → Option (List Int)
  | 0, _, _, _, _ => none
  | k + 1, x0, x1, x5, x6 => if x6 < x1 then ((some (([(Int.tmod x0 256) % 256] : List Int) : List Int)).bind fun y114 => (if y114.length + x5.length < 140737488355328 then (imprimaturref08_big.l0 k (IntKind.u64.wrap (Int.tdiv x0 256)) x1 (y114 ++ x5) (wrap64 (x6 + 1))) else (none))) else (some x5)
def imprimaturref08_big.f (k : Nat) (a0 : Int) (a1 : Int) : Option (List Int) := imprimaturref08_big.l0 k a0 a1 ([] : List Int) 0
set_option maxHeartbeats 8000000 in
set_option maxRecDepth 100000 in
theorem imprimaturref08_big.calls (k : Nat) (a0 : Int) (a1 : Int) (r : List Int) (w : World) (h : imprimaturref08_big.f k a0 a1 = some r) :
    Calls Tryz.prog 65 #[.int .u64 a0, .int .i64 a1] w fun e w' => ∃ v0_ : Value, e = .returned (v0_) ∧ Kd.R (Kd.int .u8) 5 w' w.heap.size (fun _ => True) v0_ r ∧ Below w.heap.size w w' := by
  have HB := Aside0.mk (Below.refl w.heap.size w)
  have H : (imprimaturref08_big.l0 k a0 a1 ([] : List Int) 0) = some r := h
  clear h
  have H' := Aside0.mk H
  clear H
  go_enter Tryz.func65, Tryz.ntmps65
  go_wp2
  go_loopg [0, 5, 6] k (fun kq v0 v5 v6 w' => ∃ (x0_1 : Int) (x5_1 : List Int) (x6_1 : Int), v0 = .int .u64 x0_1 ∧ v6 = .int .i64 x6_1 ∧ Aside0 (imprimaturref08_big.l0 kq x0_1 a1 x5_1 x6_1 = some r) ∧ Aside0 (kq ≤ k) ∧ Aside0 (Kd.R (Kd.int .u8) 5 w' w.heap.size (fun _ => True) v5 x5_1) ∧ Aside0 (Below w.heap.size w w'))
  case atStart => exact ⟨(a0), (([] : List Int)), (0), (by first | rfl | (simp; done) | (simp [*]; done)), (by first | rfl | (simp; done) | (simp [*]; done)), H', ⟨Nat.le_refl _⟩, ⟨by first | exact Kd.R_nil _ _ _ _ _ | exact Kd.N_nil _ _ _ _ _ | exact Kd.V_nil _ _ _ _ _ | exact Kd.Q_nil _ _ _ _ _ | exact Kd.S_nil _ _ _ _ _⟩, ⟨by repeat (first | (with_reducible first | exact HB.out | apply below_alloc | apply pw_below_drewN | apply below_drew1) | exact HB.out)⟩⟩
  case round =>
    clear H'
    try clear p2
    obtain ⟨x0_1, x5_1, x6_1, rfl, rfl, HA, HK1, HO_5, HB⟩ := hrel
    cases gk with
    | zero => exact absurd HA.out (by simp [imprimaturref08_big.l0])
    | succ k1 =>
      have H := HA.out
      clear HA
      simp only [imprimaturref08_big.l0] at H
      by_cases c3 : x6_1 < a1
      · rw [if_pos c3] at H
        have c3b0 : decide (x6_1 < a1) = true := decide_eq_true c3
        clear c3
        obtain ⟨y114, hy114⟩ : ∃ y_ : List Int, y_ = (([(Int.tmod x0_1 256) % 256] : List Int)) := ⟨_, rfl⟩
        replace H : (if y114.length + x5_1.length < 140737488355328 then (imprimaturref08_big.l0 k1 (IntKind.u64.wrap (Int.tdiv x0_1 256)) a1 (y114 ++ x5_1) (wrap64 (x6_1 + 1))) else (none)) = some r := by first | (rw [hy114]; with_reducible exact H) | (have H2_ := (Option.bind_some _ _).symm.trans H; rw [hy114]; with_reducible exact H2_) | (have H2_ := (Option.bind_some _ _).symm.trans H; with_reducible exact H2_) | with_reducible exact H | (rw [hy114]; exact H) | exact H
        have Ny114 := Aside0.mk hy114
        clear hy114
        by_cases c4 : y114.length + x5_1.length < 140737488355328
        · rw [if_pos c4] at H
          have LMc4 := Aside0.mk c4
          clear c4
          obtain ⟨y117, hy117⟩ : ∃ y_ : List Int, y_ = (y114 ++ x5_1) := ⟨_, rfl⟩
          replace H : (imprimaturref08_big.l0 k1 (IntKind.u64.wrap (Int.tdiv x0_1 256)) a1 y117 (wrap64 (x6_1 + 1))) = some r := by first | (rw [hy117]; with_reducible exact H) | (have H2_ := (Option.bind_some _ _).symm.trans H; rw [hy117]; with_reducible exact H2_) | (have H2_ := (Option.bind_some _ _).symm.trans H; with_reducible exact H2_) | with_reducible exact H | (rw [hy117]; exact H) | exact H
          have Ny117 := Aside0.mk hy117
          clear hy117
          have H' := Aside0.mk H
          clear H
          go_wp2_with (first | ((with_reducible refine gate_dst (N := 15) rfl ?_); refine Kd.R_lit (Kd.int .u8) _ 5 ?hg (N := 15) ?hd (xs := ([(Int.tmod x0_1 256) % 256] : List Int)) (inner := [.int .u8 ((Int.tmod x0_1 256) % 256)]) (ok := fun _ => True) (okp := fun _ => True) ?hr ?hp (fun _ hk => hk) trivial (Below.refl _ _) (Nat.le_refl _) (by simp) ?_; (case hd => rfl); (case hg => rfl); (case hr => first | (go_simp; done) | (go_simp; rfl)); (case hp => exact (Reps.one (show Kd.M (Kd.int .u8) _ _ _ ((Int.tmod x0_1 256) % 256) [.int .u8 ((Int.tmod x0_1 256) % 256)] from rfl) (Reps.none _ _))); intro v115 w5 ho6 hb hg_ hnew_; clear hg_ hnew_; (first | rw [← Ny114.out] at ho6 | (simp only [Int.reduceToNat] at ho6; rw [← Ny114.out] at ho6)); have n0_ := Aside0.mk (Kd.R_elder' (by (with_reducible repeat (first | apply Kd.R_alloc | apply Kd.R_drewN | apply Kd.R_drew)); exact HO_5.out) (Kd.R_base ho6) hb); have n1_ := Aside0.mk (Kd.R_lower (Kd.R_new' ho6 (Kd.R_lt (by (with_reducible repeat (first | apply Kd.R_alloc | apply Kd.R_drewN | apply Kd.R_drew)); exact HO_5.out))) (below_size (by repeat (first | (with_reducible first | exact HB.out | apply below_alloc | apply pw_below_drewN | apply below_drew1) | exact HB.out)))); have n2_ := Aside0.mk (below_step (by repeat (first | (with_reducible first | exact HB.out | apply below_alloc | apply pw_below_drewN | apply below_drew1) | exact HB.out)) hb); clear HO_5; clear HB; have HO_5 := n0_; have HO116 := n1_; have HB := n2_; clear n0_ n1_ n2_; clear hb ho6; obtain ⟨Ao8, co8, eo8⟩ := Kd.R_slice HO_5.out; subst eo8) | ((with_reducible refine gate_builtin (b := .append) (xs := #[.tmp 15, .tmp 16]) rfl ?_); at_builtin; refine Kd.R_append_rows (Kd.int .u8) (w0 := w) w.heap.size rfl (.tmp 15) (.tmp 16) 22 5 (.int .u8 0) 1 rfl Tryz.underlying22 info5 rfl (by decide) (by omega) v115 y114 x5_1 _ _ _ (fun k_ => some k_ ≠ (.slice Ao8 x5_1.length co8 : Value).ownBlock) (fun _ => False) rfl rfl ?aO ?aR (fun _ _ h => h) (fun _ h => h.elim) ?aF ?aB ?aS ?aL ?_; (case aR => repeat (first | exact (Kd.R_reads' HO_5.out).2.2 | (with_reducible refine Kd.C_alloc ?_ _) | (with_reducible refine Kd.C_drewN ?_ _) | (with_reducible refine Kd.C_drew ?_))); (case aB => exact (by repeat (first | (with_reducible first | exact HB.out | apply below_alloc | apply pw_below_drewN | apply below_drew1) | exact HB.out))); (case aF => exact (fun k_ hk => Kd.fresh' (Kd.R_lt (by (with_reducible repeat (first | apply Kd.R_alloc | apply Kd.R_drewN | apply Kd.R_drew)); exact HO_5.out)) k_ hk)); (case aO => exact (by (with_reducible repeat (first | apply Kd.R_alloc | apply Kd.R_drewN | apply Kd.R_drew)); exact Kd.R_mono HO116.out (fun _ hk => hk.2))); (case aS => exact (below_size (by repeat (first | (with_reducible first | exact HB.out | apply below_alloc | apply pw_below_drewN | apply below_drew1) | exact HB.out)))); (case aL => have := LMc4.out; omega); intro v118 w7 ho hb hg hat; rw [← Ny117.out] at ho; have n0_ := Aside0.mk (Kd.R_after (ok := (fun _ => True)) (by (with_reducible repeat (first | apply Kd.R_alloc | apply Kd.R_drewN | apply Kd.R_drew)); exact HO_5.out) hg hat); have n1_ := Aside0.mk (hb); have n2_ := Aside0.mk (ho); clear HO_5; clear HB; clear HO116; have HO_5 := n0_; have HB := n1_; have HO119 := n2_; clear n0_ n1_ n2_; clear ho hb hg hat))
          go_roundg k1
          case measure => have := HK1.out; omega
          case rel => exact ⟨(IntKind.u64.wrap (Int.tdiv x0_1 256)), (y117), (wrap64 (x6_1 + 1)), (by first | rfl | (simp; done) | (simp [*]; done)), (by first | rfl | (simp; done) | (simp [*]; done)), H', ⟨by have := HK1.out; omega⟩, ⟨by (with_reducible repeat (first | apply Kd.R_alloc | apply Kd.R_drewN | apply Kd.R_drew)); exact Kd.R_mono HO119.out (fun _ hk => trivial)⟩, ⟨by repeat (first | (with_reducible first | exact HB.out | apply below_alloc | apply pw_below_drewN | apply below_drew1) | exact HB.out)⟩⟩
        · rw [if_neg c4] at H
          exact absurd H (by simp)
      · rw [if_neg c3] at H
        have c3b0 : decide (x6_1 < a1) = false := decide_eq_false c3
        clear c3
        obtain rfl := Option.some.inj H
        go_wp2
        go_ret
        exact ⟨_, by first | rfl | (simp [errW_none, errW_some] <;> rfl) | (simp [*, errW_none, errW_some] <;> rfl), by (with_reducible repeat (first | apply Kd.R_alloc | apply Kd.R_drewN | apply Kd.R_drew)); exact HO_5.out, by repeat (first | (with_reducible first | exact HB.out | apply below_alloc | apply pw_below_drewN | apply below_drew1) | exact HB.out)⟩

end Go.Proofs.YtmblnflfklmmkaaGreatDoor.P
/- Contracts of the reference's Sum and Hash256. -/
namespace Go.Proofs.YtmblnflfklmmkaaGreatDoor.Sh
open Go.Proofs.YtmblnflfklmmkaaGreatDoor.Dk Go.Proofs.YtmblnflfklmmkaaGreatDoor.P
open Go.RowKit Go.Proofs.YtmblnflfklmmkaaGreatDoorW.PrintWords Go.Proofs.YtmblnflfklmmkaaGreatDoorW.PrintLast Go.Proofs.YtmblnflfklmmkaaGreatDoorW.PrintMore
set_option linter.unusedVariables false
set_option linter.unusedSimpArgs false
set_option maxRecDepth 30000
variable {w w0 w1 w2 wr : World} {g q : Nat} {v : Value} {xs ys b : List Int}
/-- What the loops leave as it was: the words' block, the text, the constants. -/
structure Sm (w w' : World) (g6 : Nat) (va : Value) (all : List Int) (gk ck : Nat) : Prop where
  h6 : w'.heap[g6]? = some (.cells #[.int .u64 4294967296, .int .u64 32] 125 (0, 0))
  a : Row8 w' w.heap.size va all
  k : RdQ w' w.heap.size gk ck constsL
  b : Below w.heap.size w w'
theorem Sm.below {g6 gk ck : Nat} {va : Value} {all : List Int} (h : Sm w w1 g6 va all gk ck) (hb : Below w1.heap.size w1 w2) : Sm w w2 g6 va all gk ck := ⟨(hb.block g6 (blk_lt h.h6)).trans h.h6, h.a.below hb, h.k.below hb, below_trans h.b hb⟩
theorem Sm.c0 {g6 gk ck : Nat} {va : Value} {all : List Int} (h : Sm w w1 g6 va all gk ck) : w1.cell? ⟨g6, 0, none⟩ = some (.int .u64 4294967296) := by simp [World.cell?, h.h6]
theorem Sm.c1 {g6 gk ck : Nat} {va : Value} {all : List Int} (h : Sm w w1 g6 va all gk ck) : w1.cell? ⟨g6, 1, none⟩ = some (.int .u64 32) := by simp [World.cell?, h.h6]
theorem HKc {q g c : Nat} (h : RdQ w q g c constsL) (t : Nat) (ht : t < 80) : w.cell? ⟨g, t, none⟩ = some (.int .u64 (constsL.getD t 0)) := h.cell t ht
theorem m64 {m i : Nat} (h : m = 64 * i) : m = i * 64 := by omega
theorem wrapM {m i nb : Nat} (h : m = 64 * i) (hi : i < nb) (hb : nb ≤ 20000) : wrap64 ((m : Int) + 64) = ((64 * (i + 1) : Nat) : Int) := by
  rw [h]
  simp only [wrap64]
  omega
def t4 (y : Int) : List Int := [y / 16777216 % 256, y / 65536 % 256, y / 256 % 256, y % 256]
theorem buildQ (y : Int) (w : World) : (Instr.buildSlice 126 1 #[(0, .int .u64 y)]).run Tryz.prog w = .ok (.slice (some ⟨w.heap.size, 0, none⟩) 1 1) (w.alloc (.cells #[.int .u64 y] 45)) := by kernel_rfl
/-- What Sum answers. -/
def SumR (w w' : World) (x : List Int) (e : Ending) : Prop := ∃ v, e = .returned (.tuple #[v, .int .i64 0]) ∧ Row8 w' w.heap.size v x ∧ Below w.heap.size w w'

set_option maxHeartbeats 16000000 in
theorem SumR_calls (A : Option Addr) (c : Nat) (b : List Int) (hb : b.length ≤ 1048576) (hC : C8 w A b) : Calls Tryz.prog 76 #[.slice A b.length c, .int .i64 256] w fun e w' => SumR w w' (hashR b) e := by
  have HC := Aside0.mk hC
  obtain ⟨kp, hkp⟩ := pad_some b.length (by omega)
  have HP := Aside0.mk hkp
  have HH : hashR b = tellR (foldR (b ++ padM b.length) (startR startsL 8) ((b.length + padN b.length) / 64)) 8 := rfl
  obtain ⟨R, hR⟩ : ∃ R, hashR b = R := ⟨_, rfl⟩
  have HRR := Aside0.mk (HH.symm.trans hR)
  rw [hR]
  clear hC hkp hR HH
  have hu103 := Tryz.underlying125
  have hb0 := below_alloc (Below.refl w.heap.size w) (.cells #[.int .u64 4294967296, .int .u64 32] 125)
  have HB0 := Aside0.mk hb0
  go_enter Tryz.func76, Tryz.ntmps76
  go_wp2_with (first | (go_at_call 84; (with_reducible refine (imprimaturref02_Pad.calls kp b.length 256 (padM b.length) 0 _ HP.out).mono ?_); rintro e w1 ⟨v1, rfl, hr1, hb1⟩; obtain ⟨A1, c1, rfl⟩ := Kd.R_slice hr1; have HR1 := Aside0.mk (Row8.of hr1); have HB1 := Aside0.mk hb1; have HC1 := Aside0.mk (Kd.C_below (Kd.C_below HC.out HB0.out) hb1); clear hr1 hb1) | ((with_reducible refine gate_builtin (b := .append) (xs := #[.tmp 36, .tmp 37]) rfl ?_); at_builtin; refine app8 (q := w1.heap.size) Dk.info5 Tryz.underlying22 rfl (.tmp 36) (.tmp 37) rfl _ _ _ _ _ _ rfl rfl (Row8.nil w1 w1.heap.size) HC1.out ?aQ ?aL ?_; (case aQ => exact Nat.le_refl _); (case aL => simp; omega); intro A2 c2 w2 hr2 hb2 hg2; have HR2 := Aside0.mk hr2; have HB2 := Aside0.mk hb2; have HC2 := Aside0.mk (Row8.C (HR1.out.below hb2)).2.2; clear hr2 hb2 hg2) | ((with_reducible refine gate_builtin (b := .append) (xs := #[.tmp 38, .tmp 39]) rfl ?_); at_builtin; refine app8 (q := w1.heap.size) Dk.info5 Tryz.underlying22 rfl (.tmp 38) (.tmp 39) rfl _ _ _ _ _ _ rfl rfl HR2.out HC2.out ?aQ ?aL ?_; (case aQ => exact HB2.out.size); (case aL => simp [padM_length]; have := padN_le b.length; omega); intro A3 c3 w3 hr3 hb3 hg3; have HR3 := Aside0.mk hr3; have HB3 := Aside0.mk hb3; clear hr3 hb3 hg3) | (go_at_call 85; (with_reducible refine (imprimaturref02_constants.calls constsL _ rfl).mono ?_); rintro e w4 ⟨v4, rfl, hr4, hb4⟩; obtain ⟨g4, c4, rfl, hk4⟩ : ∃ g c, v4 = .slice (some ⟨g, 0, none⟩) 80 c ∧ RdQ w4 w3.heap.size g c constsL := (RowQ.of hr4).rd (by decide); have HK4 := Aside0.mk hk4; have HB4 := Aside0.mk hb4; clear hr4 hk4 hb4) | (go_at_call 86; (with_reducible refine (imprimaturref02_starts.calls startsL _ rfl).mono ?_); rintro e w5 ⟨v5, rfl, hr5, hb5⟩; obtain ⟨g5, c5, rfl, hk5⟩ : ∃ g c, v5 = .slice (some ⟨g, 0, none⟩) 8 c ∧ RdQ w5 w4.heap.size g c startsL := (RowQ.of hr5).rd (by decide); have HR5 := Aside0.mk (show RowQ w5 w4.heap.size (.slice (some ⟨g5, 0, none⟩) 8 c5) startsL from RowQ.of hr5); have HK5 := Aside0.mk hk5; have HB5 := Aside0.mk hb5; clear hr5 hk5 hb5))
  have HH6 := Aside0.mk (show w5.heap[w.heap.size]? = some (.cells #[.int .u64 4294967296, .int .u64 32] 125 (0, 0)) from by
    have h0 := heap_alloc_new w (.cells #[.int .u64 4294967296, .int .u64 32] 125)
    have h1 := (HB1.out.block _ (blk_lt h0)).trans h0
    have h2 := (HB2.out.block _ (blk_lt h1)).trans h1
    have h3 := (HB3.out.block _ (blk_lt h1)).trans h2
    have h4 := (HB4.out.block _ (blk_lt h3)).trans h3
    exact (HB5.out.block _ (blk_lt h4)).trans h4)
  have HZ1 : w.heap.size ≤ w1.heap.size := Nat.le_trans HB0.out.size HB1.out.size
  have HBW := Aside0.mk (show Below w.heap.size w w5 from by
    have h1 := below_trans HB0.out HB1.out
    have h2 : Below w.heap.size w w2 := h1.trans (HB2.out.mono HZ1)
    have h3 : Below w.heap.size w w3 := h2.trans (HB3.out.mono HZ1)
    exact below_trans (below_trans h3 HB4.out) HB5.out)
  have HA5 := Aside0.mk (((HR3.out.below HB4.out).below HB5.out).lower HZ1)
  have HK4b := Aside0.mk ((HK4.out.below HB5.out).lower (show w.heap.size ≤ w3.heap.size from Nat.le_trans HZ1 (Nat.le_trans HB2.out.size HB3.out.size)))
  have HG4 := Aside0.mk HK4.out.lt
  have HG45 := Aside0.mk HK5.out.lo
  have HL6 := Aside0.mk (show w.heap.size < w4.heap.size from by
    have h0 := blk_lt (heap_alloc_new w (.cells #[.int .u64 4294967296, .int .u64 32] 125))
    exact Nat.lt_of_lt_of_le h0 (Nat.le_trans HB1.out.size (Nat.le_trans HB2.out.size (Nat.le_trans HB3.out.size HB4.out.size))))
  have HZ3 := Aside0.mk (show w.heap.size ≤ w3.heap.size ∧ w3.heap.size ≤ w4.heap.size from ⟨Nat.le_trans HZ1 (Nat.le_trans HB2.out.size HB3.out.size), HB4.out.size⟩)
  clear HB1 HB2 HB3 HB4 HB5 HR1 HR2 HR3 HC1 HC2 HZ1
  go_loopw [12] (fun v12 w' => ∃ i : Nat, v12 = .int .i64 i ∧ i ≤ 8 ∧ Aside0 (RowQ w' w4.heap.size (.slice (some ⟨g5, 0, none⟩) 8 c5) (startR startsL i)) ∧ Aside0 (Upd w5 w' (· = g5))) (fun v12 _ => 8 - (intOf v12).toNat)
  case atStart => exact ⟨0, rfl, by decide, HR5, ⟨Upd.refl _ _⟩⟩
  case round =>
    clear HR5
    obtain ⟨i, rfl, hi, HR, HU⟩ := hrel
    have HH6r := Aside0.mk ((HU.out.block _ (blk_lt HH6.out) (by have := HG45.out; have := HL6.out; omega)).trans HH6.out)
    by_cases hlt : i < 8
    · have hc := (HR.out.rd' (by rw [startR_length]; decide)).cell i (by rw [startR_length]; exact hlt)
      have hf : wr.frozen? ⟨g5, i, none⟩ = false := by obtain ⟨cells, hcl⟩ := (HR.out.rd' (by rw [startR_length]; decide)).blk; simp [World.frozen?, hcl]
      have h60 : wr.cell? ⟨w.heap.size, 0, none⟩ = some (.int .u64 4294967296) := by simp [World.cell?, HH6r.out]
      have HN := Aside0.mk (show startR startsL (i + 1) = (startR startsL i).set i (IntKind.u64.wrap (Int.tdiv ((startR startsL i).getD i 0) 4294967296)) from rfl)
      have HS := Aside0.mk (HR.out.put i (IntKind.u64.wrap (Int.tdiv ((startR startsL i).getD i 0) 4294967296)))
      have HU2 := Aside0.mk (HU.out.trans (upd_cell wr g5 i (.int .u64 (IntKind.u64.wrap (Int.tdiv ((startR startsL i).getD i 0) 4294967296)))) (fun _ h => .inl h))
      obtain ⟨y, hy⟩ : ∃ y, (startR startsL i).getD i 0 = y := ⟨_, rfl⟩
      rw [hy] at hc HN HS HU2
      clear hy
      have t8 : decide ((i : Int) < 8) = true := decide_eq_true (by omega)
      go_wp2_with (fail)
      go_roundw
      case rel => exact ⟨i + 1, by go_num, by omega, ⟨by rw [HN.out]; exact HS.out⟩, HU2⟩
      case measure => simp [intOf]; omega
    · obtain rfl : i = 8 := by omega
      have HKr := Aside0.mk (HR.out.rd' (by rw [startR_length]; decide))
      have HSM := Aside0.mk (show Sm w wr w.heap.size (.slice A3 (b ++ padM b.length).length c3) (b ++ padM b.length) g4 c4 from by
        have hne : ∀ k, k < w4.heap.size → ¬ k = g5 := fun k hk => by have := HG45.out; omega
        refine ⟨HH6r.out, ?_, ?_, ?_⟩
        · obtain ⟨cells, hcl⟩ := HK5.out.blk
          exact HA5.out.type hcl (by decide) HU.out
        · exact HK4b.out.upd HU.out (hne _ HG4.out)
        · exact below_upd HBW.out HU.out (fun k hk => by rw [hk]; have := HG45.out; have := HL6.out; omega))
      have HNB := Aside0.mk (show b.length + (padM b.length).length = 64 * ((b.length + padN b.length) / 64) from by
        rw [padM_length]
        have hp : padN b.length = 9 + (64 - (b.length + 9) % 64) % 64 := rfl
        omega)
      have hNB := HNB.out
      have HBS := Aside0.mk (show (b.length + padN b.length) / 64 ≤ 20000 from by have := padN_le b.length; omega)
      obtain ⟨nb, hnb⟩ : ∃ nb, (b.length + padN b.length) / 64 = nb := ⟨_, rfl⟩
      rw [hnb] at HRR hNB HBS
      obtain ⟨M, hM⟩ : ∃ M : Nat, M = 64 * nb := ⟨_, rfl⟩
      have HMN := Lib.hid hM
      rw [← hM] at hNB
      have HL := Aside0.mk (show (b ++ padM b.length).length = M by rw [List.length_append]; exact hNB)
      obtain ⟨all, hall⟩ : ∃ all, b ++ padM b.length = all := ⟨_, rfl⟩
      rw [hall] at HRR HSM HL
      have HNP := Aside0.mk (show 0 < all.length from by rw [← hall, List.length_append, padM_length]; unfold padN; omega)
      have ha3 : A3 = A3 ∧ ∃ ga, A3 = some ⟨ga, 0, none⟩ := ⟨rfl, by
        obtain ⟨ga, ca, e, _⟩ := HSM.out.a.form HNP.out
        injection e with e
        exact ⟨ga, e⟩⟩
      obtain ⟨_, ga, rfl⟩ := ha3
      have hc3 : M ≤ c3 := by have h := (Row8.C HSM.out.a).2.1; rw [HL.out] at h; exact h
      rw [HL.out] at HSM
      simp only [hNB]
      obtain ⟨hs, hhs⟩ : ∃ hs, startR startsL 8 = hs := ⟨_, rfl⟩
      have HHS := Aside0.mk (show hs.length = 8 by rw [← hhs, startR_length]; rfl)
      rw [hhs] at HKr HRR
      have HKr2 := Aside0.mk (HKr.out.lower (show w.heap.size ≤ w4.heap.size from Nat.le_of_lt HL6.out))
      have hbs : nb ≤ 20000 := HBS.out
      clear hNB HNB HBS hM hnb hall hhs HR HU HH6 HH6r HP HB0 hb0 HC HA5 HK4b HK4 HG4 HG45 HL6 HZ3 HBW HK5 HKr hi hlt hb HNP
      obtain ⟨wA, hwA⟩ : ∃ wA, wA = wr := ⟨_, rfl⟩
      subst hwA
      go_wp2_with (fail)
      go_loopw [11, 13] (fun v11 v13 w' => ∃ (i gh ch : Nat), v13 = .int .i64 ((64 * i : Nat) : Int) ∧ v11 = .slice (some ⟨gh, 0, none⟩) 8 ch ∧ i ≤ nb ∧ Aside0 (Sm w w' w.heap.size (.slice (some ⟨ga, 0, none⟩) M c3) all g4 c4) ∧ Aside0 (RdQ w' w.heap.size gh ch (foldR all hs i))) (fun _ v13 _ => M - (intOf v13).toNat)
      case atStart => exact ⟨0, g5, c5, rfl, rfl, Nat.zero_le _, HSM, HKr2⟩
      case round =>
        clear HSM HKr2
        obtain ⟨i, gh, ch, rfl, rfl, hi, HSM, HKH⟩ := hrel
        by_cases hlt : i < nb
        · have hq : decide (((64 * i : Nat) : Int) < (M : Int)) = true := decide_eq_true (by have := HMN.out; omega)
          obtain ⟨m, hm⟩ : ∃ m : Nat, m = 64 * i := ⟨_, rfl⟩
          have HM := Lib.hid hm
          rw [← hm] at hq
          simp only [← hm]
          have hq2 : decide (m < M) = true := decide_eq_true (by have := HMN.out; omega)
          have hm0 : m + 64 ≤ c3 := by have := HMN.out; omega
          have hm1 : m ≤ 2000000 := by omega
          clear hm
          have hw0 : wrap64 64 = 64 := by kernel_rfl
          have hw1 : wrap64 ((m : Int) + 64) = ((m + 64 : Nat) : Int) := by simp only [wrap64]; omega
          have hcn : ¬ c3 = m := by omega
          go_wp2_with (fail)
          have HBK := Aside0.mk (show ((all.drop m).take 64).length = 64 from by rw [List.length_take, List.length_drop, HL.out, HM.out, HMN.out]; omega)
          have HBY := Aside0.mk (show Kd.C (Kd.int .u8) wr.drew (some ⟨ga, m, none⟩) ((all.drop m).take 64).length ((all.drop m).take 64) from by
            refine C_bys (fun j hj => ?_) (by rw [HBK.out]; decide)
            rw [HBK.out] at hj
            have hml : m + 64 ≤ all.length := by rw [HL.out, HM.out, HMN.out]; omega
            obtain ⟨g', c', e, _, _, _, _, hx⟩ := HSM.out.a.form (by omega)
            injection e with e
            injection e with e
            injection e with e
            subst e
            have := hx (m + j) (by omega)
            rw [List.getD_eq_getElem?_getD, List.getElem?_take_of_lt hj, List.getElem?_drop, ← List.getD_eq_getElem?_getD]
            exact this)
          obtain ⟨kx, hkx⟩ := exp_some HBK.out
          have HX := Aside0.mk (expR_length ((all.drop m).take 64) 64)
          have HKX := Aside0.mk (calls_of_args (args' := #[.agg #[.int .u64 4294967296, .int .u64 32], .slice (some ⟨ga, m, none⟩) ((all.drop m).take 64).length (c3 - m)]) (args := #[.agg #[.int .u64 4294967296, .int .u64 32], .slice (some ⟨ga, m, none⟩) 64 (c3 - m)]) (by rw [HBK.out]) (imprimaturref02_Words_expand.calls kx 4294967296 32 (some ⟨ga, m, none⟩) (c3 - m) ((all.drop m).take 64) (expR ((all.drop m).take 64) 64) wr.drew HBY.out (by rw [HBK.out]; omega) hkx))
          clear hkx HBY HBK
          obtain ⟨xs, hxs⟩ : ∃ xs, expR ((all.drop m).take 64) 64 = xs := ⟨_, rfl⟩
          have HXS := Aside0.mk hxs
          rw [hxs] at HX HKX
          clear hxs
          have hr1 : (0 : Int) ≤ (m : Int) + 64 ∧ (m : Int) + 64 ≤ (c3 : Int) := by omega
          have hr2 : m ≤ ((m : Int) + 64).toNat := by omega
          have hr3 : ((m : Int) + 64).toNat - m = 64 := by omega
          refine start_ (n := 10) (S := fun w' => w'.cell? ⟨w.heap.size, 0, none⟩ = some (.int .u64 4294967296) ∧ w'.cell? ⟨w.heap.size, 1, none⟩ = some (.int .u64 32)) (ds := []) (bz 10 0) (by kernel_rfl) rfl rfl ⟨HSM.out.c0, HSM.out.c1⟩ (fun hHeld => ?_)
          refine pz 1 (some 69) (bz 10 2) ?_
          refine pz 2 (some 70) (bz 10 6) ?_
          refine pz 3 (some 71) (bz 10 14) ?_
          refine pz 4 (some 72) (bz 10 30) ?_
          refine pz 5 (some 73) (bz 10 62) ?_
          refine pz 6 (some 74) (bz 10 126) ?_
          refine pz 7 (some 75) (bz 10 254) ?_
          refine tz2 0 (some 68) (bz 10 255) hHeld ?_
          refine one_ (i := 8) (N := some 76) (bz 10 511) rfl rfl (by kernel_rfl) (by decide) (fun K hK => ?_)
          refine goes_ Tryz.func87 (by kernel_rfl) rfl #[.agg #[.int .u64 4294967296, .int .u64 32], .slice (some ⟨ga, m, none⟩) 64 (c3 - m)] (by rfl) rfl rfl (by simp only [List.map_toArray, List.map_cons, List.map_nil]; rfl) ?_
          with_reducible refine (HKX.out).mono ?_
          rintro e w3 ⟨v3, rfl, hr3x, hb3⟩
          refine ⟨_, rfl, ?_⟩
          obtain ⟨gx, cx, rfl, hkx⟩ : ∃ g c, v3 = .slice (some ⟨g, 0, none⟩) 64 c ∧ RdQ w3 w.heap.size g c xs := by
            obtain ⟨g, c, e, h⟩ := (RowQ.of hr3x).rd (by rw [HX.out]; decide)
            rw [HX.out] at e
            exact ⟨g, c, e, h.lower (show w.heap.size ≤ wr.heap.size from HSM.out.b.size)⟩
          have HKXr := Aside0.mk hkx
          have hbw3 : Below wr.heap.size wr w3 := ⟨hb3.os, hb3.tape, hb3.output, hb3.size, hb3.block⟩
          have HSM3 := Aside0.mk (HSM.out.below hbw3)
          have HKH3 := Aside0.mk (HKH.out.below hbw3)
          clear hr3x hb3 hbw3 hkx
          refine hK.out _ _ ⟨HSM3.out.c0, HSM3.out.c1⟩ (fun hHeld => ?_)
          clear hK K
          refine norm_ (a' := ?_) ?_ ?_
          rotate_left
          · show Act.put _ (some 76) _ = _
            simp only [Act.put, List.setIfInBounds_toArray, List.set_cons_zero, List.set_cons_succ, i64_w, i32_w]
            rfl
          refine pz 9 (some 14) (bz 10 1023) ?_
          refine done_ (by kernel_rfl) ?_
          clear HSM HKH hr1 hr2 hr3 hw0 hw1 hHeld HKX
          obtain ⟨h, hh⟩ : ∃ h, foldR all hs i = h := ⟨_, rfl⟩
          have HHL := Aside0.mk (show h.length = 8 by rw [← hh]; exact foldR_length HHS.out i)
          have HHI := Aside0.mk hh
          rw [hh] at HKH3
          clear hh
          obtain ⟨wB, hwB⟩ : ∃ wB, wB = w3 := ⟨_, rfl⟩
          subst hwB
          go_wp2_with (fail)
          go_loopw [15, 16] (fun v15 v16 w' => ∃ (t gv cv : Nat) (vs : List Int), v16 = .int .i64 t ∧ v15 = .slice (some ⟨gv, 0, none⟩) 8 cv ∧ t ≤ 64 ∧ Aside0 (vs = roundsR h xs t) ∧ Aside0 (Sm w w' w.heap.size (.slice (some ⟨ga, 0, none⟩) M c3) all g4 c4) ∧ Aside0 (RdQ w' w.heap.size gh ch h) ∧ Aside0 (RdQ w' w.heap.size gx cx xs) ∧ Aside0 (RdQ w' w.heap.size gv cv vs)) (fun _ v16 _ => 64 - (intOf v16).toNat)
          case atStart => exact ⟨0, gh, ch, h, rfl, rfl, by decide, ⟨rfl⟩, HSM3, HKH3, HKXr, HKH3⟩
          case round =>
            clear HSM3 HKH3 HKXr
            obtain ⟨t, gv, cv, vs, rfl, rfl, ht, HVE, HSM, HKH, HKX, HKV⟩ := hrel
            have HVL := Aside0.mk (show vs.length = 8 by rw [HVE.out]; exact roundsR_length HHL.out t)
            by_cases htl : t < 64
            · have hq3 : decide ((t : Int) < 64) = true := decide_eq_true (by omega)
              have ht80 : t < 80 := by omega
              have hck := HKc HSM.out.k t ht80
              have hcx := HKX.out.cell t (by rw [HX.out]; exact htl)
              obtain ⟨kt, hkt⟩ : ∃ y, constsL.getD t 0 = y := ⟨_, rfl⟩
              obtain ⟨xt, hxt⟩ : ∃ y, xs.getD t 0 = y := ⟨_, rfl⟩
              rw [hkt] at hck
              rw [hxt] at hcx
              have HCK := Aside0.mk hck
              have HCX := Aside0.mk hcx
              have HNV := Aside0.mk (show roundsR h xs (t + 1) = roundR vs kt xt by rw [roundsR, ← HVE.out, hkt, hxt])
              have HRL := Aside0.mk (round_some HVL.out kt xt)
              clear hkt hxt hck hcx
              have HKR := Aside0.mk (calls_of_args (args' := #[.agg #[.int .u64 4294967296, .int .u64 32], .slice (some ⟨gv, 0, none⟩) vs.length cv, .int .u64 kt, .int .u64 xt]) (args := #[.agg #[.int .u64 4294967296, .int .u64 32], .slice (some ⟨gv, 0, none⟩) 8 cv, .int .u64 kt, .int .u64 xt]) (by rw [HVL.out]) (imprimaturref02_Words_round.calls 4294967296 32 (some ⟨gv, 0, none⟩) cv vs kt xt (roundR vs kt xt) wr.drew (Kd.C_below HKV.out.C (below_drew (Below.refl _ _))) HKV.out.le HRL.out.1))
              go_wp2_with (fail)
              have ht80i : (t : Int) < 80 := by omega
              have ht64i : (t : Int) < 64 := by omega
              refine start_ (n := 12) (S := fun w' => w'.cell? ⟨w.heap.size, 0, none⟩ = some (.int .u64 4294967296) ∧ w'.cell? ⟨w.heap.size, 1, none⟩ = some (.int .u64 32) ∧ w'.cell? ⟨g4, t, none⟩ = some (.int .u64 kt) ∧ w'.cell? ⟨gx, t, none⟩ = some (.int .u64 xt)) (ds := []) (bz 12 0) (by kernel_rfl) rfl rfl ⟨HSM.out.c0, HSM.out.c1, HCK.out, HCX.out⟩ (fun hHeld => ?_)
              refine pz 1 (some 85) (bz 12 2) ?_
              refine pz 2 (some 86) (bz 12 6) ?_
              refine pz 3 (some 87) (bz 12 14) ?_
              refine pz 4 (some 88) (bz 12 30) ?_
              refine pz 6 (some 90) (bz 12 94) ?_
              refine pz 7 (some 91) (bz 12 222) ?_
              refine pz 8 (some 92) (bz 12 478) ?_
              refine tz4 0 (some 84) (bz 12 479) hHeld ?_
              refine tz4 5 (some 89) (bz 12 511) hHeld ?_
              refine tz4 9 (some 93) (bz 12 1023) hHeld ?_
              refine one_ (i := 10) (N := some 94) (bz 12 2047) rfl rfl (by kernel_rfl) (by decide) (fun K hK => ?_)
              refine goes_ Tryz.func88 (by kernel_rfl) rfl #[.agg #[.int .u64 4294967296, .int .u64 32], .slice (some ⟨gv, 0, none⟩) 8 cv, .int .u64 kt, .int .u64 xt] (by rfl) rfl rfl (by simp only [List.map_toArray, List.map_cons, List.map_nil]; rfl) ?_
              with_reducible refine (HKR.out).mono ?_
              rintro e w4 ⟨v4, rfl, hr4, hb4⟩
              refine ⟨_, rfl, ?_⟩
              obtain ⟨gv2, cv2, rfl, hkv⟩ : ∃ g c, v4 = .slice (some ⟨g, 0, none⟩) 8 c ∧ RdQ w4 w.heap.size g c (roundR vs kt xt) := by
                obtain ⟨g, c, e, h⟩ := (RowQ.of hr4).rd (by rw [HRL.out.2]; decide)
                rw [HRL.out.2] at e
                exact ⟨g, c, e, h.lower (show w.heap.size ≤ wr.heap.size from HSM.out.b.size)⟩
              have HKV4 := Aside0.mk hkv
              have hbw4 : Below wr.heap.size wr w4 := ⟨hb4.os, hb4.tape, hb4.output, hb4.size, hb4.block⟩
              have HSM4 := Aside0.mk (HSM.out.below hbw4)
              have HKH4 := Aside0.mk (HKH.out.below hbw4)
              have HKX4 := Aside0.mk (HKX.out.below hbw4)
              have HCK4 := Aside0.mk ((cell_block (hbw4.block g4 HSM.out.k.lt) t).trans HCK.out)
              have HCX4 := Aside0.mk ((cell_block (hbw4.block gx HKX.out.lt) t).trans HCX.out)
              clear hr4 hb4 hbw4 hkv
              refine hK.out _ _ ⟨HSM4.out.c0, HSM4.out.c1, HCK4.out, HCX4.out⟩ (fun hHeld => ?_)
              clear hK K
              refine norm_ (a' := ?_) ?_ ?_
              rotate_left
              · show Act.put _ (some 94) _ = _
                simp only [Act.put, List.setIfInBounds_toArray, List.set_cons_zero, List.set_cons_succ, i64_w, i32_w]
                rfl
              refine pz 11 (some 15) (bz 12 4095) ?_
              refine done_ (by kernel_rfl) ?_
              clear ht80i ht64i
              clear HSM HKH HKX HKV HKR HCK HCX hHeld
              go_wp2_with (fail)
              go_roundw
              case rel => exact ⟨t + 1, gv2, cv2, roundR vs kt xt, by go_num, rfl, by omega, ⟨HNV.out.symm⟩, HSM4, HKH4, HKX4, HKV4⟩
              case measure => simp [intOf]; omega
            · obtain rfl : t = 64 := by omega
              have hq3 : decide ((64 : Int) < 64) = false := by decide
              have HVE2 := Aside0.mk (show vs = roundsR h xs 64 from HVE.out)
              obtain ⟨wC, hwC⟩ : ∃ wC, wC = wr := ⟨_, rfl⟩
              subst hwC
              go_wp2_with (fail)
              go_loopw [17, 18] (fun v17 v18 w' => ∃ (j c17 : Nat) (A17 : Option Addr), v18 = .int .i64 j ∧ v17 = .slice A17 j c17 ∧ j ≤ 8 ∧ Aside0 (RowQ w' wC.heap.size (.slice A17 j c17) (nextR h vs j)) ∧ Aside0 (Below wC.heap.size wC w')) (fun _ v18 _ => 8 - (intOf v18).toNat)
              case atStart => exact ⟨0, 0, none, rfl, rfl, by decide, ⟨RowQ.nil _ _⟩, ⟨Below.refl _ _⟩⟩
              case round =>
                obtain ⟨j, c17, A17, rfl, rfl, hj, HN, HBn⟩ := hrel
                by_cases hjl : j < 8
                · have hq4 : decide ((j : Int) < 8) = true := decide_eq_true (by omega)
                  have HSMr := Aside0.mk (HSM.out.below HBn.out)
                  have hch := (HKH.out.below HBn.out).cell j (by rw [HHL.out]; exact hjl)
                  have hcv := (HKV.out.below HBn.out).cell j (by rw [HVL.out]; exact hjl)
                  have HCH := Aside0.mk (HKH.out.cell j (by rw [HHL.out]; exact hjl))
                  have HCV := Aside0.mk (HKV.out.cell j (by rw [HVL.out]; exact hjl))
                  have HGH := Aside0.mk HKH.out.lt
                  have HGV := Aside0.mk HKV.out.lt
                  have HNX := Aside0.mk (show nextR h vs (j + 1) = nextR h vs j ++ [Int.tmod (IntKind.u64.wrap (h.getD j 0 + vs.getD j 0)) 4294967296] from rfl)
                  have HNL := Aside0.mk (nextR_length h vs j)
                  obtain ⟨hj', hhj⟩ : ∃ y, h.getD j 0 = y := ⟨_, rfl⟩
                  obtain ⟨vj, hvj⟩ : ∃ y, vs.getD j 0 = y := ⟨_, rfl⟩
                  rw [hhj] at hch HCH HNX
                  rw [hvj] at hcv HCV HNX
                  have HSH := Aside0.mk (show ∀ W, Below wC.heap.size wC W → W.cell? ⟨gh, j, none⟩ = some (.int .u64 hj') ∧ W.cell? ⟨gv, j, none⟩ = some (.int .u64 vj) from fun W hW => ⟨(cell_block (hW.block gh HGH.out) j).trans HCH.out, (cell_block (hW.block gv HGV.out) j).trans HCV.out⟩)
                  have HSS := Aside0.mk (show ∀ W, Below wC.heap.size wC W → W.cell? ⟨w.heap.size, 0, none⟩ = some (.int .u64 4294967296) ∧ W.cell? ⟨w.heap.size, 1, none⟩ = some (.int .u64 32) from fun W hW => ⟨(HSM.out.below hW).c0, (HSM.out.below hW).c1⟩)
                  clear hhj hvj hch hcv
                  obtain ⟨ys, hys⟩ : ∃ ys, nextR h vs j = ys := ⟨_, rfl⟩
                  rw [hys] at HN HNX HNL
                  clear hys
                  have HBd := Aside0.mk (show Below wC.heap.size wC wr.drew from below_drew HBn.out)
                  go_wp2_with (fail)
                  have hj8i : (j : Int) < 8 := by omega
                  refine start_ (n := 15) (S := fun w' => w'.cell? ⟨w.heap.size, 0, none⟩ = some (.int .u64 4294967296) ∧ w'.cell? ⟨w.heap.size, 1, none⟩ = some (.int .u64 32) ∧ w'.cell? ⟨gh, j, none⟩ = some (.int .u64 hj') ∧ w'.cell? ⟨gv, j, none⟩ = some (.int .u64 vj)) (ds := []) (bz 15 0) (by kernel_rfl) rfl rfl ⟨(HSS.out _ HBd.out).1, (HSS.out _ HBd.out).2, (HSH.out _ HBd.out).1, (HSH.out _ HBd.out).2⟩ (fun hHeld => ?_)
                  refine pz 0 (some 99) (bz 15 1) ?_
                  refine pz 2 (some 101) (bz 15 5) ?_
                  refine pz 3 (some 102) (bz 15 13) ?_
                  refine pz 4 (some 103) (bz 15 29) ?_
                  refine pz 6 (some 105) (bz 15 93) ?_
                  refine pz 7 (some 106) (bz 15 221) ?_
                  refine pz 8 (some 107) (bz 15 477) ?_
                  refine tz4 1 (some 100) (bz 15 479) hHeld ?_
                  refine tz4 5 (some 104) (bz 15 511) hHeld ?_
                  refine tz4 9 (some 108) (bz 15 1023) hHeld ?_
                  refine pz 10 (some 109) (bz 15 2047) ?_
                  refine one_ (i := 11) (N := some 110) (bz 15 4095) rfl rfl (by kernel_rfl) (by decide) (fun K hK => ?_)
                  refine goes_ Tryz.func89 (by kernel_rfl) rfl #[.agg #[.int .u64 4294967296, .int .u64 32], .int .u64 (IntKind.u64.wrap (hj' + vj))] (by rfl) rfl rfl (by simp only [List.map_toArray, List.map_cons, List.map_nil]; rfl) ?_
                  with_reducible refine (imprimaturref02_Words_cut.calls 4294967296 32 _ _ _ (cut_some _)).mono ?_
                  rintro e w6 ⟨rfl, hb6⟩
                  refine ⟨_, rfl, ?_⟩
                  have HB6 := Aside0.mk (show Below wC.heap.size wC w6 from below_trans HBd.out hb6)
                  have HN6 := Aside0.mk (HN.out.below (show Below wr.heap.size wr w6 from ⟨hb6.os, hb6.tape, hb6.output, hb6.size, hb6.block⟩))
                  clear hb6
                  refine hK.out _ _ ⟨(HSS.out _ HB6.out).1, (HSS.out _ HB6.out).2, (HSH.out _ HB6.out).1, (HSH.out _ HB6.out).2⟩ (fun hHeld => ?_)
                  clear hK K
                  refine norm_ (a' := ?_) ?_ ?_
                  rotate_left
                  · show Act.put _ (some 110) _ = _
                    simp only [Act.put, List.setIfInBounds_toArray, List.set_cons_zero, List.set_cons_succ, i64_w, i32_w]
                    rfl
                  refine one_ (i := 12) (N := some 111) (bz 15 8191) rfl rfl (by kernel_rfl) (by decide) (fun K hK => ?_)
                  refine value_ (w1 := w6.alloc (.cells #[.int .u64 (Int.tmod (IntKind.u64.wrap (hj' + vj)) 4294967296)] 45)) (v := .slice (some ⟨w6.heap.size, 0, none⟩) 1 1) (by rfl) rfl ?hbs ?_
                  case hbs =>
                    refine exec_buildSlice (t := 126) (n := 1) (parts := #[(0, .tmp 110)]) (args := #[(0, .int .u64 (Int.tmod (IntKind.u64.wrap (hj' + vj)) 4294967296))]) ?ho ?he ?hr
                    case ho => rfl
                    case he => kernel_rfl
                    case hr => exact buildQ _ w6
                  have HB7 := Aside0.mk (below_trans HB6.out (below_alloc (Below.refl w6.heap.size w6) (.cells #[.int .u64 (Int.tmod (IntKind.u64.wrap (hj' + vj)) 4294967296)] 45)))
                  have HC7 := Aside0.mk (CQ_one (heap_alloc_new w6 (.cells #[.int .u64 (Int.tmod (IntKind.u64.wrap (hj' + vj)) 4294967296)] 45)))
                  have HN7 := Aside0.mk (HN6.out.below (below_alloc (Below.refl w6.heap.size w6) (.cells #[.int .u64 (Int.tmod (IntKind.u64.wrap (hj' + vj)) 4294967296)] 45)))
                  refine hK.out _ _ ⟨(HSS.out _ HB7.out).1, (HSS.out _ HB7.out).2, (HSH.out _ HB7.out).1, (HSH.out _ HB7.out).2⟩ (fun hHeld => ?_)
                  clear hK K
                  refine norm_ (a' := ?_) ?_ ?_
                  rotate_left
                  · show Act.put _ (some 111) _ = _
                    simp only [Act.put, List.setIfInBounds_toArray, List.set_cons_zero, List.set_cons_succ, i64_w, i32_w]
                    rfl
                  refine one_ (i := 13) (N := some 112) (bz 15 16383) rfl rfl (by kernel_rfl) (by decide) (fun K hK => ?_)
                  refine appQ_step infoQ Tryz.underlying126 (by rfl) rfl (.tmp 99) (.tmp 111) rfl (.slice A17 j c17) ys _ _ _ _ rfl rfl HN7.out HC7.out HB7.out.size (by rw [HNL.out]; omega) ?_
                  intro A8 c8 w8 hr8 hb8 _
                  have HB8 := Aside0.mk (HB7.out.trans hb8)
                  rw [show (ys ++ [Int.tmod (IntKind.u64.wrap (hj' + vj)) 4294967296]).length = j + 1 by rw [List.length_append, HNL.out]; rfl] at hr8 ⊢
                  have HR8 := Aside0.mk hr8
                  clear hr8 hb8
                  refine hK.out _ _ ⟨(HSS.out _ HB8.out).1, (HSS.out _ HB8.out).2, (HSH.out _ HB8.out).1, (HSH.out _ HB8.out).2⟩ (fun hHeld => ?_)
                  clear hK K
                  refine norm_ (a' := ?_) ?_ ?_
                  rotate_left
                  · show Act.put _ (some 112) _ = _
                    simp only [Act.put, List.setIfInBounds_toArray, List.set_cons_zero, List.set_cons_succ, i64_w, i32_w]
                    rfl
                  refine pz 14 (some 17) (bz 15 32767) ?_
                  refine done_ (by kernel_rfl) ?_
                  clear hj8i
                  clear hHeld
                  go_wp2_with (fail)
                  go_roundw
                  case rel => exact ⟨j + 1, c8, A8, by go_num, rfl, by omega, ⟨by rw [HNX.out]; exact HR8.out⟩, HB8⟩
                  case measure => simp [intOf]; omega
                · obtain rfl : j = 8 := by omega
                  have hq4 : decide ((8 : Int) < 8) = false := by decide
                  have hm64 : m = i * 64 := m64 HM.out
                  have HF := Aside0.mk (show nextR h vs 8 = foldR all hs (i + 1) by rw [foldR, HHI.out, blockR, HVE2.out, show i * 64 = m from hm64.symm, HXS.out])
                  have HSMe := Aside0.mk (HSM.out.below HBn.out)
                  have hke := HN.out.rd (by rw [nextR_length]; decide)
                  have hke2 : ∃ g17, A17 = some ⟨g17, 0, none⟩ ∧ RdQ wr wC.heap.size g17 c17 (nextR h vs 8) := by
                    obtain ⟨g, c, e, hk⟩ := hke
                    injection e with e1 e2 e3
                    subst e3
                    exact ⟨g, e1, hk⟩
                  obtain ⟨g17, rfl, hk17⟩ := hke2
                  have HK17 := Aside0.mk (hk17.lower (show w.heap.size ≤ wC.heap.size from HSM.out.b.size))
                  have HM2 := Aside0.mk (show wrap64 ((m : Int) + 64) = ((64 * (i + 1) : Nat) : Int) from wrapM HM.out hlt hbs)
                  have HM3 := Aside0.mk (show (m : Int) + 64 = ((64 * (i + 1) : Nat) : Int) by rw [hm64]; omega)
                  clear hm64
                  clear hke hk17
                  go_wp2_with (fail)
                  go_roundw
                  case rel => exact ⟨i + 1, g17, c17, by first | exact congrArg _ HM2.out | exact congrArg _ HM3.out, rfl, by omega, HSMe, ⟨by rw [← HF.out]; exact HK17.out⟩⟩
                  case measure => have := HM.out; have := HMN.out; simp [intOf]; omega
        · obtain rfl : i = nb := by omega
          obtain ⟨m, hm⟩ : ∃ m : Nat, m = 64 * i := ⟨_, rfl⟩
          have HM := Lib.hid hm
          simp only [← hm]
          clear hm
          have hq : decide ((m : Int) < (M : Int)) = false := decide_eq_false (by have := HMN.out; have := HM.out; omega)
          have hq2 : decide (m < M) = false := decide_eq_false (by have := HMN.out; have := HM.out; omega)
          have HTL := HRR
          obtain ⟨h, hh⟩ : ∃ h, foldR all hs i = h := ⟨_, rfl⟩
          have HHL := Aside0.mk (show h.length = 8 by rw [← hh]; exact foldR_length HHS.out i)
          rw [hh] at HKH HTL
          clear hh
          obtain ⟨wD, hwD⟩ : ∃ wD, wD = wr := ⟨_, rfl⟩
          subst hwD
          go_wp2_with (fail)
          go_loopw [19, 20] (fun v19 v20 w' => ∃ (j c19 : Nat) (A19 : Option Addr), v20 = .int .i64 j ∧ v19 = .slice A19 (4 * j) c19 ∧ j ≤ 8 ∧ Aside0 (Row8 w' wD.heap.size (.slice A19 (4 * j) c19) (tellR h j)) ∧ Aside0 (Below wD.heap.size wD w')) (fun _ v20 _ => 8 - (intOf v20).toNat)
          case atStart => exact ⟨0, 0, none, rfl, rfl, by decide, ⟨Row8.nil _ _⟩, ⟨Below.refl _ _⟩⟩
          case round =>
            obtain ⟨j, c19, A19, rfl, rfl, hj, HN, HBn⟩ := hrel
            by_cases hjl : j < 8
            · have hq4 : decide ((j : Int) < 8) = true := decide_eq_true (by omega)
              have HSMr := Aside0.mk (HSM.out.below HBn.out)
              have h61 := HSMr.out.c1
              have HNX := Aside0.mk (show tellR h (j + 1) = tellR h j ++ t4 (h.getD j 0) from rfl)
              have HNL := Aside0.mk (tellR_length h j)
              have HCH := Aside0.mk (show ∀ W, Below wD.heap.size wD W → W.cell? ⟨gh, j, none⟩ = some (.int .u64 (h.getD j 0)) from fun W hW => (HKH.out.below hW).cell j (by rw [HHL.out]; exact hjl))
              obtain ⟨y, hy⟩ : ∃ y, h.getD j 0 = y := ⟨_, rfl⟩
              rw [hy] at HNX HCH
              clear hy
              obtain ⟨ys, hys⟩ : ∃ ys, tellR h j = ys := ⟨_, rfl⟩
              rw [hys] at HN HNX HNL
              clear hys
              obtain ⟨wE, hwE⟩ : ∃ wE, wE = wr := ⟨_, rfl⟩
              subst hwE
              obtain ⟨q, hqq⟩ : ∃ q, q = 4 * j := ⟨_, rfl⟩
              have HQ := Lib.hid hqq
              rw [← hqq] at HN HNL
              simp only [← hqq]
              have hq32 : q ≤ 32 := by omega
              clear hqq
              go_wp2_with (fail)
              go_loopw [19, 21] (fun v19 v21 w' => ∃ (n c19 : Nat) (A19 : Option Addr), v21 = .int .i64 (24 - 8 * (n : Int)) ∧ v19 = .slice A19 (q + n) c19 ∧ n ≤ 4 ∧ Aside0 (Row8 w' wD.heap.size (.slice A19 (q + n) c19) (ys ++ (t4 y).take n)) ∧ Aside0 (Below wD.heap.size wD w')) (fun _ v21 _ => (intOf v21 + 8).toNat)
              case atStart => exact ⟨0, c19, A19, by simp, rfl, by decide, ⟨by simpa using HN.out⟩, HBn⟩
              case round =>
                clear HN HBn HSMr h61
                obtain ⟨n, c20, A20, rfl, rfl, hn, HN, HBn⟩ := hrel
                have hcase : n = 0 ∨ n = 1 ∨ n = 2 ∨ n = 3 ∨ n = 4 := by omega
                have hcy := HCH.out _ HBn.out
                rcases hcase with rfl | rfl | rfl | rfl | rfl
                · have HBa := Aside0.mk (below_trans HBn.out (below_alloc (Below.refl wr.heap.size wr) (.cells #[.int .u8 (y / 16777216 % 256)] 5)))
                  have HNa := Aside0.mk (HN.out.below (below_alloc (Below.refl wr.heap.size wr) (.cells #[.int .u8 (y / 16777216 % 256)] 5)))
                  have HCa := Aside0.mk (show Kd.C (Kd.int .u8) (wr.alloc (.cells #[.int .u8 (y / 16777216 % 256)] 5)) (some ⟨wr.heap.size, 0, none⟩) 1 [y / 16777216 % 256] from C_block (x := [y / 16777216 % 256]) (heap_alloc_new wr (.cells #[.int .u8 (y / 16777216 % 256)] 5)) (by simp))
                  have HLn := Aside0.mk (show (ys ++ (t4 y).take 0).length = q + 0 by rw [List.length_append, HNL.out]; rfl)
                  have HLm := Aside0.mk (show ((ys ++ (t4 y).take 0) ++ [y / 16777216 % 256]).length = q + 1 by rw [List.length_append, HLn.out]; rfl)
                  have HEn := Aside0.mk (show (ys ++ (t4 y).take 0) ++ [y / 16777216 % 256] = ys ++ (t4 y).take 1 by rw [List.append_assoc]; rfl)
                  go_wp2_with (first | ((with_reducible refine gate_builtin (b := .append) (xs := #[.tmp 126, .tmp 135]) rfl ?_); at_builtin; refine app8 (q := wD.heap.size) Dk.info5 Tryz.underlying22 rfl (.tmp 126) (.tmp 135) rfl _ _ _ _ _ _ rfl rfl HNa.out HCa.out ?aQ ?aL ?_; (case aQ => exact HBa.out.size); (case aL => rw [HLn.out]; omega); intro A8 c8 w8 hr8 hb8 _; rw [HLm.out, HEn.out] at hr8; rw [HLm.out]; have HB8 := Aside0.mk (HBa.out.trans hb8); have HR8 := Aside0.mk hr8; clear hr8 hb8))
                  go_roundw
                  case rel => exact ⟨1, c8, A8, by first | rfl | go_num | simp, rfl, by omega, HR8, HB8⟩
                  case measure => simp [intOf]
                · have HBa := Aside0.mk (below_trans HBn.out (below_alloc (Below.refl wr.heap.size wr) (.cells #[.int .u8 (y / 65536 % 256)] 5)))
                  have HNa := Aside0.mk (HN.out.below (below_alloc (Below.refl wr.heap.size wr) (.cells #[.int .u8 (y / 65536 % 256)] 5)))
                  have HCa := Aside0.mk (show Kd.C (Kd.int .u8) (wr.alloc (.cells #[.int .u8 (y / 65536 % 256)] 5)) (some ⟨wr.heap.size, 0, none⟩) 1 [y / 65536 % 256] from C_block (x := [y / 65536 % 256]) (heap_alloc_new wr (.cells #[.int .u8 (y / 65536 % 256)] 5)) (by simp))
                  have HLn := Aside0.mk (show (ys ++ (t4 y).take 1).length = q + 1 by rw [List.length_append, HNL.out]; rfl)
                  have HLm := Aside0.mk (show ((ys ++ (t4 y).take 1) ++ [y / 65536 % 256]).length = q + 2 by rw [List.length_append, HLn.out]; rfl)
                  have HEn := Aside0.mk (show (ys ++ (t4 y).take 1) ++ [y / 65536 % 256] = ys ++ (t4 y).take 2 by rw [List.append_assoc]; rfl)
                  go_wp2_with (first | ((with_reducible refine gate_builtin (b := .append) (xs := #[.tmp 126, .tmp 135]) rfl ?_); at_builtin; refine app8 (q := wD.heap.size) Dk.info5 Tryz.underlying22 rfl (.tmp 126) (.tmp 135) rfl _ _ _ _ _ _ rfl rfl HNa.out HCa.out ?aQ ?aL ?_; (case aQ => exact HBa.out.size); (case aL => rw [HLn.out]; omega); intro A8 c8 w8 hr8 hb8 _; rw [HLm.out, HEn.out] at hr8; rw [HLm.out]; have HB8 := Aside0.mk (HBa.out.trans hb8); have HR8 := Aside0.mk hr8; clear hr8 hb8))
                  go_roundw
                  case rel => exact ⟨2, c8, A8, by first | rfl | go_num | simp, rfl, by omega, HR8, HB8⟩
                  case measure => simp [intOf]
                · have HBa := Aside0.mk (below_trans HBn.out (below_alloc (Below.refl wr.heap.size wr) (.cells #[.int .u8 (y / 256 % 256)] 5)))
                  have HNa := Aside0.mk (HN.out.below (below_alloc (Below.refl wr.heap.size wr) (.cells #[.int .u8 (y / 256 % 256)] 5)))
                  have HCa := Aside0.mk (show Kd.C (Kd.int .u8) (wr.alloc (.cells #[.int .u8 (y / 256 % 256)] 5)) (some ⟨wr.heap.size, 0, none⟩) 1 [y / 256 % 256] from C_block (x := [y / 256 % 256]) (heap_alloc_new wr (.cells #[.int .u8 (y / 256 % 256)] 5)) (by simp))
                  have HLn := Aside0.mk (show (ys ++ (t4 y).take 2).length = q + 2 by rw [List.length_append, HNL.out]; rfl)
                  have HLm := Aside0.mk (show ((ys ++ (t4 y).take 2) ++ [y / 256 % 256]).length = q + 3 by rw [List.length_append, HLn.out]; rfl)
                  have HEn := Aside0.mk (show (ys ++ (t4 y).take 2) ++ [y / 256 % 256] = ys ++ (t4 y).take 3 by rw [List.append_assoc]; rfl)
                  go_wp2_with (first | ((with_reducible refine gate_builtin (b := .append) (xs := #[.tmp 126, .tmp 135]) rfl ?_); at_builtin; refine app8 (q := wD.heap.size) Dk.info5 Tryz.underlying22 rfl (.tmp 126) (.tmp 135) rfl _ _ _ _ _ _ rfl rfl HNa.out HCa.out ?aQ ?aL ?_; (case aQ => exact HBa.out.size); (case aL => rw [HLn.out]; omega); intro A8 c8 w8 hr8 hb8 _; rw [HLm.out, HEn.out] at hr8; rw [HLm.out]; have HB8 := Aside0.mk (HBa.out.trans hb8); have HR8 := Aside0.mk hr8; clear hr8 hb8))
                  go_roundw
                  case rel => exact ⟨3, c8, A8, by first | rfl | go_num | simp, rfl, by omega, HR8, HB8⟩
                  case measure => simp [intOf]
                · have HBa := Aside0.mk (below_trans HBn.out (below_alloc (Below.refl wr.heap.size wr) (.cells #[.int .u8 (y % 256)] 5)))
                  have HNa := Aside0.mk (HN.out.below (below_alloc (Below.refl wr.heap.size wr) (.cells #[.int .u8 (y % 256)] 5)))
                  have HCa := Aside0.mk (show Kd.C (Kd.int .u8) (wr.alloc (.cells #[.int .u8 (y % 256)] 5)) (some ⟨wr.heap.size, 0, none⟩) 1 [y % 256] from C_block (x := [y % 256]) (heap_alloc_new wr (.cells #[.int .u8 (y % 256)] 5)) (by simp))
                  have HLn := Aside0.mk (show (ys ++ (t4 y).take 3).length = q + 3 by rw [List.length_append, HNL.out]; rfl)
                  have HLm := Aside0.mk (show ((ys ++ (t4 y).take 3) ++ [y % 256]).length = q + 4 by rw [List.length_append, HLn.out]; rfl)
                  have HEn := Aside0.mk (show (ys ++ (t4 y).take 3) ++ [y % 256] = ys ++ (t4 y).take 4 by rw [List.append_assoc]; rfl)
                  go_wp2_with (first | ((with_reducible refine gate_builtin (b := .append) (xs := #[.tmp 126, .tmp 135]) rfl ?_); at_builtin; refine app8 (q := wD.heap.size) Dk.info5 Tryz.underlying22 rfl (.tmp 126) (.tmp 135) rfl _ _ _ _ _ _ rfl rfl HNa.out HCa.out ?aQ ?aL ?_; (case aQ => exact HBa.out.size); (case aL => rw [HLn.out]; omega); intro A8 c8 w8 hr8 hb8 _; rw [HLm.out, HEn.out] at hr8; rw [HLm.out]; have HB8 := Aside0.mk (HBa.out.trans hb8); have HR8 := Aside0.mk hr8; clear hr8 hb8))
                  go_roundw
                  case rel => exact ⟨4, c8, A8, by first | rfl | go_num | simp, rfl, by omega, HR8, HB8⟩
                  case measure => simp [intOf]
                · have HNE := Aside0.mk (show ys ++ (t4 y).take 4 = tellR h (j + 1) from HNX.out.symm)
                  have HQ4 := Aside0.mk (show q + 4 = 4 * (j + 1) by rw [HQ.out]; omega)
                  have HN4 := Aside0.mk (show Row8 wr wD.heap.size (.slice A20 (q + 4) c20) (tellR h (j + 1)) by rw [← HNE.out]; exact HN.out)
                  rw [HQ4.out] at HN4
                  simp only [HQ4.out]
                  go_wp2_with (fail)
                  go_roundw
                  case rel => exact ⟨j + 1, c20, A20, by go_num, rfl, by omega, HN4, HBn⟩
                  case measure => simp [intOf]; omega
            · obtain rfl : j = 8 := by omega
              have hq4 : decide ((8 : Int) < 8) = false := by decide
              have HE := Aside0.mk (show Row8 wr w.heap.size (.slice A19 (4 * 8) c19) R from by rw [← HTL.out]; exact HN.out.lower HSM.out.b.size)
              have HBE := Aside0.mk (below_trans HSM.out.b HBn.out)
              go_wp2_with (fail)
              refine bodyPost_ret (results_tmp2 rfl _ _ _) rfl ?_
              exact ⟨_, rfl, HE.out, HBE.out⟩
end Go.Proofs.YtmblnflfklmmkaaGreatDoor.Sh
/- Contracts of the reference's Hash256, num, big, Head. -/
namespace Go.Proofs.YtmblnflfklmmkaaGreatDoor.Sh
open Go.Proofs.YtmblnflfklmmkaaGreatDoor.Dk Go.Proofs.YtmblnflfklmmkaaGreatDoor.P
open Go.RowKit Go.Proofs.YtmblnflfklmmkaaGreatDoorW.PrintWords Go.Proofs.YtmblnflfklmmkaaGreatDoorW.PrintLast Go.Proofs.YtmblnflfklmmkaaGreatDoorW.PrintMore
set_option linter.unusedVariables false
set_option linter.unusedSimpArgs false
set_option maxRecDepth 30000
variable {w w0 w1 w2 wr : World} {g q : Nat} {v : Value} {xs ys b : List Int}
def RowPo (w w' : World) (x : List Int) (e : Ending) : Prop := ∃ v, e = .returned v ∧ Row8 w' w.heap.size v x ∧ Below w.heap.size w w'
set_option maxHeartbeats 4000000 in
theorem Hash_calls (A : Option Addr) (c : Nat) (b : List Int) (hb : b.length ≤ 1048576) (hC : C8 w A b) : Calls Tryz.prog 66 #[.slice A b.length c] w fun e w' => RowPo w w' (hashR b) e := by
  have HS := Aside0.mk (SumR_calls A c b hb hC)
  clear hC
  go_enter Tryz.func66, Tryz.ntmps66
  go_wp2_with (first | (go_at_call 76; (with_reducible refine HS.out.mono ?_); rintro e w1 ⟨v1, rfl, hr1, hb1⟩; have HR1 := Aside0.mk hr1; have HB1 := Aside0.mk hb1; clear hr1 hb1))
  go_ret
  exact ⟨_, rfl, HR1.out, HB1.out⟩
/-- Bytes as a number, the reference's way. -/
def rnumM (xs : List Int) : Int := xs.foldl inU 0
theorem rnumM_take {i : Nat} (h : i < xs.length) : rnumM (xs.take (i + 1)) = inU (rnumM (xs.take i)) (xs.getD i 0) := by
  unfold rnumM
  rw [List.take_succ_eq_append_getElem h, List.foldl_append, List.getD_eq_getElem?_getD, List.getElem?_eq_getElem h]
  rfl
theorem rnumM_range (xs : List Int) : 0 ≤ rnumM xs ∧ rnumM xs ≤ 18446744073709551615 := by
  have : ∀ (xs : List Int) (a : Int), 0 ≤ a ∧ a ≤ 18446744073709551615 → 0 ≤ xs.foldl inU a ∧ xs.foldl inU a ≤ 18446744073709551615 := by
    intro xs
    induction xs with
    | nil => intro a h; exact h
    | cons x xs ih =>
      intro a _
      refine ih _ ?_
      unfold inU
      rw [wrap64u]
      omega
  exact this xs 0 (by decide)
theorem C8_cells {A : Option Addr} (h : C8 w A xs) (hp : 0 < xs.length) : ∃ ad, A = some ad ∧ ∀ i, i < xs.length → w.cell? (ad.add i) = some (.int .u8 (xs.getD i 0)) := by
  obtain ⟨_, _, h3⟩ := h
  obtain ⟨ad, hA, hc⟩ := h3 hp
  refine ⟨ad, hA, fun i hi => ?_⟩
  obtain ⟨cs, _, hK, hx⟩ := hc i _ (List.getElem?_eq_getElem hi)
  have := hx 0 (.int .u8 xs[i]) (by rw [hK]; rfl)
  rw [List.getD_eq_getElem?_getD, List.getElem?_eq_getElem hi]
  simpa [Kd.int, Kd.scalar] using this
set_option maxHeartbeats 4000000 in
theorem num_calls (A : Option Addr) (c : Nat) (hx : xs.length ≤ 1000000) (hC : C8 w A xs) : Calls Tryz.prog 63 #[.slice A xs.length c] w fun e w' => e = .returned (.int .u64 (rnumM xs)) ∧ w = w' := by
  have HC := Aside0.mk hC
  clear hC
  go_enter Tryz.func63, Tryz.ntmps63
  go_wp2_with (fail)
  go_loop [3, 4] (fun v3 v4 => ∃ i : Nat, v4 = .int .i64 i ∧ i ≤ xs.length ∧ v3 = .int .u64 (rnumM (xs.take i))) (fun v3 v4 => xs.length - (intOf v4).toNat)
  case atStart => exact ⟨0, rfl, Nat.zero_le _, rfl⟩
  case round =>
    obtain ⟨i, rfl, hi, rfl⟩ := hrel
    by_cases hlt : i < xs.length
    · have hq : decide (i < xs.length) = true := decide_eq_true hlt
      obtain ⟨ad, rfl, hc⟩ := C8_cells HC.out (by omega)
      have hci := hc i hlt
      clear hc
      have HN := Aside0.mk (rnumM_take hlt)
      obtain ⟨y, hy⟩ : ∃ y, xs.getD i 0 = y := ⟨_, rfl⟩
      obtain ⟨a, ha⟩ : ∃ a, rnumM (xs.take i) = a := ⟨_, rfl⟩
      rw [hy] at hci HN
      rw [ha] at HN ⊢
      clear hy ha
      go_wp2_with (fail)
      go_round
      case rel => exact ⟨i + 1, by go_num, by omega, by rw [HN.out]; rfl⟩
      case measure => simp [intOf]; omega
    · obtain rfl : i = xs.length := by omega
      have hq : decide (xs.length < xs.length) = false := decide_eq_false (by omega)
      have hp : xs.take xs.length = xs := List.take_length
      rw [hp]
      clear hp
      go_wp2_with (fail)
      go_ret
      exact ⟨rfl, rfl⟩
theorem big_loop (n : Nat) (hn : n ≤ 8) : ∀ j m (l : List Int) (x : Int), 0 ≤ x → x < 18446744073709551616 → l.length + j = n →
    imprimaturref08_big.l0 (m + j + 1) x n l (l.length : Int) = some (beM j x ++ l)
  | 0, m, l, x, h0, h1, h => by
    rw [imprimaturref08_big.l0, if_neg (by omega)]
    rfl
  | j + 1, m, l, x, h0, h1, h => by
    rw [show m + (j + 1) + 1 = (m + j + 1) + 1 by omega, imprimaturref08_big.l0, if_pos (by omega), Option.bind_some, if_pos (by simp; omega)]
    have e1 : Int.tmod x 256 % 256 = x % 256 := by rw [Int.tmod_eq_emod_of_nonneg h0]; omega
    have e2 : IntKind.u64.wrap (Int.tdiv x 256) = x / 256 := by rw [Int.tdiv_eq_ediv_of_nonneg h0, wrap64u]; omega
    have e3 : wrap64 ((l.length : Int) + 1) = (([x % 256] ++ l).length : Int) := by rw [w64 (by omega) (by omega)]; simp
    rw [e1, e2, e3, big_loop n hn j m ([x % 256] ++ l) (x / 256) (by omega) (by omega) (by simp; omega), beM]
    simp
theorem big_eq (n : Nat) (hn : n ≤ 8) {x : Int} (h0 : 0 ≤ x) (h1 : x ≤ 18446744073709551615) : ∃ k, imprimaturref08_big.f k x n = some (beM n x) := by
  refine ⟨0 + n + 1, ?_⟩
  have h := big_loop n hn n 0 [] x h0 (by omega) (by simp)
  rw [List.append_nil] at h
  exact h
theorem Big_calls (n : Nat) (hn : n ≤ 8) {x : Int} (h0 : 0 ≤ x) (h1 : x ≤ 18446744073709551615) : Calls Tryz.prog 65 #[.int .u64 x, .int .i64 n] w fun e w' => RowPo w w' (beM n x) e := by
  obtain ⟨k, hk⟩ := big_eq n hn h0 h1
  exact (imprimaturref08_big.calls k x n (beM n x) w hk).mono fun e w' ⟨v, he, hr, hb⟩ => ⟨v, he, Row8.of hr, hb⟩
theorem Big8_calls {x : Int} (h0 : 0 ≤ x) (h1 : x ≤ 18446744073709551615) : Calls Tryz.prog 65 #[.int .u64 x, .int .i64 8] w fun e w' => RowPo w w' (beM 8 x) e := Big_calls 8 (by decide) h0 h1
theorem Big4_calls {x : Int} (h0 : 0 ≤ x) (h1 : x ≤ 18446744073709551615) : Calls Tryz.prog 65 #[.int .u64 x, .int .i64 4] w fun e w' => RowPo w w' (beM 4 x) e := Big_calls 4 (by decide) h0 h1
/-- The reference's head. -/
def rheadM (g : Int) (r : List Int) : List Int := [73, 77, 80, 82] ++ beM 8 g ++ beM 4 r.length ++ hashR (beM 8 g ++ r) ++ List.replicate 16 0
theorem rheadM_length (g : Int) (r : List Int) : (rheadM g r).length = 64 := by simp [rheadM, beM_length, hashR_length]
theorem Row8.block {g : Nat} {xs : List Int} (h : w.heap[g]? = some (.cells (nums .u8 xs).toArray 5 (0, 0))) (hq : q ≤ g) (hx : xs.length ≤ 1000000) : Row8 w q (.slice (some ⟨g, 0, none⟩) xs.length xs.length) xs := by
  have ho : w.ownsRow q 5 1 (.slice (some ⟨g, 0, none⟩) xs.length xs.length) xs.length (nums .u8 xs) := by
    refine ⟨by simp [nums_length], .inr ⟨g, xs.length, (nums .u8 xs).toArray, rfl, hq, h, Nat.le_refl _, by unfold maxLen; omega, by simp [nums_length], by simp [nums, List.take_of_length_le]⟩⟩
  exact Kd.R_of_own (enc := fun x : Int => Value.int .u8 x) (h1 := fun _ => rfl) (ok := fun k => q ≤ k) (xs := xs) (v := .slice (some ⟨g, 0, none⟩) xs.length xs.length) ho (fun k hk => by simp only [Value.ownBlock, Option.some.injEq] at hk; omega)
theorem mark_row (w : World) : Row8 (w.alloc (.cells #[.int .u8 73, .int .u8 77, .int .u8 80, .int .u8 82] 5)) w.heap.size (.slice (some ⟨w.heap.size, 0, none⟩) 4 4) [73, 77, 80, 82] :=
  Row8.block (xs := [73, 77, 80, 82]) (heap_alloc_new w (.cells #[.int .u8 73, .int .u8 77, .int .u8 80, .int .u8 82] 5)) (Nat.le_refl _) (by decide)

set_option maxHeartbeats 8000000 in
theorem Head_calls {g : Int} (h0 : 0 ≤ g) (h1 : g ≤ 18446744073709551615) (A : Option Addr) (c : Nat) (r : List Int) (hr : r.length ≤ 1000000) (hC : C8 w A r) : Calls Tryz.prog 47 #[.int .u64 g, .slice A r.length c] w fun e w' => RowPo w w' (rheadM g r) e := by
  have HC := Aside0.mk hC
  have HG := Aside0.mk (show 0 ≤ g ∧ g ≤ 18446744073709551615 from ⟨h0, h1⟩)
  have HL8 := Aside0.mk (beM_length 8 g)
  obtain ⟨T, hT⟩ : ∃ T, T = 8 + r.length := ⟨_, rfl⟩
  have hT1 : T ≤ 1000008 := by omega
  have HLT := Aside0.mk (show (beM 8 g ++ r).length = T by rw [List.length_append, HL8.out, hT])
  have HL4 := Aside0.mk (beM_length 4 (r.length : Int))
  have HRL := Aside0.mk (show (0 : Int) ≤ (r.length : Int) ∧ (r.length : Int) ≤ 18446744073709551615 by omega)
  have HL12 := Aside0.mk (show (([73, 77, 80, 82] : List Int) ++ beM 8 g).length = 12 by rw [List.length_append, HL8.out]; rfl)
  have HL16 := Aside0.mk (show ((([73, 77, 80, 82] : List Int) ++ beM 8 g) ++ beM 4 r.length).length = 16 by rw [List.length_append, HL12.out, HL4.out])
  have HL32 := Aside0.mk (hashR_length (beM 8 g ++ r))
  have HL48 := Aside0.mk (show (((([73, 77, 80, 82] : List Int) ++ beM 8 g) ++ beM 4 r.length) ++ hashR (beM 8 g ++ r)).length = 48 by rw [List.length_append, HL16.out, HL32.out])
  clear hC h0 h1 hT
  go_enter Tryz.func47, Tryz.ntmps47
  go_wp2_with (first | (go_at_call 65; (with_reducible refine (Big8_calls (w := w) HG.out.1 HG.out.2).mono ?_); rintro e w1 ⟨v1, rfl, hr1, hb1⟩; obtain ⟨A1, c1, rfl⟩ := hr1.slice; have HR1 := Aside0.mk hr1; have HB1 := Aside0.mk hb1; clear hr1 hb1) | ((with_reducible refine gate_builtin (b := .append) (xs := #[.tmp 7, .tmp 9]) rfl ?_); at_builtin; refine app8 (q := w1.heap.size) Dk.info5 Tryz.underlying22 rfl (.tmp 7) (.tmp 9) rfl _ _ _ _ _ _ rfl rfl (Row8.nil w1 w1.heap.size) (Row8.C HR1.out).2.2 ?aQ ?aL ?_; (case aQ => exact Nat.le_refl _); (case aL => rw [HL8.out]; decide); intro A2 c2 w2 hr2 hb2 _; rw [List.nil_append] at hr2; rw [List.nil_append, HL8.out]; rw [HL8.out] at hr2; have HR2 := Aside0.mk hr2; have HB2 := Aside0.mk (HB1.out.trans (hb2.mono HB1.out.size)); have HZ2 := Aside0.mk hb2.size; clear hr2 hb2) | ((with_reducible refine gate_builtin (b := .append) (xs := #[.tmp 10, .tmp 11]) rfl ?_); at_builtin; refine app8 (q := w1.heap.size) Dk.info5 Tryz.underlying22 rfl (.tmp 10) (.tmp 11) rfl _ _ _ _ _ _ rfl rfl HR2.out (Kd.C_below HC.out HB2.out) ?aQ ?aL ?_; (case aQ => exact HZ2.out); (case aL => rw [HL8.out]; omega); intro A3 c3 w3 hr3 hb3 _; rw [HLT.out] at hr3; rw [HLT.out]; have HR3 := Aside0.mk hr3; have HB3 := Aside0.mk (HB2.out.trans (hb3.mono HB1.out.size)); clear hr3 hb3; have HBb := Aside0.mk (below_alloc (Below.refl w3.heap.size w3) (.cells #[.int .u8 73, .int .u8 77, .int .u8 80, .int .u8 82] 5)); have HRb := Aside0.mk (mark_row w3)) | (go_at_call 65; (with_reducible refine (Big8_calls (w := w3.alloc (.cells #[.int .u8 73, .int .u8 77, .int .u8 80, .int .u8 82] 5)) HG.out.1 HG.out.2).mono ?_); rintro e w4 ⟨v4, rfl, hr4, hb4⟩; obtain ⟨A4, c4, rfl⟩ := hr4.slice; have HR4 := Aside0.mk hr4; have HB4 := Aside0.mk (below_trans HBb.out hb4); have HRc := Aside0.mk (HRb.out.below hb4); clear hr4 hb4) | ((with_reducible refine gate_builtin (b := .append) (xs := #[.tmp 14, .tmp 16]) rfl ?_); at_builtin; refine app8 (q := w3.heap.size) Dk.info5 Tryz.underlying22 rfl (.tmp 14) (.tmp 16) rfl _ _ _ _ _ _ rfl rfl HRc.out (Row8.C HR4.out).2.2 ?aQ ?aL ?_; (case aQ => exact HB4.out.size); (case aL => rw [HL8.out]; decide); intro A5 c5 w5 hr5 hb5 _; rw [HL12.out] at hr5; rw [HL12.out]; have HR5 := Aside0.mk hr5; have HB5 := Aside0.mk (HB4.out.trans hb5); clear hr5 hb5) | (go_at_call 65; (with_reducible refine (Big4_calls HRL.out.1 HRL.out.2).mono ?_); rintro e w6 ⟨v6, rfl, hr6, hb6⟩; obtain ⟨A6, c6, rfl⟩ := hr6.slice; have HR6 := Aside0.mk hr6; have HB6 := Aside0.mk (below_trans HB5.out hb6); have HR5b := Aside0.mk (HR5.out.below hb6); clear hr6 hb6) | ((with_reducible refine gate_builtin (b := .append) (xs := #[.tmp 17, .tmp 21]) rfl ?_); at_builtin; refine app8 (q := w3.heap.size) Dk.info5 Tryz.underlying22 rfl (.tmp 17) (.tmp 21) rfl _ _ _ _ _ _ rfl rfl HR5b.out (Row8.C HR6.out).2.2 ?aQ ?aL ?_; (case aQ => exact HB6.out.size); (case aL => rw [HL12.out, HL4.out]; decide); intro A7 c7 w7 hr7 hb7 _; rw [HL16.out] at hr7; rw [HL16.out]; have HR7 := Aside0.mk hr7; have HB7 := Aside0.mk (HB6.out.trans hb7); clear hr7 hb7) | (go_at_call 66; (with_reducible refine (calls_of_args (args' := #[.slice A3 (beM 8 g ++ r).length c3]) (by rw [HLT.out]) (Hash_calls A3 c3 (beM 8 g ++ r) (by rw [HLT.out]; omega) (Row8.C (HR3.out.below HB7.out)).2.2)).mono ?_); rintro e w8 ⟨v8, rfl, hr8, hb8⟩; obtain ⟨A8, c8, rfl⟩ := hr8.slice; have HR8 := Aside0.mk hr8; have HB8 := Aside0.mk (below_trans HB7.out hb8); have HR7b := Aside0.mk (HR7.out.below hb8); clear hr8 hb8) | ((with_reducible refine gate_builtin (b := .append) (xs := #[.tmp 22, .tmp 24]) rfl ?_); at_builtin; refine app8 (q := w3.heap.size) Dk.info5 Tryz.underlying22 rfl (.tmp 22) (.tmp 24) rfl _ _ _ _ _ _ rfl rfl HR7b.out (Row8.C HR8.out).2.2 ?aQ ?aL ?_; (case aQ => exact HB8.out.size); (case aL => rw [HL16.out, HL32.out]; decide); intro A9 c9 w9 hr9 hb9 _; rw [HL48.out] at hr9; rw [HL48.out]; have HR9 := Aside0.mk hr9; have HB9 := Aside0.mk (HB8.out.trans hb9); clear hr9 hb9) | ((with_reducible refine gate_builtin (b := .append) (xs := #[.tmp 26, .const (.int .i64 16)]) rfl ?_); refine Kd.R_append_zeros (Kd.int .u8) (w0 := _) w3.heap.size rfl (.tmp 26) (.const (.int .i64 16)) 22 3 5 (.int .u8 0) 1 rfl Tryz.underlying22 Tryz.underlying3 Dk.info5 rfl (by decide) (by decide) _ _ 0 16 (fun k => w3.heap.size ≤ k) rfl rfl rfl ?aF HR9.out (by decide) (Below.refl _ _) ?aQ ?aL ?_; (case aF => exact fun k hk => Nat.le_trans HB9.out.size hk); (case aQ => exact HB9.out.size); (case aL => rw [HL48.out]; decide); intro v10 w10 hr10 hb10 _ _; have HR10 := Aside0.mk hr10; have HB10 := Aside0.mk (HB9.out.trans hb10); clear hr10 hb10))
  go_ret
  exact ⟨_, rfl, Row8.lower (q := w3.heap.size) HR10.out HB3.out.size, HB3.out.trans (HB10.out.mono HB3.out.size)⟩

end Go.Proofs.YtmblnflfklmmkaaGreatDoor.Sh
/- Contracts of the reference's store: Room, Area, Newest, Open. -/
namespace Go.Proofs.YtmblnflfklmmkaaGreatDoor.Sh
open Go.Proofs.YtmblnflfklmmkaaGreatDoor.Dk
open Go.RowKit Go.Proofs.YtmblnflfklmmkaaGreatDoorW.PrintWords Go.Proofs.YtmblnflfklmmkaaGreatDoorW.PrintLast Go.Proofs.YtmblnflfklmmkaaGreatDoorW.PrintMore
set_option linter.unusedVariables false
set_option linter.unusedSimpArgs false
set_option maxRecDepth 30000
variable {w w0 w1 w2 w' wr : World} {B t g2 : Nat} {F2 : Nat → Prop} {R R' : RM} {fr n q k : Int} {v : Value} {xs ys b : List Int}
/-- A store of the reference's, on a disk of the reference's. -/
structure TAt (w : World) (B t g2 : Nat) (F2 : Nat → Prop) (R : RM) (fr n : Int) : Prop where
  blk : w.heap[t]? = some (.cells #[.pointer (some ⟨g2, 0, none⟩), .int .i64 fr, .int .i64 n] 62 (0, 0))
  r : RefAt w B g2 F2 R
  nF : ¬ F2 t
theorem TAt.c0 (h : TAt w B t g2 F2 R fr n) : w.cell? ⟨t, 0, none⟩ = some (.pointer (some ⟨g2, 0, none⟩)) := by simp [World.cell?, h.blk]
theorem TAt.c1 (h : TAt w B t g2 F2 R fr n) : w.cell? ⟨t, 1, none⟩ = some (.int .i64 fr) := by simp [World.cell?, h.blk]
theorem TAt.c2 (h : TAt w B t g2 F2 R fr n) : w.cell? ⟨t, 2, none⟩ = some (.int .i64 n) := by simp [World.cell?, h.blk]
theorem TAt.below (h : TAt w B t g2 F2 R fr n) (hb : Below w.heap.size w w1) : TAt w1 B t g2 F2 R fr n := ⟨(hb.block t (blk_lt h.blk)).trans h.blk, h.r.frame (G := fun _ => False) (Upd.of_below hb) (fun _ _ h => h) (fun _ h => h.elim), h.nF⟩
structure TOk (R : RM) (fr n : Int) : Prop where
  d : ROk R
  hf : 0 ≤ fr
  hn : 2 ≤ n
  hl : fr + 2 * n ≤ (R.sec.length : Int)
  hz : R.sec.length ≤ 1000
theorem TOk.dm (h : TOk R fr n) (hd : ROk R') (hl : R'.sec.length = R.sec.length) : TOk R' fr n := ⟨hd, h.hf, h.hn, by rw [hl]; exact h.hl, by rw [hl]; exact h.hz⟩
theorem rRoom_calls (h : TAt w B t g2 F2 R fr n) (hk : TOk R fr n) : Calls Tryz.prog 10 #[.pointer (some ⟨t, 0, none⟩)] w fun e w' => e = .returned (.int .i64 (64 * n - 64)) ∧ w = w' := by
  have h2 := h.c2
  have n1 := hk.hn
  have n2 : n ≤ 500 := by have := hk.hf; have := hk.hl; have := hk.hz; omega
  clear h hk
  go_enter Tryz.func10, Tryz.ntmps10
  go_wp2_with (fail)
  go_ret
  exact ⟨rfl, rfl⟩
/-- An area's generation and record. -/
def rareaM (R : RM) (fr n k : Int) : Int × List Int :=
  if (rreadM R (fr + k * n)).length ≠ 64 then (0, [])
  else if 64 * n - 64 < rnumM (((rreadM R (fr + k * n)).drop 12).take 4) then (0, [])
  else if sameM (rheadM (rnumM (((rreadM R (fr + k * n)).drop 4).take 8)) (rloadM R (fr + k * n + 1) (rnumM (((rreadM R (fr + k * n)).drop 12).take 4)))) (rreadM R (fr + k * n)) = true then (rnumM (((rreadM R (fr + k * n)).drop 4).take 8), rloadM R (fr + k * n + 1) (rnumM (((rreadM R (fr + k * n)).drop 12).take 4)))
  else (0, [])
def ArPo (w w' : World) (st : Int × List Int) (e : Ending) : Prop := ∃ v, e = .returned (.tuple #[.int .u64 st.1, v]) ∧ Reads w' v st.2 ∧ Below w.heap.size w w'
def RdPo (w w' : World) (x : List Int) (n : Int) (e : Ending) : Prop := ∃ v, e = .returned (.tuple #[v, .int .i64 n]) ∧ Reads w' v x ∧ Below w.heap.size w w'
theorem num_at {ad : Addr} {c : Nat} {hh : List Int} (h : C8 w (some ad) hh) (hl : hh.length = 64) (hc : 64 ≤ c) (o m : Nat) (ho : 0 < o) (hm : 0 < m) (hom : o + m ≤ 16) :
    Calls Tryz.prog 63 #[.slice (some ⟨ad.block, ad.off + o, none⟩) m (c - o)] w.drew fun e w' => e = .returned (.int .u64 (rnumM ((hh.drop o).take m))) ∧ w.drew = w' := by
  have h1 : Kd.C (Kd.int .u8) w (if c = o then some ad else (some ad).map (·.add (o * (Kd.int .u8).sz))) (hh.drop o).length (hh.drop o) := Kd.C_drop h (by omega) (by omega)
  rw [if_neg (by omega)] at h1
  have e : ((some ad).map (·.add (o * (Kd.int .u8).sz)) : Option Addr) = some ⟨ad.block, ad.off + o, none⟩ := by
    simp [Kd.int, Kd.scalar, Addr.add]
    omega
  rw [e] at h1
  have h2 := Kd.C_take h1 (m := m) (by rw [List.length_drop]; omega)
  have h3 := num_calls (w := w.drew) (some ⟨ad.block, ad.off + o, none⟩) (c - o) (xs := (hh.drop o).take m) (by rw [List.length_take]; omega) (Kd.C_below h2 (below_drew (Below.refl _ _)))
  rwa [show ((hh.drop o).take m).length = m by rw [List.length_take, List.length_drop]; omega] at h3
theorem exec_string {P : Program} {ρ : Operand → Value} {o : Oper} {src dst : TypeId} {x : Operand} {u y : Value} {W : World} (ho : o.op = .convert src dst x) (hx : ρ x = u) (hrun : (convert src dst u).run P W = .ok y W) : (execOp ρ o).run P W = .ok (.value y) W := by
  subst hx
  unfold execOp
  simp [ho, hrun]

set_option maxHeartbeats 16000000 in
theorem Area_calls (h : TAt w B t g2 F2 R fr n) (hk : TOk R fr n) (k : Int) (hk01 : k = 0 ∨ k = 1) : Calls Tryz.prog 46 #[.pointer (some ⟨t, 0, none⟩), .int .i64 k] w fun e w' => ArPo w w' (rareaM R fr n k) e := by
  have HT := Aside0.mk h
  have HK := Aside0.mk hk
  have n1 := hk.hn
  have n2 : n ≤ 500 := by have := hk.hf; have := hk.hl; have := hk.hz; omega
  obtain ⟨kn, hkn⟩ : ∃ kn, kn = k * n := ⟨_, rfl⟩
  have hkb : 0 ≤ kn ∧ kn ≤ 500 := by rcases hk01 with rfl | rfl <;> omega
  obtain ⟨q, hq⟩ : ∃ q, q = fr + kn := ⟨_, rfl⟩
  have hqb : 0 ≤ q ∧ q ≤ 2000 := by have := hk.hf; have := hk.hl; have := hk.hz; omega
  have HQ := Aside0.mk (show fr + k * n = q by rw [hq, hkn])
  have hm1 : wrap64 (k * n) = kn := by rw [← hkn]; simp only [wrap64]; omega
  have hm2 : wrap64 (fr + kn) = q := by rw [← hq]; simp only [wrap64]; omega
  have hq1 : wrap64 (q + 1) = q + 1 := by simp only [wrap64]; omega
  obtain ⟨hh, hhe⟩ : ∃ hh, rreadM R q = hh := ⟨_, rfl⟩
  have HE := Aside0.mk (show rareaM R fr n k = if hh.length ≠ 64 then (0, []) else if 64 * n - 64 < rnumM ((hh.drop 12).take 4) then (0, []) else if sameM (rheadM (rnumM ((hh.drop 4).take 8)) (rloadM R (q + 1) (rnumM ((hh.drop 12).take 4)))) hh = true then (rnumM ((hh.drop 4).take 8), rloadM R (q + 1) (rnumM ((hh.drop 12).take 4))) else (0, []) by rw [rareaM, HQ.out, hhe])
  obtain ⟨th, hth⟩ : ∃ th, thereM R q = th := ⟨_, rfl⟩
  have HRD := Aside0.mk (show Calls Tryz.prog 62 #[.pointer (some ⟨g2, 0, none⟩), .int .i64 q] w.drew fun e w' => RdPo w.drew w' hh th e from by
    rw [← hhe, ← hth]
    exact rToRead (HT.out.r.frame (G := fun _ => False) (Upd.of_below (below_drew (Below.refl _ _))) (fun _ _ h => h) (fun _ h => h.elim)) HK.out.d q)
  obtain ⟨T, hT⟩ : ∃ T, rareaM R fr n k = T := ⟨_, rfl⟩
  rw [hT] at HE ⊢
  have HHE := Aside0.mk hhe
  clear h hk hkn hq hT hk01 hhe
  go_enter Tryz.func46, Tryz.ntmps46
  go_wp2_with (fail)
  refine start_ (n := 12) (S := fun w' => w'.cell? ⟨t, 1, none⟩ = some (.int .i64 fr) ∧ w'.cell? ⟨t, 2, none⟩ = some (.int .i64 n)) (ds := []) (bz 12 0) (by kernel_rfl) rfl rfl ⟨HT.out.c1, HT.out.c2⟩ (fun hHeld => ?_)
  refine pz 0 (some 13) (bz 12 1) ?_
  refine pz 1 (some 14) (bz 12 3) ?_
  refine pz 2 (some 15) (bz 12 7) ?_
  refine pz 4 (some 17) (bz 12 23) ?_
  refine pz 5 (some 18) (bz 12 55) ?_
  refine pz 6 (some 19) (bz 12 119) ?_
  refine pz 7 (some 20) (bz 12 247) ?_
  refine tz2 3 (some 16) (bz 12 255) hHeld ?_
  refine tz2 8 (some 21) (bz 12 511) hHeld ?_
  refine pz 9 (some 22) (bz 12 1023) ?_
  refine pz 10 (some 23) (bz 12 2047) ?_
  refine pz 11 (some 6) (bz 12 4095) ?_
  refine done_ (by kernel_rfl) ?_
  clear hHeld
  have h0 := HT.out.c0
  have h2 := HT.out.c2
  by_cases h64 : hh.length = 64
  · have H64 := Aside0.mk h64
    obtain ⟨g', hg'⟩ : ∃ g', rnumM ((hh.drop 4).take 8) = g' := ⟨_, rfl⟩
    obtain ⟨m, hm⟩ : ∃ m, rnumM ((hh.drop 12).take 4) = m := ⟨_, rfl⟩
    have HGR := Aside0.mk (show 0 ≤ g' ∧ g' ≤ 18446744073709551615 from by rw [← hg']; exact rnumM_range _)
    have HMR := Aside0.mk (show 0 ≤ m from by rw [← hm]; exact (rnumM_range _).1)
    have HE2 := Aside0.mk (HE.out.trans (if_neg (by rw [h64]; simp)))
    rw [hg', hm] at HE2
    have HGE := Aside0.mk hg'
    have HME := Aside0.mk hm
    clear h64 hg' hm HE
    go_wp2_with (first | (go_at_call 62; (with_reducible refine (HRD.out).mono ?_); rintro e w3 ⟨v3, rfl, ⟨A3, c3, rfl, hc3, hC3⟩, hb3⟩; have HC3 := Aside0.mk hC3; have HB3 := Aside0.mk (show Below w.heap.size w w3 from ⟨hb3.os, hb3.tape, hb3.output, hb3.size, hb3.block⟩); clear hC3 hb3; first | (rw [H64.out] at hc3 ⊢) | skip))
    obtain ⟨ad, rfl, _⟩ := C8_cells HC3.out (by rw [H64.out]; decide)
    have hcn4 : ¬ c3 = 4 := by omega
    have hcn12 : ¬ c3 = 12 := by omega
    have hc12 : (12 : Int) ≤ (c3 : Int) := by omega
    have hc16 : (16 : Int) ≤ (c3 : Int) := by omega
    have HN1 := Aside0.mk (num_at (c := c3) HC3.out H64.out hc3 4 8 (by decide) (by decide) (by decide))
    have HN2 := Aside0.mk (num_at (c := c3) HC3.out H64.out hc3 12 4 (by decide) (by decide) (by decide))
    rw [HGE.out] at HN1
    rw [HME.out] at HN2
    refine start_ (n := 8) (S := fun w' => True) (ds := []) (bz 8 0) (by kernel_rfl) rfl rfl trivial (fun hHeld => ?_)
    refine pz 0 (some 36) (bz 8 1) ?_
    refine pz 1 (some 37) (bz 8 3) ?_
    refine pz 3 (some 39) (bz 8 11) ?_
    refine pz 4 (some 40) (bz 8 27) ?_
    refine one_ (i := 2) (N := some 38) (bz 8 31) rfl rfl (by kernel_rfl) (by decide) (fun K hK => ?_)
    refine goes_ Tryz.func63 (by kernel_rfl) rfl #[.slice (some ⟨ad.block, ad.off + 4, none⟩) 8 (c3 - 4)] (by rfl) rfl rfl (by simp only [List.map_toArray, List.map_cons, List.map_nil]; rfl) ?_
    with_reducible refine (HN1.out).mono ?_
    rintro e w4 ⟨rfl, rfl⟩
    refine ⟨_, rfl, ?_⟩
    refine hK.out _ _ trivial (fun hHeld => ?_)
    clear hK K
    refine norm_ (a' := ?_) ?_ ?_
    rotate_left
    · show Act.put _ (some 38) _ = _
      simp only [Act.put, List.setIfInBounds_toArray, List.set_cons_zero, List.set_cons_succ, i64_w, i32_w]
      rfl
    refine one_ (i := 5) (N := some 41) (bz 8 63) rfl rfl (by kernel_rfl) (by decide) (fun K hK => ?_)
    refine goes_ Tryz.func63 (by kernel_rfl) rfl #[.slice (some ⟨ad.block, ad.off + 12, none⟩) 4 (c3 - 12)] (by rfl) rfl rfl (by simp only [List.map_toArray, List.map_cons, List.map_nil]; rfl) ?_
    with_reducible refine (HN2.out).mono ?_
    rintro e w4 ⟨rfl, rfl⟩
    refine ⟨_, rfl, ?_⟩
    refine hK.out _ _ trivial (fun hHeld => ?_)
    clear hK K
    refine norm_ (a' := ?_) ?_ ?_
    rotate_left
    · show Act.put _ (some 41) _ = _
      simp only [Act.put, List.setIfInBounds_toArray, List.set_cons_zero, List.set_cons_succ, i64_w, i32_w]
      rfl
    refine pz 6 (some 9) (bz 8 127) ?_
    refine pz 7 (some 10) (bz 8 255) ?_
    refine done_ (by kernel_rfl) ?_
    clear hHeld HN1 HN2
    have HRM := Aside0.mk (rRoom_calls ((HT.out.below HB3.out).below (below_drew (Below.refl _ _))) HK.out)
    have h0' := (HT.out.below HB3.out).c0
    by_cases hmr : 64 * n - 64 < m
    · have tm : decide (64 * n - 64 < m) = true := decide_eq_true hmr
      have HE3 := Aside0.mk (HE2.out.trans (if_pos hmr))
      clear hmr
      go_wp2_with (first | (go_at_call 10; (with_reducible refine HRM.out.mono ?_); rintro e w4 ⟨rfl, rfl⟩))
      refine bodyPost_ret (results_tmp2 rfl _ _ _) rfl ?_
      rw [HE3.out]
      exact ⟨_, rfl, Reads.nil _, HB3.out.trans (below_drew (Below.refl _ _))⟩
    · have tm : decide (64 * n - 64 < m) = false := decide_eq_false hmr
      have HE3 := Aside0.mk (HE2.out.trans (if_neg hmr))
      have hm0 : 0 ≤ m := HMR.out
      have hm1x : m ≤ 64 * n - 64 := by omega
      have hwm : wrap64 m = m := by simp only [wrap64]; omega
      clear hmr
      obtain ⟨r, hr⟩ : ∃ r, rloadM R (q + 1) m = r := ⟨_, rfl⟩
      obtain ⟨le, hle⟩ : ∃ le, rloadE R (q + 1) m = le := ⟨_, rfl⟩
      rw [hr] at HE3
      have HLD := Aside0.mk (show Calls Tryz.prog 64 #[.pointer (some ⟨g2, 0, none⟩), .int .i64 (q + 1), .int .i64 m] w3.drew fun e w' => RdPo w3.drew w' r le e ∧ r.length ≤ m.toNat from by
        rw [← hr, ← hle]
        exact (rToLoad ((HT.out.below HB3.out).below (below_drew (Below.refl _ _))).r HK.out.d (q + 1) m).mono fun e w' ⟨v, h1, h2, h3, h4⟩ => ⟨⟨v, h1, h2, h3⟩, h4⟩)
      clear hr hle
      go_wp2_with (first | (go_at_call 10; (with_reducible refine HRM.out.mono ?_); rintro e w4 ⟨rfl, rfl⟩) | (go_at_call 64; (with_reducible refine HLD.out.mono ?_); rintro e w5 ⟨⟨v5, rfl, ⟨A5, c5, rfl, hc5, hC5⟩, hb5⟩, hl5⟩; have HC5 := Aside0.mk hC5; have HCL5 := Aside0.mk hc5; have HB5 := Aside0.mk (show Below w.heap.size w w5 from HB3.out.trans (show Below w.heap.size w3 w5 from Below.mono (show Below w3.heap.size w3 w5 from ⟨hb5.os, hb5.tape, hb5.output, hb5.size, hb5.block⟩) HB3.out.size)); have HB35 := Aside0.mk (show Below w3.heap.size w3 w5 from ⟨hb5.os, hb5.tape, hb5.output, hb5.size, hb5.block⟩); have HL5 := Aside0.mk hl5; clear hC5 hb5 hl5 hc5))
      have HCS := Aside0.mk (show ∀ W, C8 W (some ad) hh → (convert 22 9 (.slice (some ad) 64 c3)).run Tryz.prog W = .ok (.string (strOfNums hh)) W from fun W hW => by
        have := Kd.C_string (P := Tryz.prog) (A := some ad) (c := c3) Tryz.underlying22 Tryz.underlying5 Tryz.underlying9 hW
        rwa [H64.out] at this)
      have HC5h := Aside0.mk (show C8 w5 (some ad) hh from Kd.C_below HC3.out HB35.out)
      have HHD := Aside0.mk (Head_calls (w := w5.drew) HGR.out.1 HGR.out.2 A5 c5 r (by have := HL5.out; omega) (Kd.C_below HC5.out (below_drew (Below.refl _ _))))
      obtain ⟨X, hX⟩ : ∃ X, rheadM g' r = X := ⟨_, rfl⟩
      rw [hX] at HHD HE3
      clear hX
      refine start_ (n := 7) (S := fun w' => (convert 22 9 (.slice (some ad) 64 c3)).run Tryz.prog w' = .ok (.string (strOfNums hh)) w') (ds := []) (bz 7 0) (by kernel_rfl) rfl rfl ((HCS.out _ (Kd.C_below HC5h.out (below_drew (Below.refl _ _))))) (fun hHeld => ?_)
      refine pz 0 (some 59) (bz 7 1) ?_
      refine pz 1 (some 60) (bz 7 3) ?_
      refine pz 4 (some 63) (bz 7 19) ?_
      refine tz1 5 (some 64) (bz 7 51) hHeld ?_
      refine one_ (i := 2) (N := some 61) (bz 7 55) rfl rfl (by kernel_rfl) (by decide) (fun K hK => ?_)
      refine goes_ Tryz.func47 (by kernel_rfl) rfl #[.int .u64 g', .slice A5 r.length c5] (by rfl) rfl rfl (by simp only [List.map_toArray, List.map_cons, List.map_nil]; rfl) ?_
      with_reducible refine (HHD.out).mono ?_
      rintro e w6 ⟨v6, rfl, hr6, hb6⟩
      refine ⟨_, rfl, ?_⟩
      obtain ⟨A6, c6, rfl⟩ := hr6.slice
      have HC6 := Aside0.mk (Row8.C hr6).2.2
      have HB56 := Aside0.mk (show Below w5.heap.size w5 w6 from ⟨hb6.os, hb6.tape, hb6.output, hb6.size, hb6.block⟩)
      clear hr6 hb6
      refine hK.out _ _ (HCS.out _ (Kd.C_below HC5h.out HB56.out)) (fun hHeld => ?_)
      clear hK K
      refine norm_ (a' := ?_) ?_ ?_
      rotate_left
      · show Act.put _ (some 61) _ = _
        simp only [Act.put, List.setIfInBounds_toArray, List.set_cons_zero, List.set_cons_succ, i64_w, i32_w]
        rfl
      refine one_ (i := 3) (N := some 62) (bz 7 63) rfl rfl (by kernel_rfl) (by decide) (fun K hK => ?_)
      refine value_ (w1 := w6) (v := .string (strOfNums X)) (by rfl) rfl (exec_string (src := 22) (dst := 9) rfl (by rfl) (Kd.C_string (P := Tryz.prog) (A := A6) (c := c6) Tryz.underlying22 Tryz.underlying5 Tryz.underlying9 HC6.out)) ?_
      refine hK.out _ _ (HCS.out _ (Kd.C_below HC5h.out HB56.out)) (fun hHeld => ?_)
      clear hK K
      refine norm_ (a' := ?_) ?_ ?_
      rotate_left
      · show Act.put _ (some 62) _ = _
        simp only [Act.put, List.setIfInBounds_toArray, List.set_cons_zero, List.set_cons_succ, i64_w, i32_w]
        rfl
      refine pz 6 (some 65) (bz 7 127) ?_
      refine done_ (by kernel_rfl) ?_
      clear hHeld
      have HBE := Aside0.mk (show Below w.heap.size w w6 from below_trans HB5.out HB56.out)
      have HRr := Aside0.mk (show Reads w6 (.slice A5 r.length c5) r from ⟨_, _, rfl, HCL5.out, Kd.C_below HC5.out HB56.out⟩)
      go_wp2_with (fail)
      · rename_i hs
        have hs2 : sameM X hh = false := by simpa [sameM] using hs
        have HE4 := Aside0.mk (HE3.out.trans (if_neg (by rw [hs2]; simp)))
        refine bodyPost_ret (results_tmp2 rfl _ _ _) rfl ?_
        rw [HE4.out]
        exact ⟨_, rfl, Reads.nil _, HBE.out⟩
      · rename_i hs
        have hs2 : sameM X hh = true := by simpa [sameM] using hs
        have HE4 := Aside0.mk (HE3.out.trans (if_pos hs2))
        refine bodyPost_ret (results_tmp2 rfl _ _ _) rfl ?_
        rw [HE4.out]
        exact ⟨_, rfl, HRr.out, HBE.out⟩
  · have t64 : decide ((hh.length : Int) = 64) = false := decide_eq_false (by omega)
    have HE2 := Aside0.mk (HE.out.trans (if_pos h64))
    have t64b : ((hh.length : Int) != 64) = true := by simp; omega
    have t64c : ((hh.length : Int) == 64) = false := by simp; omega
    have t64b : ((hh.length : Int) != 64) = true := by simp; omega
    have t64c : ((hh.length : Int) == 64) = false := by simp; omega
    clear HE h64
    go_wp2_with (first | (go_at_call 62; (with_reducible refine (HRD.out).mono ?_); rintro e w3 ⟨v3, rfl, ⟨A3, c3, rfl, hc3, hC3⟩, hb3⟩; have HC3 := Aside0.mk hC3; have HB3 := Aside0.mk (show Below w.heap.size w w3 from ⟨hb3.os, hb3.tape, hb3.output, hb3.size, hb3.block⟩); clear hC3 hb3; first | (rw [XX.out] at hc3 ⊢) | skip))
    refine bodyPost_ret (results_tmp2 rfl _ _ _) rfl ?_
    rw [HE2.out]
    exact ⟨_, rfl, Reads.nil _, HB3.out⟩

end Go.Proofs.YtmblnflfklmmkaaGreatDoor.Sh
/- Contracts of the reference's store: Newest, Open, Put. -/
namespace Go.Proofs.YtmblnflfklmmkaaGreatDoor.Sh
open Go.Proofs.YtmblnflfklmmkaaGreatDoor.Dk
open Go.RowKit Go.Proofs.YtmblnflfklmmkaaGreatDoorW.PrintWords Go.Proofs.YtmblnflfklmmkaaGreatDoorW.PrintLast Go.Proofs.YtmblnflfklmmkaaGreatDoorW.PrintMore
set_option linter.unusedVariables false
set_option linter.unusedSimpArgs false
set_option maxRecDepth 30000
variable {w w0 w1 w2 w' wr : World} {B t g2 : Nat} {F2 : Nat → Prop} {R R' : RM} {fr n q k : Int} {v : Value} {xs ys b : List Int}
def pickM (a b : Int × List Int) : Int × Int × List Int := if a.1 = 0 ∧ b.1 = 0 then (-1, 0, []) else if b.1 ≤ a.1 then (0, a.1, a.2) else (1, b.1, b.2)
def rnewestM (R : RM) (fr n : Int) : Int × Int × List Int := pickM (rareaM R fr n 0) (rareaM R fr n 1)
def NeP (w w' : World) (st : Int × Int × List Int) (e : Ending) : Prop := ∃ v, e = .returned (.tuple #[.int .i64 st.1, .int .u64 st.2.1, v]) ∧ Reads w' v st.2.2 ∧ Below w.heap.size w w'
theorem rareaM_range (k : Int) : 0 ≤ (rareaM R fr n k).1 ∧ (rareaM R fr n k).1 ≤ 18446744073709551615 := by
  unfold rareaM
  split
  · exact ⟨by decide, by decide⟩
  · split
    · exact ⟨by decide, by decide⟩
    · split
      · exact rnumM_range _
      · exact ⟨by decide, by decide⟩
theorem Reads.below {v : Value} {x : List Int} (h : Reads w v x) (hb : Below w.heap.size w w1) : Reads w1 v x := by
  obtain ⟨A, c, h1, h2, h3⟩ := h
  exact ⟨A, c, h1, h2, Kd.C_below h3 hb⟩
set_option maxHeartbeats 8000000 in
theorem rNewest_calls (h : TAt w B t g2 F2 R fr n) (hk : TOk R fr n) : Calls Tryz.prog 26 #[.pointer (some ⟨t, 0, none⟩)] w fun e w' => NeP w w' (rnewestM R fr n) e := by
  have HT := Aside0.mk h
  have HK := Aside0.mk hk
  have HR := Aside0.mk (show rnewestM R fr n = pickM (rareaM R fr n 0) (rareaM R fr n 1) from rfl)
  have HA0 := Aside0.mk (Area_calls h hk 0 (.inl rfl))
  have HA1 := Aside0.mk (show ∀ W, Below w.heap.size w W → Calls Tryz.prog 46 #[.pointer (some ⟨t, 0, none⟩), .int .i64 1] W fun e w' => ArPo W w' (rareaM R fr n 1) e from fun W hW => Area_calls (HT.out.below hW) HK.out 1 (.inr rfl))
  have ha := (rareaM_range (R := R) (fr := fr) (n := n) 0).1
  have hb := (rareaM_range (R := R) (fr := fr) (n := n) 1).1
  obtain ⟨P, hP⟩ : ∃ P, rareaM R fr n 0 = P := ⟨_, rfl⟩
  obtain ⟨Q, hQ⟩ : ∃ Q, rareaM R fr n 1 = Q := ⟨_, rfl⟩
  rw [hP] at HA0 HR ha
  rw [hQ] at HA1 HR hb
  obtain ⟨T, hT⟩ : ∃ T, rnewestM R fr n = T := ⟨_, rfl⟩
  rw [hT] at HR ⊢
  obtain ⟨a, x⟩ := P
  obtain ⟨b, y⟩ := Q
  dsimp only at ha hb
  clear h hk hP hQ hT
  by_cases h0 : a = 0 ∧ b = 0
  · have HE := Aside0.mk (HR.out.trans (if_pos h0))
    obtain ⟨rfl, rfl⟩ := h0
    go_enter Tryz.func26, Tryz.ntmps26
    go_wp2_with (first | (go_at_call 46; (with_reducible refine (HA0.out).mono ?_); rintro e w1 ⟨v1, rfl, ⟨A1, c1, rfl, hc1, hC1⟩, hb1⟩; have HB1 := Aside0.mk hb1; have HV1 := Aside0.mk (show Reads w1 (.slice A1 x.length c1) x from ⟨A1, c1, rfl, hc1, hC1⟩); clear hb1 hc1 hC1) | (go_at_call 46; (with_reducible refine (HA1.out _ HB1.out).mono ?_); rintro e w2 ⟨v2, rfl, ⟨A2, c2, rfl, hc2, hC2⟩, hb2⟩; have HB2 := Aside0.mk hb2; have HV2 := Aside0.mk (show Reads w2 (.slice A2 y.length c2) y from ⟨A2, c2, rfl, hc2, hC2⟩); clear hb2 hc2 hC2))
    refine bodyPost_ret (results_tmp3 rfl _ _ _) rfl ?_
    rw [HE.out]
    exact ⟨_, rfl, Reads.nil _, below_trans HB1.out HB2.out⟩
  by_cases hab : b ≤ a
  · have HE := Aside0.mk (HR.out.trans ((if_neg h0).trans (if_pos hab)))
    have ha0 : ¬ a = 0 := by omega
    have ta : (a == 0) = false := by simpa using ha0
    have tb : decide (a < b) = false := decide_eq_false (by omega)
    have tc : decide (b ≤ a) = true := decide_eq_true hab
    clear h0 hab
    go_enter Tryz.func26, Tryz.ntmps26
    go_wp2_with (first | (go_at_call 46; (with_reducible refine (HA0.out).mono ?_); rintro e w1 ⟨v1, rfl, ⟨A1, c1, rfl, hc1, hC1⟩, hb1⟩; have HB1 := Aside0.mk hb1; have HV1 := Aside0.mk (show Reads w1 (.slice A1 x.length c1) x from ⟨A1, c1, rfl, hc1, hC1⟩); clear hb1 hc1 hC1) | (go_at_call 46; (with_reducible refine (HA1.out _ HB1.out).mono ?_); rintro e w2 ⟨v2, rfl, ⟨A2, c2, rfl, hc2, hC2⟩, hb2⟩; have HB2 := Aside0.mk hb2; have HV2 := Aside0.mk (show Reads w2 (.slice A2 y.length c2) y from ⟨A2, c2, rfl, hc2, hC2⟩); clear hb2 hc2 hC2))
    refine bodyPost_ret (results_tmp3 rfl _ _ _) rfl ?_
    rw [HE.out]
    exact ⟨_, rfl, Sh.Reads.below HV1.out HB2.out, below_trans HB1.out HB2.out⟩
  · have HE := Aside0.mk (HR.out.trans ((if_neg h0).trans (if_neg hab)))
    have hb0 : ¬ b = 0 := by omega
    have ta : (b == 0) = false := by simpa using hb0
    have tc : decide (b ≤ a) = false := decide_eq_false hab
    clear h0 hab
    go_enter Tryz.func26, Tryz.ntmps26
    go_wp2_with (first | (go_at_call 46; (with_reducible refine (HA0.out).mono ?_); rintro e w1 ⟨v1, rfl, ⟨A1, c1, rfl, hc1, hC1⟩, hb1⟩; have HB1 := Aside0.mk hb1; have HV1 := Aside0.mk (show Reads w1 (.slice A1 x.length c1) x from ⟨A1, c1, rfl, hc1, hC1⟩); clear hb1 hc1 hC1) | (go_at_call 46; (with_reducible refine (HA1.out _ HB1.out).mono ?_); rintro e w2 ⟨v2, rfl, ⟨A2, c2, rfl, hc2, hC2⟩, hb2⟩; have HB2 := Aside0.mk hb2; have HV2 := Aside0.mk (show Reads w2 (.slice A2 y.length c2) y from ⟨A2, c2, rfl, hc2, hC2⟩); clear hb2 hc2 hC2))
    all_goals (refine bodyPost_ret (results_tmp3 rfl _ _ _) rfl ?_)
    all_goals rw [HE.out]
    all_goals exact ⟨_, rfl, HV2.out, below_trans HB1.out HB2.out⟩

def rOpenPo (w w' : World) (B g2 : Nat) (F2 : Nat → Prop) (R : RM) (fr n : Int) (e : Ending) : Prop :=
  (¬ (2 ≤ n ∧ 0 ≤ fr ∧ fr + 2 * n ≤ (R.sec.length : Int)) ∧ e = .returned (.tuple #[.pointer none, .int .i64 1]) ∧ Below w.heap.size w w') ∨
  ((2 ≤ n ∧ 0 ≤ fr ∧ fr + 2 * n ≤ (R.sec.length : Int)) ∧ ∃ t, e = .returned (.tuple #[.pointer (some ⟨t, 0, none⟩), .int .i64 0]) ∧ TAt w' B t g2 F2 R fr n ∧ w.heap.size ≤ t ∧ Below w.heap.size w w')
set_option maxHeartbeats 16000000 in
theorem rOpen_calls (h : RefAt w B g2 F2 R) (hl : R.sec.length ≤ 1000) (fr n : Int) : Calls Tryz.prog 24 #[.pointer (some ⟨g2, 0, none⟩), .int .i64 fr, .int .i64 n] w fun e w' => rOpenPo w w' B g2 F2 R fr n e := by
  have HD := Aside0.mk h
  obtain ⟨vs, vh, vc, hR⟩ := h
  obtain ⟨A, c, rfl, _, _⟩ := Kd.R_reads hR.sec
  have h0 := hR.c0
  have HLT := Aside0.mk (fun k hk => (hR.lt k hk).2)
  obtain ⟨S, hS⟩ : ∃ S : Nat, R.sec.length = S := ⟨_, rfl⟩
  have HSS := Lib.hid hS
  rw [hS] at hl h0
  clear hR hS
  by_cases h1 : n < 2
  · have hq : decide (n < 2) = true := decide_eq_true h1
    have HB := Aside0.mk h1
    clear h1
    go_enter Tryz.func24, Tryz.ntmps24
    go_wp2_with (fail)
    refine bodyPost_ret (results_tmp2 rfl _ _ _) rfl ?_
    exact .inl ⟨by have := HB.out; omega, rfl, Below.refl _ _⟩
  have hq : decide (n < 2) = false := decide_eq_false h1
  by_cases h2 : (S : Int) < n
  · have hq2 : decide ((S : Int) < n) = true := decide_eq_true h2
    have HB := Aside0.mk h2
    clear h1 h2
    go_enter Tryz.func24, Tryz.ntmps24
    go_wp2_with (fail)
    refine bodyPost_ret (results_tmp2 rfl _ _ _) rfl ?_
    exact .inl ⟨by have := HB.out; have := HSS.out; omega, rfl, Below.refl _ _⟩
  have hq2 : decide ((S : Int) < n) = false := decide_eq_false h2
  by_cases h3 : fr < 0
  · have hq3 : decide (fr < 0) = true := decide_eq_true h3
    have HB := Aside0.mk h3
    clear h1 h2 h3
    go_enter Tryz.func24, Tryz.ntmps24
    go_wp2_with (fail)
    refine bodyPost_ret (results_tmp2 rfl _ _ _) rfl ?_
    exact .inl ⟨by have := HB.out; omega, rfl, Below.refl _ _⟩
  have hq3 : decide (fr < 0) = false := decide_eq_false h3
  by_cases h4 : (S : Int) < fr
  · have hq4 : decide ((S : Int) < fr) = true := decide_eq_true h4
    have HB := Aside0.mk (show ¬ fr + 2 * n ≤ (S : Int) by omega)
    clear h1 h2 h3 h4
    go_enter Tryz.func24, Tryz.ntmps24
    go_wp2_with (fail)
    refine bodyPost_ret (results_tmp2 rfl _ _ _) rfl ?_
    exact .inl ⟨by have := HB.out; have := HSS.out; omega, rfl, Below.refl _ _⟩
  have hq4 : decide ((S : Int) < fr) = false := decide_eq_false h4
  have hn0 : 0 ≤ n := by omega
  have hnS : n ≤ 1000 := by omega
  have hf0 : 0 ≤ fr := by omega
  have hfS : fr ≤ 1000 := by omega
  by_cases h5 : (S : Int) < fr + 2 * n
  · have hq5 : decide ((S : Int) < fr + 2 * n) = true := decide_eq_true h5
    have HB := Aside0.mk (show ¬ fr + 2 * n ≤ (S : Int) by omega)
    clear h1 h2 h3 h4 h5
    go_enter Tryz.func24, Tryz.ntmps24
    go_wp2_with (fail)
    refine bodyPost_ret (results_tmp2 rfl _ _ _) rfl ?_
    exact .inl ⟨by have := HB.out; have := HSS.out; omega, rfl, Below.refl _ _⟩
  · have hq5 : decide ((S : Int) < fr + 2 * n) = false := decide_eq_false h5
    have HB := Aside0.mk (show 2 ≤ n ∧ 0 ≤ fr ∧ fr + 2 * n ≤ (S : Int) by omega)
    clear h1 h2 h3 h4 h5
    go_enter Tryz.func24, Tryz.ntmps24
    go_wp2_with (fail)
    refine bodyPost_ret (results_tmp2 rfl _ _ _) rfl ?_
    refine .inr ⟨by rw [HSS.out]; exact HB.out, w.heap.size, rfl, ⟨heap_alloc_new w _, HD.out.frame (G := fun _ => False) (Upd.of_below (below_alloc (Below.refl _ _) _)) (fun _ _ h => h) (fun _ h => h.elim), fun h => by have := HLT.out _ h; omega⟩, Nat.le_refl _, below_alloc (Below.refl _ _) _⟩

end Go.Proofs.YtmblnflfklmmkaaGreatDoor.Sh
/- Contracts of the reference's store: Put. -/
namespace Go.Proofs.YtmblnflfklmmkaaGreatDoor.Sh
open Go.Proofs.YtmblnflfklmmkaaGreatDoor.Dk
open Go.RowKit Go.Proofs.YtmblnflfklmmkaaGreatDoorW.PrintWords Go.Proofs.YtmblnflfklmmkaaGreatDoorW.PrintLast Go.Proofs.YtmblnflfklmmkaaGreatDoorW.PrintMore
set_option linter.unusedVariables false
set_option linter.unusedSimpArgs false
set_option maxRecDepth 30000
variable {w w0 w1 w2 w' wr : World} {B t g2 : Nat} {F2 : Nat → Prop} {R R' : RM} {fr n q k : Int} {v : Value} {xs ys b : List Int}
def rstepM (R : RM) (k : Int) (x : List Int) : RM × Int := if (rsaveM R k x).2 ≠ 0 then rsaveM R k x else rflushM (rsaveM R k x).1
def rputT (ps : List (Int × List Int)) (R : RM) : RM × Int := match ps with
  | [] => (R, 0)
  | p :: ps => if (rstepM R p.1 p.2).2 ≠ 0 then rstepM R p.1 p.2 else rputT ps (rstepM R p.1 p.2).1
def rto (st : Int) (fr n : Int) : Int := if st = 0 then fr + n else fr
def rputM (R : RM) (fr n : Int) (x : List Int) : RM × Int :=
  if R.down = true then (R, 60)
  else if 64 * n - 64 < (x.length : Int) ∨ (rnewestM R fr n).2.1 = 18446744073709551615 then (R, 2)
  else rputT [(rto (rnewestM R fr n).1 fr n, zer64), (rto (rnewestM R fr n).1 fr n + 1, x), (rto (rnewestM R fr n).1 fr n, rheadM ((rnewestM R fr n).2.1 + 1) x)] R
/-- What a Put leaves. -/
def TPo (w w' : World) (B t g2 : Nat) (F2 : Nat → Prop) (R R' : RM) (fr n : Int) (m : Nat) : Prop := ∃ F', (∀ k, F' k → F2 k ∨ w.heap.size ≤ k) ∧ TAt w' B t g2 F' R' fr n ∧ TOk R' fr n ∧ R'.wait.length ≤ R.wait.length + m ∧ Upd w w' F2
theorem TPo.refl (h : TAt w B t g2 F2 R fr n) (hk : TOk R fr n) (m : Nat) : TPo w w B t g2 F2 R R fr n m := ⟨F2, fun _ h => .inl h, h, hk, Nat.le_add_right _ _, Upd.refl _ _⟩
theorem TPo.le {m m' : Nat} (h : TPo w w1 B t g2 F2 R R' fr n m) (hm : m ≤ m') : TPo w w1 B t g2 F2 R R' fr n m' := by
  obtain ⟨F', h1, h2, h3, h4, h5⟩ := h
  exact ⟨F', h1, h2, h3, by omega, h5⟩
theorem TPo.below (h : TAt w B t g2 F2 R fr n) (hk : TOk R fr n) (hb : Below w.heap.size w w1) (m : Nat) : TPo w w1 B t g2 F2 R R fr n m := ⟨F2, fun _ h => .inl h, h.below hb, hk, Nat.le_add_right _ _, Upd.of_below hb⟩
/-- What the loop over the three places reads. -/
structure Pl (W : World) (t g2 bp bt gz cz : Nat) (q : Int) (A : Option Addr) (c : Nat) (x : List Int) (gh ch : Nat) (h : List Int) : Prop where
  d : W.cell? ⟨t, 0, none⟩ = some (.pointer (some ⟨g2, 0, none⟩))
  p0 : W.cell? ⟨bp, 0, none⟩ = some (.int .i64 q)
  p1 : W.cell? ⟨bp, 1, none⟩ = some (.int .i64 (q + 1))
  p2 : W.cell? ⟨bp, 2, none⟩ = some (.int .i64 q)
  t0 : W.cell? ⟨bt, 0, none⟩ = some (.slice (some ⟨gz, 0, none⟩) 64 cz)
  t1 : W.cell? ⟨bt, 1, none⟩ = some (.slice A x.length c)
  t2 : W.cell? ⟨bt, 2, none⟩ = some (.slice (some ⟨gh, 0, none⟩) 64 ch)
  z : C8 W (some ⟨gz, 0, none⟩) zer64
  x : C8 W A x
  h : C8 W (some ⟨gh, 0, none⟩) h
theorem Pl.drew {t bp bt gz cz : Nat} {A : Option Addr} {c : Nat} {x : List Int} {gh ch : Nat} {h : List Int} (H : Pl w t g2 bp bt gz cz q A c x gh ch h) : Pl w.drew t g2 bp bt gz cz q A c x gh ch h :=
  ⟨H.d, H.p0, H.p1, H.p2, H.t0, H.t1, H.t2, Kd.C_below H.z (below_drew (Below.refl _ _)), Kd.C_below H.x (below_drew (Below.refl _ _)), Kd.C_below H.h (below_drew (Below.refl _ _))⟩
theorem max_ne : ∀ g : Int, ¬ g = 18446744073709551615 → 0 ≤ g ∧ g ≤ 18446744073709551615 → 0 ≤ g + 1 ∧ g + 1 ≤ 18446744073709551615 := fun g h1 h2 => by omega
theorem newest_range : 0 ≤ (rnewestM R fr n).2.1 ∧ (rnewestM R fr n).2.1 ≤ 18446744073709551615 := by
  have h0 := rareaM_range (R := R) (fr := fr) (n := n) 0
  have h1 := rareaM_range (R := R) (fr := fr) (n := n) 1
  unfold rnewestM pickM
  split
  · exact ⟨by decide, by decide⟩
  · split
    · exact h0
    · exact h1
/-- Bytes that can be read, in block g. -/
structure RdB (w : World) (q g : Nat) (xs : List Int) : Prop where
  C : C8 w (some ⟨g, 0, none⟩) xs
  lo : q ≤ g
  lt : g < w.heap.size
theorem rd_b {q : Nat} {v : Value} {xs : List Int} (h : Row8 w q v xs) (hl : xs.length = 64) : ∃ g c, v = .slice (some ⟨g, 0, none⟩) 64 c ∧ RdB w q g xs ∧ 64 ≤ c := by
  obtain ⟨g, c, e, h1, h2, hc, _⟩ := h.form (by omega)
  subst e
  rw [hl] at h ⊢
  exact ⟨g, c, rfl, ⟨(Row8.C h).2.2, h1, h2⟩, by omega⟩
theorem run_make64 (W : World) : (Instr.makeSlice 22 (.int .i64 64) (.int .i64 64)).run Tryz.prog W = .ok (.slice (some ⟨W.heap.size, 0, none⟩) 64 64) (W.alloc (.cells (nums .u8 zer64).toArray 5)) := by kernel_rfl
theorem build3 (v1 v2 v3 : Option Addr × Nat × Nat) (w : World) : (Instr.buildSlice 65 3 #[(0, .slice v1.1 v1.2.1 v1.2.2), (1, .slice v2.1 v2.2.1 v2.2.2), (2, .slice v3.1 v3.2.1 v3.2.2)]).run Tryz.prog w = .ok (.slice (some ⟨w.heap.size, 0, none⟩) 3 3) (w.alloc (.cells #[.slice v1.1 v1.2.1 v1.2.2, .slice v2.1 v2.2.1 v2.2.2, .slice v3.1 v3.2.1 v3.2.2] 22)) := by kernel_rfl
/-- The zeros and the head, whichever was made first. -/
structure Zh (W w' : World) (gz gh ch : Nat) (hd : List Int) : Prop where
  c : 64 ≤ ch
  z : RdB w' W.heap.size gz zer64
  h : RdB w' W.heap.size gh hd
  b : Below W.heap.size W w'
theorem RdB.below {q g : Nat} {xs : List Int} (h : RdB w q g xs) (hb : Below w.heap.size w w1) : RdB w1 q g xs := ⟨Kd.C_below h.C hb, h.lo, Nat.lt_of_lt_of_le h.lt hb.size⟩
theorem zrow (W : World) : RdB (W.alloc (.cells (nums .u8 zer64).toArray 5)) W.heap.size W.heap.size zer64 :=
  ⟨C_block (heap_alloc_new W _) zer64_le, Nat.le_refl _, blk_lt (heap_alloc_new W _)⟩
theorem zh_1 {W w6 : World} {g6 c6 : Nat} {hd : List Int} (hc : 64 ≤ c6) (hb : Below (W.drew.alloc (.cells (nums .u8 zer64).toArray 5)).heap.size (W.drew.alloc (.cells (nums .u8 zer64).toArray 5)) w6) (hk : RdB w6 (W.drew.alloc (.cells (nums .u8 zer64).toArray 5)).heap.size g6 hd) : Zh W w6 W.heap.size g6 c6 hd := by
  have hz := (zrow W.drew).below hb
  have hba : Below W.heap.size W (W.drew.alloc (.cells (nums .u8 zer64).toArray 5)) := below_alloc (below_drew (Below.refl _ _)) _
  exact ⟨hc, hz, ⟨hk.C, Nat.le_trans hba.size hk.lo, hk.lt⟩, below_trans hba hb⟩
theorem zh_2 {W w6 : World} {g6 c6 : Nat} {hd : List Int} (hc : 64 ≤ c6) (hb : Below W.drew.heap.size W.drew w6) (hk : RdB w6 W.drew.heap.size g6 hd) : Zh W (w6.alloc (.cells (nums .u8 zer64).toArray 5)) w6.heap.size g6 c6 hd := by
  have hbw : Below W.heap.size W w6 := ⟨hb.os, hb.tape, hb.output, hb.size, hb.block⟩
  have hz := zrow w6
  refine ⟨hc, ⟨hz.C, Nat.le_trans hbw.size hz.lo, hz.lt⟩, hk.below (below_alloc (Below.refl _ _) _), below_alloc hbw _⟩
def stepped (R : RM) (R' : RM) (m : Nat) : Prop := ROk R' ∧ R'.wait.length ≤ R.wait.length + m ∧ R'.sec.length = R.sec.length
/-- In the loop over the places. -/
structure Lp3 (wL W : World) (B g2 : Nat) (F2 : Nat → Prop) (R : RM) (F' : Nat → Prop) (R' : RM) (m : Nat) : Prop where
  hF : ∀ k, F' k → F2 k ∨ wL.heap.size ≤ k
  r : RefAt W B g2 F' R'
  st : stepped R R' m
  u : Upd wL W F2
theorem Lp3.next {wL W W4 : World} {F' : Nat → Prop} {R'' : RM} {m d : Nat} (h : Lp3 wL W B g2 F2 R F' R' m) (hto : RefTo W W4 B g2 F' R' d R'') : ∃ F'', Lp3 wL W4 B g2 F2 R F'' R'' (m + d) := by
  obtain ⟨F'', h1, h2, h3, h4, h5, h6⟩ := hto
  refine ⟨F'', ⟨fun k hk => ?_, h2, ⟨h3, ?_, h5.trans h.st.2.2⟩, h.u.trans h6 h.hF⟩⟩
  · rcases h1 k hk with hk | hk
    · exact h.hF k hk
    · exact .inr (Nat.le_trans h.u.size hk)
  · have := h.st.2.1
    omega
theorem Lp3.ok {wL W : World} {F' : Nat → Prop} {m : Nat} (h : Lp3 wL W B g2 F2 R F' R' m) : ROk R' := h.st.1
theorem Lp3.le {wL W : World} {F' : Nat → Prop} {m m' : Nat} (h : Lp3 wL W B g2 F2 R F' R' m) (hm : m ≤ m') : Lp3 wL W B g2 F2 R F' R' m' := ⟨h.hF, h.r, ⟨h.st.1, Nat.le_trans h.st.2.1 (by omega), h.st.2.2⟩, h.u⟩
theorem Lp3.drew {wL W : World} {F' : Nat → Prop} {m : Nat} (h : Lp3 wL W B g2 F2 R F' R' m) : Lp3 wL W.drew B g2 F2 R F' R' m := ⟨h.hF, h.r.frame (G := fun _ => False) (Upd.of_below (below_drew (Below.refl _ _))) (fun _ _ h => h) (fun _ h => h.elim), h.st, h.u.drew⟩
theorem Lp3.post {wL W : World} {F' : Nat → Prop} {m : Nat} (h : Lp3 wL W B g2 F2 R F' R' m) (HT : TAt w B t g2 F2 R fr n) (HK : TOk R fr n) (hb : Below w.heap.size w wL) : TPo w W B t g2 F2 R R' fr n m := by
  have hu : Upd w W F2 := (Upd.of_below hb).trans h.u (fun _ h => .inl h)
  refine ⟨F', fun k hk => (h.hF k hk).imp id (fun hk => Nat.le_trans hb.size hk), ⟨(hu.block t (blk_lt HT.blk) HT.nF).trans HT.blk, h.r, fun hk => ?_⟩, HK.dm h.st.1 h.st.2.2, h.st.2.1, hu⟩
  rcases h.hF t hk with hk | hk
  · exact HT.nF hk
  · have := blk_lt HT.blk
    have := hb.size
    omega
theorem rput_save {p : Int} {y : List Int} {ps : List (Int × List Int)} (h : (rsaveM R p y).2 ≠ 0) : rputT ((p, y) :: ps) R = rsaveM R p y := by
  have e : rstepM R p y = rsaveM R p y := if_pos h
  show (if (rstepM R p y).2 ≠ 0 then rstepM R p y else _) = _
  rw [e, if_pos h]
theorem rput_flush {p : Int} {y : List Int} {ps : List (Int × List Int)} (h : (rsaveM R p y).2 = 0) (h2 : (rflushM (rsaveM R p y).1).2 ≠ 0) : rputT ((p, y) :: ps) R = rflushM (rsaveM R p y).1 := by
  have e : rstepM R p y = rflushM (rsaveM R p y).1 := if_neg (by rw [h]; simp)
  show (if (rstepM R p y).2 ≠ 0 then rstepM R p y else _) = _
  rw [e, if_pos h2]
theorem rput_on {p : Int} {y : List Int} {ps : List (Int × List Int)} (h : (rsaveM R p y).2 = 0) (h2 : (rflushM (rsaveM R p y).1).2 = 0) : rputT ((p, y) :: ps) R = rputT ps (rflushM (rsaveM R p y).1).1 := by
  have e : rstepM R p y = rflushM (rsaveM R p y).1 := if_neg (by rw [h]; simp)
  show (if (rstepM R p y).2 ≠ 0 then rstepM R p y else _) = _
  rw [e, if_neg (by rw [h2]; simp)]
theorem pl_of {wL w8 wP : World} {bp gz gh ch c : Nat} {A : Option Addr} {x hd : List Int} (HT : TAt w B t g2 F2 R fr n) (HC : ∀ W, Upd w W F2 → C8 W A x) (hbp : Below w.heap.size w wP) (hp : wP.heap[bp]? = some (.cells #[.int .i64 q, .int .i64 (q + 1), .int .i64 q] 3 (0, 0))) (hps : w.heap.size ≤ bp) (hz : Zh wP w8 gz gh ch hd)
    (hL : wL = w8.alloc (.cells #[.slice (some ⟨gz, 0, none⟩) 64 64, .slice A x.length c, .slice (some ⟨gh, 0, none⟩) 64 ch] 22)) : ∀ W, Upd wL W F2 → Pl W t g2 bp w8.heap.size gz 64 q A c x gh ch hd := by
  intro W hW
  have h8L : Below w8.heap.size w8 wL := by rw [hL]; exact below_alloc (Below.refl _ _) _
  have hb8 : Below w.heap.size w w8 := below_trans hbp hz.b
  have hbL : Below w.heap.size w wL := below_trans hb8 h8L
  have hlo : ∀ k, F2 k → k < w.heap.size := fun k hk => (HT.r.lo k hk).2
  have hu : Upd w W F2 := (Upd.of_below hbL).trans hW (fun _ h => .inl h)
  have ht := (hu.block t (blk_lt HT.blk) HT.nF).trans HT.blk
  have hpW : W.heap[bp]? = some (.cells #[.int .i64 q, .int .i64 (q + 1), .int .i64 q] 3 (0, 0)) := by
    have h1 := (hz.b.block bp (blk_lt hp)).trans hp
    have h2 := (h8L.block bp (blk_lt h1)).trans h1
    exact (hW.block bp (blk_lt h2) (fun h => by have := hlo _ h; omega)).trans h2
  have htW : W.heap[w8.heap.size]? = some (.cells #[.slice (some ⟨gz, 0, none⟩) 64 64, .slice A x.length c, .slice (some ⟨gh, 0, none⟩) 64 ch] 22 (0, 0)) := by
    have h1 : wL.heap[w8.heap.size]? = some (.cells #[.slice (some ⟨gz, 0, none⟩) 64 64, .slice A x.length c, .slice (some ⟨gh, 0, none⟩) 64 ch] 22 (0, 0)) := by rw [hL]; exact heap_alloc_new _ _
    exact (hW.block _ (blk_lt h1) (fun h => by have := hlo _ h; have := hb8.size; omega)).trans h1
  have hzW : C8 W (some ⟨gz, 0, none⟩) zer64 := C8.upd (Kd.C_below hz.z.C h8L) hW (fun a ha => by
    injection ha with ha
    subst ha
    exact ⟨Nat.lt_of_lt_of_le hz.z.lt h8L.size, fun h => by have h1 : gz < _ := hlo _ h; have := hz.z.lo; have := hbp.size; omega⟩)
  have hhW : C8 W (some ⟨gh, 0, none⟩) hd := C8.upd (Kd.C_below hz.h.C h8L) hW (fun a ha => by
    injection ha with ha
    subst ha
    exact ⟨Nat.lt_of_lt_of_le hz.h.lt h8L.size, fun h => by have h1 : gh < _ := hlo _ h; have := hz.h.lo; have := hbp.size; omega⟩)
  refine ⟨by simp [World.cell?, ht], by simp [World.cell?, hpW], by simp [World.cell?, hpW], by simp [World.cell?, hpW], by simp [World.cell?, htW], by simp [World.cell?, htW], by simp [World.cell?, htW], hzW, HC W hu, hhW⟩

set_option maxHeartbeats 16000000 in
theorem rPut_calls (h : TAt w B t g2 F2 R fr n) (hk : TOk R fr n) (hB : B ≤ w.heap.size) (hw : R.wait.length ≤ 5000000) (A : Option Addr) (c : Nat) (x : List Int) (hx : x.length ≤ 20000) (hxc : x.length ≤ c) (hC : ∀ W, Upd w W F2 → C8 W A x) :
    Calls Tryz.prog 28 #[.pointer (some ⟨t, 0, none⟩), .slice A x.length c] w fun e w' => e = .returned (.int .i64 (rputM R fr n x).2) ∧ TPo w w' B t g2 F2 R (rputM R fr n x).1 fr n (3 * (x.length + 64)) := by
  have HT := Aside0.mk h
  have HK := Aside0.mk hk
  have HC := Aside0.mk hC
  have HB := Aside0.mk hB
  have HW := Aside0.mk hw
  have HXC := Aside0.mk hxc
  have hc0 := h.c0
  obtain ⟨vs, vh, vc, hR⟩ := h.r
  have hc2 := hR.c2
  clear h hk hC hB hR hw hxc
  cases hd : R.down with
  | true =>
    rw [hd] at hc2
    have HE := Aside0.mk (show rputM R fr n x = (R, 60) by rw [rputM, if_pos hd])
    rw [HE.out]
    clear hd
    go_enter Tryz.func28, Tryz.ntmps28
    go_wp2_with (fail)
    go_ret
    exact ⟨rfl, .refl HT.out HK.out _⟩
  | false =>
    rw [hd] at hc2
    have HE := Aside0.mk (show rputM R fr n x = if 64 * n - 64 < (x.length : Int) ∨ (rnewestM R fr n).2.1 = 18446744073709551615 then (R, 2) else rputT [(rto (rnewestM R fr n).1 fr n, zer64), (rto (rnewestM R fr n).1 fr n + 1, x), (rto (rnewestM R fr n).1 fr n, rheadM ((rnewestM R fr n).2.1 + 1) x)] R by rw [rputM, if_neg (by rw [hd]; simp)])
    have HD := Aside0.mk hd
    clear hd
    have n1 := HK.out.hn
    have n2 : n ≤ 500 := by have := HK.out.hf; have := HK.out.hl; have := HK.out.hz; omega
    have HNW := Aside0.mk (rNewest_calls HT.out HK.out)
    obtain ⟨st, hst⟩ : ∃ st, rnewestM R fr n = st := ⟨_, rfl⟩
    have HGR := Aside0.mk (show 0 ≤ st.2.1 ∧ st.2.1 ≤ 18446744073709551615 from by rw [← hst]; exact newest_range)
    rw [hst] at HE HNW
    obtain ⟨T, hT⟩ : ∃ T, rputM R fr n x = T := ⟨_, rfl⟩
    rw [hT] at HE ⊢
    obtain ⟨at_, mo, rr⟩ := st
    dsimp only at HE HGR
    clear hst hT
    by_cases hl : 64 * n - 64 < (x.length : Int)
    · have tl : decide (64 * n - 64 < (x.length : Int)) = true := decide_eq_true hl
      have HE2 := Aside0.mk (HE.out.trans (if_pos (.inl hl)))
      rw [HE2.out]
      clear hl HE
      go_enter Tryz.func28, Tryz.ntmps28
      go_wp2_with (first | (go_at_call 26; (with_reducible refine (HNW.out).mono ?_); rintro e w1 ⟨v1, rfl, ⟨A1, c1, rfl, hc1, hC1⟩, hb1⟩; have HB1 := Aside0.mk hb1; have HRM := Aside0.mk (rRoom_calls (HT.out.below hb1) HK.out); have h1c0 := (HT.out.below hb1).c0; have h1c1 := (HT.out.below hb1).c1; have h1c2 := (HT.out.below hb1).c2; clear hb1 hc1 hC1) | (go_at_call 10; (with_reducible refine (HRM.out).mono ?_); rintro e w2 ⟨rfl, rfl⟩; skip))
      go_ret
      exact ⟨rfl, .below HT.out HK.out HB1.out _⟩
    have tl : decide (64 * n - 64 < (x.length : Int)) = false := decide_eq_false hl
    by_cases hm : mo = 18446744073709551615
    · subst hm
      have HE2 := Aside0.mk (HE.out.trans (if_pos (.inr rfl)))
      rw [HE2.out]
      clear hl HE
      go_enter Tryz.func28, Tryz.ntmps28
      go_wp2_with (first | (go_at_call 26; (with_reducible refine (HNW.out).mono ?_); rintro e w1 ⟨v1, rfl, ⟨A1, c1, rfl, hc1, hC1⟩, hb1⟩; have HB1 := Aside0.mk hb1; have HRM := Aside0.mk (rRoom_calls (HT.out.below hb1) HK.out); have h1c0 := (HT.out.below hb1).c0; have h1c1 := (HT.out.below hb1).c1; have h1c2 := (HT.out.below hb1).c2; clear hb1 hc1 hC1) | (go_at_call 10; (with_reducible refine (HRM.out).mono ?_); rintro e w2 ⟨rfl, rfl⟩; skip))
      go_ret
      exact ⟨rfl, .below HT.out HK.out HB1.out _⟩
    have tm : (mo == 18446744073709551615) = false := by simpa using hm
    have HG1 := Aside0.mk (max_ne mo hm HGR.out)
    have HE2 := Aside0.mk (HE.out.trans (if_neg (fun h => h.elim hl hm)))
    have hwm : IntKind.u64.wrap (mo + 1) = mo + 1 := by have := HG1.out; rw [wrap64u]; omega
    clear hl hm HE
    have hf0 := HK.out.hf
    have hf1 : fr ≤ 1000 := by have := HK.out.hl; have := HK.out.hz; omega
    have HX0 := Aside0.mk (show ∀ W, Below w.heap.size w W → C8 W A x from fun W hW => HC.out W (Upd.of_below hW))
    have HHL := Aside0.mk (rheadM_length (mo + 1) x)
    obtain ⟨hd, hhd⟩ : ∃ hd, rheadM (mo + 1) x = hd := ⟨_, rfl⟩
    have HHC := Aside0.mk (show ∀ W, Below w.heap.size w W → Calls Tryz.prog 47 #[.int .u64 (mo + 1), .slice A x.length c] W fun e w' => RowPo W w' hd e from fun W hW => by rw [← hhd]; exact Head_calls HG1.out.1 HG1.out.2 A c x (by omega) (HX0.out W hW))
    rw [hhd] at HE2 HHL
    clear hhd
    by_cases hat : at_ = 0
    · subst hat
      obtain ⟨q, hq⟩ : ∃ q, q = fr + n := ⟨_, rfl⟩
      have hwq : wrap64 (fr + n) = q := by rw [hq]; simp only [wrap64]; omega
      have HE3 := Aside0.mk (show T = rputT [(q, zer64), (q + 1, x), (q, hd)] R from by rw [HE2.out, show rto 0 fr n = q from hq.symm])
      have hq0 : 0 ≤ q := by omega
      have hq1 : q ≤ 2000 := by omega
      clear hq HE2
      go_enter Tryz.func28, Tryz.ntmps28
      go_wp2_with (first | (go_at_call 26; (with_reducible refine (HNW.out).mono ?_); rintro e w1 ⟨v1, rfl, ⟨A1, c1, rfl, hc1, hC1⟩, hb1⟩; have HB1 := Aside0.mk hb1; have HRM := Aside0.mk (rRoom_calls (HT.out.below hb1) HK.out); have h1c0 := (HT.out.below hb1).c0; have h1c1 := (HT.out.below hb1).c1; have h1c2 := (HT.out.below hb1).c2; clear hb1 hc1 hC1) | (go_at_call 10; (with_reducible refine (HRM.out).mono ?_); rintro e w2 ⟨rfl, rfl⟩; skip))
      refine start_ (n := 10) (S := fun w' => w'.cell? ⟨t, 1, none⟩ = some (.int .i64 fr) ∧ w'.cell? ⟨t, 2, none⟩ = some (.int .i64 n)) (ds := []) (bz 10 0) (by kernel_rfl) rfl rfl ⟨h1c1, h1c2⟩ (fun hHeld => ?_)
      refine pz 0 (some 42) (bz 10 1) ?_
      refine pz 1 (some 43) (bz 10 3) ?_
      refine pz 2 (some 44) (bz 10 7) ?_
      refine pz 4 (some 46) (bz 10 23) ?_
      refine pz 5 (some 47) (bz 10 55) ?_
      refine pz 6 (some 48) (bz 10 119) ?_
      refine tz2 3 (some 45) (bz 10 127) hHeld ?_
      refine tz2 7 (some 49) (bz 10 255) hHeld ?_
      refine pz 8 (some 50) (bz 10 511) ?_
      refine pz 9 (some 8) (bz 10 1023) ?_
      refine done_ (by kernel_rfl) ?_
      clear hHeld
      go_wp2_with (fail)
      obtain ⟨wP, hwP⟩ : ∃ wP, wP = (World.alloc w1 (.cells #[.int .i64 q, .int .i64 (q + 1), .int .i64 q] 3)).drew := ⟨_, rfl⟩
      have HBP := Aside0.mk (show Below w.heap.size w wP from by rw [hwP]; exact below_drew (below_alloc HB1.out _))
      have HPB := Aside0.mk (show wP.heap[w1.heap.size]? = some (.cells #[.int .i64 q, .int .i64 (q + 1), .int .i64 q] 3 (0, 0)) from by rw [hwP]; exact heap_alloc_new w1 _)
      have HPS := Aside0.mk HB1.out.size
      obtain ⟨bp, hbp⟩ : ∃ bp, bp = w1.heap.size := ⟨_, rfl⟩
      simp only [← hwP, ← hbp]
      rw [← hbp] at HPB HPS
      clear hwP hbp
      have HBD := Aside0.mk (show Below w.heap.size w wP.drew from HBP.out.trans (below_drew (Below.refl _ _)))
      refine start_ (n := 8) (S := fun w' => True) (ds := []) (bz 8 0) (by kernel_rfl) rfl rfl trivial (fun hHeld => ?_)
      refine pz 1 (some 57) (bz 8 2) ?_
      refine pz 2 (some 58) (bz 8 6) ?_
      refine pz 3 (some 59) (bz 8 14) ?_
      refine pz 4 (some 60) (bz 8 30) ?_
      refine join_ (σ := Nat × Nat × Nat) 2 (bz 8 63) (fun s => [(56, .slice (some ⟨s.1, 0, none⟩) 64 64), (61, .slice (some ⟨s.2.1, 0, none⟩) 64 s.2.2)]) (fun s w' => Zh wP w' s.1 s.2.1 s.2.2 hd) ?_ ?_
      rotate_left
      · intro hCont
        refine two_ (i := 0) (j := 5) (Ni := some 56) (Nj := some 61) (bz 8 31) (bz 8 62) rfl rfl rfl rfl (by kernel_rfl) (by decide) (by decide) (fun K hK => ?_) (fun K hK => ?_)
        · skip
          refine value_ (w1 := wP.drew.alloc (.cells (nums .u8 zer64).toArray 5)) (v := .slice (some ⟨wP.heap.size, 0, none⟩) 64 64) (by rfl) rfl (exec_make (t := 22) rfl (by rfl) (by rfl) (run_make64 wP.drew)) ?_
          have HBZ := Aside0.mk (below_alloc HBD.out (.cells (nums .u8 zer64).toArray 5))
          refine hK.out _ _ trivial (fun hHeld => ?_)
          clear hK K
          refine norm_ (a' := ?_) ?_ ?_
          rotate_left
          · show Act.put _ (some 56) _ = _
            simp only [Act.put, List.setIfInBounds_toArray, List.set_cons_zero, List.set_cons_succ, i64_w, i32_w]
            rfl
          refine one_ (i := 5) (N := some 61) (bz 8 63) rfl rfl (by kernel_rfl) (by decide) (fun K hK => ?_)
          refine goes_ Tryz.func47 (by kernel_rfl) rfl #[.int .u64 (mo + 1), .slice A x.length c] (by rfl) rfl rfl (by simp only [List.map_toArray, List.map_cons, List.map_nil]; rfl) ?_
          with_reducible refine (HHC.out _ HBZ.out).mono ?_
          rintro e w6 ⟨v6, rfl, hr6, hb6⟩
          refine ⟨_, rfl, ?_⟩
          obtain ⟨g6, c6, rfl, hk6, hc6⟩ : ∃ g c, v6 = .slice (some ⟨g, 0, none⟩) 64 c ∧ RdB w6 _ g hd ∧ 64 ≤ c := rd_b hr6 HHL.out
          refine hK.out _ _ trivial (fun hHeld => ?_)
          clear hK K
          refine norm_ (a' := ?_) ?_ ?_
          rotate_left
          · show Act.put _ (some 61) _ = _
            simp only [Act.put, List.setIfInBounds_toArray, List.set_cons_zero, List.set_cons_succ, i64_w, i32_w]
            rfl
          exact norm_ (by simp only [putAll, Act.put, List.setIfInBounds_toArray, List.set_cons_zero, List.set_cons_succ]) (hCont (wP.heap.size, g6, c6) _ (zh_1 (W := wP) hc6 hb6 hk6))
        · skip
          refine goes_ Tryz.func47 (by kernel_rfl) rfl #[.int .u64 (mo + 1), .slice A x.length c] (by rfl) rfl rfl (by simp only [List.map_toArray, List.map_cons, List.map_nil]; rfl) ?_
          with_reducible refine (HHC.out _ HBD.out).mono ?_
          rintro e w6 ⟨v6, rfl, hr6, hb6⟩
          refine ⟨_, rfl, ?_⟩
          obtain ⟨g6, c6, rfl, hk6, hc6⟩ : ∃ g c, v6 = .slice (some ⟨g, 0, none⟩) 64 c ∧ RdB w6 _ g hd ∧ 64 ≤ c := rd_b hr6 HHL.out
          have HB6 := Aside0.mk (HBD.out.trans (hb6.mono HBD.out.size))
          refine hK.out _ _ trivial (fun hHeld => ?_)
          clear hK K
          refine norm_ (a' := ?_) ?_ ?_
          rotate_left
          · show Act.put _ (some 61) _ = _
            simp only [Act.put, List.setIfInBounds_toArray, List.set_cons_zero, List.set_cons_succ, i64_w, i32_w]
            rfl
          refine one_ (i := 0) (N := some 56) (bz 8 63) rfl rfl (by kernel_rfl) (by decide) (fun K hK => ?_)
          refine value_ (w1 := w6.alloc (.cells (nums .u8 zer64).toArray 5)) (v := .slice (some ⟨w6.heap.size, 0, none⟩) 64 64) (by rfl) rfl (exec_make (t := 22) rfl (by rfl) (by rfl) (run_make64 w6)) ?_
          refine hK.out _ _ trivial (fun hHeld => ?_)
          clear hK K
          refine norm_ (a' := ?_) ?_ ?_
          rotate_left
          · show Act.put _ (some 56) _ = _
            simp only [Act.put, List.setIfInBounds_toArray, List.set_cons_zero, List.set_cons_succ, i64_w, i32_w]
            rfl
          exact norm_ (by simp only [putAll, Act.put, List.setIfInBounds_toArray, List.set_cons_zero, List.set_cons_succ]) (hCont (w6.heap.size, g6, c6) _ (zh_2 (W := wP) hc6 hb6 hk6))
      rintro ⟨gz, gh, ch⟩ w8 hZ
      have hHeld : True := trivial
      have HZ := Aside0.mk hZ
      clear hZ
      dsimp only at HZ ⊢
      refine norm_ (a' := ?_) ?_ ?_
      rotate_left
      · simp only [putAll, Act.put, List.setIfInBounds_toArray, List.set_cons_zero, List.set_cons_succ]
        rfl
      refine one_ (i := 6) (N := some 62) (bz 8 127) rfl rfl (by kernel_rfl) (by decide) (fun K hK => ?_)
      refine value_ (w1 := w8.alloc (.cells #[.slice (some ⟨gz, 0, none⟩) 64 64, .slice A x.length c, .slice (some ⟨gh, 0, none⟩) 64 ch] 22)) (v := .slice (some ⟨w8.heap.size, 0, none⟩) 3 3) (by rfl) rfl ?hbs ?_
      case hbs =>
        refine exec_buildSlice (t := 65) (n := 3) (parts := #[(0, .tmp 56), (1, .tmp 57), (2, .tmp 61)]) (args := #[(0, .slice (some ⟨gz, 0, none⟩) 64 64), (1, .slice A x.length c), (2, .slice (some ⟨gh, 0, none⟩) 64 ch)]) ?ho ?he ?hr
        case ho => rfl
        case he => kernel_rfl
        case hr => exact build3 (some ⟨gz, 0, none⟩, 64, 64) (A, x.length, c) (some ⟨gh, 0, none⟩, 64, ch) w8
      refine hK.out _ _ trivial (fun hHeld => ?_)
      clear hK K
      refine norm_ (a' := ?_) ?_ ?_
      rotate_left
      · show Act.put _ (some 62) _ = _
        simp only [Act.put, List.setIfInBounds_toArray, List.set_cons_zero, List.set_cons_succ, i64_w, i32_w]
        rfl
      refine pz 7 (some 10) (bz 8 255) ?_
      refine done_ (by kernel_rfl) ?_
      clear hHeld
      obtain ⟨wL, hwL⟩ : ∃ wL, wL = w8.alloc (.cells #[.slice (some ⟨gz, 0, none⟩) 64 64, .slice A x.length c, .slice (some ⟨gh, 0, none⟩) 64 ch] 22) := ⟨_, rfl⟩
      have HPL := Aside0.mk (pl_of HT.out HC.out HBP.out HPB.out HPS.out HZ.out hwL)
      have HBL := Aside0.mk (show Below w.heap.size w wL from by rw [hwL]; exact below_alloc (below_trans HBP.out HZ.out.b) _)
      have HLP := Aside0.mk (show Lp3 wL wL B g2 F2 R F2 R 0 from ⟨fun _ h => .inl h, HT.out.r.frame (G := fun _ => False) (Upd.of_below HBL.out) (fun _ _ h => h) (fun _ h => h.elim), ⟨HK.out.d, Nat.le_refl _, rfl⟩, Upd.refl _ _⟩)
      have HCH := Aside0.mk HZ.out.c
      obtain ⟨bt, hbt⟩ : ∃ bt, bt = w8.heap.size := ⟨_, rfl⟩
      rw [← hbt] at HPL
      have HT3 := Aside0.mk HE3.out.symm
      simp only [← hwL, ← hbt]
      clear hwL hbt HZ HPB HPS HBP HBD HE3
      try simp only [hwq]
      try clear hwq
      go_wp2_with (fail)
      go_loopw [11] (fun v11 w' => ∃ (i : Nat) (R' : RM) (F' : Nat → Prop), v11 = .int .i64 i ∧ i ≤ 3 ∧ Aside0 (Lp3 wL w' B g2 F2 R F' R' (i * (x.length + 64))) ∧ Aside0 (rputT (([(q, zer64), (q + 1, x), (q, hd)] : List (Int × List Int)).drop i) R' = T)) (fun v11 _ => 3 - (intOf v11).toNat)
      case atStart => exact ⟨0, R, F2, rfl, by decide, ⟨HLP.out.le (Nat.zero_le _)⟩, HT3⟩
      case round =>
        clear HLP HT3
        obtain ⟨i, R', F', rfl, hi, HLP, HTT⟩ := hrel
        have hcase : i = 0 ∨ i = 1 ∨ i = 2 ∨ i = 3 := by omega
        have HPW := Aside0.mk (HPL.out _ HLP.out.u)
        rcases hcase with rfl | rfl | rfl | rfl
        · have HLD := Aside0.mk HLP.out.drew
          have HPD := Aside0.mk HPW.out.drew
          have HTT0 := Aside0.mk (show rputT ((q, zer64) :: [(q + 1, x), (q, hd)]) R' = T from HTT.out)
          have HSV := Aside0.mk (calls_of_args (args' := #[.pointer (some ⟨g2, 0, none⟩), .int .i64 q, .slice (some ⟨gz, 0, none⟩) zer64.length 64]) (by rw [zer64_len]) (rTo_save HLD.out.r HLD.out.st.1 (by have h1 := HB.out; have h2 := HBL.out.size; have h3 := HLD.out.u.size; omega) q (some ⟨gz, 0, none⟩) 64 zer64 (by rw [zer64_len]; decide) (by rw [zer64_len]; decide) (by have h1 := HLD.out.st.2.1; have h2 := HW.out; have h3 := hx; rw [zer64_len]; omega) (fun W hW => (HPL.out W (HLD.out.u.trans hW HLD.out.hF)).z)))
          have hp0 := HPW.out.d
          obtain ⟨sv, hsv⟩ : ∃ sv, (rsaveM R' q zer64).2 = sv := ⟨_, rfl⟩
          have HSE := Lib.hid hsv
          by_cases hs0 : sv = 0
          · subst hs0
            obtain ⟨fv, hfv⟩ : ∃ fv, (rflushM (rsaveM R' q zer64).1).2 = fv := ⟨_, rfl⟩
            have HEF := Lib.hid hfv
            by_cases hf0 : fv = 0
            · subst hf0
              have HT4 := Aside0.mk ((rput_on hsv hfv).symm.trans HTT0.out)
              clear hsv hfv
              rw [HSE.out] at HSV
              go_wp2_with (fail)
              refine start_ (n := 14) (S := fun w' => w'.cell? ⟨t, 0, none⟩ = some (.pointer (some ⟨g2, 0, none⟩)) ∧ w'.cell? ⟨bp, 0, none⟩ = some (.int .i64 q) ∧ w'.cell? ⟨bt, 0, none⟩ = some (.slice (some ⟨gz, 0, none⟩) 64 64)) (ds := []) (bz 14 0) (by kernel_rfl) rfl rfl ⟨HPD.out.d, HPD.out.p0, HPD.out.t0⟩ (fun hHeld => ?_)
              refine pz 0 (some 67) (bz 14 1) ?_
              refine pz 1 (some 68) (bz 14 3) ?_
              refine pz 2 (some 69) (bz 14 7) ?_
              refine pz 4 (some 71) (bz 14 23) ?_
              refine pz 5 (some 72) (bz 14 55) ?_
              refine pz 6 (some 73) (bz 14 119) ?_
              refine pz 8 (some 75) (bz 14 375) ?_
              refine pz 9 (some 76) (bz 14 887) ?_
              refine pz 10 (some 77) (bz 14 1911) ?_
              refine tz3 3 (some 70) (bz 14 1919) hHeld ?_
              refine tz3 7 (some 74) (bz 14 2047) hHeld ?_
              refine tz3 11 (some 78) (bz 14 4095) hHeld ?_
              refine one_ (i := 12) (N := some 79) (bz 14 8191) rfl rfl (by kernel_rfl) (by decide) (fun K hK => ?_)
              refine goes_ Tryz.func48 (by kernel_rfl) rfl #[.pointer (some ⟨g2, 0, none⟩), .int .i64 q, .slice (some ⟨gz, 0, none⟩) 64 64] (by rfl) rfl rfl (by simp only [List.map_toArray, List.map_cons, List.map_nil]; rfl) ?_
              with_reducible refine (HSV.out).mono ?_
              rintro e w4 ⟨rfl, hto⟩
              refine ⟨_, rfl, ?_⟩
              obtain ⟨F4, hl4⟩ := HLD.out.next hto
              have HL4 := Aside0.mk hl4
              have HP4 := Aside0.mk (HPL.out _ hl4.u)
              clear hto hl4
              refine hK.out _ _ ⟨HP4.out.d, HP4.out.p0, HP4.out.t0⟩ (fun hHeld => ?_)
              clear hK K
              refine norm_ (a' := ?_) ?_ ?_
              rotate_left
              · show Act.put _ (some 79) _ = _
                simp only [Act.put, List.setIfInBounds_toArray, List.set_cons_zero, List.set_cons_succ, i64_w, i32_w]
                rfl
              refine pz 13 (some 12) (bz 14 16383) ?_
              refine done_ (by kernel_rfl) ?_
              clear hHeld
              have h40 := HP4.out.d
              go_wp2_with (first | (go_at_call 38; (with_reducible refine (rTo_flush HL4.out.r HL4.out.ok).mono ?_); rintro e w5 ⟨rfl, hto5⟩; have HL5 := Aside0.mk (HL4.out.next hto5); have h5e := HEF.out; rw [h5e]; clear hto5))
              obtain ⟨F5, hl5⟩ := HL5.out
              have HL6 := Aside0.mk (hl5.le (m' := 1 * (x.length + 64)) (by rw [zer64_len]; omega))
              go_roundw
              case rel => exact ⟨1, _, F5, rfl, by decide, HL6, HT4⟩
              case measure => simp [intOf]
            · have tf : (fv == 0) = false := by simpa using hf0
              have HT4 := Aside0.mk ((rput_flush (ps := [(q + 1, x), (q, hd)]) hsv (by rw [hfv]; exact hf0)).symm.trans HTT0.out)
              have HT5 := Aside0.mk (show (rflushM (rsaveM R' q zer64).1).2 = T.2 ∧ (rflushM (rsaveM R' q zer64).1).1 = T.1 from ⟨by rw [HT4.out], by rw [HT4.out]⟩)
              clear hsv hfv hf0
              rw [HSE.out] at HSV
              go_wp2_with (fail)
              refine start_ (n := 14) (S := fun w' => w'.cell? ⟨t, 0, none⟩ = some (.pointer (some ⟨g2, 0, none⟩)) ∧ w'.cell? ⟨bp, 0, none⟩ = some (.int .i64 q) ∧ w'.cell? ⟨bt, 0, none⟩ = some (.slice (some ⟨gz, 0, none⟩) 64 64)) (ds := []) (bz 14 0) (by kernel_rfl) rfl rfl ⟨HPD.out.d, HPD.out.p0, HPD.out.t0⟩ (fun hHeld => ?_)
              refine pz 0 (some 67) (bz 14 1) ?_
              refine pz 1 (some 68) (bz 14 3) ?_
              refine pz 2 (some 69) (bz 14 7) ?_
              refine pz 4 (some 71) (bz 14 23) ?_
              refine pz 5 (some 72) (bz 14 55) ?_
              refine pz 6 (some 73) (bz 14 119) ?_
              refine pz 8 (some 75) (bz 14 375) ?_
              refine pz 9 (some 76) (bz 14 887) ?_
              refine pz 10 (some 77) (bz 14 1911) ?_
              refine tz3 3 (some 70) (bz 14 1919) hHeld ?_
              refine tz3 7 (some 74) (bz 14 2047) hHeld ?_
              refine tz3 11 (some 78) (bz 14 4095) hHeld ?_
              refine one_ (i := 12) (N := some 79) (bz 14 8191) rfl rfl (by kernel_rfl) (by decide) (fun K hK => ?_)
              refine goes_ Tryz.func48 (by kernel_rfl) rfl #[.pointer (some ⟨g2, 0, none⟩), .int .i64 q, .slice (some ⟨gz, 0, none⟩) 64 64] (by rfl) rfl rfl (by simp only [List.map_toArray, List.map_cons, List.map_nil]; rfl) ?_
              with_reducible refine (HSV.out).mono ?_
              rintro e w4 ⟨rfl, hto⟩
              refine ⟨_, rfl, ?_⟩
              obtain ⟨F4, hl4⟩ := HLD.out.next hto
              have HL4 := Aside0.mk hl4
              have HP4 := Aside0.mk (HPL.out _ hl4.u)
              clear hto hl4
              refine hK.out _ _ ⟨HP4.out.d, HP4.out.p0, HP4.out.t0⟩ (fun hHeld => ?_)
              clear hK K
              refine norm_ (a' := ?_) ?_ ?_
              rotate_left
              · show Act.put _ (some 79) _ = _
                simp only [Act.put, List.setIfInBounds_toArray, List.set_cons_zero, List.set_cons_succ, i64_w, i32_w]
                rfl
              refine pz 13 (some 12) (bz 14 16383) ?_
              refine done_ (by kernel_rfl) ?_
              clear hHeld
              have h40 := HP4.out.d
              go_wp2_with (first | (go_at_call 38; (with_reducible refine (rTo_flush HL4.out.r HL4.out.ok).mono ?_); rintro e w5 ⟨rfl, hto5⟩; have HL5 := Aside0.mk (HL4.out.next hto5); have h5e := HEF.out; rw [h5e]; clear hto5))
              obtain ⟨F5, hl5⟩ := HL5.out
              go_ret
              rw [← HT5.out.1, ← HT5.out.2, HEF.out]
              exact ⟨rfl, (hl5.post HT.out HK.out HBL.out).le (by rw [zer64_len]; omega)⟩
          · have ts : (sv == 0) = false := by simpa using hs0
            have HT4 := Aside0.mk ((rput_save (ps := [(q + 1, x), (q, hd)]) (by rw [hsv]; exact hs0)).symm.trans HTT0.out)
            have HT5 := Aside0.mk (show (rsaveM R' q zer64).2 = T.2 ∧ (rsaveM R' q zer64).1 = T.1 from ⟨by rw [HT4.out], by rw [HT4.out]⟩)
            clear hsv hs0
            rw [HSE.out] at HSV
            go_wp2_with (fail)
            refine start_ (n := 14) (S := fun w' => w'.cell? ⟨t, 0, none⟩ = some (.pointer (some ⟨g2, 0, none⟩)) ∧ w'.cell? ⟨bp, 0, none⟩ = some (.int .i64 q) ∧ w'.cell? ⟨bt, 0, none⟩ = some (.slice (some ⟨gz, 0, none⟩) 64 64)) (ds := []) (bz 14 0) (by kernel_rfl) rfl rfl ⟨HPD.out.d, HPD.out.p0, HPD.out.t0⟩ (fun hHeld => ?_)
            refine pz 0 (some 67) (bz 14 1) ?_
            refine pz 1 (some 68) (bz 14 3) ?_
            refine pz 2 (some 69) (bz 14 7) ?_
            refine pz 4 (some 71) (bz 14 23) ?_
            refine pz 5 (some 72) (bz 14 55) ?_
            refine pz 6 (some 73) (bz 14 119) ?_
            refine pz 8 (some 75) (bz 14 375) ?_
            refine pz 9 (some 76) (bz 14 887) ?_
            refine pz 10 (some 77) (bz 14 1911) ?_
            refine tz3 3 (some 70) (bz 14 1919) hHeld ?_
            refine tz3 7 (some 74) (bz 14 2047) hHeld ?_
            refine tz3 11 (some 78) (bz 14 4095) hHeld ?_
            refine one_ (i := 12) (N := some 79) (bz 14 8191) rfl rfl (by kernel_rfl) (by decide) (fun K hK => ?_)
            refine goes_ Tryz.func48 (by kernel_rfl) rfl #[.pointer (some ⟨g2, 0, none⟩), .int .i64 q, .slice (some ⟨gz, 0, none⟩) 64 64] (by rfl) rfl rfl (by simp only [List.map_toArray, List.map_cons, List.map_nil]; rfl) ?_
            with_reducible refine (HSV.out).mono ?_
            rintro e w4 ⟨rfl, hto⟩
            refine ⟨_, rfl, ?_⟩
            obtain ⟨F4, hl4⟩ := HLD.out.next hto
            have HL4 := Aside0.mk hl4
            have HP4 := Aside0.mk (HPL.out _ hl4.u)
            clear hto hl4
            refine hK.out _ _ ⟨HP4.out.d, HP4.out.p0, HP4.out.t0⟩ (fun hHeld => ?_)
            clear hK K
            refine norm_ (a' := ?_) ?_ ?_
            rotate_left
            · show Act.put _ (some 79) _ = _
              simp only [Act.put, List.setIfInBounds_toArray, List.set_cons_zero, List.set_cons_succ, i64_w, i32_w]
              rfl
            refine pz 13 (some 12) (bz 14 16383) ?_
            refine done_ (by kernel_rfl) ?_
            clear hHeld
            go_wp2_with (fail)
            go_ret
            rw [← HT5.out.1, ← HT5.out.2, HSE.out]
            exact ⟨rfl, (HL4.out.post HT.out HK.out HBL.out).le (by rw [zer64_len]; omega)⟩
        · have HLD := Aside0.mk HLP.out.drew
          have HPD := Aside0.mk HPW.out.drew
          have HTT0 := Aside0.mk (show rputT (((q + 1), x) :: [(q, hd)]) R' = T from HTT.out)
          have HSV := Aside0.mk ((rTo_save HLD.out.r HLD.out.st.1 (by have h1 := HB.out; have h2 := HBL.out.size; have h3 := HLD.out.u.size; omega) (q + 1) A c x (by omega) HXC.out (by have h1 := HLD.out.st.2.1; have h2 := HW.out; have h3 := hx; omega) (fun W hW => (HPL.out W (HLD.out.u.trans hW HLD.out.hF)).x)))
          have hp0 := HPW.out.d
          obtain ⟨sv, hsv⟩ : ∃ sv, (rsaveM R' (q + 1) x).2 = sv := ⟨_, rfl⟩
          have HSE := Lib.hid hsv
          by_cases hs0 : sv = 0
          · subst hs0
            obtain ⟨fv, hfv⟩ : ∃ fv, (rflushM (rsaveM R' (q + 1) x).1).2 = fv := ⟨_, rfl⟩
            have HEF := Lib.hid hfv
            by_cases hf0 : fv = 0
            · subst hf0
              have HT4 := Aside0.mk ((rput_on hsv hfv).symm.trans HTT0.out)
              clear hsv hfv
              rw [HSE.out] at HSV
              go_wp2_with (fail)
              refine start_ (n := 14) (S := fun w' => w'.cell? ⟨t, 0, none⟩ = some (.pointer (some ⟨g2, 0, none⟩)) ∧ w'.cell? ⟨bp, 1, none⟩ = some (.int .i64 (q + 1)) ∧ w'.cell? ⟨bt, 1, none⟩ = some (.slice A x.length c)) (ds := []) (bz 14 0) (by kernel_rfl) rfl rfl ⟨HPD.out.d, HPD.out.p1, HPD.out.t1⟩ (fun hHeld => ?_)
              refine pz 0 (some 67) (bz 14 1) ?_
              refine pz 1 (some 68) (bz 14 3) ?_
              refine pz 2 (some 69) (bz 14 7) ?_
              refine pz 4 (some 71) (bz 14 23) ?_
              refine pz 5 (some 72) (bz 14 55) ?_
              refine pz 6 (some 73) (bz 14 119) ?_
              refine pz 8 (some 75) (bz 14 375) ?_
              refine pz 9 (some 76) (bz 14 887) ?_
              refine pz 10 (some 77) (bz 14 1911) ?_
              refine tz3 3 (some 70) (bz 14 1919) hHeld ?_
              refine tz3 7 (some 74) (bz 14 2047) hHeld ?_
              refine tz3 11 (some 78) (bz 14 4095) hHeld ?_
              refine one_ (i := 12) (N := some 79) (bz 14 8191) rfl rfl (by kernel_rfl) (by decide) (fun K hK => ?_)
              refine goes_ Tryz.func48 (by kernel_rfl) rfl #[.pointer (some ⟨g2, 0, none⟩), .int .i64 (q + 1), .slice A x.length c] (by rfl) rfl rfl (by simp only [List.map_toArray, List.map_cons, List.map_nil]; rfl) ?_
              with_reducible refine (HSV.out).mono ?_
              rintro e w4 ⟨rfl, hto⟩
              refine ⟨_, rfl, ?_⟩
              obtain ⟨F4, hl4⟩ := HLD.out.next hto
              have HL4 := Aside0.mk hl4
              have HP4 := Aside0.mk (HPL.out _ hl4.u)
              clear hto hl4
              refine hK.out _ _ ⟨HP4.out.d, HP4.out.p1, HP4.out.t1⟩ (fun hHeld => ?_)
              clear hK K
              refine norm_ (a' := ?_) ?_ ?_
              rotate_left
              · show Act.put _ (some 79) _ = _
                simp only [Act.put, List.setIfInBounds_toArray, List.set_cons_zero, List.set_cons_succ, i64_w, i32_w]
                rfl
              refine pz 13 (some 12) (bz 14 16383) ?_
              refine done_ (by kernel_rfl) ?_
              clear hHeld
              have h40 := HP4.out.d
              go_wp2_with (first | (go_at_call 38; (with_reducible refine (rTo_flush HL4.out.r HL4.out.ok).mono ?_); rintro e w5 ⟨rfl, hto5⟩; have HL5 := Aside0.mk (HL4.out.next hto5); have h5e := HEF.out; rw [h5e]; clear hto5))
              obtain ⟨F5, hl5⟩ := HL5.out
              have HL6 := Aside0.mk (hl5.le (m' := 2 * (x.length + 64)) (by omega))
              go_roundw
              case rel => exact ⟨2, _, F5, rfl, by decide, HL6, HT4⟩
              case measure => simp [intOf]
            · have tf : (fv == 0) = false := by simpa using hf0
              have HT4 := Aside0.mk ((rput_flush (ps := [(q, hd)]) hsv (by rw [hfv]; exact hf0)).symm.trans HTT0.out)
              have HT5 := Aside0.mk (show (rflushM (rsaveM R' (q + 1) x).1).2 = T.2 ∧ (rflushM (rsaveM R' (q + 1) x).1).1 = T.1 from ⟨by rw [HT4.out], by rw [HT4.out]⟩)
              clear hsv hfv hf0
              rw [HSE.out] at HSV
              go_wp2_with (fail)
              refine start_ (n := 14) (S := fun w' => w'.cell? ⟨t, 0, none⟩ = some (.pointer (some ⟨g2, 0, none⟩)) ∧ w'.cell? ⟨bp, 1, none⟩ = some (.int .i64 (q + 1)) ∧ w'.cell? ⟨bt, 1, none⟩ = some (.slice A x.length c)) (ds := []) (bz 14 0) (by kernel_rfl) rfl rfl ⟨HPD.out.d, HPD.out.p1, HPD.out.t1⟩ (fun hHeld => ?_)
              refine pz 0 (some 67) (bz 14 1) ?_
              refine pz 1 (some 68) (bz 14 3) ?_
              refine pz 2 (some 69) (bz 14 7) ?_
              refine pz 4 (some 71) (bz 14 23) ?_
              refine pz 5 (some 72) (bz 14 55) ?_
              refine pz 6 (some 73) (bz 14 119) ?_
              refine pz 8 (some 75) (bz 14 375) ?_
              refine pz 9 (some 76) (bz 14 887) ?_
              refine pz 10 (some 77) (bz 14 1911) ?_
              refine tz3 3 (some 70) (bz 14 1919) hHeld ?_
              refine tz3 7 (some 74) (bz 14 2047) hHeld ?_
              refine tz3 11 (some 78) (bz 14 4095) hHeld ?_
              refine one_ (i := 12) (N := some 79) (bz 14 8191) rfl rfl (by kernel_rfl) (by decide) (fun K hK => ?_)
              refine goes_ Tryz.func48 (by kernel_rfl) rfl #[.pointer (some ⟨g2, 0, none⟩), .int .i64 (q + 1), .slice A x.length c] (by rfl) rfl rfl (by simp only [List.map_toArray, List.map_cons, List.map_nil]; rfl) ?_
              with_reducible refine (HSV.out).mono ?_
              rintro e w4 ⟨rfl, hto⟩
              refine ⟨_, rfl, ?_⟩
              obtain ⟨F4, hl4⟩ := HLD.out.next hto
              have HL4 := Aside0.mk hl4
              have HP4 := Aside0.mk (HPL.out _ hl4.u)
              clear hto hl4
              refine hK.out _ _ ⟨HP4.out.d, HP4.out.p1, HP4.out.t1⟩ (fun hHeld => ?_)
              clear hK K
              refine norm_ (a' := ?_) ?_ ?_
              rotate_left
              · show Act.put _ (some 79) _ = _
                simp only [Act.put, List.setIfInBounds_toArray, List.set_cons_zero, List.set_cons_succ, i64_w, i32_w]
                rfl
              refine pz 13 (some 12) (bz 14 16383) ?_
              refine done_ (by kernel_rfl) ?_
              clear hHeld
              have h40 := HP4.out.d
              go_wp2_with (first | (go_at_call 38; (with_reducible refine (rTo_flush HL4.out.r HL4.out.ok).mono ?_); rintro e w5 ⟨rfl, hto5⟩; have HL5 := Aside0.mk (HL4.out.next hto5); have h5e := HEF.out; rw [h5e]; clear hto5))
              obtain ⟨F5, hl5⟩ := HL5.out
              go_ret
              rw [← HT5.out.1, ← HT5.out.2, HEF.out]
              exact ⟨rfl, (hl5.post HT.out HK.out HBL.out).le (by omega)⟩
          · have ts : (sv == 0) = false := by simpa using hs0
            have HT4 := Aside0.mk ((rput_save (ps := [(q, hd)]) (by rw [hsv]; exact hs0)).symm.trans HTT0.out)
            have HT5 := Aside0.mk (show (rsaveM R' (q + 1) x).2 = T.2 ∧ (rsaveM R' (q + 1) x).1 = T.1 from ⟨by rw [HT4.out], by rw [HT4.out]⟩)
            clear hsv hs0
            rw [HSE.out] at HSV
            go_wp2_with (fail)
            refine start_ (n := 14) (S := fun w' => w'.cell? ⟨t, 0, none⟩ = some (.pointer (some ⟨g2, 0, none⟩)) ∧ w'.cell? ⟨bp, 1, none⟩ = some (.int .i64 (q + 1)) ∧ w'.cell? ⟨bt, 1, none⟩ = some (.slice A x.length c)) (ds := []) (bz 14 0) (by kernel_rfl) rfl rfl ⟨HPD.out.d, HPD.out.p1, HPD.out.t1⟩ (fun hHeld => ?_)
            refine pz 0 (some 67) (bz 14 1) ?_
            refine pz 1 (some 68) (bz 14 3) ?_
            refine pz 2 (some 69) (bz 14 7) ?_
            refine pz 4 (some 71) (bz 14 23) ?_
            refine pz 5 (some 72) (bz 14 55) ?_
            refine pz 6 (some 73) (bz 14 119) ?_
            refine pz 8 (some 75) (bz 14 375) ?_
            refine pz 9 (some 76) (bz 14 887) ?_
            refine pz 10 (some 77) (bz 14 1911) ?_
            refine tz3 3 (some 70) (bz 14 1919) hHeld ?_
            refine tz3 7 (some 74) (bz 14 2047) hHeld ?_
            refine tz3 11 (some 78) (bz 14 4095) hHeld ?_
            refine one_ (i := 12) (N := some 79) (bz 14 8191) rfl rfl (by kernel_rfl) (by decide) (fun K hK => ?_)
            refine goes_ Tryz.func48 (by kernel_rfl) rfl #[.pointer (some ⟨g2, 0, none⟩), .int .i64 (q + 1), .slice A x.length c] (by rfl) rfl rfl (by simp only [List.map_toArray, List.map_cons, List.map_nil]; rfl) ?_
            with_reducible refine (HSV.out).mono ?_
            rintro e w4 ⟨rfl, hto⟩
            refine ⟨_, rfl, ?_⟩
            obtain ⟨F4, hl4⟩ := HLD.out.next hto
            have HL4 := Aside0.mk hl4
            have HP4 := Aside0.mk (HPL.out _ hl4.u)
            clear hto hl4
            refine hK.out _ _ ⟨HP4.out.d, HP4.out.p1, HP4.out.t1⟩ (fun hHeld => ?_)
            clear hK K
            refine norm_ (a' := ?_) ?_ ?_
            rotate_left
            · show Act.put _ (some 79) _ = _
              simp only [Act.put, List.setIfInBounds_toArray, List.set_cons_zero, List.set_cons_succ, i64_w, i32_w]
              rfl
            refine pz 13 (some 12) (bz 14 16383) ?_
            refine done_ (by kernel_rfl) ?_
            clear hHeld
            go_wp2_with (fail)
            go_ret
            rw [← HT5.out.1, ← HT5.out.2, HSE.out]
            exact ⟨rfl, (HL4.out.post HT.out HK.out HBL.out).le (by omega)⟩
        · have HLD := Aside0.mk HLP.out.drew
          have HPD := Aside0.mk HPW.out.drew
          have HTT0 := Aside0.mk (show rputT ((q, hd) :: []) R' = T from HTT.out)
          have HSV := Aside0.mk (calls_of_args (args' := #[.pointer (some ⟨g2, 0, none⟩), .int .i64 q, .slice (some ⟨gh, 0, none⟩) hd.length ch]) (by rw [HHL.out]) (rTo_save HLD.out.r HLD.out.st.1 (by have h1 := HB.out; have h2 := HBL.out.size; have h3 := HLD.out.u.size; omega) q (some ⟨gh, 0, none⟩) ch hd (by rw [HHL.out]; decide) (by rw [HHL.out]; exact HCH.out) (by have h1 := HLD.out.st.2.1; have h2 := HW.out; have h3 := hx; rw [HHL.out]; omega) (fun W hW => (HPL.out W (HLD.out.u.trans hW HLD.out.hF)).h)))
          have hp0 := HPW.out.d
          obtain ⟨sv, hsv⟩ : ∃ sv, (rsaveM R' q hd).2 = sv := ⟨_, rfl⟩
          have HSE := Lib.hid hsv
          by_cases hs0 : sv = 0
          · subst hs0
            obtain ⟨fv, hfv⟩ : ∃ fv, (rflushM (rsaveM R' q hd).1).2 = fv := ⟨_, rfl⟩
            have HEF := Lib.hid hfv
            by_cases hf0 : fv = 0
            · subst hf0
              have HT4 := Aside0.mk ((rput_on hsv hfv).symm.trans HTT0.out)
              clear hsv hfv
              rw [HSE.out] at HSV
              go_wp2_with (fail)
              refine start_ (n := 14) (S := fun w' => w'.cell? ⟨t, 0, none⟩ = some (.pointer (some ⟨g2, 0, none⟩)) ∧ w'.cell? ⟨bp, 2, none⟩ = some (.int .i64 q) ∧ w'.cell? ⟨bt, 2, none⟩ = some (.slice (some ⟨gh, 0, none⟩) 64 ch)) (ds := []) (bz 14 0) (by kernel_rfl) rfl rfl ⟨HPD.out.d, HPD.out.p2, HPD.out.t2⟩ (fun hHeld => ?_)
              refine pz 0 (some 67) (bz 14 1) ?_
              refine pz 1 (some 68) (bz 14 3) ?_
              refine pz 2 (some 69) (bz 14 7) ?_
              refine pz 4 (some 71) (bz 14 23) ?_
              refine pz 5 (some 72) (bz 14 55) ?_
              refine pz 6 (some 73) (bz 14 119) ?_
              refine pz 8 (some 75) (bz 14 375) ?_
              refine pz 9 (some 76) (bz 14 887) ?_
              refine pz 10 (some 77) (bz 14 1911) ?_
              refine tz3 3 (some 70) (bz 14 1919) hHeld ?_
              refine tz3 7 (some 74) (bz 14 2047) hHeld ?_
              refine tz3 11 (some 78) (bz 14 4095) hHeld ?_
              refine one_ (i := 12) (N := some 79) (bz 14 8191) rfl rfl (by kernel_rfl) (by decide) (fun K hK => ?_)
              refine goes_ Tryz.func48 (by kernel_rfl) rfl #[.pointer (some ⟨g2, 0, none⟩), .int .i64 q, .slice (some ⟨gh, 0, none⟩) 64 ch] (by rfl) rfl rfl (by simp only [List.map_toArray, List.map_cons, List.map_nil]; rfl) ?_
              with_reducible refine (HSV.out).mono ?_
              rintro e w4 ⟨rfl, hto⟩
              refine ⟨_, rfl, ?_⟩
              obtain ⟨F4, hl4⟩ := HLD.out.next hto
              have HL4 := Aside0.mk hl4
              have HP4 := Aside0.mk (HPL.out _ hl4.u)
              clear hto hl4
              refine hK.out _ _ ⟨HP4.out.d, HP4.out.p2, HP4.out.t2⟩ (fun hHeld => ?_)
              clear hK K
              refine norm_ (a' := ?_) ?_ ?_
              rotate_left
              · show Act.put _ (some 79) _ = _
                simp only [Act.put, List.setIfInBounds_toArray, List.set_cons_zero, List.set_cons_succ, i64_w, i32_w]
                rfl
              refine pz 13 (some 12) (bz 14 16383) ?_
              refine done_ (by kernel_rfl) ?_
              clear hHeld
              have h40 := HP4.out.d
              go_wp2_with (first | (go_at_call 38; (with_reducible refine (rTo_flush HL4.out.r HL4.out.ok).mono ?_); rintro e w5 ⟨rfl, hto5⟩; have HL5 := Aside0.mk (HL4.out.next hto5); have h5e := HEF.out; rw [h5e]; clear hto5))
              obtain ⟨F5, hl5⟩ := HL5.out
              have HL6 := Aside0.mk (hl5.le (m' := 3 * (x.length + 64)) (by rw [HHL.out]; omega))
              go_roundw
              case rel => exact ⟨3, _, F5, rfl, by decide, HL6, HT4⟩
              case measure => simp [intOf]
            · have tf : (fv == 0) = false := by simpa using hf0
              have HT4 := Aside0.mk ((rput_flush (ps := []) hsv (by rw [hfv]; exact hf0)).symm.trans HTT0.out)
              have HT5 := Aside0.mk (show (rflushM (rsaveM R' q hd).1).2 = T.2 ∧ (rflushM (rsaveM R' q hd).1).1 = T.1 from ⟨by rw [HT4.out], by rw [HT4.out]⟩)
              clear hsv hfv hf0
              rw [HSE.out] at HSV
              go_wp2_with (fail)
              refine start_ (n := 14) (S := fun w' => w'.cell? ⟨t, 0, none⟩ = some (.pointer (some ⟨g2, 0, none⟩)) ∧ w'.cell? ⟨bp, 2, none⟩ = some (.int .i64 q) ∧ w'.cell? ⟨bt, 2, none⟩ = some (.slice (some ⟨gh, 0, none⟩) 64 ch)) (ds := []) (bz 14 0) (by kernel_rfl) rfl rfl ⟨HPD.out.d, HPD.out.p2, HPD.out.t2⟩ (fun hHeld => ?_)
              refine pz 0 (some 67) (bz 14 1) ?_
              refine pz 1 (some 68) (bz 14 3) ?_
              refine pz 2 (some 69) (bz 14 7) ?_
              refine pz 4 (some 71) (bz 14 23) ?_
              refine pz 5 (some 72) (bz 14 55) ?_
              refine pz 6 (some 73) (bz 14 119) ?_
              refine pz 8 (some 75) (bz 14 375) ?_
              refine pz 9 (some 76) (bz 14 887) ?_
              refine pz 10 (some 77) (bz 14 1911) ?_
              refine tz3 3 (some 70) (bz 14 1919) hHeld ?_
              refine tz3 7 (some 74) (bz 14 2047) hHeld ?_
              refine tz3 11 (some 78) (bz 14 4095) hHeld ?_
              refine one_ (i := 12) (N := some 79) (bz 14 8191) rfl rfl (by kernel_rfl) (by decide) (fun K hK => ?_)
              refine goes_ Tryz.func48 (by kernel_rfl) rfl #[.pointer (some ⟨g2, 0, none⟩), .int .i64 q, .slice (some ⟨gh, 0, none⟩) 64 ch] (by rfl) rfl rfl (by simp only [List.map_toArray, List.map_cons, List.map_nil]; rfl) ?_
              with_reducible refine (HSV.out).mono ?_
              rintro e w4 ⟨rfl, hto⟩
              refine ⟨_, rfl, ?_⟩
              obtain ⟨F4, hl4⟩ := HLD.out.next hto
              have HL4 := Aside0.mk hl4
              have HP4 := Aside0.mk (HPL.out _ hl4.u)
              clear hto hl4
              refine hK.out _ _ ⟨HP4.out.d, HP4.out.p2, HP4.out.t2⟩ (fun hHeld => ?_)
              clear hK K
              refine norm_ (a' := ?_) ?_ ?_
              rotate_left
              · show Act.put _ (some 79) _ = _
                simp only [Act.put, List.setIfInBounds_toArray, List.set_cons_zero, List.set_cons_succ, i64_w, i32_w]
                rfl
              refine pz 13 (some 12) (bz 14 16383) ?_
              refine done_ (by kernel_rfl) ?_
              clear hHeld
              have h40 := HP4.out.d
              go_wp2_with (first | (go_at_call 38; (with_reducible refine (rTo_flush HL4.out.r HL4.out.ok).mono ?_); rintro e w5 ⟨rfl, hto5⟩; have HL5 := Aside0.mk (HL4.out.next hto5); have h5e := HEF.out; rw [h5e]; clear hto5))
              obtain ⟨F5, hl5⟩ := HL5.out
              go_ret
              rw [← HT5.out.1, ← HT5.out.2, HEF.out]
              exact ⟨rfl, (hl5.post HT.out HK.out HBL.out).le (by rw [HHL.out]; omega)⟩
          · have ts : (sv == 0) = false := by simpa using hs0
            have HT4 := Aside0.mk ((rput_save (ps := []) (by rw [hsv]; exact hs0)).symm.trans HTT0.out)
            have HT5 := Aside0.mk (show (rsaveM R' q hd).2 = T.2 ∧ (rsaveM R' q hd).1 = T.1 from ⟨by rw [HT4.out], by rw [HT4.out]⟩)
            clear hsv hs0
            rw [HSE.out] at HSV
            go_wp2_with (fail)
            refine start_ (n := 14) (S := fun w' => w'.cell? ⟨t, 0, none⟩ = some (.pointer (some ⟨g2, 0, none⟩)) ∧ w'.cell? ⟨bp, 2, none⟩ = some (.int .i64 q) ∧ w'.cell? ⟨bt, 2, none⟩ = some (.slice (some ⟨gh, 0, none⟩) 64 ch)) (ds := []) (bz 14 0) (by kernel_rfl) rfl rfl ⟨HPD.out.d, HPD.out.p2, HPD.out.t2⟩ (fun hHeld => ?_)
            refine pz 0 (some 67) (bz 14 1) ?_
            refine pz 1 (some 68) (bz 14 3) ?_
            refine pz 2 (some 69) (bz 14 7) ?_
            refine pz 4 (some 71) (bz 14 23) ?_
            refine pz 5 (some 72) (bz 14 55) ?_
            refine pz 6 (some 73) (bz 14 119) ?_
            refine pz 8 (some 75) (bz 14 375) ?_
            refine pz 9 (some 76) (bz 14 887) ?_
            refine pz 10 (some 77) (bz 14 1911) ?_
            refine tz3 3 (some 70) (bz 14 1919) hHeld ?_
            refine tz3 7 (some 74) (bz 14 2047) hHeld ?_
            refine tz3 11 (some 78) (bz 14 4095) hHeld ?_
            refine one_ (i := 12) (N := some 79) (bz 14 8191) rfl rfl (by kernel_rfl) (by decide) (fun K hK => ?_)
            refine goes_ Tryz.func48 (by kernel_rfl) rfl #[.pointer (some ⟨g2, 0, none⟩), .int .i64 q, .slice (some ⟨gh, 0, none⟩) 64 ch] (by rfl) rfl rfl (by simp only [List.map_toArray, List.map_cons, List.map_nil]; rfl) ?_
            with_reducible refine (HSV.out).mono ?_
            rintro e w4 ⟨rfl, hto⟩
            refine ⟨_, rfl, ?_⟩
            obtain ⟨F4, hl4⟩ := HLD.out.next hto
            have HL4 := Aside0.mk hl4
            have HP4 := Aside0.mk (HPL.out _ hl4.u)
            clear hto hl4
            refine hK.out _ _ ⟨HP4.out.d, HP4.out.p2, HP4.out.t2⟩ (fun hHeld => ?_)
            clear hK K
            refine norm_ (a' := ?_) ?_ ?_
            rotate_left
            · show Act.put _ (some 79) _ = _
              simp only [Act.put, List.setIfInBounds_toArray, List.set_cons_zero, List.set_cons_succ, i64_w, i32_w]
              rfl
            refine pz 13 (some 12) (bz 14 16383) ?_
            refine done_ (by kernel_rfl) ?_
            clear hHeld
            go_wp2_with (fail)
            go_ret
            rw [← HT5.out.1, ← HT5.out.2, HSE.out]
            exact ⟨rfl, (HL4.out.post HT.out HK.out HBL.out).le (by rw [HHL.out]; omega)⟩
        · go_wp2_with (fail)
          go_ret
          have HTE : (R', 0) = T := HTT.out
          rw [← HTE]
          exact ⟨rfl, (HLP.out.post HT.out HK.out HBL.out).le (by omega)⟩
    · have ta : (at_ == 0) = false := by simpa using hat
      obtain ⟨q, hq⟩ : ∃ q, q = fr := ⟨_, rfl⟩
      have HE3 := Aside0.mk (show T = rputT [(q, zer64), (q + 1, x), (q, hd)] R from by rw [HE2.out, show rto at_ fr n = q from by rw [hq]; exact if_neg hat])
      subst hq
      have hq1 : q ≤ 2000 := by omega
      clear hat HE2
      go_enter Tryz.func28, Tryz.ntmps28
      go_wp2_with (first | (go_at_call 26; (with_reducible refine (HNW.out).mono ?_); rintro e w1 ⟨v1, rfl, ⟨A1, c1, rfl, hc1, hC1⟩, hb1⟩; have HB1 := Aside0.mk hb1; have HRM := Aside0.mk (rRoom_calls (HT.out.below hb1) HK.out); have h1c0 := (HT.out.below hb1).c0; have h1c1 := (HT.out.below hb1).c1; have h1c2 := (HT.out.below hb1).c2; clear hb1 hc1 hC1) | (go_at_call 10; (with_reducible refine (HRM.out).mono ?_); rintro e w2 ⟨rfl, rfl⟩; skip))
      go_wp2_with (fail)
      obtain ⟨wP, hwP⟩ : ∃ wP, wP = World.alloc w1 (.cells #[.int .i64 q, .int .i64 (q + 1), .int .i64 q] 3) := ⟨_, rfl⟩
      have HBP := Aside0.mk (show Below w.heap.size w wP from by rw [hwP]; exact below_alloc HB1.out _)
      have HPB := Aside0.mk (show wP.heap[w1.heap.size]? = some (.cells #[.int .i64 q, .int .i64 (q + 1), .int .i64 q] 3 (0, 0)) from by rw [hwP]; exact heap_alloc_new w1 _)
      have HPS := Aside0.mk HB1.out.size
      obtain ⟨bp, hbp⟩ : ∃ bp, bp = w1.heap.size := ⟨_, rfl⟩
      simp only [← hwP, ← hbp]
      rw [← hbp] at HPB HPS
      clear hwP hbp
      have HBD := Aside0.mk (show Below w.heap.size w wP.drew from HBP.out.trans (below_drew (Below.refl _ _)))
      refine start_ (n := 8) (S := fun w' => True) (ds := []) (bz 8 0) (by kernel_rfl) rfl rfl trivial (fun hHeld => ?_)
      refine pz 1 (some 57) (bz 8 2) ?_
      refine pz 2 (some 58) (bz 8 6) ?_
      refine pz 3 (some 59) (bz 8 14) ?_
      refine pz 4 (some 60) (bz 8 30) ?_
      refine join_ (σ := Nat × Nat × Nat) 2 (bz 8 63) (fun s => [(56, .slice (some ⟨s.1, 0, none⟩) 64 64), (61, .slice (some ⟨s.2.1, 0, none⟩) 64 s.2.2)]) (fun s w' => Zh wP w' s.1 s.2.1 s.2.2 hd) ?_ ?_
      rotate_left
      · intro hCont
        refine two_ (i := 0) (j := 5) (Ni := some 56) (Nj := some 61) (bz 8 31) (bz 8 62) rfl rfl rfl rfl (by kernel_rfl) (by decide) (by decide) (fun K hK => ?_) (fun K hK => ?_)
        · skip
          refine value_ (w1 := wP.drew.alloc (.cells (nums .u8 zer64).toArray 5)) (v := .slice (some ⟨wP.heap.size, 0, none⟩) 64 64) (by rfl) rfl (exec_make (t := 22) rfl (by rfl) (by rfl) (run_make64 wP.drew)) ?_
          have HBZ := Aside0.mk (below_alloc HBD.out (.cells (nums .u8 zer64).toArray 5))
          refine hK.out _ _ trivial (fun hHeld => ?_)
          clear hK K
          refine norm_ (a' := ?_) ?_ ?_
          rotate_left
          · show Act.put _ (some 56) _ = _
            simp only [Act.put, List.setIfInBounds_toArray, List.set_cons_zero, List.set_cons_succ, i64_w, i32_w]
            rfl
          refine one_ (i := 5) (N := some 61) (bz 8 63) rfl rfl (by kernel_rfl) (by decide) (fun K hK => ?_)
          refine goes_ Tryz.func47 (by kernel_rfl) rfl #[.int .u64 (mo + 1), .slice A x.length c] (by rfl) rfl rfl (by simp only [List.map_toArray, List.map_cons, List.map_nil]; rfl) ?_
          with_reducible refine (HHC.out _ HBZ.out).mono ?_
          rintro e w6 ⟨v6, rfl, hr6, hb6⟩
          refine ⟨_, rfl, ?_⟩
          obtain ⟨g6, c6, rfl, hk6, hc6⟩ : ∃ g c, v6 = .slice (some ⟨g, 0, none⟩) 64 c ∧ RdB w6 _ g hd ∧ 64 ≤ c := rd_b hr6 HHL.out
          refine hK.out _ _ trivial (fun hHeld => ?_)
          clear hK K
          refine norm_ (a' := ?_) ?_ ?_
          rotate_left
          · show Act.put _ (some 61) _ = _
            simp only [Act.put, List.setIfInBounds_toArray, List.set_cons_zero, List.set_cons_succ, i64_w, i32_w]
            rfl
          exact norm_ (by simp only [putAll, Act.put, List.setIfInBounds_toArray, List.set_cons_zero, List.set_cons_succ]) (hCont (wP.heap.size, g6, c6) _ (zh_1 (W := wP) hc6 hb6 hk6))
        · skip
          refine goes_ Tryz.func47 (by kernel_rfl) rfl #[.int .u64 (mo + 1), .slice A x.length c] (by rfl) rfl rfl (by simp only [List.map_toArray, List.map_cons, List.map_nil]; rfl) ?_
          with_reducible refine (HHC.out _ HBD.out).mono ?_
          rintro e w6 ⟨v6, rfl, hr6, hb6⟩
          refine ⟨_, rfl, ?_⟩
          obtain ⟨g6, c6, rfl, hk6, hc6⟩ : ∃ g c, v6 = .slice (some ⟨g, 0, none⟩) 64 c ∧ RdB w6 _ g hd ∧ 64 ≤ c := rd_b hr6 HHL.out
          have HB6 := Aside0.mk (HBD.out.trans (hb6.mono HBD.out.size))
          refine hK.out _ _ trivial (fun hHeld => ?_)
          clear hK K
          refine norm_ (a' := ?_) ?_ ?_
          rotate_left
          · show Act.put _ (some 61) _ = _
            simp only [Act.put, List.setIfInBounds_toArray, List.set_cons_zero, List.set_cons_succ, i64_w, i32_w]
            rfl
          refine one_ (i := 0) (N := some 56) (bz 8 63) rfl rfl (by kernel_rfl) (by decide) (fun K hK => ?_)
          refine value_ (w1 := w6.alloc (.cells (nums .u8 zer64).toArray 5)) (v := .slice (some ⟨w6.heap.size, 0, none⟩) 64 64) (by rfl) rfl (exec_make (t := 22) rfl (by rfl) (by rfl) (run_make64 w6)) ?_
          refine hK.out _ _ trivial (fun hHeld => ?_)
          clear hK K
          refine norm_ (a' := ?_) ?_ ?_
          rotate_left
          · show Act.put _ (some 56) _ = _
            simp only [Act.put, List.setIfInBounds_toArray, List.set_cons_zero, List.set_cons_succ, i64_w, i32_w]
            rfl
          exact norm_ (by simp only [putAll, Act.put, List.setIfInBounds_toArray, List.set_cons_zero, List.set_cons_succ]) (hCont (w6.heap.size, g6, c6) _ (zh_2 (W := wP) hc6 hb6 hk6))
      rintro ⟨gz, gh, ch⟩ w8 hZ
      have hHeld : True := trivial
      have HZ := Aside0.mk hZ
      clear hZ
      dsimp only at HZ ⊢
      refine norm_ (a' := ?_) ?_ ?_
      rotate_left
      · simp only [putAll, Act.put, List.setIfInBounds_toArray, List.set_cons_zero, List.set_cons_succ]
        rfl
      refine one_ (i := 6) (N := some 62) (bz 8 127) rfl rfl (by kernel_rfl) (by decide) (fun K hK => ?_)
      refine value_ (w1 := w8.alloc (.cells #[.slice (some ⟨gz, 0, none⟩) 64 64, .slice A x.length c, .slice (some ⟨gh, 0, none⟩) 64 ch] 22)) (v := .slice (some ⟨w8.heap.size, 0, none⟩) 3 3) (by rfl) rfl ?hbs ?_
      case hbs =>
        refine exec_buildSlice (t := 65) (n := 3) (parts := #[(0, .tmp 56), (1, .tmp 57), (2, .tmp 61)]) (args := #[(0, .slice (some ⟨gz, 0, none⟩) 64 64), (1, .slice A x.length c), (2, .slice (some ⟨gh, 0, none⟩) 64 ch)]) ?ho ?he ?hr
        case ho => rfl
        case he => kernel_rfl
        case hr => exact build3 (some ⟨gz, 0, none⟩, 64, 64) (A, x.length, c) (some ⟨gh, 0, none⟩, 64, ch) w8
      refine hK.out _ _ trivial (fun hHeld => ?_)
      clear hK K
      refine norm_ (a' := ?_) ?_ ?_
      rotate_left
      · show Act.put _ (some 62) _ = _
        simp only [Act.put, List.setIfInBounds_toArray, List.set_cons_zero, List.set_cons_succ, i64_w, i32_w]
        rfl
      refine pz 7 (some 10) (bz 8 255) ?_
      refine done_ (by kernel_rfl) ?_
      clear hHeld
      obtain ⟨wL, hwL⟩ : ∃ wL, wL = w8.alloc (.cells #[.slice (some ⟨gz, 0, none⟩) 64 64, .slice A x.length c, .slice (some ⟨gh, 0, none⟩) 64 ch] 22) := ⟨_, rfl⟩
      have HPL := Aside0.mk (pl_of HT.out HC.out HBP.out HPB.out HPS.out HZ.out hwL)
      have HBL := Aside0.mk (show Below w.heap.size w wL from by rw [hwL]; exact below_alloc (below_trans HBP.out HZ.out.b) _)
      have HLP := Aside0.mk (show Lp3 wL wL B g2 F2 R F2 R 0 from ⟨fun _ h => .inl h, HT.out.r.frame (G := fun _ => False) (Upd.of_below HBL.out) (fun _ _ h => h) (fun _ h => h.elim), ⟨HK.out.d, Nat.le_refl _, rfl⟩, Upd.refl _ _⟩)
      have HCH := Aside0.mk HZ.out.c
      obtain ⟨bt, hbt⟩ : ∃ bt, bt = w8.heap.size := ⟨_, rfl⟩
      rw [← hbt] at HPL
      have HT3 := Aside0.mk HE3.out.symm
      simp only [← hwL, ← hbt]
      clear hwL hbt HZ HPB HPS HBP HBD HE3
      try simp only [hwq]
      try clear hwq
      go_wp2_with (fail)
      go_loopw [11] (fun v11 w' => ∃ (i : Nat) (R' : RM) (F' : Nat → Prop), v11 = .int .i64 i ∧ i ≤ 3 ∧ Aside0 (Lp3 wL w' B g2 F2 R F' R' (i * (x.length + 64))) ∧ Aside0 (rputT (([(q, zer64), (q + 1, x), (q, hd)] : List (Int × List Int)).drop i) R' = T)) (fun v11 _ => 3 - (intOf v11).toNat)
      case atStart => exact ⟨0, R, F2, rfl, by decide, ⟨HLP.out.le (Nat.zero_le _)⟩, HT3⟩
      case round =>
        clear HLP HT3
        obtain ⟨i, R', F', rfl, hi, HLP, HTT⟩ := hrel
        have hcase : i = 0 ∨ i = 1 ∨ i = 2 ∨ i = 3 := by omega
        have HPW := Aside0.mk (HPL.out _ HLP.out.u)
        rcases hcase with rfl | rfl | rfl | rfl
        · have HLD := Aside0.mk HLP.out.drew
          have HPD := Aside0.mk HPW.out.drew
          have HTT0 := Aside0.mk (show rputT ((q, zer64) :: [(q + 1, x), (q, hd)]) R' = T from HTT.out)
          have HSV := Aside0.mk (calls_of_args (args' := #[.pointer (some ⟨g2, 0, none⟩), .int .i64 q, .slice (some ⟨gz, 0, none⟩) zer64.length 64]) (by rw [zer64_len]) (rTo_save HLD.out.r HLD.out.st.1 (by have h1 := HB.out; have h2 := HBL.out.size; have h3 := HLD.out.u.size; omega) q (some ⟨gz, 0, none⟩) 64 zer64 (by rw [zer64_len]; decide) (by rw [zer64_len]; decide) (by have h1 := HLD.out.st.2.1; have h2 := HW.out; have h3 := hx; rw [zer64_len]; omega) (fun W hW => (HPL.out W (HLD.out.u.trans hW HLD.out.hF)).z)))
          have hp0 := HPW.out.d
          obtain ⟨sv, hsv⟩ : ∃ sv, (rsaveM R' q zer64).2 = sv := ⟨_, rfl⟩
          have HSE := Lib.hid hsv
          by_cases hs0 : sv = 0
          · subst hs0
            obtain ⟨fv, hfv⟩ : ∃ fv, (rflushM (rsaveM R' q zer64).1).2 = fv := ⟨_, rfl⟩
            have HEF := Lib.hid hfv
            by_cases hf0 : fv = 0
            · subst hf0
              have HT4 := Aside0.mk ((rput_on hsv hfv).symm.trans HTT0.out)
              clear hsv hfv
              rw [HSE.out] at HSV
              go_wp2_with (fail)
              refine start_ (n := 14) (S := fun w' => w'.cell? ⟨t, 0, none⟩ = some (.pointer (some ⟨g2, 0, none⟩)) ∧ w'.cell? ⟨bp, 0, none⟩ = some (.int .i64 q) ∧ w'.cell? ⟨bt, 0, none⟩ = some (.slice (some ⟨gz, 0, none⟩) 64 64)) (ds := []) (bz 14 0) (by kernel_rfl) rfl rfl ⟨HPD.out.d, HPD.out.p0, HPD.out.t0⟩ (fun hHeld => ?_)
              refine pz 0 (some 67) (bz 14 1) ?_
              refine pz 1 (some 68) (bz 14 3) ?_
              refine pz 2 (some 69) (bz 14 7) ?_
              refine pz 4 (some 71) (bz 14 23) ?_
              refine pz 5 (some 72) (bz 14 55) ?_
              refine pz 6 (some 73) (bz 14 119) ?_
              refine pz 8 (some 75) (bz 14 375) ?_
              refine pz 9 (some 76) (bz 14 887) ?_
              refine pz 10 (some 77) (bz 14 1911) ?_
              refine tz3 3 (some 70) (bz 14 1919) hHeld ?_
              refine tz3 7 (some 74) (bz 14 2047) hHeld ?_
              refine tz3 11 (some 78) (bz 14 4095) hHeld ?_
              refine one_ (i := 12) (N := some 79) (bz 14 8191) rfl rfl (by kernel_rfl) (by decide) (fun K hK => ?_)
              refine goes_ Tryz.func48 (by kernel_rfl) rfl #[.pointer (some ⟨g2, 0, none⟩), .int .i64 q, .slice (some ⟨gz, 0, none⟩) 64 64] (by rfl) rfl rfl (by simp only [List.map_toArray, List.map_cons, List.map_nil]; rfl) ?_
              with_reducible refine (HSV.out).mono ?_
              rintro e w4 ⟨rfl, hto⟩
              refine ⟨_, rfl, ?_⟩
              obtain ⟨F4, hl4⟩ := HLD.out.next hto
              have HL4 := Aside0.mk hl4
              have HP4 := Aside0.mk (HPL.out _ hl4.u)
              clear hto hl4
              refine hK.out _ _ ⟨HP4.out.d, HP4.out.p0, HP4.out.t0⟩ (fun hHeld => ?_)
              clear hK K
              refine norm_ (a' := ?_) ?_ ?_
              rotate_left
              · show Act.put _ (some 79) _ = _
                simp only [Act.put, List.setIfInBounds_toArray, List.set_cons_zero, List.set_cons_succ, i64_w, i32_w]
                rfl
              refine pz 13 (some 12) (bz 14 16383) ?_
              refine done_ (by kernel_rfl) ?_
              clear hHeld
              have h40 := HP4.out.d
              go_wp2_with (first | (go_at_call 38; (with_reducible refine (rTo_flush HL4.out.r HL4.out.ok).mono ?_); rintro e w5 ⟨rfl, hto5⟩; have HL5 := Aside0.mk (HL4.out.next hto5); have h5e := HEF.out; rw [h5e]; clear hto5))
              obtain ⟨F5, hl5⟩ := HL5.out
              have HL6 := Aside0.mk (hl5.le (m' := 1 * (x.length + 64)) (by rw [zer64_len]; omega))
              go_roundw
              case rel => exact ⟨1, _, F5, rfl, by decide, HL6, HT4⟩
              case measure => simp [intOf]
            · have tf : (fv == 0) = false := by simpa using hf0
              have HT4 := Aside0.mk ((rput_flush (ps := [(q + 1, x), (q, hd)]) hsv (by rw [hfv]; exact hf0)).symm.trans HTT0.out)
              have HT5 := Aside0.mk (show (rflushM (rsaveM R' q zer64).1).2 = T.2 ∧ (rflushM (rsaveM R' q zer64).1).1 = T.1 from ⟨by rw [HT4.out], by rw [HT4.out]⟩)
              clear hsv hfv hf0
              rw [HSE.out] at HSV
              go_wp2_with (fail)
              refine start_ (n := 14) (S := fun w' => w'.cell? ⟨t, 0, none⟩ = some (.pointer (some ⟨g2, 0, none⟩)) ∧ w'.cell? ⟨bp, 0, none⟩ = some (.int .i64 q) ∧ w'.cell? ⟨bt, 0, none⟩ = some (.slice (some ⟨gz, 0, none⟩) 64 64)) (ds := []) (bz 14 0) (by kernel_rfl) rfl rfl ⟨HPD.out.d, HPD.out.p0, HPD.out.t0⟩ (fun hHeld => ?_)
              refine pz 0 (some 67) (bz 14 1) ?_
              refine pz 1 (some 68) (bz 14 3) ?_
              refine pz 2 (some 69) (bz 14 7) ?_
              refine pz 4 (some 71) (bz 14 23) ?_
              refine pz 5 (some 72) (bz 14 55) ?_
              refine pz 6 (some 73) (bz 14 119) ?_
              refine pz 8 (some 75) (bz 14 375) ?_
              refine pz 9 (some 76) (bz 14 887) ?_
              refine pz 10 (some 77) (bz 14 1911) ?_
              refine tz3 3 (some 70) (bz 14 1919) hHeld ?_
              refine tz3 7 (some 74) (bz 14 2047) hHeld ?_
              refine tz3 11 (some 78) (bz 14 4095) hHeld ?_
              refine one_ (i := 12) (N := some 79) (bz 14 8191) rfl rfl (by kernel_rfl) (by decide) (fun K hK => ?_)
              refine goes_ Tryz.func48 (by kernel_rfl) rfl #[.pointer (some ⟨g2, 0, none⟩), .int .i64 q, .slice (some ⟨gz, 0, none⟩) 64 64] (by rfl) rfl rfl (by simp only [List.map_toArray, List.map_cons, List.map_nil]; rfl) ?_
              with_reducible refine (HSV.out).mono ?_
              rintro e w4 ⟨rfl, hto⟩
              refine ⟨_, rfl, ?_⟩
              obtain ⟨F4, hl4⟩ := HLD.out.next hto
              have HL4 := Aside0.mk hl4
              have HP4 := Aside0.mk (HPL.out _ hl4.u)
              clear hto hl4
              refine hK.out _ _ ⟨HP4.out.d, HP4.out.p0, HP4.out.t0⟩ (fun hHeld => ?_)
              clear hK K
              refine norm_ (a' := ?_) ?_ ?_
              rotate_left
              · show Act.put _ (some 79) _ = _
                simp only [Act.put, List.setIfInBounds_toArray, List.set_cons_zero, List.set_cons_succ, i64_w, i32_w]
                rfl
              refine pz 13 (some 12) (bz 14 16383) ?_
              refine done_ (by kernel_rfl) ?_
              clear hHeld
              have h40 := HP4.out.d
              go_wp2_with (first | (go_at_call 38; (with_reducible refine (rTo_flush HL4.out.r HL4.out.ok).mono ?_); rintro e w5 ⟨rfl, hto5⟩; have HL5 := Aside0.mk (HL4.out.next hto5); have h5e := HEF.out; rw [h5e]; clear hto5))
              obtain ⟨F5, hl5⟩ := HL5.out
              go_ret
              rw [← HT5.out.1, ← HT5.out.2, HEF.out]
              exact ⟨rfl, (hl5.post HT.out HK.out HBL.out).le (by rw [zer64_len]; omega)⟩
          · have ts : (sv == 0) = false := by simpa using hs0
            have HT4 := Aside0.mk ((rput_save (ps := [(q + 1, x), (q, hd)]) (by rw [hsv]; exact hs0)).symm.trans HTT0.out)
            have HT5 := Aside0.mk (show (rsaveM R' q zer64).2 = T.2 ∧ (rsaveM R' q zer64).1 = T.1 from ⟨by rw [HT4.out], by rw [HT4.out]⟩)
            clear hsv hs0
            rw [HSE.out] at HSV
            go_wp2_with (fail)
            refine start_ (n := 14) (S := fun w' => w'.cell? ⟨t, 0, none⟩ = some (.pointer (some ⟨g2, 0, none⟩)) ∧ w'.cell? ⟨bp, 0, none⟩ = some (.int .i64 q) ∧ w'.cell? ⟨bt, 0, none⟩ = some (.slice (some ⟨gz, 0, none⟩) 64 64)) (ds := []) (bz 14 0) (by kernel_rfl) rfl rfl ⟨HPD.out.d, HPD.out.p0, HPD.out.t0⟩ (fun hHeld => ?_)
            refine pz 0 (some 67) (bz 14 1) ?_
            refine pz 1 (some 68) (bz 14 3) ?_
            refine pz 2 (some 69) (bz 14 7) ?_
            refine pz 4 (some 71) (bz 14 23) ?_
            refine pz 5 (some 72) (bz 14 55) ?_
            refine pz 6 (some 73) (bz 14 119) ?_
            refine pz 8 (some 75) (bz 14 375) ?_
            refine pz 9 (some 76) (bz 14 887) ?_
            refine pz 10 (some 77) (bz 14 1911) ?_
            refine tz3 3 (some 70) (bz 14 1919) hHeld ?_
            refine tz3 7 (some 74) (bz 14 2047) hHeld ?_
            refine tz3 11 (some 78) (bz 14 4095) hHeld ?_
            refine one_ (i := 12) (N := some 79) (bz 14 8191) rfl rfl (by kernel_rfl) (by decide) (fun K hK => ?_)
            refine goes_ Tryz.func48 (by kernel_rfl) rfl #[.pointer (some ⟨g2, 0, none⟩), .int .i64 q, .slice (some ⟨gz, 0, none⟩) 64 64] (by rfl) rfl rfl (by simp only [List.map_toArray, List.map_cons, List.map_nil]; rfl) ?_
            with_reducible refine (HSV.out).mono ?_
            rintro e w4 ⟨rfl, hto⟩
            refine ⟨_, rfl, ?_⟩
            obtain ⟨F4, hl4⟩ := HLD.out.next hto
            have HL4 := Aside0.mk hl4
            have HP4 := Aside0.mk (HPL.out _ hl4.u)
            clear hto hl4
            refine hK.out _ _ ⟨HP4.out.d, HP4.out.p0, HP4.out.t0⟩ (fun hHeld => ?_)
            clear hK K
            refine norm_ (a' := ?_) ?_ ?_
            rotate_left
            · show Act.put _ (some 79) _ = _
              simp only [Act.put, List.setIfInBounds_toArray, List.set_cons_zero, List.set_cons_succ, i64_w, i32_w]
              rfl
            refine pz 13 (some 12) (bz 14 16383) ?_
            refine done_ (by kernel_rfl) ?_
            clear hHeld
            go_wp2_with (fail)
            go_ret
            rw [← HT5.out.1, ← HT5.out.2, HSE.out]
            exact ⟨rfl, (HL4.out.post HT.out HK.out HBL.out).le (by rw [zer64_len]; omega)⟩
        · have HLD := Aside0.mk HLP.out.drew
          have HPD := Aside0.mk HPW.out.drew
          have HTT0 := Aside0.mk (show rputT (((q + 1), x) :: [(q, hd)]) R' = T from HTT.out)
          have HSV := Aside0.mk ((rTo_save HLD.out.r HLD.out.st.1 (by have h1 := HB.out; have h2 := HBL.out.size; have h3 := HLD.out.u.size; omega) (q + 1) A c x (by omega) HXC.out (by have h1 := HLD.out.st.2.1; have h2 := HW.out; have h3 := hx; omega) (fun W hW => (HPL.out W (HLD.out.u.trans hW HLD.out.hF)).x)))
          have hp0 := HPW.out.d
          obtain ⟨sv, hsv⟩ : ∃ sv, (rsaveM R' (q + 1) x).2 = sv := ⟨_, rfl⟩
          have HSE := Lib.hid hsv
          by_cases hs0 : sv = 0
          · subst hs0
            obtain ⟨fv, hfv⟩ : ∃ fv, (rflushM (rsaveM R' (q + 1) x).1).2 = fv := ⟨_, rfl⟩
            have HEF := Lib.hid hfv
            by_cases hf0 : fv = 0
            · subst hf0
              have HT4 := Aside0.mk ((rput_on hsv hfv).symm.trans HTT0.out)
              clear hsv hfv
              rw [HSE.out] at HSV
              go_wp2_with (fail)
              refine start_ (n := 14) (S := fun w' => w'.cell? ⟨t, 0, none⟩ = some (.pointer (some ⟨g2, 0, none⟩)) ∧ w'.cell? ⟨bp, 1, none⟩ = some (.int .i64 (q + 1)) ∧ w'.cell? ⟨bt, 1, none⟩ = some (.slice A x.length c)) (ds := []) (bz 14 0) (by kernel_rfl) rfl rfl ⟨HPD.out.d, HPD.out.p1, HPD.out.t1⟩ (fun hHeld => ?_)
              refine pz 0 (some 67) (bz 14 1) ?_
              refine pz 1 (some 68) (bz 14 3) ?_
              refine pz 2 (some 69) (bz 14 7) ?_
              refine pz 4 (some 71) (bz 14 23) ?_
              refine pz 5 (some 72) (bz 14 55) ?_
              refine pz 6 (some 73) (bz 14 119) ?_
              refine pz 8 (some 75) (bz 14 375) ?_
              refine pz 9 (some 76) (bz 14 887) ?_
              refine pz 10 (some 77) (bz 14 1911) ?_
              refine tz3 3 (some 70) (bz 14 1919) hHeld ?_
              refine tz3 7 (some 74) (bz 14 2047) hHeld ?_
              refine tz3 11 (some 78) (bz 14 4095) hHeld ?_
              refine one_ (i := 12) (N := some 79) (bz 14 8191) rfl rfl (by kernel_rfl) (by decide) (fun K hK => ?_)
              refine goes_ Tryz.func48 (by kernel_rfl) rfl #[.pointer (some ⟨g2, 0, none⟩), .int .i64 (q + 1), .slice A x.length c] (by rfl) rfl rfl (by simp only [List.map_toArray, List.map_cons, List.map_nil]; rfl) ?_
              with_reducible refine (HSV.out).mono ?_
              rintro e w4 ⟨rfl, hto⟩
              refine ⟨_, rfl, ?_⟩
              obtain ⟨F4, hl4⟩ := HLD.out.next hto
              have HL4 := Aside0.mk hl4
              have HP4 := Aside0.mk (HPL.out _ hl4.u)
              clear hto hl4
              refine hK.out _ _ ⟨HP4.out.d, HP4.out.p1, HP4.out.t1⟩ (fun hHeld => ?_)
              clear hK K
              refine norm_ (a' := ?_) ?_ ?_
              rotate_left
              · show Act.put _ (some 79) _ = _
                simp only [Act.put, List.setIfInBounds_toArray, List.set_cons_zero, List.set_cons_succ, i64_w, i32_w]
                rfl
              refine pz 13 (some 12) (bz 14 16383) ?_
              refine done_ (by kernel_rfl) ?_
              clear hHeld
              have h40 := HP4.out.d
              go_wp2_with (first | (go_at_call 38; (with_reducible refine (rTo_flush HL4.out.r HL4.out.ok).mono ?_); rintro e w5 ⟨rfl, hto5⟩; have HL5 := Aside0.mk (HL4.out.next hto5); have h5e := HEF.out; rw [h5e]; clear hto5))
              obtain ⟨F5, hl5⟩ := HL5.out
              have HL6 := Aside0.mk (hl5.le (m' := 2 * (x.length + 64)) (by omega))
              go_roundw
              case rel => exact ⟨2, _, F5, rfl, by decide, HL6, HT4⟩
              case measure => simp [intOf]
            · have tf : (fv == 0) = false := by simpa using hf0
              have HT4 := Aside0.mk ((rput_flush (ps := [(q, hd)]) hsv (by rw [hfv]; exact hf0)).symm.trans HTT0.out)
              have HT5 := Aside0.mk (show (rflushM (rsaveM R' (q + 1) x).1).2 = T.2 ∧ (rflushM (rsaveM R' (q + 1) x).1).1 = T.1 from ⟨by rw [HT4.out], by rw [HT4.out]⟩)
              clear hsv hfv hf0
              rw [HSE.out] at HSV
              go_wp2_with (fail)
              refine start_ (n := 14) (S := fun w' => w'.cell? ⟨t, 0, none⟩ = some (.pointer (some ⟨g2, 0, none⟩)) ∧ w'.cell? ⟨bp, 1, none⟩ = some (.int .i64 (q + 1)) ∧ w'.cell? ⟨bt, 1, none⟩ = some (.slice A x.length c)) (ds := []) (bz 14 0) (by kernel_rfl) rfl rfl ⟨HPD.out.d, HPD.out.p1, HPD.out.t1⟩ (fun hHeld => ?_)
              refine pz 0 (some 67) (bz 14 1) ?_
              refine pz 1 (some 68) (bz 14 3) ?_
              refine pz 2 (some 69) (bz 14 7) ?_
              refine pz 4 (some 71) (bz 14 23) ?_
              refine pz 5 (some 72) (bz 14 55) ?_
              refine pz 6 (some 73) (bz 14 119) ?_
              refine pz 8 (some 75) (bz 14 375) ?_
              refine pz 9 (some 76) (bz 14 887) ?_
              refine pz 10 (some 77) (bz 14 1911) ?_
              refine tz3 3 (some 70) (bz 14 1919) hHeld ?_
              refine tz3 7 (some 74) (bz 14 2047) hHeld ?_
              refine tz3 11 (some 78) (bz 14 4095) hHeld ?_
              refine one_ (i := 12) (N := some 79) (bz 14 8191) rfl rfl (by kernel_rfl) (by decide) (fun K hK => ?_)
              refine goes_ Tryz.func48 (by kernel_rfl) rfl #[.pointer (some ⟨g2, 0, none⟩), .int .i64 (q + 1), .slice A x.length c] (by rfl) rfl rfl (by simp only [List.map_toArray, List.map_cons, List.map_nil]; rfl) ?_
              with_reducible refine (HSV.out).mono ?_
              rintro e w4 ⟨rfl, hto⟩
              refine ⟨_, rfl, ?_⟩
              obtain ⟨F4, hl4⟩ := HLD.out.next hto
              have HL4 := Aside0.mk hl4
              have HP4 := Aside0.mk (HPL.out _ hl4.u)
              clear hto hl4
              refine hK.out _ _ ⟨HP4.out.d, HP4.out.p1, HP4.out.t1⟩ (fun hHeld => ?_)
              clear hK K
              refine norm_ (a' := ?_) ?_ ?_
              rotate_left
              · show Act.put _ (some 79) _ = _
                simp only [Act.put, List.setIfInBounds_toArray, List.set_cons_zero, List.set_cons_succ, i64_w, i32_w]
                rfl
              refine pz 13 (some 12) (bz 14 16383) ?_
              refine done_ (by kernel_rfl) ?_
              clear hHeld
              have h40 := HP4.out.d
              go_wp2_with (first | (go_at_call 38; (with_reducible refine (rTo_flush HL4.out.r HL4.out.ok).mono ?_); rintro e w5 ⟨rfl, hto5⟩; have HL5 := Aside0.mk (HL4.out.next hto5); have h5e := HEF.out; rw [h5e]; clear hto5))
              obtain ⟨F5, hl5⟩ := HL5.out
              go_ret
              rw [← HT5.out.1, ← HT5.out.2, HEF.out]
              exact ⟨rfl, (hl5.post HT.out HK.out HBL.out).le (by omega)⟩
          · have ts : (sv == 0) = false := by simpa using hs0
            have HT4 := Aside0.mk ((rput_save (ps := [(q, hd)]) (by rw [hsv]; exact hs0)).symm.trans HTT0.out)
            have HT5 := Aside0.mk (show (rsaveM R' (q + 1) x).2 = T.2 ∧ (rsaveM R' (q + 1) x).1 = T.1 from ⟨by rw [HT4.out], by rw [HT4.out]⟩)
            clear hsv hs0
            rw [HSE.out] at HSV
            go_wp2_with (fail)
            refine start_ (n := 14) (S := fun w' => w'.cell? ⟨t, 0, none⟩ = some (.pointer (some ⟨g2, 0, none⟩)) ∧ w'.cell? ⟨bp, 1, none⟩ = some (.int .i64 (q + 1)) ∧ w'.cell? ⟨bt, 1, none⟩ = some (.slice A x.length c)) (ds := []) (bz 14 0) (by kernel_rfl) rfl rfl ⟨HPD.out.d, HPD.out.p1, HPD.out.t1⟩ (fun hHeld => ?_)
            refine pz 0 (some 67) (bz 14 1) ?_
            refine pz 1 (some 68) (bz 14 3) ?_
            refine pz 2 (some 69) (bz 14 7) ?_
            refine pz 4 (some 71) (bz 14 23) ?_
            refine pz 5 (some 72) (bz 14 55) ?_
            refine pz 6 (some 73) (bz 14 119) ?_
            refine pz 8 (some 75) (bz 14 375) ?_
            refine pz 9 (some 76) (bz 14 887) ?_
            refine pz 10 (some 77) (bz 14 1911) ?_
            refine tz3 3 (some 70) (bz 14 1919) hHeld ?_
            refine tz3 7 (some 74) (bz 14 2047) hHeld ?_
            refine tz3 11 (some 78) (bz 14 4095) hHeld ?_
            refine one_ (i := 12) (N := some 79) (bz 14 8191) rfl rfl (by kernel_rfl) (by decide) (fun K hK => ?_)
            refine goes_ Tryz.func48 (by kernel_rfl) rfl #[.pointer (some ⟨g2, 0, none⟩), .int .i64 (q + 1), .slice A x.length c] (by rfl) rfl rfl (by simp only [List.map_toArray, List.map_cons, List.map_nil]; rfl) ?_
            with_reducible refine (HSV.out).mono ?_
            rintro e w4 ⟨rfl, hto⟩
            refine ⟨_, rfl, ?_⟩
            obtain ⟨F4, hl4⟩ := HLD.out.next hto
            have HL4 := Aside0.mk hl4
            have HP4 := Aside0.mk (HPL.out _ hl4.u)
            clear hto hl4
            refine hK.out _ _ ⟨HP4.out.d, HP4.out.p1, HP4.out.t1⟩ (fun hHeld => ?_)
            clear hK K
            refine norm_ (a' := ?_) ?_ ?_
            rotate_left
            · show Act.put _ (some 79) _ = _
              simp only [Act.put, List.setIfInBounds_toArray, List.set_cons_zero, List.set_cons_succ, i64_w, i32_w]
              rfl
            refine pz 13 (some 12) (bz 14 16383) ?_
            refine done_ (by kernel_rfl) ?_
            clear hHeld
            go_wp2_with (fail)
            go_ret
            rw [← HT5.out.1, ← HT5.out.2, HSE.out]
            exact ⟨rfl, (HL4.out.post HT.out HK.out HBL.out).le (by omega)⟩
        · have HLD := Aside0.mk HLP.out.drew
          have HPD := Aside0.mk HPW.out.drew
          have HTT0 := Aside0.mk (show rputT ((q, hd) :: []) R' = T from HTT.out)
          have HSV := Aside0.mk (calls_of_args (args' := #[.pointer (some ⟨g2, 0, none⟩), .int .i64 q, .slice (some ⟨gh, 0, none⟩) hd.length ch]) (by rw [HHL.out]) (rTo_save HLD.out.r HLD.out.st.1 (by have h1 := HB.out; have h2 := HBL.out.size; have h3 := HLD.out.u.size; omega) q (some ⟨gh, 0, none⟩) ch hd (by rw [HHL.out]; decide) (by rw [HHL.out]; exact HCH.out) (by have h1 := HLD.out.st.2.1; have h2 := HW.out; have h3 := hx; rw [HHL.out]; omega) (fun W hW => (HPL.out W (HLD.out.u.trans hW HLD.out.hF)).h)))
          have hp0 := HPW.out.d
          obtain ⟨sv, hsv⟩ : ∃ sv, (rsaveM R' q hd).2 = sv := ⟨_, rfl⟩
          have HSE := Lib.hid hsv
          by_cases hs0 : sv = 0
          · subst hs0
            obtain ⟨fv, hfv⟩ : ∃ fv, (rflushM (rsaveM R' q hd).1).2 = fv := ⟨_, rfl⟩
            have HEF := Lib.hid hfv
            by_cases hf0 : fv = 0
            · subst hf0
              have HT4 := Aside0.mk ((rput_on hsv hfv).symm.trans HTT0.out)
              clear hsv hfv
              rw [HSE.out] at HSV
              go_wp2_with (fail)
              refine start_ (n := 14) (S := fun w' => w'.cell? ⟨t, 0, none⟩ = some (.pointer (some ⟨g2, 0, none⟩)) ∧ w'.cell? ⟨bp, 2, none⟩ = some (.int .i64 q) ∧ w'.cell? ⟨bt, 2, none⟩ = some (.slice (some ⟨gh, 0, none⟩) 64 ch)) (ds := []) (bz 14 0) (by kernel_rfl) rfl rfl ⟨HPD.out.d, HPD.out.p2, HPD.out.t2⟩ (fun hHeld => ?_)
              refine pz 0 (some 67) (bz 14 1) ?_
              refine pz 1 (some 68) (bz 14 3) ?_
              refine pz 2 (some 69) (bz 14 7) ?_
              refine pz 4 (some 71) (bz 14 23) ?_
              refine pz 5 (some 72) (bz 14 55) ?_
              refine pz 6 (some 73) (bz 14 119) ?_
              refine pz 8 (some 75) (bz 14 375) ?_
              refine pz 9 (some 76) (bz 14 887) ?_
              refine pz 10 (some 77) (bz 14 1911) ?_
              refine tz3 3 (some 70) (bz 14 1919) hHeld ?_
              refine tz3 7 (some 74) (bz 14 2047) hHeld ?_
              refine tz3 11 (some 78) (bz 14 4095) hHeld ?_
              refine one_ (i := 12) (N := some 79) (bz 14 8191) rfl rfl (by kernel_rfl) (by decide) (fun K hK => ?_)
              refine goes_ Tryz.func48 (by kernel_rfl) rfl #[.pointer (some ⟨g2, 0, none⟩), .int .i64 q, .slice (some ⟨gh, 0, none⟩) 64 ch] (by rfl) rfl rfl (by simp only [List.map_toArray, List.map_cons, List.map_nil]; rfl) ?_
              with_reducible refine (HSV.out).mono ?_
              rintro e w4 ⟨rfl, hto⟩
              refine ⟨_, rfl, ?_⟩
              obtain ⟨F4, hl4⟩ := HLD.out.next hto
              have HL4 := Aside0.mk hl4
              have HP4 := Aside0.mk (HPL.out _ hl4.u)
              clear hto hl4
              refine hK.out _ _ ⟨HP4.out.d, HP4.out.p2, HP4.out.t2⟩ (fun hHeld => ?_)
              clear hK K
              refine norm_ (a' := ?_) ?_ ?_
              rotate_left
              · show Act.put _ (some 79) _ = _
                simp only [Act.put, List.setIfInBounds_toArray, List.set_cons_zero, List.set_cons_succ, i64_w, i32_w]
                rfl
              refine pz 13 (some 12) (bz 14 16383) ?_
              refine done_ (by kernel_rfl) ?_
              clear hHeld
              have h40 := HP4.out.d
              go_wp2_with (first | (go_at_call 38; (with_reducible refine (rTo_flush HL4.out.r HL4.out.ok).mono ?_); rintro e w5 ⟨rfl, hto5⟩; have HL5 := Aside0.mk (HL4.out.next hto5); have h5e := HEF.out; rw [h5e]; clear hto5))
              obtain ⟨F5, hl5⟩ := HL5.out
              have HL6 := Aside0.mk (hl5.le (m' := 3 * (x.length + 64)) (by rw [HHL.out]; omega))
              go_roundw
              case rel => exact ⟨3, _, F5, rfl, by decide, HL6, HT4⟩
              case measure => simp [intOf]
            · have tf : (fv == 0) = false := by simpa using hf0
              have HT4 := Aside0.mk ((rput_flush (ps := []) hsv (by rw [hfv]; exact hf0)).symm.trans HTT0.out)
              have HT5 := Aside0.mk (show (rflushM (rsaveM R' q hd).1).2 = T.2 ∧ (rflushM (rsaveM R' q hd).1).1 = T.1 from ⟨by rw [HT4.out], by rw [HT4.out]⟩)
              clear hsv hfv hf0
              rw [HSE.out] at HSV
              go_wp2_with (fail)
              refine start_ (n := 14) (S := fun w' => w'.cell? ⟨t, 0, none⟩ = some (.pointer (some ⟨g2, 0, none⟩)) ∧ w'.cell? ⟨bp, 2, none⟩ = some (.int .i64 q) ∧ w'.cell? ⟨bt, 2, none⟩ = some (.slice (some ⟨gh, 0, none⟩) 64 ch)) (ds := []) (bz 14 0) (by kernel_rfl) rfl rfl ⟨HPD.out.d, HPD.out.p2, HPD.out.t2⟩ (fun hHeld => ?_)
              refine pz 0 (some 67) (bz 14 1) ?_
              refine pz 1 (some 68) (bz 14 3) ?_
              refine pz 2 (some 69) (bz 14 7) ?_
              refine pz 4 (some 71) (bz 14 23) ?_
              refine pz 5 (some 72) (bz 14 55) ?_
              refine pz 6 (some 73) (bz 14 119) ?_
              refine pz 8 (some 75) (bz 14 375) ?_
              refine pz 9 (some 76) (bz 14 887) ?_
              refine pz 10 (some 77) (bz 14 1911) ?_
              refine tz3 3 (some 70) (bz 14 1919) hHeld ?_
              refine tz3 7 (some 74) (bz 14 2047) hHeld ?_
              refine tz3 11 (some 78) (bz 14 4095) hHeld ?_
              refine one_ (i := 12) (N := some 79) (bz 14 8191) rfl rfl (by kernel_rfl) (by decide) (fun K hK => ?_)
              refine goes_ Tryz.func48 (by kernel_rfl) rfl #[.pointer (some ⟨g2, 0, none⟩), .int .i64 q, .slice (some ⟨gh, 0, none⟩) 64 ch] (by rfl) rfl rfl (by simp only [List.map_toArray, List.map_cons, List.map_nil]; rfl) ?_
              with_reducible refine (HSV.out).mono ?_
              rintro e w4 ⟨rfl, hto⟩
              refine ⟨_, rfl, ?_⟩
              obtain ⟨F4, hl4⟩ := HLD.out.next hto
              have HL4 := Aside0.mk hl4
              have HP4 := Aside0.mk (HPL.out _ hl4.u)
              clear hto hl4
              refine hK.out _ _ ⟨HP4.out.d, HP4.out.p2, HP4.out.t2⟩ (fun hHeld => ?_)
              clear hK K
              refine norm_ (a' := ?_) ?_ ?_
              rotate_left
              · show Act.put _ (some 79) _ = _
                simp only [Act.put, List.setIfInBounds_toArray, List.set_cons_zero, List.set_cons_succ, i64_w, i32_w]
                rfl
              refine pz 13 (some 12) (bz 14 16383) ?_
              refine done_ (by kernel_rfl) ?_
              clear hHeld
              have h40 := HP4.out.d
              go_wp2_with (first | (go_at_call 38; (with_reducible refine (rTo_flush HL4.out.r HL4.out.ok).mono ?_); rintro e w5 ⟨rfl, hto5⟩; have HL5 := Aside0.mk (HL4.out.next hto5); have h5e := HEF.out; rw [h5e]; clear hto5))
              obtain ⟨F5, hl5⟩ := HL5.out
              go_ret
              rw [← HT5.out.1, ← HT5.out.2, HEF.out]
              exact ⟨rfl, (hl5.post HT.out HK.out HBL.out).le (by rw [HHL.out]; omega)⟩
          · have ts : (sv == 0) = false := by simpa using hs0
            have HT4 := Aside0.mk ((rput_save (ps := []) (by rw [hsv]; exact hs0)).symm.trans HTT0.out)
            have HT5 := Aside0.mk (show (rsaveM R' q hd).2 = T.2 ∧ (rsaveM R' q hd).1 = T.1 from ⟨by rw [HT4.out], by rw [HT4.out]⟩)
            clear hsv hs0
            rw [HSE.out] at HSV
            go_wp2_with (fail)
            refine start_ (n := 14) (S := fun w' => w'.cell? ⟨t, 0, none⟩ = some (.pointer (some ⟨g2, 0, none⟩)) ∧ w'.cell? ⟨bp, 2, none⟩ = some (.int .i64 q) ∧ w'.cell? ⟨bt, 2, none⟩ = some (.slice (some ⟨gh, 0, none⟩) 64 ch)) (ds := []) (bz 14 0) (by kernel_rfl) rfl rfl ⟨HPD.out.d, HPD.out.p2, HPD.out.t2⟩ (fun hHeld => ?_)
            refine pz 0 (some 67) (bz 14 1) ?_
            refine pz 1 (some 68) (bz 14 3) ?_
            refine pz 2 (some 69) (bz 14 7) ?_
            refine pz 4 (some 71) (bz 14 23) ?_
            refine pz 5 (some 72) (bz 14 55) ?_
            refine pz 6 (some 73) (bz 14 119) ?_
            refine pz 8 (some 75) (bz 14 375) ?_
            refine pz 9 (some 76) (bz 14 887) ?_
            refine pz 10 (some 77) (bz 14 1911) ?_
            refine tz3 3 (some 70) (bz 14 1919) hHeld ?_
            refine tz3 7 (some 74) (bz 14 2047) hHeld ?_
            refine tz3 11 (some 78) (bz 14 4095) hHeld ?_
            refine one_ (i := 12) (N := some 79) (bz 14 8191) rfl rfl (by kernel_rfl) (by decide) (fun K hK => ?_)
            refine goes_ Tryz.func48 (by kernel_rfl) rfl #[.pointer (some ⟨g2, 0, none⟩), .int .i64 q, .slice (some ⟨gh, 0, none⟩) 64 ch] (by rfl) rfl rfl (by simp only [List.map_toArray, List.map_cons, List.map_nil]; rfl) ?_
            with_reducible refine (HSV.out).mono ?_
            rintro e w4 ⟨rfl, hto⟩
            refine ⟨_, rfl, ?_⟩
            obtain ⟨F4, hl4⟩ := HLD.out.next hto
            have HL4 := Aside0.mk hl4
            have HP4 := Aside0.mk (HPL.out _ hl4.u)
            clear hto hl4
            refine hK.out _ _ ⟨HP4.out.d, HP4.out.p2, HP4.out.t2⟩ (fun hHeld => ?_)
            clear hK K
            refine norm_ (a' := ?_) ?_ ?_
            rotate_left
            · show Act.put _ (some 79) _ = _
              simp only [Act.put, List.setIfInBounds_toArray, List.set_cons_zero, List.set_cons_succ, i64_w, i32_w]
              rfl
            refine pz 13 (some 12) (bz 14 16383) ?_
            refine done_ (by kernel_rfl) ?_
            clear hHeld
            go_wp2_with (fail)
            go_ret
            rw [← HT5.out.1, ← HT5.out.2, HSE.out]
            exact ⟨rfl, (HL4.out.post HT.out HK.out HBL.out).le (by rw [HHL.out]; omega)⟩
        · go_wp2_with (fail)
          go_ret
          have HTE : (R', 0) = T := HTT.out
          rw [← HTE]
          exact ⟨rfl, (HLP.out.post HT.out HK.out HBL.out).le (by omega)⟩

end Go.Proofs.YtmblnflfklmmkaaGreatDoor.Sh
/- Plain facts about stores: what was put is the newest. -/
namespace Go.Proofs.YtmblnflfklmmkaaGreatDoor.Sh
open Go.Proofs.YtmblnflfklmmkaaGreatDoor.Dk
open Go.RowKit Go.Proofs.YtmblnflfklmmkaaGreatDoorW.PrintWords Go.Proofs.YtmblnflfklmmkaaGreatDoorW.PrintLast Go.Proofs.YtmblnflfklmmkaaGreatDoorW.PrintMore
set_option linter.unusedVariables false
set_option linter.unusedSimpArgs false
set_option maxRecDepth 30000
variable {D D' : DM} {fr n q k g : Int} {x y b : List Int}
theorem recM_congr {q : Int} {b : List Int} (hb : ∀ k, q ≤ k → k < q + 1 + ((((hdN b).toNat + 63) / 64 : Nat) : Int) → readM D' k = readM D k) : recM D' q b = recM D q b := by
  unfold recM
  rw [readsTo_congr (q + 1) _ (fun i hi => hb _ (by omega) (by omega))]
/-- An area that no sector of which was turned. -/
theorem areaM_congr (hn : 2 ≤ n) (h : ∀ i, fr + k * n ≤ i → i < fr + k * n + n → readM D' i = readM D i) : areaM D' fr n k = areaM D fr n k := by
  have h0 := h (fr + k * n) (Int.le_refl _) (by omega)
  unfold areaM
  rw [h0]
  obtain ⟨q, hq⟩ : ∃ q, fr + k * n = q := ⟨_, rfl⟩
  rw [hq] at h ⊢
  obtain ⟨b, hb⟩ : ∃ b, readM D q = b := ⟨_, rfl⟩
  rw [hb]
  have hr := numM_range ((b.drop 12).take 4)
  by_cases h1 : hdG b = 0
  · rw [if_pos h1, if_pos h1]
  · rw [if_neg h1, if_neg h1]
    by_cases h2 : 64 * (n - 1) < hdN b
    · rw [if_pos h2, if_pos h2]
    · rw [if_neg h2, if_neg h2]
      have : recM D' q b = recM D q b := recM_congr (fun i hi hi2 => h i hi (by have : 0 ≤ hdN b := hr.1; omega))
      rw [this]
/-- An area that a head and a record were put to. -/
theorem areaM_put (hn : 2 ≤ n) (h0 : 0 < g) (h1 : g ≤ 18446744073709551615) (hx : (x.length : Int) ≤ 64 * (n - 1)) (hx2 : x.length ≤ 1000000) (hh : readM D' (fr + k * n) = headM g x) (ho : ∀ i, i < secN x → readM D' (fr + k * n + 1 + (i : Nat)) = secAt x i) : areaM D' fr n k = some (g, x) := by
  have e1 : hdG (headM g x) = g := hdG_head (by omega) h1
  have e2 : hdN (headM g x) = x.length := hdN_head hx2
  have e3 : recM D' (fr + k * n) (headM g x) = x := by
    unfold recM
    rw [e2, Int.toNat_natCast]
    exact saved_reads ho
  unfold areaM
  rw [hh, e1, if_neg (by omega), e2, if_neg (by omega), e3, if_pos rfl]
theorem areaM_gen {g' : Int} {r : List Int} (h : areaM D fr n k = some (g', r)) : 0 < g' ∧ (r.length : Int) ≤ 64 * (n - 1) := by
  unfold areaM at h
  split at h
  · cases h
  · rename_i h1
    split at h
    · cases h
    · rename_i h2
      split at h
      · injection h with h
        injection h with h3 h4
        have hr := numM_range (((readM D (fr + k * n)).drop 4).take 8)
        have hr2 := numM_range (((readM D (fr + k * n)).drop 12).take 4)
        refine ⟨by rw [← h3]; unfold hdG at h1 ⊢; omega, ?_⟩
        rw [← h4, recM, List.length_take]
        unfold hdN at h2 ⊢
        omega
      · cases h
theorem next_some (st : Int × Int × List Int) (k : Int) (p : Int × List Int) : nextM st k (some p) = if st.2.1 < p.1 then (k, p.1, p.2) else st := rfl
/-- The newest area is one of two. -/
theorem newest_at : (newestM D fr n).1 = -1 ∨ (newestM D fr n).1 = 0 ∨ (newestM D fr n).1 = 1 := by
  unfold newestM
  cases areaM D fr n 0 with
  | none =>
    cases areaM D fr n 1 with
    | none => exact .inl rfl
    | some p =>
      have e0 : nextM (-1, 0, []) 0 none = (-1, 0, []) := rfl
      rw [e0]
      rw [next_some]
      by_cases h : ((-1, 0, []) : Int × Int × List Int).2.1 < p.1
      · exact .inr (.inr (by rw [if_pos h]))
      · exact .inl (by rw [if_neg h])
  | some p0 =>
    have e0 : (nextM (-1, 0, []) 0 (some p0)).1 = -1 ∨ (nextM (-1, 0, []) 0 (some p0)).1 = 0 := by
      rw [next_some]
      by_cases h : ((-1, 0, []) : Int × Int × List Int).2.1 < p0.1
      · exact .inr (by rw [if_pos h])
      · exact .inl (by rw [if_neg h])
    generalize nextM (-1, 0, []) 0 (some p0) = st at e0 ⊢
    cases areaM D fr n 1 with
    | none => rcases e0 with e | e
              · exact .inl e
              · exact .inr (.inl e)
    | some p =>
      rw [next_some]
      by_cases h : st.2.1 < p.1
      · exact .inr (.inr (by rw [if_pos h]))
      · rw [if_neg h]
        rcases e0 with e | e
        · exact .inl e
        · exact .inr (.inl e)
theorem newest_ge {j : Int} (hj : j = 0 ∨ j = 1) {g' : Int} {r : List Int} (h : areaM D fr n j = some (g', r)) : g' ≤ (newestM D fr n).2.1 := by
  have hp := (areaM_gen h).1
  unfold newestM
  rcases hj with rfl | rfl
  · rw [h]
    have e : nextM (-1, 0, []) 0 (some (g', r)) = (0, g', r) := if_pos hp
    rw [e]
    cases areaM D fr n 1 with
    | none => exact Int.le_refl _
    | some p =>
      rw [next_some]
      by_cases hh : g' < p.1
      · rw [if_pos hh]; exact Int.le_of_lt hh
      · rw [if_neg hh]; exact Int.le_refl _
  · rw [h]
    generalize nextM (-1, 0, []) 0 (areaM D fr n 0) = st
    rw [next_some]
    by_cases hh : st.2.1 < g'
    · rw [if_pos hh]; exact Int.le_refl _
    · rw [if_neg hh]; exact Int.not_lt.mp hh
/-- Two areas, one of them newer. -/
theorem newest_new {j : Int} (hj : j = 0 ∨ j = 1) (h : areaM D' fr n j = some (g, x)) (ho : ∀ g' r, areaM D' fr n (1 - j) = some (g', r) → g' < g) : newestM D' fr n = (j, g, x) := by
  have hp := (areaM_gen h).1
  unfold newestM
  rcases hj with rfl | rfl
  · rw [h]
    have e : nextM (-1, 0, []) 0 (some (g, x)) = (0, g, x) := if_pos hp
    rw [e]
    cases e1 : areaM D' fr n 1 with
    | none => rfl
    | some p =>
      obtain ⟨g', r⟩ := p
      have := ho g' r e1
      exact if_neg (by simp only; omega)
  · rw [h]
    cases e1 : areaM D' fr n 0 with
    | none => exact if_pos hp
    | some p =>
      obtain ⟨g', r⟩ := p
      have := ho g' r e1
      have hp' := (areaM_gen e1).1
      have e : nextM (-1, 0, []) 0 (some (g', r)) = (0, g', r) := if_pos hp'
      rw [e]
      exact if_pos (by simp only; omega)
def otherM (at_ : Int) : Int := if at_ = 0 then 1 else 0
theorem toM_eq (at_ : Int) : toM fr n at_ = fr + otherM at_ * n := by
  unfold toM otherM
  split <;> rfl
/-- What a Put leaves, the power staying. -/
structure Puts (D D' : DM) (fr n : Int) (x : List Int) : Prop where
  calm : Dk.Calm D'
  len : D'.sec.length = D.sec.length
  held : D'.held = []
  ok : DOk D'
  new : newestM D' fr n = (otherM (newestM D fr n).1, (newestM D fr n).2.1 + 1, x)
  old : areaM D' fr n (1 - otherM (newestM D fr n).1) = areaM D fr n (1 - otherM (newestM D fr n).1)
  out : ∀ k, 0 ≤ k → (k < fr ∨ fr + 2 * n ≤ k) → readM D' k = readM D k
theorem calm_put (hc : Dk.Calm D) (hk : SOk D fr n) (hh : D.held.length ≤ 5000000) (hx : (x.length : Int) ≤ 64 * (n - 1)) (hg : (newestM D fr n).2.1 < 18446744073709551615) : (putM D fr n x).2 = 0 ∧ Puts D (putM D fr n x).1 fr n x := by
  have hn := hk.hn
  have hl := hk.hl
  have hz := hk.hz
  have hf := hk.hf
  have hr := newestM_range (D := D) (fr := fr) (n := n)
  obtain ⟨at_, mo, r, hst⟩ : ∃ at_ mo r, newestM D fr n = (at_, mo, r) := ⟨_, _, _, rfl⟩
  have hat := newest_at (D := D) (fr := fr) (n := n)
  have hge := fun (j : Int) (hj : j = 0 ∨ j = 1) (g' : Int) (r : List Int) => newest_ge (D := D) (fr := fr) (n := n) (r := r) (g' := g') hj
  rw [hst] at hg hr hat hge
  dsimp only at hg hr hat hge
  have hom : otherM at_ = 0 ∨ otherM at_ = 1 := by unfold otherM; split <;> simp
  have hon : 0 ≤ otherM at_ * n ∧ otherM at_ * n ≤ n := by rcases hom with h | h <;> rw [h] <;> omega
  have hsx : (secN x : Int) ≤ n - 1 := by unfold secN; omega
  have hxl : x.length ≤ 64000 := by omega
  obtain ⟨p1, p2⟩ := calm_put3 (q := fr + otherM at_ * n) (x := x) (h := headM (mo + 1) x) hc hk.d (by omega) (by omega) (by omega) (by omega) (headM_length _ _)
  have e : putM D fr n x = put3 D (fr + otherM at_ * n) x (headM (mo + 1) x) := by
    rw [putM, hc.down, if_neg (by decide), if_neg (by omega), hst, if_neg (by dsimp only; omega), toM_eq]
  rw [e]
  have hnew := areaM_put (D' := (put3 D (fr + otherM at_ * n) x (headM (mo + 1) x)).1) (k := otherM at_) hn (g := mo + 1) (by omega) (by omega) hx (by omega) p2.head p2.own
  have hold : areaM (put3 D (fr + otherM at_ * n) x (headM (mo + 1) x)).1 fr n (1 - otherM at_) = areaM D fr n (1 - otherM at_) := areaM_congr hn (fun i h1 h2 => p2.other i (by rcases hom with h | h <;> rw [h] at h1 <;> omega) (by rcases hom with h | h <;> rw [h] at h1 h2 ⊢ <;> omega))
  refine ⟨p1, p2.calm, p2.len, p2.held, p2.ok, ?_, by rw [hst]; exact hold, fun k h1 h2 => p2.other k h1 (by omega)⟩
  rw [hst]
  refine newest_new hom hnew (fun g' r hr' => ?_)
  rw [hold] at hr'
  have := hge (1 - otherM at_) (by rcases hom with h | h <;> rw [h] <;> simp) g' r hr'
  show g' < mo + 1
  omega
theorem Puts.sok (h : Puts D D' fr n x) (hk : SOk D fr n) : SOk D' fr n := ⟨h.ok, hk.hf, hk.hn, by rw [h.len]; exact hk.hl, by rw [h.len]; exact hk.hz⟩
end Go.Proofs.YtmblnflfklmmkaaGreatDoor.Sh
/- Stores of a law's own: the calls on them; the law's known. -/
namespace Go.Proofs.YtmblnflfklmmkaaGreatDoor.Sh
open Go.Proofs.YtmblnflfklmmkaaGreatDoor.Dk
open Go.RowKit Go.Proofs.YtmblnflfklmmkaaGreatDoorW.PrintWords Go.Proofs.YtmblnflfklmmkaaGreatDoorW.PrintLast Go.Proofs.YtmblnflfklmmkaaGreatDoorW.PrintMore
set_option linter.unusedVariables false
set_option linter.unusedSimpArgs false
set_option maxRecDepth 30000
variable {w0 w w' W W' w1 w2 : World} {B s g : Nat} {F F' : Nat → Prop} {D D' : DM} {fr n : Int} {v : Value} {xs x : List Int}
theorem put3_hs {q : Int} {h : List Int} (hh : h.length = 64) : (put3 D q x h).1.held.length ≤ D.held.length + x.length + 128 ∧ (put3 D q x h).1.sec.length = D.sec.length := by
  have h1 := stepM_hs (D := D) q zer64
  rw [zer64_len] at h1
  have h2 := stepM_hs (D := (stepM D q zer64).1) (q + 1) x
  have h3 := stepM_hs (D := (stepM (stepM D q zer64).1 (q + 1) x).1) q h
  unfold put3
  split
  · exact ⟨by omega, h1.2⟩
  · split
    · exact ⟨by omega, h2.2.trans h1.2⟩
    · exact ⟨by omega, (h3.2.trans h2.2).trans h1.2⟩
theorem put3_ok {q : Int} {h : List Int} (hd : DOk D) (hh : h.length = 64) (hn : D.held.length + x.length + 128 ≤ 10000000) : DOk (put3 D q x h).1 := by
  have h1 := stepM_hs (D := D) q zer64
  rw [zer64_len] at h1
  have h2 := stepM_hs (D := (stepM D q zer64).1) (q + 1) x
  have k1 := stepM_ok (D := D) (k := q) (x := zer64) hd (by rw [zer64_len]; omega)
  have k2 := stepM_ok (D := (stepM D q zer64).1) (k := q + 1) (x := x) k1 (by omega)
  have k3 := stepM_ok (D := (stepM (stepM D q zer64).1 (q + 1) x).1) (k := q) (x := h) k2 (by omega)
  unfold put3
  split
  · exact k1
  · split
    · exact k2
    · exact k3
theorem putM_hs : (putM D fr n x).1.held.length ≤ D.held.length + x.length + 128 ∧ (putM D fr n x).1.sec.length = D.sec.length := by
  unfold putM
  split
  · exact ⟨by dsimp only; omega, rfl⟩
  · split
    · exact ⟨by dsimp only; omega, rfl⟩
    · split
      · exact ⟨by dsimp only; omega, rfl⟩
      · exact put3_hs (headM_length _ _)
theorem putM_ok (hd : DOk D) (hn : D.held.length + x.length + 128 ≤ 10000000) : DOk (putM D fr n x).1 := by
  unfold putM
  split
  · exact hd
  · split
    · exact hd
    · split
      · exact hd
      · exact put3_ok hd (headM_length _ _) hn
theorem SOk.dm (hk : SOk D fr n) (h : DOk D') (hl : D'.sec.length = D.sec.length) : SOk D' fr n := ⟨h, hk.hf, hk.hn, by rw [hl]; exact hk.hl, by rw [hl]; exact hk.hz⟩
/-- A store of the law's own, younger than w0. -/
structure Ss (w0 w : World) (s g : Nat) (F : Nat → Prop) (D : DM) (fr n : Int) : Prop where
  S : SAt w w0.heap.size s g F D fr n
  K : SOk D fr n
  G : Glob w0
  b : Below w0.heap.size w0 w
theorem Ss.glob (h : Ss w0 w s g F D fr n) : Glob w := h.G.below h.b
theorem Ss.notF (h : Ss w0 w s g F D fr n) : ¬ F 0 ∧ ¬ F 1 :=
  ⟨fun hf => by have := h.S.d.lo _ hf; have := h.G.lt; omega, fun hf => by have := h.S.d.lo _ hf; have := h.G.lt; omega⟩
theorem Ss.below (h : Ss w0 w s g F D fr n) (hb : Below w.heap.size w w') : Ss w0 w' s g F D fr n := ⟨h.S.below hb, h.K, h.G, below_trans h.b hb⟩
theorem Ss.st (h : Ss w0 w s g F D fr n) : St w0 w g F D := ⟨h.S.d, h.b⟩
/-- Rows of bytes that were there, and are no blocks of the disk's. -/
def Keeps (w w' : World) (F F' : Nat → Prop) : Prop := (∀ A xs, (C8 w A xs ∧ ∀ a, A = some a → a.block < w.heap.size ∧ ¬ F a.block) → C8 w' A xs ∧ ∀ a, A = some a → a.block < w'.heap.size ∧ ¬ F' a.block) ∧ (∀ v xs, Row w F v xs → Row w' F' v xs)
theorem Keeps.of (hF : ∀ k, F' k → F k ∨ w.heap.size ≤ k) (hu : Upd w w' F) : Keeps w w' F F' :=
  ⟨fun A xs ⟨h1, h2⟩ => ⟨h1.upd hu h2, fun a ha => ⟨Nat.lt_of_lt_of_le (h2 a ha).1 hu.size, fun hf => by
    have := h2 a ha
    rcases hF _ hf with h | h
    · exact this.2 h
    · omega⟩⟩, fun v xs h => h.post hF hu⟩
def SsPo (w0 w w' : World) (s g : Nat) (F : Nat → Prop) (D' : DM) (fr n : Int) : Prop := ∃ F', Ss w0 w' s g F' D' fr n ∧ Keeps w w' F F'
theorem Ss.po (h : Ss w0 w s g F D fr n) (hk : SOk D' fr n) (hp : SPo w w' w0.heap.size s g F D' fr n) : SsPo w0 w w' s g F D' fr n := by
  obtain ⟨F', hF, hs, hu⟩ := hp
  exact ⟨F', ⟨hs, hk, h.G, below_upd h.b hu h.S.d.lo⟩, .of hF hu⟩
theorem Ss.dpo (h : Ss w0 w s g F D fr n) (hk : SOk D' fr n) (hp : DPost w w' w0.heap.size g F D') : SsPo w0 w w' s g F D' fr n := h.po hk (h.S.po hp)
/-- The calls, on such a store. -/
theorem ssGet (h : Ss w0 w s g F D fr n) : Calls Tryz.prog 17 #[.pointer (some ⟨s, 0, none⟩)] w fun e w' => GtPo w w' D fr n e := Get_calls h.glob h.S h.K
theorem ssNewest (h : Ss w0 w s g F D fr n) : Calls Tryz.prog 18 #[.pointer (some ⟨s, 0, none⟩)] w fun e w' => NwPo w w' D fr n e := Newest_calls h.glob h.S h.K
theorem ssRoom (h : Ss w0 w s g F D fr n) : Calls Tryz.prog 9 #[.pointer (some ⟨s, 0, none⟩)] w fun e w' => e = .returned (.int .i64 (64 * (n - 1))) ∧ w = w' := room_calls h.S h.K
theorem ssPut (h : Ss w0 w s g F D fr n) (hh : D.held.length ≤ 5000000) (A : Option Addr) (c : Nat) (x : List Int) (hx : x.length ≤ 20000) (hxc : x.length ≤ c) (hC : ∀ W, Upd w W F → C8 W A x) :
    Calls Tryz.prog 22 #[.pointer (some ⟨s, 0, none⟩), .slice A x.length c] w fun e w' => e = .returned (.int .i64 (putM D fr n x).2) ∧ SsPo w0 w w' s g F (putM D fr n x).1 fr n :=
  (Put_calls h.glob h.notF h.S h.K hh A c x hx hxc hC).mono fun e w' ⟨he, hp⟩ => ⟨he, h.po (h.K.dm (putM_ok h.K.d (by omega)) putM_hs.2) hp⟩
/-- What the law knows. -/
def nD0 : DM := newM [] 4 4
def nD1 : DM := (putM nD0 0 2 [1, 2, 3]).1
def nD2 : DM := (putM nD1 0 2 []).1
theorem nD0_calm : Dk.Calm nD0 := ⟨rfl, rfl⟩
theorem nD0_ok : SOk nD0 0 2 := ⟨newM_ok [] 4 (by decide), by decide, by decide, by decide, by decide⟩
theorem nD0_new : newestM nD0 0 2 = (-1, 0, []) := by
  have h0 : areaM nD0 0 2 0 = none := by unfold areaM; rw [if_pos (by decide)]
  have h1 : areaM nD0 0 2 1 = none := by unfold areaM; rw [if_pos (by decide)]
  unfold newestM
  rw [h0, h1]
  rfl
theorem nP1 : (putM nD0 0 2 [1, 2, 3]).2 = 0 ∧ Puts nD0 nD1 0 2 [1, 2, 3] := calm_put nD0_calm nD0_ok (by decide) (by decide) (by rw [nD0_new]; decide)
theorem nD1_new : newestM nD1 0 2 = (0, 1, [1, 2, 3]) := by
  have := nP1.2.new
  rw [nD0_new] at this
  exact this
theorem nP2 : (putM nD1 0 2 []).2 = 0 ∧ Puts nD1 nD2 0 2 [] := calm_put nP1.2.calm (nP1.2.sok nD0_ok) (by rw [nP1.2.held]; decide) (by decide) (by rw [nD1_new]; decide)
theorem nD2_new : newestM nD2 0 2 = (1, 2, []) := by
  have := nP2.2.new
  rw [nD1_new] at this
  exact this
theorem New4 : Calls Tryz.prog 20 #[.slice none 0 0, .int .i64 4] w fun e w' => ∃ g, e = .returned (.tuple #[.pointer (some ⟨g, 0, none⟩), .int .i64 0]) ∧ DiskAt w' w.heap.size g (fun k => w.heap.size ≤ k ∧ k < w'.heap.size) nD0 ∧ Below w.heap.size w w' :=
  New_calls none 0 [] 4 (by decide) (by decide) ⟨rfl, by decide, fun h => absurd h (by decide)⟩ (by unfold newBad; decide)
theorem nOpen (h : DiskAt w w0.heap.size g F nD0) (hg : Glob w0) (hb : Below w0.heap.size w0 w) : Calls Tryz.prog 21 #[.pointer (some ⟨g, 0, none⟩), .int .i64 0, .int .i64 2] w fun e w' => ∃ s, e = .returned (.tuple #[.pointer (some ⟨s, 0, none⟩), .int .i64 0]) ∧ Ss w0 w' s g F nD0 0 2 := by
  refine (Open_calls h (by decide) 0 2).mono ?_
  rintro e w' (⟨hn, _⟩ | ⟨_, s, rfl, hs, _, hb2⟩)
  · exact absurd (by decide) hn
  · exact ⟨s, rfl, hs, nD0_ok, hg, below_trans hb hb2⟩
theorem nGet (h : Ss w0 w s g F nD0 0 2) : Calls Tryz.prog 17 #[.pointer (some ⟨s, 0, none⟩)] w fun e w' => ∃ A c, e = .returned (.tuple #[.slice A 0 c, .int .i64 70]) ∧ Ss w0 w' s g F nD0 0 2 := by
  refine (ssGet h).mono ?_
  rintro e w' ⟨A, c, rfl, _, hb⟩
  have e1 : getE nD0 0 2 = 70 := by unfold getE; rw [nD0_new]; rfl
  have e2 : getR nD0 0 2 = [] := by unfold getR; rw [e1]; rfl
  rw [e1, e2]
  exact ⟨A, c, rfl, h.below hb⟩
theorem nNewest {a k : Int} {r : List Int} (h : Ss w0 w s g F D 0 2) (hd : Dk.Calm D) (hn : newestM D 0 2 = (a, k, r)) (ha : ¬ a < 0) : Calls Tryz.prog 18 #[.pointer (some ⟨s, 0, none⟩)] w fun e w' => e = .returned (.tuple #[.int .i64 a, .int .u64 k, .int .i64 0]) ∧ Ss w0 w' s g F D 0 2 := by
  refine (ssNewest h).mono ?_
  rintro e w' ⟨hb, rfl⟩
  rw [hn, hd.down, if_neg (by decide), if_neg ha]
  exact ⟨rfl, h.below hb⟩
theorem nPut1 (h : Ss w0 w s g F nD0 0 2) (hC : ∀ W, Upd w W F → C8 W (some ⟨B, 0, none⟩) [1, 2, 3]) : Calls Tryz.prog 22 #[.pointer (some ⟨s, 0, none⟩), .slice (some ⟨B, 0, none⟩) 3 3] w fun e w' => e = .returned (.int .i64 0) ∧ ∃ F', Ss w0 w' s g F' nD1 0 2 := by
  refine (ssPut h (by decide) (some ⟨B, 0, none⟩) 3 [1, 2, 3] (by decide) (by decide) hC).mono ?_
  rintro e w' ⟨rfl, F', hs, _⟩
  rw [nP1.1]
  exact ⟨rfl, F', hs⟩
theorem nPut2 (h : Ss w0 w s g F nD1 0 2) : Calls Tryz.prog 22 #[.pointer (some ⟨s, 0, none⟩), .slice none 0 0] w fun e w' => e = .returned (.int .i64 0) ∧ ∃ F', Ss w0 w' s g F' nD2 0 2 := by
  refine (ssPut h (by rw [nP1.2.held]; decide) none 0 [] (by decide) (by decide) (fun W _ => Kd.C_nil _ _)).mono ?_
  rintro e w' ⟨rfl, F', hs, _⟩
  rw [nP2.1]
  exact ⟨rfl, F', hs⟩
def Kn (w0 w' : World) (e : Ending) : Prop := e = .returned (.bool true) ∧ Below w0.heap.size w0 w'
set_option maxHeartbeats 16000000 in
theorem known_calls (hg : Glob w) : Calls Tryz.prog 7 #[] w fun e w' => Kn w w' e := by
  have HG := Aside0.mk hg
  clear hg
  go_enter Tryz.func7, Tryz.ntmps7
  go_wp2_with (first | (go_at_call 20; (with_reducible refine New4.mono ?_); rintro e w1 ⟨g, rfl, hd1, hb1⟩; have HD1 := Aside0.mk hd1; have HB1 := Aside0.mk hb1; clear hd1 hb1) | (go_at_call 21; (with_reducible refine (nOpen HD1.out HG.out HB1.out).mono ?_); rintro e w2 ⟨s, rfl, hs2⟩; have HS2 := Aside0.mk hs2; clear hs2) | (go_at_call 17; (with_reducible refine (nGet HS2.out).mono ?_); rintro e w3 ⟨A3, c3, rfl, hs3⟩; have HS3 := Aside0.mk hs3; clear hs3))
  have HS4 := Aside0.mk (HS3.out.below (below_alloc (Below.refl _ _) (.cells #[.int .u8 1, .int .u8 2, .int .u8 3] 5)))
  have HC4 := Aside0.mk (C8_young (q := w3.heap.size) (x := [1, 2, 3]) (t := 5) (w := w3.alloc (.cells #[.int .u8 1, .int .u8 2, .int .u8 3] 5)) (DiskAt.hi HS3.out.S.d) (heap_alloc_new w3 _) (by decide))
  go_wp2_with (first | (go_at_call 22; (with_reducible refine (nPut1 HS4.out HC4.out).mono ?_); rintro e w5 ⟨rfl, F5, hs5⟩; have HS5 := Aside0.mk hs5; clear hs5) | (go_at_call 18; (with_reducible refine (nNewest HS5.out nP1.2.calm nD1_new (by decide)).mono ?_); rintro e w6 ⟨rfl, hs6⟩; have HS6 := Aside0.mk hs6; clear hs6) | (go_at_call 22; (with_reducible refine (nPut2 HS6.out).mono ?_); rintro e w7 ⟨rfl, F7, hs7⟩; have HS7 := Aside0.mk hs7; clear hs7) | (go_at_call 18; (with_reducible refine (nNewest HS7.out nP2.2.calm nD2_new (by decide)).mono ?_); rintro e w8 ⟨rfl, hs8⟩; have HS8 := Aside0.mk hs8; clear hs8) | (go_at_call 9; (with_reducible refine (ssRoom HS8.out).mono ?_); rintro e w9 ⟨rfl, rfl⟩))
  go_ret
  exact ⟨rfl, HS8.out.b⟩
end Go.Proofs.YtmblnflfklmmkaaGreatDoor.Sh
