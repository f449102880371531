/- Contracts of package disk: New. -/
import Derived.Test.YtfimeiicidcoiaaDkK
namespace Go.Proofs.Ytfimeiicidcoiaa.Dk
open Go.RowKit Go.Proofs.YtfimeiicidcoiaaW.PrintWords Go.Proofs.YtfimeiicidcoiaaW.PrintLast Go.Proofs.YtfimeiicidcoiaaW.PrintMore
set_option linter.unusedVariables false
set_option linter.unusedSimpArgs false
variable {w W W1 : World} {B g N : Nat} {F : Nat → Prop} {D : DM} {vs vh vc : Value}
def newBad (x : List Int) (n : Int) : Prop := n < 1 ∨ 16384 < n ∨ n * 64 < (x.length : Int)
/-- The disk of n sectors, the first i of them filled. -/
def secTo (x : List Int) (n i : Nat) : List (List Int) := (List.range i).map (secAt x) ++ List.replicate (n - i) (List.replicate 64 0)
theorem secTo_length (x : List Int) (n i : Nat) (h : i ≤ n) : (secTo x n i).length = n := by simp only [secTo, List.length_append, List.length_map, List.length_range, List.length_replicate]; omega
theorem secTo_split (x : List Int) (n i : Nat) (h : i < n) : secTo x n i = (List.range i).map (secAt x) ++ List.replicate 64 0 :: List.replicate (n - (i + 1)) (List.replicate 64 0) := by
  unfold secTo
  rw [show n - i = (n - (i + 1)) + 1 by omega, List.replicate_succ]
theorem secTo_next (x : List Int) (n i : Nat) : secTo x n (i + 1) = (List.range i).map (secAt x) ++ secAt x i :: List.replicate (n - (i + 1)) (List.replicate 64 0) := by
  unfold secTo
  rw [List.range_succ, List.map_append, List.append_assoc]
  rfl
theorem secTo_get (x : List Int) (n i : Nat) (h : i < n) : (secTo x n i).getD i [] = List.replicate 64 0 := by
  rw [secTo_split x n i h, List.getD_eq_getElem?_getD, List.getElem?_append_right (by simp)]
  rw [List.length_map, List.length_range, Nat.sub_self]
  rfl
theorem secTo_set (x : List Int) (n i : Nat) (h : i < n) : (secTo x n i).set i (secAt x i) = secTo x n (i + 1) := by
  rw [secTo_split x n i h, secTo_next, List.set_append_right _ _ (by simp), List.length_map, List.length_range, Nat.sub_self]
  rfl
theorem secTo_skip (x : List Int) (n i : Nat) (h : i < n) (hx : x.length ≤ i * 64) : secTo x n (i + 1) = secTo x n i := by
  have e : secAt x i = List.replicate 64 0 := by
    unfold secAt
    rw [List.drop_of_length_le hx, List.take_nil, List.nil_append, show x.length - i * 64 = 0 by omega, Nat.zero_min, Nat.sub_zero]
  rw [secTo_next, e, secTo_split x n i h]
def newM (x : List Int) (n i : Nat) : DM := { sec := secTo x n i, held := [], down := false, strokes := 0, left := 0, set := false, choice := [] }
set_option maxHeartbeats 8000000 in
theorem New_calls (A : Option Addr) (c : Nat) (x : List Int) (n : Nat) (hx : x.length ≤ 1000000000) (hxc : x.length ≤ c) (hC : Kd.C (Kd.int .u8) w A x.length x) (hok : ¬ newBad x n) :
    Calls Try.prog 30 #[.slice A x.length c, .int .i64 n] w fun e w' => ∃ g, e = .returned (.tuple #[.pointer (some ⟨g, 0, none⟩), .int .i64 0]) ∧ DiskAt w' w.heap.size g (fun k => w.heap.size ≤ k ∧ k < w'.heap.size) (newM x n n) ∧ Below w.heap.size w w' := by
  have HC := Aside0.mk hC
  have hn1 : 1 ≤ n := by unfold newBad at hok; omega
  have hn2 : n ≤ 16384 := by unfold newBad at hok; omega
  have hn3 : x.length ≤ n * 64 := by unfold newBad at hok; omega
  clear hok hC
  go_enter Try.func30, Try.ntmps30
  go_wp2_with (first | (refine Kd.R_make kSec (w0 := w) w.heap.size 64 rfl (N := 23) rfl 57 (.tmp 22) (.tmp 22) rfl (n : Int) rfl rfl Try.underlying57 (.agg (List.replicate 64 (.int .u8 0)).toArray) 64 info64' rfl (by decide) (by decide) (List.replicate 64 0) (ok := fun k => w.heap.size ≤ k) (okp := fun _ => False) ⟨rfl, rfl⟩ (fun _ h => h.elim) (Nat.le_refl _) (by omega) (by simp; omega) (Below.refl _ _) (Nat.le_refl _) ?_; intro v1 w1 hr1 hb1 hg1 _; rw [Int.toNat_natCast] at hr1; obtain ⟨A1, c1, rfl⟩ := Kd.R_slice hr1; have HR1 := Aside0.mk hr1; have HB1 := Aside0.mk hb1; clear hr1 hb1 hg1))
  have HC0 := Aside0.mk (show DAt (w1.alloc (.cells #[.slice A1 n c1, .slice none 0 0, .bool false, .int .i64 0, .int .i64 0, .bool false, .slice none 0 0] 60)) w.heap.size w1.heap.size (fun k => w.heap.size ≤ k ∧ k < (w1.alloc (.cells #[.slice A1 n c1, .slice none 0 0, .bool false, .int .i64 0, .int .i64 0, .bool false, .slice none 0 0] 60)).heap.size) (newM x n 0) (.slice A1 n c1) (.slice none 0 0) (.slice none 0 0) from by
    have h1 := Kd.R_below HR1.out (below_alloc (Below.refl w1.heap.size w1) (.cells #[.slice A1 n c1, .slice none 0 0, .bool false, .int .i64 0, .int .i64 0, .bool false, .slice none 0 0] 60))
    have hb := heap_alloc_new w1 (.cells #[.slice A1 n c1, .slice none 0 0, .bool false, .int .i64 0, .int .i64 0, .bool false, .slice none 0 0] 60)
    refine ⟨hb, ?_, Kd.R_nil _ _ _ _ _, Kd.R_nil _ _ _ _ _, ⟨HB1.out.size, blk_lt hb⟩, fun k hk => hk⟩
    rw [List.length_replicate] at h1
    have e : (newM x n 0).sec = List.replicate n (List.replicate 64 0) := by simp only [newM, secTo, List.range_zero, List.map_nil, List.nil_append, Nat.sub_zero]
    rw [e]
    exact Kd.R_mono (Kd.R_bound h1) (fun k hk => ⟨hk.1, hk.2.2.1⟩))
  have HB2 := Aside0.mk (below_alloc HB1.out (.cells #[.slice A1 n c1, .slice none 0 0, .bool false, .int .i64 0, .int .i64 0, .bool false, .slice none 0 0] 60))
  go_loopw [7, 8, 27] (fun v7 v8 v27 w' => ∃ i : Nat, v27 = .int .i64 i ∧ i ≤ n ∧ Aside0 (DAt w' w.heap.size w1.heap.size (fun k => w.heap.size ≤ k ∧ k < w'.heap.size) (newM x n i) (.slice A1 n c1) (.slice none 0 0) (.slice none 0 0)) ∧ Aside0 (Below w.heap.size w w')) (fun _ _ v27 _ => n - (intOf v27).toNat)
  case atStart => exact ⟨0, rfl, Nat.zero_le _, HC0, HB2⟩
  case round =>
    obtain ⟨i, rfl, hi, HD, HV⟩ := hrel
    by_cases hlt : i < n
    · by_cases h64 : i * 64 < x.length
      · have HX := Aside0.mk (Kd.C_below HC.out HV.out)
        obtain ⟨_, _, c3⟩ := HX.out
        obtain ⟨ad, hA, hcc⟩ := c3 (by omega)
        have hl := secTo_length x n i hi
        rcases R_cases HD.out.sec with ⟨_, hz⟩ | ⟨gs, cap, es, hgs⟩
        · have h0 : (secTo x n i).length = 0 := congrArg List.length hz
          omega
        injection es with e1 e2 e3
        subst e1
        clear e2 e3
        have hA' := hA
        subst hA
        have hcell : ∀ j v, x[j]? = some v → wr.drew.cell? (ad.add j) = some (.int .u8 v) := fun j v hj => by
          obtain ⟨cs, _, hK, hx1⟩ := hcc j v hj
          have := hx1 0 (.int .u8 v) (by rw [hK]; rfl)
          simpa [Kd.int, Kd.scalar] using this
        obtain ⟨ad2, cz, ez, hszz, hKz, hxz⟩ := Kd.C_get (Kd.R_reads' HD.out.sec).2.2 [] (i : Int) (by omega) (by show (i : Int) < ((secTo x n i).length : Int); omega)
        injection ez with ez
        subst ez
        rw [Int.toNat_natCast] at hKz hxz
        have hKz' : cz = nums .u8 (List.replicate 64 0) := by
          have := hKz.1
          rwa [show ((newM x n i).sec.getD i []) = List.replicate 64 0 from secTo_get x n i hlt] at this
        have hcc2 : ∀ j u, cz[j]? = some u → wr.drew.cell? ⟨gs, i * 64 + j, none⟩ = some u := fun j u hj => by
          have := hxz j u hj
          rw [add0] at this
          exact this
        obtain ⟨m, hm⟩ : ∃ m, m = min (x.length - i * 64) 64 := ⟨_, rfl⟩
        have hpl : ((x.drop (i * 64)).take 64).length = m := by rw [List.length_take, List.length_drop, hm, Nat.min_comm]
        have hczl : cz.length = 64 := hszz
        have hseg := Kd.R_seg (W := wr.drew) (g := gs) (cap := c1) (n := n) HD.out.sec (i : Int) (by omega) (by omega) hszz (j := 0) (seg := nums .u8 ((x.drop (i * 64)).take 64)) (x' := secAt x i) (okp := fun _ => False) (by intro j u hj; rw [Int.toNat_natCast]; exact hcc2 j u hj) (by rw [nums_length, hpl]; show 0 + m ≤ 64; omega) ⟨by
            rw [hKz', nums_length, hpl, Nat.zero_add, List.take_zero, List.nil_append]
            simp only [secAt, nums, List.map_append, List.map_replicate, List.drop_replicate, ← hm], secAt_length x i⟩ (fun _ h => h.elim)
        rw [Int.toNat_natCast, Nat.add_zero] at hseg
        obtain ⟨hrow, hgr⟩ := hseg
        have hif : (if c = i * 64 then some ad else some (ad.add (i * 64))) = some (ad.add (i * 64)) := if_neg (by omega)
        have HCP := Aside0.mk (fun ty => run_copy_cells (P := Try.prog) wr.drew 22 22 ty 5 gs (i * 64) 64 64 (ad.add (i * 64)) (x.length - i * 64) (c - i * 64) (nums .u8 ((x.drop (i * 64)).take 64)) Try.underlying22 (by kernel_rfl) (by rw [nums_length, hpl, hm]) (fun j v hj => by
          simp only [nums, List.getElem?_map, Option.map_eq_some_iff] at hj
          obtain ⟨q, hq, rfl⟩ := hj
          rw [List.getElem?_take] at hq
          split at hq
          · rw [List.getElem?_drop] at hq
            rw [Addr.add_add]
            exact hcell _ _ hq
          · cases hq) (fun j hj => by
          rw [nums_length, hpl] at hj
          obtain ⟨u, hu⟩ : ∃ u, cz[j]? = some u := ⟨cz[j]'(by omega), List.getElem?_eq_getElem _⟩
          rw [hcc2 j u hu]
          rfl) (fun j hj => by
          obtain ⟨inner, ho⟩ := Kd.R_own HD.out.sec
          obtain ⟨cells2, hc2⟩ := own_typed ho gs rfl
          exact blk_frozen (w := wr.drew) hc2 _) (fun v hv => by
          simp only [nums, List.mem_map] at hv
          obtain ⟨_, _, rfl⟩ := hv
          rfl))
        rw [← hif] at HCP
        have hw4 : wrap64 ((i : Int) * 64) = (i : Int) * 64 := by simp only [wrap64]; omega
        have htn : ((i : Int) * 64).toNat = i * 64 := by omega
        have c0 : wr.drew.cell? ⟨w1.heap.size, 0, none⟩ = some (.slice (some ⟨gs, 0, none⟩) n c1) := HD.out.c0
        have hgr' : wr.grownBy (wr.drew.setCells gs (i * 64) (nums .u8 ((x.drop (i * 64)).take 64))) (Value.slice (some ⟨gs, 0, none⟩) n c1).ownBlock := ⟨hgr.os, hgr.tape, hgr.output, hgr.size, hgr.block⟩
        have HD2 := Aside0.mk (show DAt (wr.drew.setCells gs (i * 64) (nums .u8 ((x.drop (i * 64)).take 64))) w.heap.size w1.heap.size (fun k => w.heap.size ≤ k ∧ k < (wr.drew.setCells gs (i * 64) (nums .u8 ((x.drop (i * 64)).take 64))).heap.size) (newM x n (i + 1)) (.slice (some ⟨gs, 0, none⟩) n c1) (.slice none 0 0) (.slice none 0 0) from by
          have hs := secTo_set x n i hlt
          refine ⟨blk_other HD.out.blk HD.out.sec (by decide) hgr', ?_, Kd.R_nil _ _ _ _ _, Kd.R_nil _ _ _ _ _, ⟨HD.out.own.1, Nat.lt_of_lt_of_le HD.out.own.2 hgr'.size⟩, fun k hk => hk⟩
          show Kd.R kSec 64 _ _ _ _ (secTo x n (i + 1))
          rw [← hs]
          exact Kd.R_mono hrow (fun k hk => ⟨hk.1, Nat.lt_of_lt_of_le hk.2 hgr'.size⟩))
        have HB3 := Aside0.mk (HV.out.trans (show Below w.heap.size wr (wr.drew.setCells gs (i * 64) (nums .u8 ((x.drop (i * 64)).take 64))) from ⟨hgr'.os, hgr'.tape, hgr'.output, hgr'.size, fun k hk => hgr'.block k (Nat.lt_of_lt_of_le hk HV.out.size) (fun he => by simp [Value.ownBlock] at he; omega)⟩))
        clear hcc hcell hxz hKz hKz' hcc2 hrow hgr hgr' hif c3 hpl hczl hszz
        go_wp2
        refine start_ (n := 11) (S := fun w' => w'.cell? ⟨w1.heap.size, 0, none⟩ = some (.slice (some ⟨gs, 0, none⟩) n c1)) (ds := [10]) #[false, false, false, false, false, false, false, false, false, false, false] (by kernel_rfl) rfl rfl (c0) (fun hHeld => ?_)
        refine pure_ (i := 0) (N := some 36) (v := ?_) (a' := ?_) #[true, false, false, false, false, false, false, false, false, false, false] rfl rfl (by kernel_rfl) (fun _ _ _ h => h) (Or.inl ⟨by rfl, ?_⟩) ?_ ?_
        rotate_left
        · intro w'
          go_simp
          with_reducible rfl
        rotate_left
        · simp only [Act.put, List.setIfInBounds_toArray, List.set_cons_zero, List.set_cons_succ, i64_w, i32_w]
          rfl
        refine pure_ (i := 1) (N := some 37) (v := ?_) (a' := ?_) #[true, true, false, false, false, false, false, false, false, false, false] rfl rfl (by kernel_rfl) (fun _ _ _ h => h) (Or.inl ⟨by rfl, ?_⟩) ?_ ?_
        rotate_left
        · intro w'
          go_simp
          with_reducible rfl
        rotate_left
        · simp only [Act.put, List.setIfInBounds_toArray, List.set_cons_zero, List.set_cons_succ, i64_w, i32_w]
          rfl
        refine pure_ (i := 2) (N := some 38) (v := ?_) (a' := ?_) #[true, true, true, false, false, false, false, false, false, false, false] rfl rfl (by kernel_rfl) (fun _ _ _ h => h) (Or.inl ⟨by rfl, ?_⟩) ?_ ?_
        rotate_left
        · intro w'
          go_simp
          with_reducible rfl
        rotate_left
        · simp only [Act.put, List.setIfInBounds_toArray, List.set_cons_zero, List.set_cons_succ, i64_w, i32_w]
          rfl
        refine pure_ (i := 4) (N := some 40) (v := ?_) (a' := ?_) #[true, true, true, false, true, false, false, false, false, false, false] rfl rfl (by kernel_rfl) (fun _ _ _ h => h) (Or.inl ⟨by rfl, ?_⟩) ?_ ?_
        rotate_left
        · intro w'
          go_simp
          with_reducible rfl
        rotate_left
        · simp only [Act.put, List.setIfInBounds_toArray, List.set_cons_zero, List.set_cons_succ, i64_w, i32_w]
          rfl
        refine pure_ (i := 7) (N := some 43) (v := ?_) (a' := ?_) #[true, true, true, false, true, false, false, true, false, false, false] rfl rfl (by kernel_rfl) (fun _ _ _ h => h) (Or.inl ⟨by rfl, ?_⟩) ?_ ?_
        rotate_left
        · intro w'
          go_simp
          with_reducible rfl
        rotate_left
        · simp only [Act.put, List.setIfInBounds_toArray, List.set_cons_zero, List.set_cons_succ, i64_w, i32_w]
          rfl
        refine pure_ (i := 8) (N := some 44) (v := ?_) (a' := ?_) #[true, true, true, false, true, false, false, true, true, false, false] rfl rfl (by kernel_rfl) (fun _ _ _ h => h) (Or.inl ⟨by rfl, ?_⟩) ?_ ?_
        rotate_left
        · intro w'
          go_simp
          with_reducible rfl
        rotate_left
        · simp only [Act.put, List.setIfInBounds_toArray, List.set_cons_zero, List.set_cons_succ, i64_w, i32_w]
          rfl
        refine pure_ (i := 9) (N := some 45) (v := ?_) (a' := ?_) #[true, true, true, false, true, false, false, true, true, true, false] rfl rfl (by kernel_rfl) (fun _ _ _ h => h) (Or.inl ⟨by rfl, ?_⟩) ?_ ?_
        rotate_left
        · intro w'
          go_simp
          (try simp only [htn])
          (try rw [if_pos ⟨by omega, by omega⟩])
          (try rw [if_neg (by omega)])
          (try with_reducible rfl)
        rotate_left
        · simp only [Act.put, List.setIfInBounds_toArray, List.set_cons_zero, List.set_cons_succ, i64_w, i32_w]
          rfl
        refine take_ (i := 3) (N := some 39) (v := ?_) (a' := ?_) #[true, true, true, true, true, false, false, true, true, true, false] rfl rfl (by kernel_rfl) (fun _ _ _ h => h) (Or.inl ⟨by rfl, ?_⟩) hHeld ?_ ?_
        rotate_left
        · intro w' s0
          go_simp
          with_reducible rfl
        rotate_left
        · simp only [Act.put, List.setIfInBounds_toArray, List.set_cons_zero, List.set_cons_succ, i64_w, i32_w]
          rfl
        refine pure_ (i := 5) (N := some 41) (v := ?_) (a' := ?_) #[true, true, true, true, true, true, false, true, true, true, false] rfl rfl (by kernel_rfl) (fun _ _ _ h => h) (Or.inl ⟨by rfl, ?_⟩) ?_ ?_
        rotate_left
        · intro w'
          go_simp
          with_reducible rfl
        rotate_left
        · simp only [Act.put, List.setIfInBounds_toArray, List.set_cons_zero, List.set_cons_succ, i64_w, i32_w]
          rfl
        refine pure_ (i := 6) (N := some 42) (v := ?_) (a' := ?_) #[true, true, true, true, true, true, true, true, true, true, false] rfl rfl (by kernel_rfl) (fun _ _ _ h => h) (Or.inl ⟨by rfl, ?_⟩) ?_ ?_
        rotate_left
        · intro w'
          go_simp
          with_reducible rfl
        rotate_left
        · simp only [Act.put, List.setIfInBounds_toArray, List.set_cons_zero, List.set_cons_succ, i64_w, i32_w]
          rfl
        refine last_ (i := 10) (N := some 46) #[true, true, true, true, true, true, true, true, true, true, true] rfl rfl (by kernel_rfl) (by decide) (fun K hK => ?_)
        refine copy_step (by rfl) rfl (.tmp 42) (.tmp 45) 22 22 rfl rfl rfl HCP.out ?_
        refine hK.out _ _ ?_
        clear hK K
        refine norm_ (a' := ?_) ?_ ?_
        rotate_left
        · show Act.put _ (some 46) _ = _
          simp only [Act.put, List.setIfInBounds_toArray, List.set_cons_zero, List.set_cons_succ, i64_w, i32_w]
          rfl
        refine done_ (by kernel_rfl) ?_

        go_wp2
        go_roundw
        case rel => exact ⟨i + 1, by go_num, by omega, HD2, HB3⟩
        case measure => simp [intOf]; omega
      · have HD2 := Aside0.mk (show DAt wr w.heap.size w1.heap.size (fun k => w.heap.size ≤ k ∧ k < wr.heap.size) (newM x n (i + 1)) (.slice A1 n c1) (.slice none 0 0) (.slice none 0 0) by
          have := HD.out
          unfold newM at this ⊢
          rw [secTo_skip x n i hlt (by omega)]
          exact this)
        go_wp2
        go_roundw
        case rel => exact ⟨i + 1, by go_num, by omega, HD2, HV⟩
        case measure => simp [intOf]; omega
    · obtain rfl : i = n := by omega
      go_wp2
      refine bodyPost_ret (results_tmp2 rfl _ _ _) rfl ?_
      exact ⟨_, rfl, ⟨_, _, _, HD.out⟩, HV.out⟩
end Go.Proofs.Ytfimeiicidcoiaa.Dk
