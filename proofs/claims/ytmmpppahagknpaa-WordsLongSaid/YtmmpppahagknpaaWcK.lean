/- The law WordsLong: the walk. -/
import Derived.Test.YtmmpppahagknpaaWcF
import Derived.Test.YtmmpppahagknpaaWcI
namespace Go.Proofs.Ytmmpppahagknpaa.Wc
open Go.RowKit Go.Proofs.Ytmmpppahagknpaa.P Go.Proofs.Ytmmpppahagknpaa.Pure Go.Proofs.YtmmpppahagknpaaW.PrintWords Go.Proofs.YtmmpppahagknpaaW.PrintLast Go.Proofs.YtmmpppahagknpaaW.PrintMore
set_option linter.unusedVariables false
set_option linter.unusedSimpArgs false
set_option maxRecDepth 30000
section
variable {w W w' : World} {A A1 A2 : Option Addr} {c n c1 c2 G : Nat} {xs x1 x2 : List Int}
theorem c_cut0 (hn : xs.length = n) (hC : Kd.C (Kd.int .u8) w A n xs) (hc : n ≤ c) (hb : Byts xs) (h0 : 0 < n) (hl : n ≤ 16384) :
    Calls Try.prog 13 #[.slice A n c] w fun e w' => ∃ A' c' m, 0 < m ∧ m ≤ 16384 ∧ e = .returned (.tuple #[.slice A' m c', .int .i64 0]) ∧ Below w.heap.size w w' := by
  subst hn
  refine (words_Cut.calls (xs.length + 30) A c xs (cutM xs) 0 w hC hc (Cut_eq xs hb hl _ (Nat.le_refl _))).mono ?_
  rintro e w' ⟨v, rfl, hs, hb'⟩
  obtain ⟨A', c', rfl⟩ := Kd.S_slice hs
  obtain ⟨h1, h2, h3⟩ := cutM_whole xs hb (by omega)
  refine ⟨A', c', _, ?_, by omega, rfl, hb'⟩
  rcases Nat.eq_zero_or_pos (cutM xs).length with h | h
  · rw [List.eq_nil_of_length_eq_zero h] at h1
    rw [← h1] at h0
    simp at h0
  · exact h
theorem c_cut2 (hn : xs.length = n) (hC : Kd.C (Kd.int .u8) w A n xs) (hc : n ≤ c) (hl : 16384 < n) :
    Calls Try.prog 13 #[.slice A n c] w fun e w' => ∃ A' c', e = .returned (.tuple #[.slice A' 0 c', .int .i64 2]) ∧ Below w.heap.size w w' := by
  subst hn
  refine (words_Cut.calls 0 A c xs [] 2 w hC hc (by unfold words_Cut.f; rw [if_pos (by omega)])).mono ?_
  rintro e w' ⟨v, rfl, hs, hb'⟩
  obtain ⟨A', c', rfl⟩ := Kd.S_slice hs
  exact ⟨A', c', rfl, hb'⟩
theorem C_two {m : Nat × Nat} {n1 n2 : Nat} (h : w.heap[G]? = some (.cells #[.slice A1 n1 c1, .slice A2 n2 c2] 22 m)) (e1 : x1.length = n1) (e2 : x2.length = n2) (l1 : n1 ≤ c1) (C1 : Kd.C (Kd.int .u8) w A1 n1 x1) (l2 : n2 ≤ c2) (C2 : Kd.C (Kd.int .u8) w A2 n2 x2) :
    Kd.C (Kd.slice 5 (Kd.int .u8)) w (some ⟨G, 0, none⟩) 2 [x1, x2] := by
  subst e1 e2
  refine ⟨rfl, by decide, fun _ => ⟨_, rfl, fun j p hj => ?_⟩⟩
  have hcell : ∀ i, w.cell? ⟨G, i, none⟩ = (#[Value.slice A1 x1.length c1, Value.slice A2 x2.length c2] : Array Value)[i]? := fun i => by rw [World.cell?, h]; simp
  match j, hj with
  | 0, hj =>
    simp only [List.getElem?_cons_zero, Option.some.injEq] at hj
    subst hj
    refine ⟨[.slice A1 x1.length c1], rfl, ⟨A1, c1, rfl, l1, C1⟩, fun i u hu => ?_⟩
    cases i with
    | zero =>
      simp only [List.getElem?_cons_zero, Option.some.injEq] at hu
      subst hu
      exact hcell 0
    | succ i => simp at hu
  | 1, hj =>
    simp only [List.getElem?_cons_succ, List.getElem?_cons_zero, Option.some.injEq] at hj
    subst hj
    refine ⟨[.slice A2 x2.length c2], rfl, ⟨A2, c2, rfl, l2, C2⟩, fun i u hu => ?_⟩
    cases i with
    | zero =>
      simp only [List.getElem?_cons_zero, Option.some.injEq] at hu
      subst hu
      exact hcell 1
    | succ i => simp at hu
  | j + 2, hj => simp at hj
theorem build2 (A : Option Addr) (n c : Nat) (A2 : Option Addr) (n2 c2 : Nat) (w : World) : (Instr.buildSlice 25 2 #[(0, .slice A n c), (1, .slice A2 n2 c2)]).run Try.prog w = .ok (.slice (some ⟨w.heap.size, 0, none⟩) 2 2) (w.alloc (.cells #[.slice A n c, .slice A2 n2 c2] 22)) := by kernel_rfl
theorem exec_build25 {P : Program} {ρ : Operand → Value} {o : Oper} {t : TypeId} {n : Nat} {parts : Array (Nat × Operand)} {args : Array (Nat × Value)} {v : Value} {w w1 : World} (ho : o.op = .buildSlice t n parts) (he : parts.map (fun x => (x.1, ρ x.2)) = args) (hrun : (Instr.buildSlice t n args).run P w = .ok v w1) : (execOp ρ o).run P w = .ok (.value v) w1 := exec_buildSlice ho he hrun
/-- Counts of a text in two pieces. -/
theorem c_two {k : Nat} (hn : xs.length = n) (hk : k ≤ n) (hC : Kd.C (Kd.slice 5 (Kd.int .u8)) w A 2 [xs.take k, xs.drop k]) (hb : Byts xs) (h0 : 0 < n) (hl : n ≤ 20000) :
    Calls Try.prog 22 #[.slice A 2 2] w fun e w' => ∃ A' m c' E, e = .returned (.tuple #[.slice A' m c', .int .i64 E]) ∧ Below w.heap.size w w' ∧ (n ≤ 16384 → E = 0 ∧ 0 < m ∧ m ≤ 16384) ∧ (16384 < n → E = 2 ∧ m = 0) := by
  have ht : tot [xs.take k, xs.drop k] = n := by
    simp only [tot, List.map_cons, List.map_nil, List.sum_cons, List.sum_nil, List.length_take, List.length_drop]
    omega
  have hB : ∀ t ∈ [xs.take k, xs.drop k], Byts t := fun t ht => by
    simp only [List.mem_cons, List.not_mem_nil, or_false] at ht
    rcases ht with rfl | rfl
    · exact fun z hz => hb z (List.mem_of_mem_take hz)
    · exact fun z hz => hb z (List.mem_of_mem_drop hz)
  refine (counts_calls A 2 [xs.take k, xs.drop k] hC (Nat.le_refl _) hB (fun t h => by have := tot_mem h; omega) (by simp)).mono ?_
  rw [ht]
  rintro e w' (⟨h1, v, cs, Z, rfl, hct⟩ | ⟨h1, rfl, hbl⟩)
  · obtain ⟨A', c', rfl⟩ := Kd.R_slice hct.row
    refine ⟨A', _, c', 0, rfl, hct.b, fun _ => ⟨rfl, ?_, ?_⟩, fun h => by omega⟩
    · rw [hct.len]
      rcases Nat.eq_zero_or_pos (countsR (wordsOf [xs.take k, xs.drop k])).length with h | h
      · have h2 : wordsOf [xs.take k, xs.drop k] = [] := by
          cases hw : wordsOf [xs.take k, xs.drop k] with
          | nil => rfl
          | cons y ys =>
            have hm := (mem_counts (ws := y :: ys) (p := (y, ((y :: ys).count y : Int)))).2 ⟨by simp [List.count_cons]; omega, rfl⟩
            rw [← hw, List.eq_nil_of_length_eq_zero h] at hm
            cases hm
        have hfl : (wordsOf [xs.take k, xs.drop k]).flatten = xs := by
          simp only [wordsOf, List.flatMap_cons, List.flatMap_nil, List.append_nil, List.flatten_append]
          rw [(cutM_whole (xs.take k) (hB _ (by simp)) (by rw [List.length_take]; omega)).1, (cutM_whole (xs.drop k) (hB _ (by simp)) (by rw [List.length_drop]; omega)).1, List.take_append_drop]
        rw [h2] at hfl
        rw [← hn, ← hfl] at h0
        simp at h0
      · exact h
    · rw [hct.len]
      have a1 := countsR_length (wordsOf [xs.take k, xs.drop k])
      have a2 := wordsOf_tot hB (by omega)
      omega
  · exact ⟨none, 0, 0, 2, rfl, hbl, fun h => by omega, fun _ => ⟨rfl, rfl⟩⟩
end

theorem zeros (n : Int) (m : Nat) (h : n.toNat = m) : ∃ xs : List Int, List.replicate n.toNat 0 = xs ∧ xs.length = m ∧ Byts xs := ⟨_, rfl, by simp [h], fun z hz => by rw [(List.mem_replicate.1 hz).2]; constructor <;> decide⟩
theorem byts_set {xs : List Int} (h : Byts xs) {c : Int} (hc : Byt c) (i : Nat) : Byts (xs.set i c) := fun z hz => (List.mem_or_eq_of_mem_set hz).elim (h z) (fun e => e ▸ hc)
theorem cell_u8 {w : World} {b g n cap : Nat} {ok : Nat → Prop} {xs : List Int} (h : Kd.R (Kd.int .u8) 5 w b ok (.slice (some ⟨g, 0, none⟩) n cap) xs) {i : Nat} (hi : i < xs.length) : ∃ z, w.cell? ⟨g, i, none⟩ = some (.int .u8 z) := by
  have hn := (Kd.R_reads' h).1
  obtain ⟨c, hl, hM, hx, _⟩ := Kd.R_elem h 0 (i : Int) (by omega) (by omega)
  rw [Int.toNat_natCast] at hM hx
  have hM' : c = [.int .u8 (xs.getD i 0)] := hM
  subst hM'
  have := hx 0 _ rfl
  rw [show i * (Kd.int .u8).sz + 0 = i from by show i * 1 + 0 = _; omega] at this
  exact ⟨_, this⟩
theorem typed_set {w : World} {g : Nat} (h : ∃ cells, w.heap[g]? = some (.cells cells 5 (0, 0))) (i : Nat) (u : Value) : ∃ cells, (w.setCell ⟨g, i, none⟩ u).heap[g]? = some (.cells cells 5 (0, 0)) := by
  obtain ⟨cells, h⟩ := h
  have hlt := blk_lt h
  unfold World.setCell
  simp only [Array.getElem?_modify]
  rw [if_pos trivial, h]
  exact ⟨_, rfl⟩
set_option maxHeartbeats 16000000 in
theorem long_law {w : World} (c' : Int) (more : Bool) (hcb : Byt c') :
    Calls Try.prog 10 #[.int .u8 c', .bool more] w fun e w' => e = .returned (.bool true) ∧ Below w.heap.size w w' := by
  cases more with
  | true =>
    go_enter Try.func10, Try.ntmps10
    go_wp2_with (first | (at_make; refine Kd.R_make (Kd.int .u8) (w0 := w) w.heap.size 5 rfl rfl 22 (.tmp 15) (.tmp 15) rfl 16385 rfl rfl Try.underlying22 (.int .u8 0) 1 info5 rfl (by decide) (by decide) 0 (okp := fun _ => False) (ok := fun k => w.heap.size ≤ k) rfl (fun _ h => h.elim) (Nat.le_refl _) (by decide) (by decide) (Below.refl _ _) (Nat.le_refl _) ?_; intro v1 w1 hr1 hb1 hg1 _; (obtain ⟨xs0, hxs0, hl0, hbt0⟩ := zeros 16385 16385 (by decide)); rw [hxs0] at hr1; obtain ⟨g, cap, rfl, hg1, hg2, cells, hg3⟩ := Kd.R_form hr1 (by rw [hl0]; decide); have hcap0 := (Kd.R_reads' hr1).2.1; rw [hl0] at hcap0 ⊢; rw [hl0] at hr1; have HR1 := Aside0.mk hr1; have HB1 := Aside0.mk hb1; have HG := Aside0.mk (show ∃ cells, w1.heap[g]? = some (.cells cells 5 (0, 0)) from ⟨cells, hg3⟩); clear hr1 hb1 hg3))
    have hcap : 16385 ≤ cap := hcap0
    clear hcap0
    obtain ⟨N, hN⟩ : ∃ N : Nat, N = 16385 := ⟨_, rfl⟩
    rw [show (16385 : Int) = (N : Int) by rw [hN]; rfl, ← hN]
    rw [← hN] at hcap HR1 hl0
    have hNb : N ≤ 20000 := by omega
    have HN := Aside0.mk hN
    clear hN
    go_loopw [7] (fun v7 w' => ∃ (i : Nat) (xs : List Int), v7 = .int .i64 i ∧ i ≤ N ∧ xs.length = N ∧ Aside0 (Byts xs) ∧ Aside0 (Kd.R (Kd.int .u8) 5 w' w.heap.size (fun k => w.heap.size ≤ k) (.slice (some ⟨g, 0, none⟩) N cap) xs) ∧ Aside0 (Below w.heap.size w w') ∧ Aside0 (∃ cells, w'.heap[g]? = some (.cells cells 5 (0, 0)))) (fun v7 _ => N - (intOf v7).toNat)
    case atStart => exact ⟨0, xs0, rfl, Nat.zero_le _, hl0, ⟨hbt0⟩, HR1, HB1, HG⟩
    case round =>
      clear HR1 HB1 HG hl0 hbt0 hxs0
      obtain ⟨i, xs, rfl, hi, hl0, HBX, HRX, HBL, HG⟩ := hrel
      by_cases hil : i < N
      · have hfz : wr.frozen? ⟨g, i, none⟩ = false := by obtain ⟨cells, hg3⟩ := HG.out; exact blk_frozen hg3 i
        have HS := Aside0.mk (Kd.R_putn (h1 := fun _ => rfl) HRX.out (i : Int) c')
        have HS2 := Aside0.mk (show Kd.R (Kd.int .u8) 5 (wr.setCell ⟨g, i, none⟩ (.int .u8 c')) w.heap.size (fun k => w.heap.size ≤ k) (.slice (some ⟨g, 0, none⟩) N cap) (xs.set i c') from HS.out)
        clear HS
        obtain ⟨z, hcz⟩ := cell_u8 HRX.out (i := i) (by omega)
        go_wp2
        go_roundw
        case rel => exact ⟨i + 1, xs.set i c', by go_num, by omega, by rw [List.length_set]; exact hl0, ⟨byts_set HBX.out hcb i⟩, HS2, ⟨HBL.out.setCell (p := ⟨g, i, none⟩) hg1 _⟩, ⟨typed_set HG.out _ _⟩⟩
        case measure => simp [intOf]; omega
      · obtain rfl : i = N := by omega
        obtain rfl := HN.out
        have HLN := Aside0.mk hl0
        have HCX := Aside0.mk (show Kd.C (Kd.int .u8) wr (some ⟨g, 0, none⟩) 16385 xs by have h := (Kd.R_reads' HRX.out).2.2; rwa [hl0] at h)
        go_wp2_with (first | (go_at_call 13; (with_reducible refine (c_cut2 HLN.out HCX.out hcap (by decide)).mono ?_); rintro e w3 ⟨A3, c3, rfl, hb3⟩; have HB3 := Aside0.mk (below_step HBL.out hb3); have HR3 := Aside0.mk (Kd.R_below HRX.out hb3); clear hb3))
        have HX3 := Aside0.mk (show Kd.C (Kd.int .u8) w3 (some ⟨g, 0, none⟩) xs.length xs from (Kd.R_reads' HR3.out).2.2)
        have HBA := Aside0.mk (below_alloc (below_drew HB3.out) (.cells #[.slice (some ⟨g, 0, none⟩) 16380 cap, .slice (some ⟨g, 16380, none⟩) 5 (cap - 16380)] 22))
        have HBA2 := Aside0.mk (below_alloc (below_drew (Below.refl w3.heap.size w3)) (.cells #[.slice (some ⟨g, 0, none⟩) 16380 cap, .slice (some ⟨g, 16380, none⟩) 5 (cap - 16380)] 22))
        have HLT := Aside0.mk (show (xs.take 16380).length = 16380 by rw [List.length_take, HLN.out]; rfl)
        have HLD := Aside0.mk (show (xs.drop 16380).length = 5 by rw [List.length_drop, HLN.out])
        have HC1 := Aside0.mk (show Kd.C (Kd.int .u8) w3 (some ⟨g, 0, none⟩) 16380 (xs.take 16380) by
          have h := Kd.C_take (m := 16380) HX3.out (by rw [HLN.out]; decide)
          rwa [HLT.out] at h)
        have HC5 := Aside0.mk (show Kd.C (Kd.int .u8) w3 (some ⟨g, 16380, none⟩) 5 (xs.drop 16380) by
          have h := Kd.C_drop (m := 16380) (c := cap) HX3.out (by rw [HLN.out]; decide) (by rw [HLN.out]; exact hcap)
          have e : (⟨g, 0, none⟩ : Addr).add (16380 * (Kd.int .u8).sz) = ⟨g, 16380, none⟩ := by show (⟨g, 0, none⟩ : Addr).add (16380 * 1) = _; unfold Addr.add; split <;> simp_all
          rw [HLD.out, if_neg (by omega), Option.map_some, e] at h
          exact h)
        have HC2 := Aside0.mk (C_two (heap_alloc_new w3.drew _) HLT.out HLD.out (show 16380 ≤ cap by omega) (Kd.C_below HC1.out HBA2.out) (show 5 ≤ cap - 16380 by omega) (Kd.C_below HC5.out HBA2.out))
        have hw16 : wrap64 16380 = 16380 := by simp only [wrap64]; decide
        have q1 := eq_true (show (16385 : Int) ≤ (cap : Int) by omega)
        have q2 := eq_true (show (16380 : Int) ≤ (cap : Int) by omega)
        have q3 := eq_false (show ¬ cap = 16380 by omega)
        have q4 := eq_false (show ¬ 16380 = cap by omega)
        refine start_ (n := 15) (S := fun w' => True) (ds := []) #[false, false, false, false, false, false, false, false, false, false, false, false, false, false, false] (by kernel_rfl) rfl rfl trivial (fun hHeld => ?_)
        refine pure_ (i := 0) (N := some 32) (v := ?_) (a' := ?_) #[true, false, false, false, false, false, false, false, false, false, false, false, false, false, false] rfl rfl (by kernel_rfl) (fun _ _ _ h => h) (Or.inl ⟨by rfl, ?_⟩) ?_ ?_
        rotate_left
        · intro w'
          go_simp
          with_reducible rfl
        rotate_left
        · simp only [Act.put, List.setIfInBounds_toArray, List.set_cons_zero, List.set_cons_succ, i64_w, i32_w]
          rfl
        refine pure_ (i := 1) (N := some 33) (v := ?_) (a' := ?_) #[true, true, false, false, false, false, false, false, false, false, false, false, false, false, false] rfl rfl (by kernel_rfl) (fun _ _ _ h => h) (Or.inl ⟨by rfl, ?_⟩) ?_ ?_
        rotate_left
        · intro w'
          go_simp
          with_reducible rfl
        rotate_left
        · simp only [Act.put, List.setIfInBounds_toArray, List.set_cons_zero, List.set_cons_succ, i64_w, i32_w]
          rfl
        refine pure_ (i := 2) (N := some 34) (v := ?_) (a' := ?_) #[true, true, true, false, false, false, false, false, false, false, false, false, false, false, false] rfl rfl (by kernel_rfl) (fun _ _ _ h => h) (Or.inl ⟨by rfl, ?_⟩) ?_ ?_
        rotate_left
        · intro w'
          go_simp
          with_reducible rfl
        rotate_left
        · simp only [Act.put, List.setIfInBounds_toArray, List.set_cons_zero, List.set_cons_succ, i64_w, i32_w]
          rfl
        refine pure_ (i := 3) (N := some 35) (v := ?_) (a' := ?_) #[true, true, true, true, false, false, false, false, false, false, false, false, false, false, false] rfl rfl (by kernel_rfl) (fun _ _ _ h => h) (Or.inl ⟨by rfl, ?_⟩) ?_ ?_
        rotate_left
        · intro w'
          go_simp
          with_reducible rfl
        rotate_left
        · simp only [Act.put, List.setIfInBounds_toArray, List.set_cons_zero, List.set_cons_succ, i64_w, i32_w]
          rfl
        refine pure_ (i := 4) (N := some 36) (v := ?_) (a' := ?_) #[true, true, true, true, true, false, false, false, false, false, false, false, false, false, false] rfl rfl (by kernel_rfl) (fun _ _ _ h => h) (Or.inl ⟨by rfl, ?_⟩) ?_ ?_
        rotate_left
        · intro w'
          go_simp
          with_reducible rfl
        rotate_left
        · simp only [Act.put, List.setIfInBounds_toArray, List.set_cons_zero, List.set_cons_succ, i64_w, i32_w]
          rfl
        refine pure_ (i := 5) (N := some 37) (v := ?_) (a' := ?_) #[true, true, true, true, true, true, false, false, false, false, false, false, false, false, false] rfl rfl (by kernel_rfl) (fun _ _ _ h => h) (Or.inl ⟨by rfl, ?_⟩) ?_ ?_
        rotate_left
        · intro w'
          go_simp
          with_reducible rfl
        rotate_left
        · simp only [Act.put, List.setIfInBounds_toArray, List.set_cons_zero, List.set_cons_succ, i64_w, i32_w]
          rfl
        refine pure_ (i := 6) (N := some 38) (v := ?_) (a' := ?_) #[true, true, true, true, true, true, true, false, false, false, false, false, false, false, false] rfl rfl (by kernel_rfl) (fun _ _ _ h => h) (Or.inl ⟨by rfl, ?_⟩) ?_ ?_
        rotate_left
        · intro w'
          go_simp
          with_reducible rfl
        rotate_left
        · simp only [Act.put, List.setIfInBounds_toArray, List.set_cons_zero, List.set_cons_succ, i64_w, i32_w]
          rfl
        refine pure_ (i := 7) (N := some 39) (v := ?_) (a' := ?_) #[true, true, true, true, true, true, true, true, false, false, false, false, false, false, false] rfl rfl (by kernel_rfl) (fun _ _ _ h => h) (Or.inl ⟨by rfl, ?_⟩) ?_ ?_
        rotate_left
        · intro w'
          go_simp
          with_reducible rfl
        rotate_left
        · simp only [Act.put, List.setIfInBounds_toArray, List.set_cons_zero, List.set_cons_succ, i64_w, i32_w]
          rfl
        refine one_ (i := 8) (N := some 40) #[true, true, true, true, true, true, true, true, true, false, false, false, false, false, false] rfl rfl (by kernel_rfl) (by decide) (fun K hK => ?_)
        refine value_ (w1 := (w3.drew).alloc (.cells #[.slice (some ⟨g, 0, none⟩) 16380 cap, .slice (some ⟨g, 16380, none⟩) 5 (cap - 16380)] 22)) (v := .slice (some ⟨(w3.drew).heap.size, 0, none⟩) 2 2) (by rfl) rfl ?hbs ?_
        case hbs =>
          refine exec_buildSlice (t := 25) (n := 2) (parts := #[(0, .tmp 35), (1, .tmp 39)]) (args := #[(0, .slice (some ⟨g, 0, none⟩) 16380 cap), (1, .slice (some ⟨g, 16380, none⟩) 5 (cap - 16380))]) ?ho ?he ?hr
          case ho => rfl
          case he => kernel_rfl
          case hr => exact build2 _ _ _ _ _ _ (w3.drew)
        refine hK.out _ _ trivial (fun hHeld => ?_)
        clear hK K
        refine norm_ (a' := ?_) ?_ ?_
        rotate_left
        · show Act.put _ (some 40) _ = _
          simp only [Act.put, List.setIfInBounds_toArray, List.set_cons_zero, List.set_cons_succ, i64_w, i32_w]
          rfl
        refine one_ (i := 9) (N := some 41) #[true, true, true, true, true, true, true, true, true, true, false, false, false, false, false] rfl rfl (by kernel_rfl) (by decide) (fun K hK => ?_)
        refine goes_ Try.func22 (by kernel_rfl) rfl #[.slice (some ⟨(w3.drew).heap.size, 0, none⟩) 2 2] (by rfl) rfl rfl (by simp only [List.map_toArray, List.map_cons, List.map_nil]; rfl) ?_
        with_reducible refine (c_two (k := 16380) HLN.out (by decide) HC2.out HBX.out (by decide) (by decide)).mono ?_
        rintro e w4 ⟨A4, m4, c4, E4, rfl, hb4, h41, h42⟩
        refine ⟨_, rfl, ?_⟩
        have HB4 := Aside0.mk (below_step HBA.out hb4)
        obtain ⟨rfl, rfl⟩ := h42 (by decide)
        clear h41 h42 hb4
        refine hK.out _ _ trivial (fun hHeld => ?_)
        clear hK K
        refine norm_ (a' := ?_) ?_ ?_
        rotate_left
        · show Act.put _ (some 41) _ = _
          simp only [Act.put, List.setIfInBounds_toArray, List.set_cons_zero, List.set_cons_succ, i64_w, i32_w]
          rfl
        refine pure_ (i := 10) (N := some 31) (v := ?_) (a' := ?_) #[true, true, true, true, true, true, true, true, true, true, true, false, false, false, false] rfl rfl (by kernel_rfl) (fun _ _ _ h => h) (Or.inl ⟨by rfl, ?_⟩) ?_ ?_
        rotate_left
        · intro w'
          go_simp
          with_reducible rfl
        rotate_left
        · simp only [Act.put, List.setIfInBounds_toArray, List.set_cons_zero, List.set_cons_succ, i64_w, i32_w]
          rfl
        refine pure_ (i := 11) (N := some 42) (v := ?_) (a' := ?_) #[true, true, true, true, true, true, true, true, true, true, true, true, false, false, false] rfl rfl (by kernel_rfl) (fun _ _ _ h => h) (Or.inl ⟨by rfl, ?_⟩) ?_ ?_
        rotate_left
        · intro w'
          go_simp
          with_reducible rfl
        rotate_left
        · simp only [Act.put, List.setIfInBounds_toArray, List.set_cons_zero, List.set_cons_succ, i64_w, i32_w]
          rfl
        refine pure_ (i := 12) (N := some 43) (v := ?_) (a' := ?_) #[true, true, true, true, true, true, true, true, true, true, true, true, true, false, false] rfl rfl (by kernel_rfl) (fun _ _ _ h => h) (Or.inl ⟨by rfl, ?_⟩) ?_ ?_
        rotate_left
        · intro w'
          go_simp
          with_reducible rfl
        rotate_left
        · simp only [Act.put, List.setIfInBounds_toArray, List.set_cons_zero, List.set_cons_succ, i64_w, i32_w]
          rfl
        refine pure_ (i := 13) (N := some 10) (v := ?_) (a' := ?_) #[true, true, true, true, true, true, true, true, true, true, true, true, true, true, false] rfl rfl (by kernel_rfl) (fun _ _ _ h => h) (Or.inl ⟨by rfl, ?_⟩) ?_ ?_
        rotate_left
        · intro w'
          go_simp
          with_reducible rfl
        rotate_left
        · simp only [Act.put, List.setIfInBounds_toArray, List.set_cons_zero, List.set_cons_succ, i64_w, i32_w]
          rfl
        refine pure_ (i := 14) (N := some 11) (v := ?_) (a' := ?_) #[true, true, true, true, true, true, true, true, true, true, true, true, true, true, true] rfl rfl (by kernel_rfl) (fun _ _ _ h => h) (Or.inl ⟨by rfl, ?_⟩) ?_ ?_
        rotate_left
        · intro w'
          go_simp
          with_reducible rfl
        rotate_left
        · simp only [Act.put, List.setIfInBounds_toArray, List.set_cons_zero, List.set_cons_succ, i64_w, i32_w]
          rfl
        refine done_ (by kernel_rfl) ?_
        go_wp2_with (first | (go_at_call 12; (with_reducible refine (c_known).mono ?_); rintro e w5 ⟨rfl, hb5⟩; have HB5 := Aside0.mk (below_step HB4.out hb5); clear hb5))
        go_ret
        exact ⟨rfl, HB5.out⟩
  | false =>
    go_enter Try.func10, Try.ntmps10
    go_wp2_with (first | (at_make; refine Kd.R_make (Kd.int .u8) (w0 := w) w.heap.size 5 rfl rfl 22 (.tmp 15) (.tmp 15) rfl 16384 rfl rfl Try.underlying22 (.int .u8 0) 1 info5 rfl (by decide) (by decide) 0 (okp := fun _ => False) (ok := fun k => w.heap.size ≤ k) rfl (fun _ h => h.elim) (Nat.le_refl _) (by decide) (by decide) (Below.refl _ _) (Nat.le_refl _) ?_; intro v1 w1 hr1 hb1 hg1 _; (obtain ⟨xs0, hxs0, hl0, hbt0⟩ := zeros 16384 16384 (by decide)); rw [hxs0] at hr1; obtain ⟨g, cap, rfl, hg1, hg2, cells, hg3⟩ := Kd.R_form hr1 (by rw [hl0]; decide); have hcap0 := (Kd.R_reads' hr1).2.1; rw [hl0] at hcap0 ⊢; rw [hl0] at hr1; have HR1 := Aside0.mk hr1; have HB1 := Aside0.mk hb1; have HG := Aside0.mk (show ∃ cells, w1.heap[g]? = some (.cells cells 5 (0, 0)) from ⟨cells, hg3⟩); clear hr1 hb1 hg3))
    have hcap : 16384 ≤ cap := hcap0
    clear hcap0
    obtain ⟨N, hN⟩ : ∃ N : Nat, N = 16384 := ⟨_, rfl⟩
    rw [show (16384 : Int) = (N : Int) by rw [hN]; rfl, ← hN]
    rw [← hN] at hcap HR1 hl0
    have hNb : N ≤ 20000 := by omega
    have HN := Aside0.mk hN
    clear hN
    go_loopw [7] (fun v7 w' => ∃ (i : Nat) (xs : List Int), v7 = .int .i64 i ∧ i ≤ N ∧ xs.length = N ∧ Aside0 (Byts xs) ∧ Aside0 (Kd.R (Kd.int .u8) 5 w' w.heap.size (fun k => w.heap.size ≤ k) (.slice (some ⟨g, 0, none⟩) N cap) xs) ∧ Aside0 (Below w.heap.size w w') ∧ Aside0 (∃ cells, w'.heap[g]? = some (.cells cells 5 (0, 0)))) (fun v7 _ => N - (intOf v7).toNat)
    case atStart => exact ⟨0, xs0, rfl, Nat.zero_le _, hl0, ⟨hbt0⟩, HR1, HB1, HG⟩
    case round =>
      clear HR1 HB1 HG hl0 hbt0 hxs0
      obtain ⟨i, xs, rfl, hi, hl0, HBX, HRX, HBL, HG⟩ := hrel
      by_cases hil : i < N
      · have hfz : wr.frozen? ⟨g, i, none⟩ = false := by obtain ⟨cells, hg3⟩ := HG.out; exact blk_frozen hg3 i
        have HS := Aside0.mk (Kd.R_putn (h1 := fun _ => rfl) HRX.out (i : Int) c')
        have HS2 := Aside0.mk (show Kd.R (Kd.int .u8) 5 (wr.setCell ⟨g, i, none⟩ (.int .u8 c')) w.heap.size (fun k => w.heap.size ≤ k) (.slice (some ⟨g, 0, none⟩) N cap) (xs.set i c') from HS.out)
        clear HS
        obtain ⟨z, hcz⟩ := cell_u8 HRX.out (i := i) (by omega)
        go_wp2
        go_roundw
        case rel => exact ⟨i + 1, xs.set i c', by go_num, by omega, by rw [List.length_set]; exact hl0, ⟨byts_set HBX.out hcb i⟩, HS2, ⟨HBL.out.setCell (p := ⟨g, i, none⟩) hg1 _⟩, ⟨typed_set HG.out _ _⟩⟩
        case measure => simp [intOf]; omega
      · obtain rfl : i = N := by omega
        obtain rfl := HN.out
        have HLN := Aside0.mk hl0
        have HCX := Aside0.mk (show Kd.C (Kd.int .u8) wr (some ⟨g, 0, none⟩) 16384 xs by have h := (Kd.R_reads' HRX.out).2.2; rwa [hl0] at h)
        go_wp2_with (first | (go_at_call 13; (with_reducible refine (c_cut0 HLN.out HCX.out hcap HBX.out (by decide) (by decide)).mono ?_); rintro e w3 ⟨A3, c3, m3, hm3, hm3u, rfl, hb3⟩; have HB3 := Aside0.mk (below_step HBL.out hb3); have HR3 := Aside0.mk (Kd.R_below HRX.out hb3); clear hb3))
        have HX3 := Aside0.mk (show Kd.C (Kd.int .u8) w3 (some ⟨g, 0, none⟩) xs.length xs from (Kd.R_reads' HR3.out).2.2)
        have HBA := Aside0.mk (below_alloc (below_drew HB3.out) (.cells #[.slice (some ⟨g, 0, none⟩) 16379 cap, .slice (some ⟨g, 16379, none⟩) 5 (cap - 16379)] 22))
        have HBA2 := Aside0.mk (below_alloc (below_drew (Below.refl w3.heap.size w3)) (.cells #[.slice (some ⟨g, 0, none⟩) 16379 cap, .slice (some ⟨g, 16379, none⟩) 5 (cap - 16379)] 22))
        have HLT := Aside0.mk (show (xs.take 16379).length = 16379 by rw [List.length_take, HLN.out]; rfl)
        have HLD := Aside0.mk (show (xs.drop 16379).length = 5 by rw [List.length_drop, HLN.out])
        have HC1 := Aside0.mk (show Kd.C (Kd.int .u8) w3 (some ⟨g, 0, none⟩) 16379 (xs.take 16379) by
          have h := Kd.C_take (m := 16379) HX3.out (by rw [HLN.out]; decide)
          rwa [HLT.out] at h)
        have HC5 := Aside0.mk (show Kd.C (Kd.int .u8) w3 (some ⟨g, 16379, none⟩) 5 (xs.drop 16379) by
          have h := Kd.C_drop (m := 16379) (c := cap) HX3.out (by rw [HLN.out]; decide) (by rw [HLN.out]; exact hcap)
          have e : (⟨g, 0, none⟩ : Addr).add (16379 * (Kd.int .u8).sz) = ⟨g, 16379, none⟩ := by show (⟨g, 0, none⟩ : Addr).add (16379 * 1) = _; unfold Addr.add; split <;> simp_all
          rw [HLD.out, if_neg (by omega), Option.map_some, e] at h
          exact h)
        have HC2 := Aside0.mk (C_two (heap_alloc_new w3.drew _) HLT.out HLD.out (show 16379 ≤ cap by omega) (Kd.C_below HC1.out HBA2.out) (show 5 ≤ cap - 16379 by omega) (Kd.C_below HC5.out HBA2.out))
        have hw16 : wrap64 16379 = 16379 := by simp only [wrap64]; decide
        have q1 := eq_true (show (16384 : Int) ≤ (cap : Int) by omega)
        have q2 := eq_true (show (16379 : Int) ≤ (cap : Int) by omega)
        have q3 := eq_false (show ¬ cap = 16379 by omega)
        have q4 := eq_false (show ¬ 16379 = cap by omega)
        refine start_ (n := 15) (S := fun w' => True) (ds := []) #[false, false, false, false, false, false, false, false, false, false, false, false, false, false, false] (by kernel_rfl) rfl rfl trivial (fun hHeld => ?_)
        refine pure_ (i := 0) (N := some 32) (v := ?_) (a' := ?_) #[true, false, false, false, false, false, false, false, false, false, false, false, false, false, false] rfl rfl (by kernel_rfl) (fun _ _ _ h => h) (Or.inl ⟨by rfl, ?_⟩) ?_ ?_
        rotate_left
        · intro w'
          go_simp
          with_reducible rfl
        rotate_left
        · simp only [Act.put, List.setIfInBounds_toArray, List.set_cons_zero, List.set_cons_succ, i64_w, i32_w]
          rfl
        refine pure_ (i := 1) (N := some 33) (v := ?_) (a' := ?_) #[true, true, false, false, false, false, false, false, false, false, false, false, false, false, false] rfl rfl (by kernel_rfl) (fun _ _ _ h => h) (Or.inl ⟨by rfl, ?_⟩) ?_ ?_
        rotate_left
        · intro w'
          go_simp
          with_reducible rfl
        rotate_left
        · simp only [Act.put, List.setIfInBounds_toArray, List.set_cons_zero, List.set_cons_succ, i64_w, i32_w]
          rfl
        refine pure_ (i := 2) (N := some 34) (v := ?_) (a' := ?_) #[true, true, true, false, false, false, false, false, false, false, false, false, false, false, false] rfl rfl (by kernel_rfl) (fun _ _ _ h => h) (Or.inl ⟨by rfl, ?_⟩) ?_ ?_
        rotate_left
        · intro w'
          go_simp
          with_reducible rfl
        rotate_left
        · simp only [Act.put, List.setIfInBounds_toArray, List.set_cons_zero, List.set_cons_succ, i64_w, i32_w]
          rfl
        refine pure_ (i := 3) (N := some 35) (v := ?_) (a' := ?_) #[true, true, true, true, false, false, false, false, false, false, false, false, false, false, false] rfl rfl (by kernel_rfl) (fun _ _ _ h => h) (Or.inl ⟨by rfl, ?_⟩) ?_ ?_
        rotate_left
        · intro w'
          go_simp
          with_reducible rfl
        rotate_left
        · simp only [Act.put, List.setIfInBounds_toArray, List.set_cons_zero, List.set_cons_succ, i64_w, i32_w]
          rfl
        refine pure_ (i := 4) (N := some 36) (v := ?_) (a' := ?_) #[true, true, true, true, true, false, false, false, false, false, false, false, false, false, false] rfl rfl (by kernel_rfl) (fun _ _ _ h => h) (Or.inl ⟨by rfl, ?_⟩) ?_ ?_
        rotate_left
        · intro w'
          go_simp
          with_reducible rfl
        rotate_left
        · simp only [Act.put, List.setIfInBounds_toArray, List.set_cons_zero, List.set_cons_succ, i64_w, i32_w]
          rfl
        refine pure_ (i := 5) (N := some 37) (v := ?_) (a' := ?_) #[true, true, true, true, true, true, false, false, false, false, false, false, false, false, false] rfl rfl (by kernel_rfl) (fun _ _ _ h => h) (Or.inl ⟨by rfl, ?_⟩) ?_ ?_
        rotate_left
        · intro w'
          go_simp
          with_reducible rfl
        rotate_left
        · simp only [Act.put, List.setIfInBounds_toArray, List.set_cons_zero, List.set_cons_succ, i64_w, i32_w]
          rfl
        refine pure_ (i := 6) (N := some 38) (v := ?_) (a' := ?_) #[true, true, true, true, true, true, true, false, false, false, false, false, false, false, false] rfl rfl (by kernel_rfl) (fun _ _ _ h => h) (Or.inl ⟨by rfl, ?_⟩) ?_ ?_
        rotate_left
        · intro w'
          go_simp
          with_reducible rfl
        rotate_left
        · simp only [Act.put, List.setIfInBounds_toArray, List.set_cons_zero, List.set_cons_succ, i64_w, i32_w]
          rfl
        refine pure_ (i := 7) (N := some 39) (v := ?_) (a' := ?_) #[true, true, true, true, true, true, true, true, false, false, false, false, false, false, false] rfl rfl (by kernel_rfl) (fun _ _ _ h => h) (Or.inl ⟨by rfl, ?_⟩) ?_ ?_
        rotate_left
        · intro w'
          go_simp
          with_reducible rfl
        rotate_left
        · simp only [Act.put, List.setIfInBounds_toArray, List.set_cons_zero, List.set_cons_succ, i64_w, i32_w]
          rfl
        refine one_ (i := 8) (N := some 40) #[true, true, true, true, true, true, true, true, true, false, false, false, false, false, false] rfl rfl (by kernel_rfl) (by decide) (fun K hK => ?_)
        refine value_ (w1 := (w3.drew).alloc (.cells #[.slice (some ⟨g, 0, none⟩) 16379 cap, .slice (some ⟨g, 16379, none⟩) 5 (cap - 16379)] 22)) (v := .slice (some ⟨(w3.drew).heap.size, 0, none⟩) 2 2) (by rfl) rfl ?hbs ?_
        case hbs =>
          refine exec_buildSlice (t := 25) (n := 2) (parts := #[(0, .tmp 35), (1, .tmp 39)]) (args := #[(0, .slice (some ⟨g, 0, none⟩) 16379 cap), (1, .slice (some ⟨g, 16379, none⟩) 5 (cap - 16379))]) ?ho ?he ?hr
          case ho => rfl
          case he => kernel_rfl
          case hr => exact build2 _ _ _ _ _ _ (w3.drew)
        refine hK.out _ _ trivial (fun hHeld => ?_)
        clear hK K
        refine norm_ (a' := ?_) ?_ ?_
        rotate_left
        · show Act.put _ (some 40) _ = _
          simp only [Act.put, List.setIfInBounds_toArray, List.set_cons_zero, List.set_cons_succ, i64_w, i32_w]
          rfl
        refine one_ (i := 9) (N := some 41) #[true, true, true, true, true, true, true, true, true, true, false, false, false, false, false] rfl rfl (by kernel_rfl) (by decide) (fun K hK => ?_)
        refine goes_ Try.func22 (by kernel_rfl) rfl #[.slice (some ⟨(w3.drew).heap.size, 0, none⟩) 2 2] (by rfl) rfl rfl (by simp only [List.map_toArray, List.map_cons, List.map_nil]; rfl) ?_
        with_reducible refine (c_two (k := 16379) HLN.out (by decide) HC2.out HBX.out (by decide) (by decide)).mono ?_
        rintro e w4 ⟨A4, m4, c4, E4, rfl, hb4, h41, h42⟩
        refine ⟨_, rfl, ?_⟩
        have HB4 := Aside0.mk (below_step HBA.out hb4)
        obtain ⟨rfl, hm4, hm4u⟩ := h41 (by decide)
        clear h41 h42 hb4
        refine hK.out _ _ trivial (fun hHeld => ?_)
        clear hK K
        refine norm_ (a' := ?_) ?_ ?_
        rotate_left
        · show Act.put _ (some 41) _ = _
          simp only [Act.put, List.setIfInBounds_toArray, List.set_cons_zero, List.set_cons_succ, i64_w, i32_w]
          rfl
        refine pure_ (i := 10) (N := some 31) (v := ?_) (a' := ?_) #[true, true, true, true, true, true, true, true, true, true, true, false, false, false, false] rfl rfl (by kernel_rfl) (fun _ _ _ h => h) (Or.inl ⟨by rfl, ?_⟩) ?_ ?_
        rotate_left
        · intro w'
          go_simp
          with_reducible rfl
        rotate_left
        · simp only [Act.put, List.setIfInBounds_toArray, List.set_cons_zero, List.set_cons_succ, i64_w, i32_w]
          rfl
        refine pure_ (i := 11) (N := some 42) (v := ?_) (a' := ?_) #[true, true, true, true, true, true, true, true, true, true, true, true, false, false, false] rfl rfl (by kernel_rfl) (fun _ _ _ h => h) (Or.inl ⟨by rfl, ?_⟩) ?_ ?_
        rotate_left
        · intro w'
          go_simp
          with_reducible rfl
        rotate_left
        · simp only [Act.put, List.setIfInBounds_toArray, List.set_cons_zero, List.set_cons_succ, i64_w, i32_w]
          rfl
        refine pure_ (i := 12) (N := some 43) (v := ?_) (a' := ?_) #[true, true, true, true, true, true, true, true, true, true, true, true, true, false, false] rfl rfl (by kernel_rfl) (fun _ _ _ h => h) (Or.inl ⟨by rfl, ?_⟩) ?_ ?_
        rotate_left
        · intro w'
          go_simp
          with_reducible rfl
        rotate_left
        · simp only [Act.put, List.setIfInBounds_toArray, List.set_cons_zero, List.set_cons_succ, i64_w, i32_w]
          rfl
        refine pure_ (i := 13) (N := some 10) (v := ?_) (a' := ?_) #[true, true, true, true, true, true, true, true, true, true, true, true, true, true, false] rfl rfl (by kernel_rfl) (fun _ _ _ h => h) (Or.inl ⟨by rfl, ?_⟩) ?_ ?_
        rotate_left
        · intro w'
          go_simp
          with_reducible rfl
        rotate_left
        · simp only [Act.put, List.setIfInBounds_toArray, List.set_cons_zero, List.set_cons_succ, i64_w, i32_w]
          rfl
        refine pure_ (i := 14) (N := some 11) (v := ?_) (a' := ?_) #[true, true, true, true, true, true, true, true, true, true, true, true, true, true, true] rfl rfl (by kernel_rfl) (fun _ _ _ h => h) (Or.inl ⟨by rfl, ?_⟩) ?_ ?_
        rotate_left
        · intro w'
          go_simp
          with_reducible rfl
        rotate_left
        · simp only [Act.put, List.setIfInBounds_toArray, List.set_cons_zero, List.set_cons_succ, i64_w, i32_w]
          rfl
        refine done_ (by kernel_rfl) ?_
        go_wp2_with (first | (go_at_call 12; (with_reducible refine (c_known).mono ?_); rintro e w5 ⟨rfl, hb5⟩; have HB5 := Aside0.mk (below_step HB4.out hb5); clear hb5))
        go_ret
        exact ⟨rfl, HB5.out⟩

end Go.Proofs.Ytmmpppahagknpaa.Wc
