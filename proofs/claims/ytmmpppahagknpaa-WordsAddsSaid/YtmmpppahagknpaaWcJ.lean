/- The law WordsAdds: the walk. -/
import Derived.Test.YtmmpppahagknpaaWcF
import Derived.Test.YtmmpppahagknpaaWcI
import Derived.Laws.Cover1
namespace Go.Proofs.Ytmmpppahagknpaa.Wc
open Go.RowKit Go.Proofs.Ytmmpppahagknpaa.P Go.Proofs.Ytmmpppahagknpaa.Pure Go.Proofs.YtmmpppahagknpaaW.PrintWords Go.Proofs.YtmmpppahagknpaaW.PrintLast Go.Proofs.YtmmpppahagknpaaW.PrintMore
set_option linter.unusedVariables false
set_option linter.unusedSimpArgs false
set_option maxRecDepth 30000
section
variable {w w1 w2 W w' : World} {Z : Nat → Prop} {v v1 v2 : Value} {cs : List CE} {l : List Cn} {A : Option Addr} {c n k : Nat} {T : List (List Int)}
theorem c_counts (hn : T.length = n) (hT : Kd.C (Kd.slice 5 (Kd.int .u8)) w A n T) (hc : n ≤ c) (hB : ∀ t ∈ T, Byts t) (hs : T.length + tot T ≤ 16384) :
    Calls Try.prog 22 #[.slice A n c] w fun e w' => ∃ v cs Z, e = .returned (.tuple #[v, .int .i64 0]) ∧ Ct w w' 45 Z v cs (countsR (wordsOf T)) := by
  subst hn
  refine (counts_calls A c T hT hc hB (fun t ht => by have := tot_mem ht; omega) (by omega)).mono ?_
  rintro e w' (⟨_, v, cs, Z, rfl, hct⟩ | ⟨hbad, _⟩)
  · exact ⟨v, cs, Z, rfl, hct⟩
  · omega
theorem tot_append (a b : List (List Int)) : tot (a ++ b) = tot a + tot b := by simp [tot]
theorem tot_split (T : List (List Int)) (k : Nat) : tot (T.take k) + tot (T.drop k) = tot T := by
  conv => rhs; rw [← List.take_append_drop k T]
  rw [tot_append]
theorem words_turned (T : List (List Int)) (k : Nat) : countsR (wordsOf (T.drop k ++ T.take k)) = countsR (wordsOf T) := by
  refine counts_perm_eq ?_
  conv => rhs; rw [← List.take_append_drop k T]
  unfold wordsOf
  rw [List.flatMap_append, List.flatMap_append]
  exact List.perm_append_comm
theorem words_split (T : List (List Int)) (k : Nat) : wordsOf T = wordsOf (T.take k) ++ wordsOf (T.drop k) := by
  conv => lhs; rw [← List.take_append_drop k T]
  unfold wordsOf
  rw [List.flatMap_append]
theorem among_eq (a : Int) {N : Nat} (h0 : 1 ≤ N) (h1 : N ≤ 100000) : ∃ k : Nat, imprimaturref01_Among.f a N = some (k : Int) ∧ k < N := by
  have h2 := Int.tmod_lt_of_pos a (show (0 : Int) < (N : Int) by omega)
  have h3 := Int.lt_tmod_of_pos a (show (0 : Int) < (N : Int) by omega)
  unfold imprimaturref01_Among.f
  rw [if_neg (by omega), if_neg (by omega)]
  split
  · rw [w64b (by omega) (by omega)]
    exact ⟨(Int.tmod a N + N).toNat, by rw [Int.toNat_of_nonneg (by omega)], by omega⟩
  · exact ⟨(Int.tmod a N).toNat, by rw [Int.toNat_of_nonneg (by omega)], by omega⟩
theorem dr_same {w w1 : World} (h : Below w.heap.size w w1) {x y : CE} {Zx Zy : Nat → Prop} (hx : x.Ok w Zx) (hy : y.Ok w Zy) (bx : Byts x.b) (by' : Byts y.b) :
    Calls Try.prog 16 #[.slice x.A x.b.length x.c, .slice y.A y.b.length y.c] w1 fun e w' => e = .returned (.bool (decide (x.b = y.b))) ∧ Drawn0 w1 w' := by
  have h1 := Kd.V_reads' (Kd.V_below hx h)
  have h2 := Kd.V_reads' (Kd.V_below hy h)
  refine imprimaturref01_SameBytes.calls x.A x.c x.b y.A y.c y.b _ w1 h1.2.2 h1.2.1 h2.2.2 h2.2.1 ?_
  unfold imprimaturref01_SameBytes.f
  rw [same_eq bx by']
theorem Ct.keys {e : TypeId} (h : Ct w w1 e Z v cs (countsR (wordsOf T))) (hB : ∀ t ∈ T, Byts t) (hl : T.length + tot T ≤ 16384) : ∀ x ∈ cs, Byts x.b := fun x hx => by
  have h1 : x.pr ∈ countsR (wordsOf T) := by rw [← h.pr]; exact List.mem_map.2 ⟨x, hx, rfl⟩
  exact words_byts hB (fun t ht => by have := tot_mem ht; omega) _ (keys_R _ _ h1)
end
/-- One step of a sum: (the walk of the two inner loops). -/

theorem dr3 (w : World) (m n : Nat) : (w.drewN m).drew.drewN n = w.drewN (m + 1 + n) := by simp [World.drewN, World.drew, Nat.add_assoc]
set_option maxHeartbeats 64000000 in
theorem adds_law {w : World} (A : Option Addr) (c : Nat) (T : List (List Int)) (at' : Int) (hT : Kd.C (Kd.slice 5 (Kd.int .u8)) w A T.length T) (hc : T.length ≤ c) (hB : ∀ t ∈ T, Byts t) (hl : ∀ t ∈ T, t.length ≤ 140737488355328) (hTl : T.length ≤ 140737488355328) :
    Calls Try.prog 9 #[.slice A T.length c, .int .i64 at'] w fun e w' => e = .returned (.bool true) ∧ Below w.heap.size w w' := by
  have HT := Aside0.mk hT
  have HC := Aside0.mk hc
  have HB := Aside0.mk hB
  obtain ⟨b, hb, hm⟩ := c_much hT hc hTl hl
  have HM := Aside0.mk hm
  clear hT hB hl hm hTl
  cases b with
  | true =>
    go_enter Try.func9, Try.ntmps9
    go_wp2_with (first | (go_at_call 21; (with_reducible refine HM.out.mono ?_); rintro e w1 ⟨rfl, m1, rfl⟩) | (go_at_call 12; (with_reducible refine (c_known).mono ?_); rintro e w2 ⟨rfl, hb2⟩))
    go_ret
    exact ⟨rfl, below_step (pw_below_drewN (Below.refl _ _) m1) hb2⟩
  | false =>
    have hs := hb rfl
    obtain ⟨n, hn⟩ : ∃ n, T.length = n := ⟨_, rfl⟩
    rw [hn] at HM HT hs hc ⊢
    obtain ⟨k, hk, hkn⟩ := among_eq at' (N := n + 1) (by omega) (by omega)
    rw [show ((n + 1 : Nat) : Int) = (n : Int) + 1 from rfl] at hk
    have HAM := Aside0.mk (fun W => imprimaturref01_Among.calls at' ((n : Int) + 1) (k : Int) W hk)
    have HS := Aside0.mk (show T.length + tot T ≤ 16384 by omega)
    have hsp := tot_split T k
    have HSX := Aside0.mk (show ∀ (x : List Int), 0 ≤ numOf x (countsR (wordsOf (T.take k))) ∧ numOf x (countsR (wordsOf (T.take k))) ≤ 16384 from fun x => by
      rw [numOf_counts]
      have h1 := wordsOf_tot (T := T.take k) (fun t ht => HB.out t (List.mem_of_mem_take ht)) (by omega)
      have h2 := List.count_le_length (a := x) (l := wordsOf (T.take k))
      omega)
    clear hb hk
    have hkn' : k ≤ n := by omega
    clear hkn
    have hwr : wrap64 ((n : Int) + 1) = (n : Int) + 1 := by simp only [wrap64]; omega
    go_enter Try.func9, Try.ntmps9
    go_wp2_with (first | (go_at_call 21; (with_reducible refine HM.out.mono ?_); rintro e w1 ⟨rfl, m1, rfl⟩) | (go_at_call 26; (with_reducible refine (HAM.out _).mono ?_); rintro e w2 ⟨rfl, m2, rfl⟩))
    refine gen_world w (by repeat (first | exact Below.refl _ _ | apply pw_below_drewN)) (fun wz hwz => ?_)
    have HWZ := Aside0.mk hwz
    have HLD := Aside0.mk (show (T.drop k).length = n - k by rw [List.length_drop, hn])
    have HLT := Aside0.mk (show (T.drop k ++ T.take k).length = n by rw [List.length_append, List.length_drop, List.length_take]; omega)
    have HLK := Aside0.mk (show (T.take k).length = k by rw [List.length_take]; omega)
    have HTz := Aside0.mk (show Kd.C (Kd.slice 5 (Kd.int .u8)) wz A T.length T by rw [hn]; exact Kd.C_below HT.out hwz)
    obtain ⟨AD, hAD⟩ : ∃ AD, (if c = k then A else Option.map (fun z => z.add k) A) = AD := ⟨_, rfl⟩
    have HDz := Aside0.mk (show Kd.C (Kd.slice 5 (Kd.int .u8)) wz AD (n - k) (T.drop k) by
      rw [← hAD]
      have h := Kd.C_drop HTz.out (m := k) (c := c) (by omega) (by omega)
      rw [HLD.out] at h
      simpa [Kd.slice] using h)
    have HKz := Aside0.mk (show Kd.C (Kd.slice 5 (Kd.int .u8)) wz A k (T.take k) by
      have h := Kd.C_take HTz.out (m := k) (by omega)
      rwa [HLK.out] at h)
    have HFD := Aside0.mk (show Kd.F (Kd.slice 5 (Kd.int .u8)) wz.drew (fun j => j < wz.heap.size) AD (n - k) (T.drop k) from Kd.F_below (Kd.C_F (Kd.heap_slice 5 (Kd.heap_int .u8)) HDz.out) (below_drew (Below.refl _ _)))
    have HFT := Aside0.mk (show Kd.F (Kd.slice 5 (Kd.int .u8)) wz.drew (fun j => j < wz.heap.size) A k (T.take k) from Kd.F_below (Kd.C_F (Kd.heap_slice 5 (Kd.heap_int .u8)) HKz.out) (below_drew (Below.refl _ _)))
    have p1 := eq_true (show (0 : Int) ≤ (k : Int) by omega)
    have p2 := eq_true (show (k : Int) ≤ (n : Int) by omega)
    have p3 := eq_true (show (k : Int) ≤ (c : Int) by omega)
    have p4 := eq_true (show (n : Int) ≤ (c : Int) by omega)
    clear hwz
    refine start_ (n := 10) (S := fun w' => True) (ds := []) #[false, false, false, false, false, false, false, false, false, false] (by kernel_rfl) rfl rfl trivial (fun hHeld => ?_)
    refine pure_ (i := 0) (N := some 27) (v := ?_) (a' := ?_) #[true, false, false, false, false, false, false, false, false, false] rfl rfl (by kernel_rfl) (fun _ _ _ h => h) (Or.inl ⟨by rfl, ?_⟩) ?_ ?_
    rotate_left
    · intro w'
      go_simp
      with_reducible rfl
    rotate_left
    · simp only [Act.put, List.setIfInBounds_toArray, List.set_cons_zero, List.set_cons_succ, i64_w, i32_w]
      rfl
    refine pure_ (i := 1) (N := some 28) (v := ?_) (a' := ?_) #[true, true, false, false, false, false, false, false, false, false] rfl rfl (by kernel_rfl) (fun _ _ _ h => h) (Or.inl ⟨by rfl, ?_⟩) ?_ ?_
    rotate_left
    · intro w'
      go_simp
      with_reducible rfl
    rotate_left
    · simp only [Act.put, List.setIfInBounds_toArray, List.set_cons_zero, List.set_cons_succ, i64_w, i32_w]
      rfl
    refine pure_ (i := 2) (N := some 29) (v := ?_) (a' := ?_) #[true, true, true, false, false, false, false, false, false, false] rfl rfl (by kernel_rfl) (fun _ _ _ h => h) (Or.inl ⟨by rfl, ?_⟩) ?_ ?_
    rotate_left
    · intro w'
      go_simp
      with_reducible rfl
    rotate_left
    · simp only [Act.put, List.setIfInBounds_toArray, List.set_cons_zero, List.set_cons_succ, i64_w, i32_w]
      rfl
    refine pure_ (i := 3) (N := some 30) (v := ?_) (a' := ?_) #[true, true, true, true, false, false, false, false, false, false] rfl rfl (by kernel_rfl) (fun _ _ _ h => h) (Or.inl ⟨by rfl, ?_⟩) ?_ ?_
    rotate_left
    · intro w'
      go_simp
      with_reducible rfl
    rotate_left
    · simp only [Act.put, List.setIfInBounds_toArray, List.set_cons_zero, List.set_cons_succ, i64_w, i32_w]
      rfl
    refine pure_ (i := 5) (N := some 32) (v := ?_) (a' := ?_) #[true, true, true, true, false, true, false, false, false, false] rfl rfl (by kernel_rfl) (fun _ _ _ h => h) (Or.inl ⟨by rfl, ?_⟩) ?_ ?_
    rotate_left
    · intro w'
      go_simp
      with_reducible rfl
    rotate_left
    · simp only [Act.put, List.setIfInBounds_toArray, List.set_cons_zero, List.set_cons_succ, i64_w, i32_w]
      rfl
    refine pure_ (i := 6) (N := some 33) (v := ?_) (a' := ?_) #[true, true, true, true, false, true, true, false, false, false] rfl rfl (by kernel_rfl) (fun _ _ _ h => h) (Or.inl ⟨by rfl, ?_⟩) ?_ ?_
    rotate_left
    · intro w'
      go_simp
      with_reducible rfl
    rotate_left
    · simp only [Act.put, List.setIfInBounds_toArray, List.set_cons_zero, List.set_cons_succ, i64_w, i32_w]
      rfl
    refine pure_ (i := 7) (N := some 34) (v := ?_) (a' := ?_) #[true, true, true, true, false, true, true, true, false, false] rfl rfl (by kernel_rfl) (fun _ _ _ h => h) (Or.inl ⟨by rfl, ?_⟩) ?_ ?_
    rotate_left
    · intro w'
      go_simp
      with_reducible rfl
    rotate_left
    · simp only [Act.put, List.setIfInBounds_toArray, List.set_cons_zero, List.set_cons_succ, i64_w, i32_w]
      rfl
    refine one_ (i := 4) (N := some 31) #[true, true, true, true, true, true, true, true, false, false] rfl rfl (by kernel_rfl) (by decide) (fun K hK => ?_)
    refine Kd.N_append_rows_step (Kd.slice 5 (Kd.int .u8)) (w0 := wz) wz.heap.size (by rfl) (.tmp 27) (.tmp 30) 25 22 (.slice none 0 0) 24 rfl Try.underlying25 info22 rfl (by decide) (by decide) (.slice none 0 0) [] (T.drop k) _ (n - k) _ (fun _ => True) (fun j => j < wz.heap.size) rfl rfl (Kd.N_nil _ _ _ _ _) HFD.out (fun _ _ => ⟨trivial, by simp [Value.ownBlock]⟩) (fun _ _ => trivial) (below_drew (Below.refl wz.heap.size wz)) (Nat.le_refl _) (by simp only [List.length_nil]; omega) ?_
    intro v31 w31 hn31 hb31 hg31 hat31
    rw [List.nil_append] at hn31
    obtain ⟨A31, c31, rfl⟩ := Kd.N_slice hn31
    rw [HLD.out] at hn31 hat31
    have HN31 := Aside0.mk hn31
    have HB31 := Aside0.mk hb31
    have HAT := Aside0.mk (show ∀ j, j < wz.heap.size → some j ≠ (Value.slice A31 (n - k) c31).ownBlock from fun j hj e => hat31.elim (fun h => by rw [h] at e; cases e) (fun ⟨b, h1, h2⟩ => by rw [h1] at e; injection e with e; rw [← e] at h2; exact Nat.not_lt.2 h2 hj))
    have HFT1 := Aside0.mk (Kd.F_below HFT.out (show Below wz.drew.heap.size wz.drew w31 from ⟨hb31.os, hb31.tape, hb31.output, hb31.size, hb31.block⟩))
    rw [HLD.out]
    clear hn31 hb31 hg31 hat31
    refine hK.out _ _ trivial (fun hHeld => ?_)
    clear hK K
    refine norm_ (a' := ?_) ?_ ?_
    rotate_left
    · show Act.put _ (some 31) _ = _
      simp only [Act.put, List.setIfInBounds_toArray, List.set_cons_zero, List.set_cons_succ, i64_w, i32_w]
      rfl
    refine one_ (i := 8) (N := some 35) #[true, true, true, true, true, true, true, true, true, false] rfl rfl (by kernel_rfl) (by decide) (fun K hK => ?_)
    refine Kd.N_append_rows_step (Kd.slice 5 (Kd.int .u8)) (w0 := wz) wz.heap.size (by rfl) (.tmp 31) (.tmp 34) 25 22 (.slice none 0 0) 24 rfl Try.underlying25 info22 rfl (by decide) (by decide) (.slice A31 (n - k) c31) (T.drop k) (T.take k) A k _ (fun _ => True) (fun j => j < wz.heap.size) rfl rfl HN31.out HFT1.out (fun j hj => ⟨trivial, HAT.out j hj⟩) (fun _ _ => trivial) HB31.out HB31.out.size (by rw [HLD.out]; omega) ?_
    intro v32 w32 hn32 hb32 _ _
    obtain ⟨A32, c32, rfl⟩ := Kd.N_slice hn32
    rw [HLT.out] at hn32 ⊢
    have HN32 := Aside0.mk hn32
    have HB32 := Aside0.mk hb32
    clear hn32 hb32
    refine hK.out _ _ trivial (fun hHeld => ?_)
    clear hK K
    refine norm_ (a' := ?_) ?_ ?_
    rotate_left
    · show Act.put _ (some 35) _ = _
      simp only [Act.put, List.setIfInBounds_toArray, List.set_cons_zero, List.set_cons_succ, i64_w, i32_w]
      rfl
    refine pure_ (i := 9) (N := some 6) (v := ?_) (a' := ?_) #[true, true, true, true, true, true, true, true, true, true] rfl rfl (by kernel_rfl) (fun _ _ _ h => h) (Or.inl ⟨by rfl, ?_⟩) ?_ ?_
    rotate_left
    · intro w'
      go_simp
      with_reducible rfl
    rotate_left
    · simp only [Act.put, List.setIfInBounds_toArray, List.set_cons_zero, List.set_cons_succ, i64_w, i32_w]
      rfl
    refine done_ (by kernel_rfl) ?_
    have HTT := Aside0.mk (Kd.N_reads' HN32.out)
    have HTT2 := Aside0.mk (show Kd.C (Kd.slice 5 (Kd.int .u8)) w32 A32 n (T.drop k ++ T.take k) by have h := HTT.out.2.2; rwa [HLT.out] at h)
    have HBW := Aside0.mk (show Below w.heap.size w w32 from below_step HWZ.out HB32.out)
    have HTA := Aside0.mk (Kd.C_below HT.out HBW.out)
    have HKA := Aside0.mk (Kd.C_below HKz.out HB32.out)
    have HDA := Aside0.mk (Kd.C_below HDz.out HB32.out)
    have hc32 := HTT.out.2.1
    have HBT := Aside0.mk (show ∀ t ∈ T.drop k ++ T.take k, Byts t from fun t ht => (List.mem_append.1 ht).elim (fun h => HB.out t (List.mem_of_mem_drop h)) (fun h => HB.out t (List.mem_of_mem_take h)))
    have HSD := Aside0.mk (show (T.drop k).length + tot (T.drop k) ≤ 16384 by rw [HLD.out]; omega)
    have HSK := Aside0.mk (show (T.take k).length + tot (T.take k) ≤ 16384 by rw [HLK.out]; omega)
    have HST := Aside0.mk (show (T.drop k ++ T.take k).length + tot (T.drop k ++ T.take k) ≤ 16384 by rw [HLT.out, tot_append]; omega)
    have HBD := Aside0.mk (show ∀ t ∈ T.drop k, Byts t from fun t ht => HB.out t (List.mem_of_mem_drop ht))
    have HBK := Aside0.mk (show ∀ t ∈ T.take k, Byts t from fun t ht => HB.out t (List.mem_of_mem_take ht))
    have HLL := Aside0.mk (show (countsR (wordsOf T)).length ≤ 100000 by
      have h1 := countsR_length (wordsOf T)
      have h2 := wordsOf_tot HB.out (by omega)
      omega)
    have HCN := Aside0.mk (show n ≤ c by omega)
    have HCK := Aside0.mk (show k ≤ c by omega)
    have HCD := Aside0.mk (show n - k ≤ c - k by omega)
    go_wp2_with (first
      | (go_at_call 22; (with_reducible refine (c_counts hn HTA.out HCN.out HB.out HS.out).mono ?_); rintro e w3 ⟨va, ca, Za, rfl, hct⟩; have HA3 := Aside0.mk hct; have HT3 := Aside0.mk (Kd.C_below HTT2.out hct.b); have HK3 := Aside0.mk (Kd.C_below HKA.out hct.b); have HD3 := Aside0.mk (Kd.C_below HDA.out hct.b); clear hct)
      | (go_at_call 22; (with_reducible refine (c_counts HLT.out HT3.out hc32 HBT.out HST.out).mono ?_); rintro e w4 ⟨vb, cb, Zb, rfl, hct⟩; have HB4 := Aside0.mk hct; have HA4 := Aside0.mk (HA3.out.below hct.b); have HK4 := Aside0.mk (Kd.C_below HK3.out hct.b); have HD4 := Aside0.mk (Kd.C_below HD3.out hct.b); clear hct)
      | (go_at_call 22; (with_reducible refine (c_counts HLK.out HK4.out HCK.out HBK.out HSK.out).mono ?_); rintro e w5 ⟨vx, cx, Zx, rfl, hct⟩; have HX5 := Aside0.mk hct; have HA5 := Aside0.mk (HA4.out.below hct.b); have HB5 := Aside0.mk (HB4.out.below hct.b); have HD5 := Aside0.mk (Kd.C_below HD4.out hct.b); clear hct)
      | (go_at_call 22; (with_reducible refine (c_counts HLD.out HD5.out HCD.out HBD.out HSD.out).mono ?_); rintro e w5' ⟨vy, cy, Zy, rfl, hct⟩; have HY7 := Aside0.mk hct; have HA7 := Aside0.mk (HA5.out.below hct.b); have HB7 := Aside0.mk (show Ct w3 w5' 45 Zb vb cb (countsR (wordsOf T)) by (have h := HB5.out.below hct.b; rwa [words_turned] at h)); have HX7 := Aside0.mk (HX5.out.below hct.b); clear hct)
      | (go_at_call 24; (with_reducible refine (c_is HA7.out HLL.out).mono ?_); rintro e w8 ⟨v8, rfl, hr8, hb8⟩; have HR8 := Aside0.mk hr8; have HB8 := Aside0.mk (HB7.out.below hb8); have HA8 := Aside0.mk (HA7.out.below hb8); have HX8 := Aside0.mk (HX7.out.below hb8); have HY8 := Aside0.mk (HY7.out.below hb8); clear hr8 hb8)
      | (go_at_call 24; (with_reducible refine (c_is HB8.out HLL.out).mono ?_); rintro e w9 ⟨v9, rfl, hr9, hb9⟩; have HR9 := Aside0.mk hr9; have HR9' := Aside0.mk (HR8.out.below hb9); have HA9 := Aside0.mk (HA8.out.below hb9); have HX9 := Aside0.mk (HX8.out.below hb9); have HY9 := Aside0.mk (HY8.out.below hb9); clear hr9 hb9)
      | (go_at_call 23; (with_reducible refine (c_same HR9'.out HR9.out HLL.out).mono ?_); rintro e w10 ⟨rfl, m10, rfl⟩))
    refine gen_world w9 (pw_below_drewN (Below.refl _ _) _) (fun w6 hw6 => ?_)
    have HA := Aside0.mk (HA9.out.below hw6)
    have HX := Aside0.mk (HX9.out.below hw6)
    have HY := Aside0.mk (HY9.out.below hw6)
    have HWB := Aside0.mk (show Below w.heap.size w w6 from below_step HBW.out HA.out.b)
    have HAB := Aside0.mk (HA.out.keys HB.out HS.out)
    have HXB := Aside0.mk (HX.out.keys HBK.out HSK.out)
    have HYYB := Aside0.mk (HY.out.keys HBD.out HSD.out)
    have HBN := fun (U : List (List Int)) (hU : ∀ t ∈ U, Byts t) (hs : U.length + tot U ≤ 16384) => (show (countsR (wordsOf U)).length ≤ 16384 ∧ ∀ p ∈ countsR (wordsOf U), 1 ≤ p.2 ∧ p.2 ≤ 16384 from by
      have h1 := countsR_length (wordsOf U)
      have h2 := wordsOf_tot hU (by omega)
      exact ⟨by omega, fun p hp => by have := countsR_bound (wordsOf U) p hp; omega⟩)
    have HAN := Aside0.mk (HBN T HB.out HS.out)
    have HXN := Aside0.mk (HBN (T.take k) HBK.out HSK.out)
    have HYN := Aside0.mk (HBN (T.drop k) HBD.out HSD.out)
    have HSU := Aside0.mk (show ∀ p ∈ countsR (wordsOf T), numOf p.1 (countsR (wordsOf (T.take k))) + numOf p.1 (countsR (wordsOf (T.drop k))) = p.2 from fun p hp => counts_add (by rw [← words_split]; exact hp))
    have HSX0 := HSX
    obtain ⟨lx, hlx⟩ : ∃ lx, countsR (wordsOf (T.take k)) = lx := ⟨_, rfl⟩
    obtain ⟨ly, hly⟩ : ∃ ly, countsR (wordsOf (T.drop k)) = ly := ⟨_, rfl⟩
    rw [hlx] at HX HXN HSU HSX0
    rw [hly] at HY HYN HSU
    obtain ⟨la, hla⟩ : ∃ la, countsR (wordsOf T) = la := ⟨_, rfl⟩
    have HLA := Aside0.mk hla
    rw [hla] at HA HAN HSU
    clear HSX HBN hlx hly hla hw6 HA9 HX9 HY9 HR9 HR9' HR8 HB8 HA8 HX8 HY8 HA7 HB7 HX7 HY7 HX5 HA5 HB5 HD5 HK4 HD4 HA4 HB4 HA3 HT3 HK3 HD3
    go_loopw [15] (fun v15 w' => ∃ i m : Nat, v15 = .int .i64 i ∧ i ≤ ca.length ∧ w' = w6.drewN m) (fun v15 _ => ca.length - (intOf v15).toNat)
    case atStart => exact ⟨0, 0, rfl, Nat.zero_le _, rfl⟩
    case round =>
      obtain ⟨i, m0, rfl, hi, rfl⟩ := hrel
      by_cases hil0 : i < ca.length
      · obtain ⟨ga, gca, rfl, ha1, ha2, ha3, ha4, ha5⟩ := HA.out.form (by omega)
        obtain ⟨hyA0, hyN0⟩ := HA.out.cells hil0
        have hky := HA.out.key hil0
        have HYO := Aside0.mk (HA.out.el ca[i] (List.getElem_mem hil0))
        have HYB := Aside0.mk (HAB.out ca[i] (List.getElem_mem hil0))
        obtain ⟨y, hyy⟩ : ∃ y, ca[i] = y := ⟨_, rfl⟩
        rw [hyy] at hyA0 hyN0 hky HYO HYB
        have HKY := Aside0.mk hky
        have HYA := Aside0.mk hyA0
        have HYC := Aside0.mk hyN0
        have HSX := Aside0.mk (HSX0.out y.b)
        have HSUM := Aside0.mk (HSU.out (y.b, y.n) (by rw [← hky, List.getD_eq_getElem?_getD, List.getElem?_eq_getElem (by rw [← HA.out.len]; exact hil0)]; exact List.getElem_mem _))
        clear hky hyy hyA0 hyN0 ha5
        have hcal : ca.length ≤ 16384 := by rw [HA.out.len]; exact HAN.out.1
        have hcxl : cx.length ≤ 16384 := by rw [HX.out.len]; exact HXN.out.1
        have hcyl : cy.length ≤ 16384 := by rw [HY.out.len]; exact HYN.out.1
        go_wp2
        go_loopw [16, 17] (fun v16 vj w' => ∃ j m : Nat, v16 = .int .i64 (numOf y.b (lx.take j)) ∧ vj = .int .i64 j ∧ j ≤ cx.length ∧ w' = w6.drewN m) (fun _ vj _ => cx.length - (intOf vj).toNat)
        case atStart => exact ⟨0, m0, rfl, rfl, Nat.zero_le _, rfl⟩
        case round =>
          obtain ⟨j, m, rfl, rfl, hj, rfl⟩ := hrel
          have hyA := HYA.out
          by_cases hjl : j < cx.length
          · obtain ⟨gx, gcx, rfl, hg1, hg2, hg3, hg4, hg5⟩ := HX.out.form (by omega)
            obtain ⟨hzA, hzB⟩ := HX.out.cells hjl
            have hz := HX.out.key hjl
            have HZO := Aside0.mk (HX.out.el cx[j] (List.getElem_mem hjl))
            have HZB := Aside0.mk (HXB.out cx[j] (List.getElem_mem hjl))
            obtain ⟨z, hzz⟩ : ∃ z, cx[j] = z := ⟨_, rfl⟩
            rw [hzz] at hzA hzB hz HZO HZB
            have hjL : j < lx.length := by rw [← HX.out.len]; exact hjl
            have hns := numOf_snoc y.b hjL
            rw [List.getD_eq_getElem?_getD, List.getElem?_eq_getElem hjL] at hz
            have hz' : lx[j] = (z.b, z.n) := hz
            rw [hz'] at hns
            have hb0 := numOf_bound (x := y.b) (N := 16384) (by omega) (l := lx.take (j + 1)) (fun p hp => HXN.out.2 p (List.mem_of_mem_take hp))
            have hbl : (lx.take (j + 1)).length ≤ 16384 := by rw [List.length_take]; have := HXN.out.1; omega
            have HNS := Lib.hid hns
            have HBO := Aside0.mk (show 0 ≤ numOf y.b (lx.take (j + 1)) ∧ numOf y.b (lx.take (j + 1)) ≤ 268435456 from ⟨hb0.1, Int.le_trans hb0.2 (by
              have : ((lx.take (j + 1)).length : Int) * 16384 ≤ 16384 * 16384 := Int.mul_le_mul_of_nonneg_right (by omega) (by omega)
              omega)⟩)
            clear hz hz' hns hb0 hbl hzz hjL
            obtain ⟨q, hq0⟩ : ∃ q, decide (z.b = y.b) = q := ⟨_, rfl⟩
            have HQ := Aside0.mk hq0
            clear hq0
            cases q with
            | true =>
              have hns : numOf y.b (lx.take (j + 1)) = numOf y.b (lx.take j) + z.n := by have := HNS.out; rwa [if_pos (of_decide_eq_true HQ.out)] at this
              clear HNS
              have hbo := HBO.out
              have hbx := HSX.out
              clear HBO
              go_wp2
              refine start_ (n := 11) (S := fun w' => w'.cell? ⟨gx, j * 2, none⟩ = some (.slice z.A z.b.length z.c) ∧ w'.cell? ⟨ga, i * 2, none⟩ = some (.slice y.A y.b.length y.c)) (ds := []) #[false, false, false, false, false, false, false, false, false, false, false] (by kernel_rfl) rfl rfl ⟨hzA, hyA⟩ (fun hHeld => ?_)
              refine pure_ (i := 0) (N := some 94) (v := ?_) (a' := ?_) #[true, false, false, false, false, false, false, false, false, false, false] rfl rfl (by kernel_rfl) (fun _ _ _ h => h) (Or.inl ⟨by rfl, ?_⟩) ?_ ?_
              rotate_left
              · intro w'
                go_simp
                with_reducible rfl
              rotate_left
              · simp only [Act.put, List.setIfInBounds_toArray, List.set_cons_zero, List.set_cons_succ, i64_w, i32_w]
                rfl
              refine pure_ (i := 1) (N := some 95) (v := ?_) (a' := ?_) #[true, true, false, false, false, false, false, false, false, false, false] rfl rfl (by kernel_rfl) (fun _ _ _ h => h) (Or.inl ⟨by rfl, ?_⟩) ?_ ?_
              rotate_left
              · intro w'
                go_simp
                with_reducible rfl
              rotate_left
              · simp only [Act.put, List.setIfInBounds_toArray, List.set_cons_zero, List.set_cons_succ, i64_w, i32_w]
                rfl
              refine pure_ (i := 2) (N := some 96) (v := ?_) (a' := ?_) #[true, true, true, false, false, false, false, false, false, false, false] rfl rfl (by kernel_rfl) (fun _ _ _ h => h) (Or.inl ⟨by rfl, ?_⟩) ?_ ?_
              rotate_left
              · intro w'
                go_simp
                with_reducible rfl
              rotate_left
              · simp only [Act.put, List.setIfInBounds_toArray, List.set_cons_zero, List.set_cons_succ, i64_w, i32_w]
                rfl
              refine pure_ (i := 3) (N := some 97) (v := ?_) (a' := ?_) #[true, true, true, true, false, false, false, false, false, false, false] rfl rfl (by kernel_rfl) (fun _ _ _ h => h) (Or.inl ⟨by rfl, ?_⟩) ?_ ?_
              rotate_left
              · intro w'
                go_simp
                with_reducible rfl
              rotate_left
              · simp only [Act.put, List.setIfInBounds_toArray, List.set_cons_zero, List.set_cons_succ, i64_w, i32_w]
                rfl
              refine pure_ (i := 5) (N := some 99) (v := ?_) (a' := ?_) #[true, true, true, true, false, true, false, false, false, false, false] rfl rfl (by kernel_rfl) (fun _ _ _ h => h) (Or.inl ⟨by rfl, ?_⟩) ?_ ?_
              rotate_left
              · intro w'
                go_simp
                with_reducible rfl
              rotate_left
              · simp only [Act.put, List.setIfInBounds_toArray, List.set_cons_zero, List.set_cons_succ, i64_w, i32_w]
                rfl
              refine pure_ (i := 6) (N := some 100) (v := ?_) (a' := ?_) #[true, true, true, true, false, true, true, false, false, false, false] rfl rfl (by kernel_rfl) (fun _ _ _ h => h) (Or.inl ⟨by rfl, ?_⟩) ?_ ?_
              rotate_left
              · intro w'
                go_simp
                with_reducible rfl
              rotate_left
              · simp only [Act.put, List.setIfInBounds_toArray, List.set_cons_zero, List.set_cons_succ, i64_w, i32_w]
                rfl
              refine pure_ (i := 7) (N := some 101) (v := ?_) (a' := ?_) #[true, true, true, true, false, true, true, true, false, false, false] rfl rfl (by kernel_rfl) (fun _ _ _ h => h) (Or.inl ⟨by rfl, ?_⟩) ?_ ?_
              rotate_left
              · intro w'
                go_simp
                with_reducible rfl
              rotate_left
              · simp only [Act.put, List.setIfInBounds_toArray, List.set_cons_zero, List.set_cons_succ, i64_w, i32_w]
                rfl
              refine pure_ (i := 8) (N := some 102) (v := ?_) (a' := ?_) #[true, true, true, true, false, true, true, true, true, false, false] rfl rfl (by kernel_rfl) (fun _ _ _ h => h) (Or.inl ⟨by rfl, ?_⟩) ?_ ?_
              rotate_left
              · intro w'
                go_simp
                with_reducible rfl
              rotate_left
              · simp only [Act.put, List.setIfInBounds_toArray, List.set_cons_zero, List.set_cons_succ, i64_w, i32_w]
                rfl
              refine take_ (i := 4) (N := some 98) (v := ?_) (a' := ?_) #[true, true, true, true, true, true, true, true, true, false, false] rfl rfl (by kernel_rfl) (fun _ _ _ h => h) (Or.inl ⟨by rfl, ?_⟩) hHeld ?_ ?_
              rotate_left
              · rintro w' ⟨s0, s1⟩
                go_simp
                with_reducible rfl
              rotate_left
              · simp only [Act.put, List.setIfInBounds_toArray, List.set_cons_zero, List.set_cons_succ, i64_w, i32_w]
                rfl
              refine take_ (i := 9) (N := some 103) (v := ?_) (a' := ?_) #[true, true, true, true, true, true, true, true, true, true, false] rfl rfl (by kernel_rfl) (fun _ _ _ h => h) (Or.inl ⟨by rfl, ?_⟩) hHeld ?_ ?_
              rotate_left
              · rintro w' ⟨s0, s1⟩
                go_simp
                with_reducible rfl
              rotate_left
              · simp only [Act.put, List.setIfInBounds_toArray, List.set_cons_zero, List.set_cons_succ, i64_w, i32_w]
                rfl
              refine one_ (i := 10) (N := some 104) #[true, true, true, true, true, true, true, true, true, true, true] rfl rfl (by kernel_rfl) (by decide) (fun K hK => ?_)
              refine goes_ Try.func16 (by kernel_rfl) rfl #[.slice z.A z.b.length z.c, .slice y.A y.b.length y.c] (by rfl) rfl rfl (by simp only [List.map_toArray, List.map_cons, List.map_nil]; rfl) ?_
              with_reducible refine (dr_same (w := w6) (below_drew (pw_below_drewN (Below.refl _ _) m)) HZO.out HYO.out HZB.out HYB.out).mono ?_
              rintro e w9 ⟨rfl, m9, rfl⟩
              refine ⟨_, rfl, ?_⟩
              have hq : decide (z.b = y.b) = true := HQ.out
              rw [hq]
              refine hK.out _ _ ⟨hzA, hyA⟩ (fun hHeld => ?_)
              clear hK K
              refine norm_ (a' := ?_) ?_ ?_
              rotate_left
              · show Act.put _ (some 104) _ = _
                simp only [Act.put, List.setIfInBounds_toArray, List.set_cons_zero, List.set_cons_succ, i64_w, i32_w]
                rfl
              refine done_ (by kernel_rfl) ?_
              go_wp2_with (fail)
              rw [show numOf y.b (lx.take j) + z.n = numOf y.b (lx.take (j + 1)) by omega]
              go_roundw
              case rel => exact ⟨j + 1, _, rfl, by go_num, by omega, rfl⟩
              case measure => simp [intOf]; omega
            | false =>
              have hns : numOf y.b (lx.take (j + 1)) = numOf y.b (lx.take j) := by have := HNS.out; rw [if_neg (of_decide_eq_false HQ.out)] at this; omega
              clear HNS HBO
              go_wp2
              refine start_ (n := 11) (S := fun w' => w'.cell? ⟨gx, j * 2, none⟩ = some (.slice z.A z.b.length z.c) ∧ w'.cell? ⟨ga, i * 2, none⟩ = some (.slice y.A y.b.length y.c)) (ds := []) #[false, false, false, false, false, false, false, false, false, false, false] (by kernel_rfl) rfl rfl ⟨hzA, hyA⟩ (fun hHeld => ?_)
              refine pure_ (i := 0) (N := some 94) (v := ?_) (a' := ?_) #[true, false, false, false, false, false, false, false, false, false, false] rfl rfl (by kernel_rfl) (fun _ _ _ h => h) (Or.inl ⟨by rfl, ?_⟩) ?_ ?_
              rotate_left
              · intro w'
                go_simp
                with_reducible rfl
              rotate_left
              · simp only [Act.put, List.setIfInBounds_toArray, List.set_cons_zero, List.set_cons_succ, i64_w, i32_w]
                rfl
              refine pure_ (i := 1) (N := some 95) (v := ?_) (a' := ?_) #[true, true, false, false, false, false, false, false, false, false, false] rfl rfl (by kernel_rfl) (fun _ _ _ h => h) (Or.inl ⟨by rfl, ?_⟩) ?_ ?_
              rotate_left
              · intro w'
                go_simp
                with_reducible rfl
              rotate_left
              · simp only [Act.put, List.setIfInBounds_toArray, List.set_cons_zero, List.set_cons_succ, i64_w, i32_w]
                rfl
              refine pure_ (i := 2) (N := some 96) (v := ?_) (a' := ?_) #[true, true, true, false, false, false, false, false, false, false, false] rfl rfl (by kernel_rfl) (fun _ _ _ h => h) (Or.inl ⟨by rfl, ?_⟩) ?_ ?_
              rotate_left
              · intro w'
                go_simp
                with_reducible rfl
              rotate_left
              · simp only [Act.put, List.setIfInBounds_toArray, List.set_cons_zero, List.set_cons_succ, i64_w, i32_w]
                rfl
              refine pure_ (i := 3) (N := some 97) (v := ?_) (a' := ?_) #[true, true, true, true, false, false, false, false, false, false, false] rfl rfl (by kernel_rfl) (fun _ _ _ h => h) (Or.inl ⟨by rfl, ?_⟩) ?_ ?_
              rotate_left
              · intro w'
                go_simp
                with_reducible rfl
              rotate_left
              · simp only [Act.put, List.setIfInBounds_toArray, List.set_cons_zero, List.set_cons_succ, i64_w, i32_w]
                rfl
              refine pure_ (i := 5) (N := some 99) (v := ?_) (a' := ?_) #[true, true, true, true, false, true, false, false, false, false, false] rfl rfl (by kernel_rfl) (fun _ _ _ h => h) (Or.inl ⟨by rfl, ?_⟩) ?_ ?_
              rotate_left
              · intro w'
                go_simp
                with_reducible rfl
              rotate_left
              · simp only [Act.put, List.setIfInBounds_toArray, List.set_cons_zero, List.set_cons_succ, i64_w, i32_w]
                rfl
              refine pure_ (i := 6) (N := some 100) (v := ?_) (a' := ?_) #[true, true, true, true, false, true, true, false, false, false, false] rfl rfl (by kernel_rfl) (fun _ _ _ h => h) (Or.inl ⟨by rfl, ?_⟩) ?_ ?_
              rotate_left
              · intro w'
                go_simp
                with_reducible rfl
              rotate_left
              · simp only [Act.put, List.setIfInBounds_toArray, List.set_cons_zero, List.set_cons_succ, i64_w, i32_w]
                rfl
              refine pure_ (i := 7) (N := some 101) (v := ?_) (a' := ?_) #[true, true, true, true, false, true, true, true, false, false, false] rfl rfl (by kernel_rfl) (fun _ _ _ h => h) (Or.inl ⟨by rfl, ?_⟩) ?_ ?_
              rotate_left
              · intro w'
                go_simp
                with_reducible rfl
              rotate_left
              · simp only [Act.put, List.setIfInBounds_toArray, List.set_cons_zero, List.set_cons_succ, i64_w, i32_w]
                rfl
              refine pure_ (i := 8) (N := some 102) (v := ?_) (a' := ?_) #[true, true, true, true, false, true, true, true, true, false, false] rfl rfl (by kernel_rfl) (fun _ _ _ h => h) (Or.inl ⟨by rfl, ?_⟩) ?_ ?_
              rotate_left
              · intro w'
                go_simp
                with_reducible rfl
              rotate_left
              · simp only [Act.put, List.setIfInBounds_toArray, List.set_cons_zero, List.set_cons_succ, i64_w, i32_w]
                rfl
              refine take_ (i := 4) (N := some 98) (v := ?_) (a' := ?_) #[true, true, true, true, true, true, true, true, true, false, false] rfl rfl (by kernel_rfl) (fun _ _ _ h => h) (Or.inl ⟨by rfl, ?_⟩) hHeld ?_ ?_
              rotate_left
              · rintro w' ⟨s0, s1⟩
                go_simp
                with_reducible rfl
              rotate_left
              · simp only [Act.put, List.setIfInBounds_toArray, List.set_cons_zero, List.set_cons_succ, i64_w, i32_w]
                rfl
              refine take_ (i := 9) (N := some 103) (v := ?_) (a' := ?_) #[true, true, true, true, true, true, true, true, true, true, false] rfl rfl (by kernel_rfl) (fun _ _ _ h => h) (Or.inl ⟨by rfl, ?_⟩) hHeld ?_ ?_
              rotate_left
              · rintro w' ⟨s0, s1⟩
                go_simp
                with_reducible rfl
              rotate_left
              · simp only [Act.put, List.setIfInBounds_toArray, List.set_cons_zero, List.set_cons_succ, i64_w, i32_w]
                rfl
              refine one_ (i := 10) (N := some 104) #[true, true, true, true, true, true, true, true, true, true, true] rfl rfl (by kernel_rfl) (by decide) (fun K hK => ?_)
              refine goes_ Try.func16 (by kernel_rfl) rfl #[.slice z.A z.b.length z.c, .slice y.A y.b.length y.c] (by rfl) rfl rfl (by simp only [List.map_toArray, List.map_cons, List.map_nil]; rfl) ?_
              with_reducible refine (dr_same (w := w6) (below_drew (pw_below_drewN (Below.refl _ _) m)) HZO.out HYO.out HZB.out HYB.out).mono ?_
              rintro e w9 ⟨rfl, m9, rfl⟩
              refine ⟨_, rfl, ?_⟩
              have hq : decide (z.b = y.b) = false := HQ.out
              rw [hq]
              refine hK.out _ _ ⟨hzA, hyA⟩ (fun hHeld => ?_)
              clear hK K
              refine norm_ (a' := ?_) ?_ ?_
              rotate_left
              · show Act.put _ (some 104) _ = _
                simp only [Act.put, List.setIfInBounds_toArray, List.set_cons_zero, List.set_cons_succ, i64_w, i32_w]
                rfl
              refine done_ (by kernel_rfl) ?_
              go_wp2_with (fail)
              rw [← hns]
              go_roundw
              case rel => exact ⟨j + 1, _, rfl, by go_num, by omega, rfl⟩
              case measure => simp [intOf]; omega
          · obtain rfl : j = cx.length := by omega
            have hlt : lx.take cx.length = lx := by rw [HX.out.len, List.take_length]
            obtain ⟨Ax, ccx, rfl⟩ := Kd.R_slice HX.out.row
            rw [hlt]
            clear hlt
            go_wp2
            obtain ⟨m0, hm0⟩ : ∃ x : Nat, x = m := ⟨_, rfl⟩
            rw [← hm0]
            clear hm0
            go_loopw [16, 18] (fun v16 vj w' => ∃ j m : Nat, v16 = .int .i64 (numOf y.b lx + numOf y.b (ly.take j)) ∧ vj = .int .i64 j ∧ j ≤ cy.length ∧ w' = w6.drewN m) (fun _ vj _ => cy.length - (intOf vj).toNat)
            case atStart => exact ⟨0, m0, by simp [numOf], rfl, Nat.zero_le _, rfl⟩
            case round =>
              obtain ⟨j, m, rfl, rfl, hj, rfl⟩ := hrel
              have hyA := HYA.out
              by_cases hjl : j < cy.length
              · obtain ⟨gy, gcy, rfl, hg1, hg2, hg3, hg4, hg5⟩ := HY.out.form (by omega)
                obtain ⟨hzA, hzB⟩ := HY.out.cells hjl
                have hz := HY.out.key hjl
                have HZO := Aside0.mk (HY.out.el cy[j] (List.getElem_mem hjl))
                have HZB := Aside0.mk (HYYB.out cy[j] (List.getElem_mem hjl))
                obtain ⟨z, hzz⟩ : ∃ z, cy[j] = z := ⟨_, rfl⟩
                rw [hzz] at hzA hzB hz HZO HZB
                have hjL : j < ly.length := by rw [← HY.out.len]; exact hjl
                have hns := numOf_snoc y.b hjL
                rw [List.getD_eq_getElem?_getD, List.getElem?_eq_getElem hjL] at hz
                have hz' : ly[j] = (z.b, z.n) := hz
                rw [hz'] at hns
                have hb0 := numOf_bound (x := y.b) (N := 16384) (by omega) (l := ly.take (j + 1)) (fun p hp => HYN.out.2 p (List.mem_of_mem_take hp))
                have hbl : (ly.take (j + 1)).length ≤ 16384 := by rw [List.length_take]; have := HYN.out.1; omega
                have HNS := Lib.hid hns
                have HBO := Aside0.mk (show 0 ≤ numOf y.b (ly.take (j + 1)) ∧ numOf y.b (ly.take (j + 1)) ≤ 268435456 from ⟨hb0.1, Int.le_trans hb0.2 (by
                  have : ((ly.take (j + 1)).length : Int) * 16384 ≤ 16384 * 16384 := Int.mul_le_mul_of_nonneg_right (by omega) (by omega)
                  omega)⟩)
                clear hz hz' hns hb0 hbl hzz hjL
                obtain ⟨q, hq0⟩ : ∃ q, decide (z.b = y.b) = q := ⟨_, rfl⟩
                have HQ := Aside0.mk hq0
                clear hq0
                cases q with
                | true =>
                  have hns : numOf y.b (ly.take (j + 1)) = numOf y.b (ly.take j) + z.n := by have := HNS.out; rwa [if_pos (of_decide_eq_true HQ.out)] at this
                  clear HNS
                  have hbo := HBO.out
                  have hbx := HSX.out
                  clear HBO
                  go_wp2
                  refine start_ (n := 11) (S := fun w' => w'.cell? ⟨gy, j * 2, none⟩ = some (.slice z.A z.b.length z.c) ∧ w'.cell? ⟨ga, i * 2, none⟩ = some (.slice y.A y.b.length y.c)) (ds := []) #[false, false, false, false, false, false, false, false, false, false, false] (by kernel_rfl) rfl rfl ⟨hzA, hyA⟩ (fun hHeld => ?_)
                  refine pure_ (i := 0) (N := some 118) (v := ?_) (a' := ?_) #[true, false, false, false, false, false, false, false, false, false, false] rfl rfl (by kernel_rfl) (fun _ _ _ h => h) (Or.inl ⟨by rfl, ?_⟩) ?_ ?_
                  rotate_left
                  · intro w'
                    go_simp
                    with_reducible rfl
                  rotate_left
                  · simp only [Act.put, List.setIfInBounds_toArray, List.set_cons_zero, List.set_cons_succ, i64_w, i32_w]
                    rfl
                  refine pure_ (i := 1) (N := some 119) (v := ?_) (a' := ?_) #[true, true, false, false, false, false, false, false, false, false, false] rfl rfl (by kernel_rfl) (fun _ _ _ h => h) (Or.inl ⟨by rfl, ?_⟩) ?_ ?_
                  rotate_left
                  · intro w'
                    go_simp
                    with_reducible rfl
                  rotate_left
                  · simp only [Act.put, List.setIfInBounds_toArray, List.set_cons_zero, List.set_cons_succ, i64_w, i32_w]
                    rfl
                  refine pure_ (i := 2) (N := some 120) (v := ?_) (a' := ?_) #[true, true, true, false, false, false, false, false, false, false, false] rfl rfl (by kernel_rfl) (fun _ _ _ h => h) (Or.inl ⟨by rfl, ?_⟩) ?_ ?_
                  rotate_left
                  · intro w'
                    go_simp
                    with_reducible rfl
                  rotate_left
                  · simp only [Act.put, List.setIfInBounds_toArray, List.set_cons_zero, List.set_cons_succ, i64_w, i32_w]
                    rfl
                  refine pure_ (i := 3) (N := some 121) (v := ?_) (a' := ?_) #[true, true, true, true, false, false, false, false, false, false, false] rfl rfl (by kernel_rfl) (fun _ _ _ h => h) (Or.inl ⟨by rfl, ?_⟩) ?_ ?_
                  rotate_left
                  · intro w'
                    go_simp
                    with_reducible rfl
                  rotate_left
                  · simp only [Act.put, List.setIfInBounds_toArray, List.set_cons_zero, List.set_cons_succ, i64_w, i32_w]
                    rfl
                  refine pure_ (i := 5) (N := some 123) (v := ?_) (a' := ?_) #[true, true, true, true, false, true, false, false, false, false, false] rfl rfl (by kernel_rfl) (fun _ _ _ h => h) (Or.inl ⟨by rfl, ?_⟩) ?_ ?_
                  rotate_left
                  · intro w'
                    go_simp
                    with_reducible rfl
                  rotate_left
                  · simp only [Act.put, List.setIfInBounds_toArray, List.set_cons_zero, List.set_cons_succ, i64_w, i32_w]
                    rfl
                  refine pure_ (i := 6) (N := some 124) (v := ?_) (a' := ?_) #[true, true, true, true, false, true, true, false, false, false, false] rfl rfl (by kernel_rfl) (fun _ _ _ h => h) (Or.inl ⟨by rfl, ?_⟩) ?_ ?_
                  rotate_left
                  · intro w'
                    go_simp
                    with_reducible rfl
                  rotate_left
                  · simp only [Act.put, List.setIfInBounds_toArray, List.set_cons_zero, List.set_cons_succ, i64_w, i32_w]
                    rfl
                  refine pure_ (i := 7) (N := some 125) (v := ?_) (a' := ?_) #[true, true, true, true, false, true, true, true, false, false, false] rfl rfl (by kernel_rfl) (fun _ _ _ h => h) (Or.inl ⟨by rfl, ?_⟩) ?_ ?_
                  rotate_left
                  · intro w'
                    go_simp
                    with_reducible rfl
                  rotate_left
                  · simp only [Act.put, List.setIfInBounds_toArray, List.set_cons_zero, List.set_cons_succ, i64_w, i32_w]
                    rfl
                  refine pure_ (i := 8) (N := some 126) (v := ?_) (a' := ?_) #[true, true, true, true, false, true, true, true, true, false, false] rfl rfl (by kernel_rfl) (fun _ _ _ h => h) (Or.inl ⟨by rfl, ?_⟩) ?_ ?_
                  rotate_left
                  · intro w'
                    go_simp
                    with_reducible rfl
                  rotate_left
                  · simp only [Act.put, List.setIfInBounds_toArray, List.set_cons_zero, List.set_cons_succ, i64_w, i32_w]
                    rfl
                  refine take_ (i := 4) (N := some 122) (v := ?_) (a' := ?_) #[true, true, true, true, true, true, true, true, true, false, false] rfl rfl (by kernel_rfl) (fun _ _ _ h => h) (Or.inl ⟨by rfl, ?_⟩) hHeld ?_ ?_
                  rotate_left
                  · rintro w' ⟨s0, s1⟩
                    go_simp
                    with_reducible rfl
                  rotate_left
                  · simp only [Act.put, List.setIfInBounds_toArray, List.set_cons_zero, List.set_cons_succ, i64_w, i32_w]
                    rfl
                  refine take_ (i := 9) (N := some 127) (v := ?_) (a' := ?_) #[true, true, true, true, true, true, true, true, true, true, false] rfl rfl (by kernel_rfl) (fun _ _ _ h => h) (Or.inl ⟨by rfl, ?_⟩) hHeld ?_ ?_
                  rotate_left
                  · rintro w' ⟨s0, s1⟩
                    go_simp
                    with_reducible rfl
                  rotate_left
                  · simp only [Act.put, List.setIfInBounds_toArray, List.set_cons_zero, List.set_cons_succ, i64_w, i32_w]
                    rfl
                  refine one_ (i := 10) (N := some 128) #[true, true, true, true, true, true, true, true, true, true, true] rfl rfl (by kernel_rfl) (by decide) (fun K hK => ?_)
                  refine goes_ Try.func16 (by kernel_rfl) rfl #[.slice z.A z.b.length z.c, .slice y.A y.b.length y.c] (by rfl) rfl rfl (by simp only [List.map_toArray, List.map_cons, List.map_nil]; rfl) ?_
                  with_reducible refine (dr_same (w := w6) (below_drew (pw_below_drewN (Below.refl _ _) m)) HZO.out HYO.out HZB.out HYB.out).mono ?_
                  rintro e w9 ⟨rfl, m9, rfl⟩
                  refine ⟨_, rfl, ?_⟩
                  have hq : decide (z.b = y.b) = true := HQ.out
                  rw [hq]
                  refine hK.out _ _ ⟨hzA, hyA⟩ (fun hHeld => ?_)
                  clear hK K
                  refine norm_ (a' := ?_) ?_ ?_
                  rotate_left
                  · show Act.put _ (some 128) _ = _
                    simp only [Act.put, List.setIfInBounds_toArray, List.set_cons_zero, List.set_cons_succ, i64_w, i32_w]
                    rfl
                  refine done_ (by kernel_rfl) ?_
                  go_wp2_with (fail)
                  rw [show numOf y.b lx + numOf y.b (ly.take j) + z.n = numOf y.b lx + numOf y.b (ly.take (j + 1)) by omega]
                  go_roundw
                  case rel => exact ⟨j + 1, _, rfl, by go_num, by omega, rfl⟩
                  case measure => simp [intOf]; omega
                | false =>
                  have hns : numOf y.b (ly.take (j + 1)) = numOf y.b (ly.take j) := by have := HNS.out; rw [if_neg (of_decide_eq_false HQ.out)] at this; omega
                  clear HNS HBO
                  go_wp2
                  refine start_ (n := 11) (S := fun w' => w'.cell? ⟨gy, j * 2, none⟩ = some (.slice z.A z.b.length z.c) ∧ w'.cell? ⟨ga, i * 2, none⟩ = some (.slice y.A y.b.length y.c)) (ds := []) #[false, false, false, false, false, false, false, false, false, false, false] (by kernel_rfl) rfl rfl ⟨hzA, hyA⟩ (fun hHeld => ?_)
                  refine pure_ (i := 0) (N := some 118) (v := ?_) (a' := ?_) #[true, false, false, false, false, false, false, false, false, false, false] rfl rfl (by kernel_rfl) (fun _ _ _ h => h) (Or.inl ⟨by rfl, ?_⟩) ?_ ?_
                  rotate_left
                  · intro w'
                    go_simp
                    with_reducible rfl
                  rotate_left
                  · simp only [Act.put, List.setIfInBounds_toArray, List.set_cons_zero, List.set_cons_succ, i64_w, i32_w]
                    rfl
                  refine pure_ (i := 1) (N := some 119) (v := ?_) (a' := ?_) #[true, true, false, false, false, false, false, false, false, false, false] rfl rfl (by kernel_rfl) (fun _ _ _ h => h) (Or.inl ⟨by rfl, ?_⟩) ?_ ?_
                  rotate_left
                  · intro w'
                    go_simp
                    with_reducible rfl
                  rotate_left
                  · simp only [Act.put, List.setIfInBounds_toArray, List.set_cons_zero, List.set_cons_succ, i64_w, i32_w]
                    rfl
                  refine pure_ (i := 2) (N := some 120) (v := ?_) (a' := ?_) #[true, true, true, false, false, false, false, false, false, false, false] rfl rfl (by kernel_rfl) (fun _ _ _ h => h) (Or.inl ⟨by rfl, ?_⟩) ?_ ?_
                  rotate_left
                  · intro w'
                    go_simp
                    with_reducible rfl
                  rotate_left
                  · simp only [Act.put, List.setIfInBounds_toArray, List.set_cons_zero, List.set_cons_succ, i64_w, i32_w]
                    rfl
                  refine pure_ (i := 3) (N := some 121) (v := ?_) (a' := ?_) #[true, true, true, true, false, false, false, false, false, false, false] rfl rfl (by kernel_rfl) (fun _ _ _ h => h) (Or.inl ⟨by rfl, ?_⟩) ?_ ?_
                  rotate_left
                  · intro w'
                    go_simp
                    with_reducible rfl
                  rotate_left
                  · simp only [Act.put, List.setIfInBounds_toArray, List.set_cons_zero, List.set_cons_succ, i64_w, i32_w]
                    rfl
                  refine pure_ (i := 5) (N := some 123) (v := ?_) (a' := ?_) #[true, true, true, true, false, true, false, false, false, false, false] rfl rfl (by kernel_rfl) (fun _ _ _ h => h) (Or.inl ⟨by rfl, ?_⟩) ?_ ?_
                  rotate_left
                  · intro w'
                    go_simp
                    with_reducible rfl
                  rotate_left
                  · simp only [Act.put, List.setIfInBounds_toArray, List.set_cons_zero, List.set_cons_succ, i64_w, i32_w]
                    rfl
                  refine pure_ (i := 6) (N := some 124) (v := ?_) (a' := ?_) #[true, true, true, true, false, true, true, false, false, false, false] rfl rfl (by kernel_rfl) (fun _ _ _ h => h) (Or.inl ⟨by rfl, ?_⟩) ?_ ?_
                  rotate_left
                  · intro w'
                    go_simp
                    with_reducible rfl
                  rotate_left
                  · simp only [Act.put, List.setIfInBounds_toArray, List.set_cons_zero, List.set_cons_succ, i64_w, i32_w]
                    rfl
                  refine pure_ (i := 7) (N := some 125) (v := ?_) (a' := ?_) #[true, true, true, true, false, true, true, true, false, false, false] rfl rfl (by kernel_rfl) (fun _ _ _ h => h) (Or.inl ⟨by rfl, ?_⟩) ?_ ?_
                  rotate_left
                  · intro w'
                    go_simp
                    with_reducible rfl
                  rotate_left
                  · simp only [Act.put, List.setIfInBounds_toArray, List.set_cons_zero, List.set_cons_succ, i64_w, i32_w]
                    rfl
                  refine pure_ (i := 8) (N := some 126) (v := ?_) (a' := ?_) #[true, true, true, true, false, true, true, true, true, false, false] rfl rfl (by kernel_rfl) (fun _ _ _ h => h) (Or.inl ⟨by rfl, ?_⟩) ?_ ?_
                  rotate_left
                  · intro w'
                    go_simp
                    with_reducible rfl
                  rotate_left
                  · simp only [Act.put, List.setIfInBounds_toArray, List.set_cons_zero, List.set_cons_succ, i64_w, i32_w]
                    rfl
                  refine take_ (i := 4) (N := some 122) (v := ?_) (a' := ?_) #[true, true, true, true, true, true, true, true, true, false, false] rfl rfl (by kernel_rfl) (fun _ _ _ h => h) (Or.inl ⟨by rfl, ?_⟩) hHeld ?_ ?_
                  rotate_left
                  · rintro w' ⟨s0, s1⟩
                    go_simp
                    with_reducible rfl
                  rotate_left
                  · simp only [Act.put, List.setIfInBounds_toArray, List.set_cons_zero, List.set_cons_succ, i64_w, i32_w]
                    rfl
                  refine take_ (i := 9) (N := some 127) (v := ?_) (a' := ?_) #[true, true, true, true, true, true, true, true, true, true, false] rfl rfl (by kernel_rfl) (fun _ _ _ h => h) (Or.inl ⟨by rfl, ?_⟩) hHeld ?_ ?_
                  rotate_left
                  · rintro w' ⟨s0, s1⟩
                    go_simp
                    with_reducible rfl
                  rotate_left
                  · simp only [Act.put, List.setIfInBounds_toArray, List.set_cons_zero, List.set_cons_succ, i64_w, i32_w]
                    rfl
                  refine one_ (i := 10) (N := some 128) #[true, true, true, true, true, true, true, true, true, true, true] rfl rfl (by kernel_rfl) (by decide) (fun K hK => ?_)
                  refine goes_ Try.func16 (by kernel_rfl) rfl #[.slice z.A z.b.length z.c, .slice y.A y.b.length y.c] (by rfl) rfl rfl (by simp only [List.map_toArray, List.map_cons, List.map_nil]; rfl) ?_
                  with_reducible refine (dr_same (w := w6) (below_drew (pw_below_drewN (Below.refl _ _) m)) HZO.out HYO.out HZB.out HYB.out).mono ?_
                  rintro e w9 ⟨rfl, m9, rfl⟩
                  refine ⟨_, rfl, ?_⟩
                  have hq : decide (z.b = y.b) = false := HQ.out
                  rw [hq]
                  refine hK.out _ _ ⟨hzA, hyA⟩ (fun hHeld => ?_)
                  clear hK K
                  refine norm_ (a' := ?_) ?_ ?_
                  rotate_left
                  · show Act.put _ (some 128) _ = _
                    simp only [Act.put, List.setIfInBounds_toArray, List.set_cons_zero, List.set_cons_succ, i64_w, i32_w]
                    rfl
                  refine done_ (by kernel_rfl) ?_
                  go_wp2_with (fail)
                  rw [← hns]
                  go_roundw
                  case rel => exact ⟨j + 1, _, rfl, by go_num, by omega, rfl⟩
                  case measure => simp [intOf]; omega
              · obtain rfl : j = cy.length := by omega
                have hlt : ly.take cy.length = ly := by rw [HY.out.len, List.take_length]
                obtain ⟨Ay, ccy, rfl⟩ := Kd.R_slice HY.out.row
                rw [hlt]
                clear hlt
                go_wp2
                obtain ⟨m0, hm0⟩ : ∃ x : Nat, x = m := ⟨_, rfl⟩
                clear hm0
                have hsum := HSUM.out
                have hbb := HYB.out
                have hcyA := HYA.out
                have hcyN := HYC.out
                by_cases hi0 : i = 0
                · subst hi0
                  have hyN : w6.cell? ⟨ga, 1, none⟩ = some (.int .i64 y.n) := by have := HYC.out; simpa using this
                  rw [hsum]
                  go_wp2
                  repeat (go_quiet (fail); try go_wp2)
                  go_roundw
                  case rel => exact ⟨1, _, by go_num, by omega, rfl⟩
                  case measure => simp [intOf]; omega
                · obtain ⟨i', hi'⟩ : ∃ i', i = i' + 1 := ⟨i - 1, by omega⟩
                  have hsub : (i : Int) - 1 = (i' : Int) := by omega
                  have hpos := eq_true (show (i : Int) > 0 by omega)
                  have hwr2 : IntKind.i64.wrap (i' : Int) = (i' : Int) := by rw [IntKind.wrap_i64]; omega
                  have hpos2 := eq_true (show (0 : Int) < (i : Int) by omega)
                  have hpos3 := eq_true (show 0 < i by omega)
                  have hpos4 := eq_false (show ¬ (i : Int) ≤ 0 by omega)
                  have hpos5 := eq_false (show ¬ i = 0 by omega)
                  have hil : i' < ca.length := by omega
                  obtain ⟨hpA, hpN⟩ := HA.out.cells hil
                  have hkp := HA.out.key hil
                  have HPV := Aside0.mk (Kd.V_reads' (HA.out.el ca[i'] (List.getElem_mem hil))).2.2
                  have HPB := Aside0.mk (HAB.out ca[i'] (List.getElem_mem hil))
                  obtain ⟨pp, hpp⟩ : ∃ pp, ca[i'] = pp := ⟨_, rfl⟩
                  rw [hpp] at hpA hpN hkp HPV HPB
                  have hlt : ltB pp.b y.b = true := by
                    subst hi'
                    have hr := countsR_rising (wordsOf T)
                    rw [HLA.out] at hr
                    have hr2 := List.pairwise_iff_getElem.1 hr i' (i' + 1) (by rw [← HA.out.len]; omega) (by rw [← HA.out.len]; omega) (by omega)
                    have e1 := HA.out.key hil
                    have e2 := HKY.out
                    rw [List.getD_eq_getElem?_getD, List.getElem?_eq_getElem (by rw [← HA.out.len]; omega)] at e1 e2
                    have q1 : i' < la.length := by rw [← HA.out.len]; omega
                    have q2 : i' + 1 < la.length := by rw [← HA.out.len]; omega
                    have e1' : la[i'] = (ca[i'].b, ca[i'].n) := e1
                    have e2' : la[i' + 1] = (y.b, y.n) := e2
                    rw [e1', e2', hpp] at hr2
                    exact hr2
                  have hls := less_eq HYB.out HPB.out
                  rw [ltB_asymm _ _ hlt] at hls
                  have hsm := same_eq HYB.out HPB.out
                  rw [decide_eq_false (show ¬ y.b = pp.b from fun e => by rw [e, ltB_irrefl] at hlt; cases hlt)] at hsm
                  have HYV := Aside0.mk (Kd.V_reads' HYO.out).2.2
                  have hcv1 := Kd.C_string (P := Try.prog) (A := y.A) (c := y.c) Try.underlying22 Try.underlying5 Try.underlying9 HYV.out
                  have hcv1d := fun m_ => Kd.C_string (P := Try.prog) (A := y.A) (c := y.c) Try.underlying22 Try.underlying5 Try.underlying9 (Kd.C_drewN HYV.out m_)
                  have hcv1e := fun m_ n_ => Kd.C_string (P := Try.prog) (A := y.A) (c := y.c) Try.underlying22 Try.underlying5 Try.underlying9 (Kd.C_drewN (Kd.C_drewN HYV.out m_) n_)
                  have hcv2 := Kd.C_string (P := Try.prog) (A := pp.A) (c := pp.c) Try.underlying22 Try.underlying5 Try.underlying9 HPV.out
                  have hcv2d := fun m_ => Kd.C_string (P := Try.prog) (A := pp.A) (c := pp.c) Try.underlying22 Try.underlying5 Try.underlying9 (Kd.C_drewN HPV.out m_)
                  have hcv2e := fun m_ n_ => Kd.C_string (P := Try.prog) (A := pp.A) (c := pp.c) Try.underlying22 Try.underlying5 Try.underlying9 (Kd.C_drewN (Kd.C_drewN HPV.out m_) n_)
                  clear hkp hpp hlt hi'
                  rw [hsum]
                  go_wp2
                  repeat (go_quiet (fail); try go_wp2)
                  go_roundw
                  case rel => exact ⟨i + 1, _, by go_num, by omega, rfl⟩
                  case measure => simp [intOf]; omega
      · obtain rfl : i = ca.length := by omega
        obtain ⟨Aa, cca, rfl⟩ := Kd.R_slice HA.out.row
        go_wp2_with (first | (go_at_call 12; (with_reducible refine (c_known).mono ?_); rintro e w11 ⟨rfl, hb11⟩; have HB11 := Aside0.mk (below_step (pw_below_drewN HWB.out m0) hb11); clear hb11))
        go_ret
        exact ⟨rfl, HB11.out⟩

end Go.Proofs.Ytmmpppahagknpaa.Wc
