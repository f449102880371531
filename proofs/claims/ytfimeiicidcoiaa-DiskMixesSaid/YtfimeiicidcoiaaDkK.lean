/- Contracts of package disk: Save. -/
import Derived.Test.YtfimeiicidcoiaaDkJ
import Derived.Laws.CopyRow
namespace Go.Proofs.Ytfimeiicidcoiaa.Dk
open Go.RowKit Go.Proofs.YtfimeiicidcoiaaW.PrintWords Go.Proofs.YtfimeiicidcoiaaW.PrintLast Go.Proofs.YtfimeiicidcoiaaW.PrintMore
set_option linter.unusedVariables false
set_option linter.unusedSimpArgs false
section
variable {P : Program} {ops : Array Oper} {Q : Exit → Act → World → Prop}
theorem copy_step {o : Oper} {N : Option Tmp} {a : Act} {w w1 : World} {v vs vx : Value} {K : Act → World → Prop} (hw : Region.wanted o (yielded ops a.tmps) = true) (hN : o.dst = N) (s x : Operand) (t t' : TypeId)
    (ho : o.op = .call { callee := .builtin .copy, args := #[s, x], argTypes := #[t, t'] }) (hs : a.eval s = vs) (hx : a.eval x = vx) (hr : ∀ ty, (Builtin.copy_ #[t, t'] ty #[vs, vx]).run P w = .ok v w1)
    (h : K (a.put N v) w1) : if Region.wanted o (yielded ops a.tmps) = true then Oper.wp P o a w K Q else K (a.put N undef) w := by
  rw [if_pos hw]
  unfold Oper.wp execOp
  simp only [ho, resolve, invoke, builtin, Sem.run_bind, Sem.run_pure, Result.andThen_ok, List.map_toArray, List.map_cons, List.map_nil, hs, hx, hr]
  show K (a.put o.dst v) w1
  rw [hN]
  exact h
end
variable {w W W1 : World} {B g N : Nat} {F : Nat → Prop} {D : DM} {vs vh vc : Value}
theorem Write_calls64 (h : DiskAt w B g F D) (hok : DOk D) (hn : D.held.length < 10000000) (k : Int) (A : Option Addr) (c : Nat) (x : List Int) (hx : x.length = 64) (hC : Kd.C (Kd.int .u8) w A 64 x) :
    Calls Try.prog 19 #[.pointer (some ⟨g, 0, none⟩), .int .i64 k, .slice A 64 c] w fun e w' => e = .returned (.int .i64 (writeM D k x).2) ∧ DiskAt w' B g (Grow F w w') (writeM D k x).1 ∧ Upd w w' F := by
  obtain ⟨vs, vh, vc, h⟩ := h
  have := Write_calls h hok hn k A c x (by rw [hx]; exact hC)
  rwa [hx] at this
theorem putsM_held (keep : Nat → Bool) : (putsM keep D).held.length = 0 := rfl
theorem loseM_held (l : List Bool) : (loseM l D).held.length ≤ D.held.length := by
  unfold loseM
  split
  · exact Nat.le_refl _
  · exact Nat.zero_le _
theorem goesM_held : (goesM D).1.held = D.held := by
  unfold goesM
  split
  · rfl
  · split <;> rfl
theorem writeM_held (k : Int) (x : List Int) : (writeM D k x).1.held.length ≤ D.held.length + 1 := by
  unfold writeM
  split
  · exact Nat.le_succ _
  · split
    · exact Nat.le_succ _
    · have h1 : (goesM (holdM D k x)).1.held.length = D.held.length + 1 := by rw [goesM_held]; simp [holdM]
      split
      · exact Nat.le_trans (loseM_held _) (Nat.le_of_eq h1)
      · exact Nat.le_of_eq h1
/-- The i-th piece of 64 bytes, the last one filled up. -/
def secAt (x : List Int) (i : Nat) : List Int := (x.drop (i * 64)).take 64 ++ List.replicate (64 - min (x.length - i * 64) 64) 0
theorem secAt_length (x : List Int) (i : Nat) : (secAt x i).length = 64 := by simp [secAt]; omega
def saveFrom (x : List Int) (k : Int) : Nat → Nat → DM → DM × Int
  | 0, _, D => (D, 0)
  | m + 1, i, D => if (writeM D (k + i) (secAt x i)).2 ≠ 0 then writeM D (k + i) (secAt x i) else saveFrom x k m (i + 1) (writeM D (k + i) (secAt x i)).1
def saveM (D : DM) (k : Int) (x : List Int) : DM × Int := if spanM D k x.length ≠ 0 then (D, spanM D k x.length) else saveFrom x k ((x.length + 63) / 64) 0 D
theorem run_copy_sector {w : World} {g9 : Nat} {ad : Addr} {x : List Int} (i c : Nat) (hi : i * 64 < x.length) (hg : w.heap[g9]? = some (.cells zs64 64 (0, 0))) (hC : ∀ j v, x[j]? = some v → w.cell? (ad.add j) = some (.int .u8 v)) (hadd : ∀ a b, (ad.add a).add b = ad.add (a + b)) (ty : TypeId) :
    (Builtin.copy_ #[22, 22] ty #[.slice (some ⟨g9, 0, none⟩) 64 64, .slice (some (ad.add (i * 64))) (x.length - i * 64) c]).run Try.prog w = .ok (goInt ((x.drop (i * 64)).take 64).length) (w.setRow g9 (nums .u8 (secAt x i)).toArray) := by
  have hz : zs64.toList = List.replicate 64 (.int .u8 0) := by
    unfold zs64
    simp
  have := run_copy_row (P := Try.prog) w 22 22 ty 5 g9 0 64 64 (ad.add (i * 64)) (x.length - i * 64) c zs64 64 (nums .u8 ((x.drop (i * 64)).take 64)) Try.underlying22 (by kernel_rfl) hg (by rw [nums_length, List.length_take, List.length_drop]; exact Nat.min_comm _ _) (fun j v hj => by
    simp only [nums, List.getElem?_map, Option.map_eq_some_iff] at hj
    obtain ⟨q, hq, rfl⟩ := hj
    rw [List.getElem?_take] at hq
    split at hq
    · rw [List.getElem?_drop] at hq
      rw [hadd]
      exact hC _ _ hq
    · cases hq) (by rw [nums_length, List.length_take, zs64_size]; omega) (fun v hv => by
    simp only [nums, List.mem_map] at hv
    obtain ⟨_, _, rfl⟩ := hv
    rfl)
  rw [nums_length] at this
  rw [this]
  congr 3
  rw [hz, List.drop_replicate]
  simp only [secAt, nums, List.map_append, List.map_replicate, List.take_zero, List.nil_append, List.length_take, List.length_drop, Nat.zero_add, Nat.min_comm]
theorem cell_kept {p : Addr} {v : Value} (h : w.cell? p = some v) (hb : Below w.heap.size w W) : W.cell? p = some v := by
  have hp : p.block < w.heap.size := by
    unfold World.cell? at h
    split at h
    · rename_i hq; exact blk_lt hq
    · cases h
  rw [hb.cell hp]
  exact h
theorem DiskAt.regrow2 {w0 w1 w2 w3 : World} (h : DiskAt w3 B g (Grow (Grow F w0 w1) w2 w3) D) (h1 : w1.heap.size ≤ w3.heap.size) (h2 : w0.heap.size ≤ w2.heap.size) (hB : B ≤ w0.heap.size) (hl : ∀ k, F k → B ≤ k ∧ k < w0.heap.size) (h03 : w0.heap.size ≤ w3.heap.size) : DiskAt w3 B g (Grow F w0 w3) D := by
  obtain ⟨a, b, c, h⟩ := h
  refine ⟨a, b, c, h.mono (fun k hk => ?_) (fun k hk => ?_)⟩
  · rcases hk with (hk | hk) | hk
    · exact .inl hk
    · exact .inr ⟨hk.1, by omega⟩
    · exact .inr ⟨by omega, hk.2⟩
  · rcases hk with hk | hk
    · exact ⟨(hl k hk).1, by have := (hl k hk).2; omega⟩
    · exact ⟨by omega, hk.2⟩
theorem upd_block (W : World) (cs cs' : Array Value) (e : TypeId) : Upd W ((W.alloc (.cells cs e)).drew.setRow W.heap.size cs') (· = W.heap.size) :=
  ((((Upd.refl W (· = W.heap.size)).alloc (.cells cs e)).drew).trans (upd_setRow _ W.heap.size cs') (fun k hk => .inl hk))
theorem DiskAt.frame {w1 : World} {G : Nat → Prop} (h : DiskAt w B g F D) (hu : Upd w w1 G) (hd : ∀ k, k < w.heap.size → F k → ¬ G k) : DiskAt w1 B g F D := by
  obtain ⟨a, b, c, h⟩ := h
  exact ⟨a, b, c, DAt.frame h hu (fun k hk => hd k (h.lt k hk).2 hk)⟩
set_option maxHeartbeats 8000000 in
theorem Save_calls (h : DAt w B g F D vs vh vc) (hok : DOk D) (hn : D.held.length + 20000 ≤ 10000000) (k : Int) (A : Option Addr) (c : Nat) (x : List Int) (hx : x.length ≤ 1000000000) (hxc : x.length ≤ c) (hC : ∀ W, Upd w W F → Kd.C (Kd.int .u8) W A x.length x) :
    Calls Try.prog 22 #[.pointer (some ⟨g, 0, none⟩), .int .i64 k, .slice A x.length c] w fun e w' => e = .returned (.int .i64 (saveM D k x).2) ∧ DiskAt w' B g (Grow F w w') (saveM D k x).1 ∧ Upd w w' F := by
  have H := Aside0.mk h
  have HOK := Aside0.mk hok
  have HC := Aside0.mk hC
  have HN := Aside0.mk hn
  have HB := Aside0.mk h.hB
  clear h hok hC hn
  by_cases hs : spanM D k x.length = 0
  · obtain ⟨hd, hk0, hk1, hk2⟩ := spanM_zero hs
    obtain ⟨k0, rfl⟩ : ∃ n : Nat, k = n := ⟨k.toNat, by omega⟩
    rw [need_nat] at hk2
    obtain ⟨M, hM⟩ : ∃ M, M = (x.length + 63) / 64 := ⟨_, rfl⟩
    rw [← hM] at hk2
    have hn1 := HOK.out.n1
    have hkM : k0 + M ≤ D.sec.length := by omega
    have hM2 : M ≤ 16384 := by omega
    have HND := Lib.hid (show needM x.length = (M : Int) by rw [need_nat, hM])
    have HS := Lib.hid hs
    have hq := Lib.hid (show saveM D k0 x = saveFrom x k0 M 0 D by simp [saveM, hs, hM])
    have HM := Aside0.mk hM
    clear hs hk0 hk1 hk2 hd hM
    go_enter Try.func22, Try.ntmps22
    go_wp2_with (first | (go_at_call 37; refine (span_calls H.out HOK.out k0 x.length (by omega) (by omega)).mono ?_; rintro e w' ⟨rfl, m, rfl⟩; rw [HS.out]) | (go_at_call 38; refine (need_calls x.length (by omega) (by omega)).mono ?_; rintro e w' ⟨rfl, rfl⟩; rw [HND.out]))
    go_loopw [8, 9, 10, 22] (fun v8 v9 v10 v22 w' => ∃ (i : Nat) (D' : DM), v22 = .int .i64 i ∧ i ≤ M ∧ Aside0 (saveFrom x k0 M 0 D = saveFrom x k0 (M - i) i D') ∧ Aside0 (DiskAt w' B g (Grow F w w') D') ∧ Aside0 (DOk D') ∧ Aside0 (D'.held.length ≤ D.held.length + i) ∧ Aside0 (Upd w w' F)) (fun _ _ _ v22 _ => M - (intOf v22).toNat)
    case atStart => exact ⟨0, D, rfl, Nat.zero_le _, ⟨rfl⟩, ⟨_, _, _, (H.out.drewN _).grow HB.out⟩, HOK, ⟨Nat.le_refl _⟩, ⟨(Upd.refl _ _).drewN _⟩⟩
    case round =>
      obtain ⟨i, D', rfl, hi, HE, HD, HO, HL, HU⟩ := hrel
      by_cases hlt : i < M
      · have hi64 : i * 64 < x.length := by have := HM.out; omega
        obtain ⟨c1, c2, c3⟩ := HC.out wr HU.out
        obtain ⟨ad, hA, hcc⟩ := c3 (by omega)
        subst hA
        have hw4 : wrap64 ((i : Int) * 64) = (i : Int) * 64 := by simp only [wrap64]; omega
        have htn : ((i : Int) * 64).toNat = i * 64 := by omega
        have HG9 := Aside0.mk (blk_drew (heap_alloc_new wr (.cells zs64 64)))
        have hcell : ∀ j v, x[j]? = some v → (wr.alloc (.cells zs64 64)).drew.cell? (ad.add j) = some (.int .u8 v) := fun j v hj => by
          obtain ⟨cs, _, hK, hx1⟩ := hcc j v hj
          have := hx1 0 (.int .u8 v) (by rw [hK]; rfl)
          have := cell_kept this (below_drew (below_alloc (Below.refl wr.heap.size wr) (.cells zs64 64)))
          simpa [Kd.int, Kd.scalar] using this
        have hif : (if c = i * 64 then some ad else some (ad.add (i * 64))) = some (ad.add (i * 64)) := if_neg (by omega)
        have HCP := Aside0.mk (run_copy_sector i (c - i * 64) hi64 HG9.out hcell (Addr.add_add ad))
        rw [← hif] at HCP
        clear hif
        have HU9 := Aside0.mk (upd_block wr zs64 (nums .u8 (secAt x i)).toArray 64)
        have HC9 := Aside0.mk (show Kd.C (Kd.int .u8) ((wr.alloc (.cells zs64 64)).drew.setRow wr.heap.size (nums .u8 (secAt x i)).toArray) (some ⟨wr.heap.size, 0, none⟩) 64 (secAt x i) by
          have := C_block (setRow_heap _ _ _ (nums .u8 (secAt x i)).toArray _ _ HG9.out) (by rw [secAt_length]; omega)
          rwa [secAt_length] at this)
        have HD9 := Aside0.mk (HD.out.frame HU9.out (fun k hk _ => by omega))
        have hL9 : D'.held.length < 10000000 := by have := HL.out; have := HN.out; omega
        have HL9 := Aside0.mk hL9
        obtain ⟨q, hq0⟩ : ∃ q, (writeM D' ((k0 : Int) + i) (secAt x i)).2 = q := ⟨_, rfl⟩
        have HQ := Lib.hid hq0
        have HU9' := Aside0.mk (HU.out.trans HU9.out (fun k hk => .inr (by rw [hk]; exact HU.out.size)))
        clear hcc c1 c2 c3 hcell hL9
        by_cases hqz : q = 0
        · subst hqz
          clear hq0
          have HE2 := Aside0.mk (show saveFrom x k0 M 0 D = saveFrom x k0 (M - (i + 1)) (i + 1) (writeM D' ((k0 : Int) + i) (secAt x i)).1 by rw [HE.out, show M - i = (M - (i + 1)) + 1 by omega, saveFrom, if_neg (by rw [HQ.out]; simp)])
          go_wp2_with (first | (refine wpList_alloc rfl rfl _ rfl zs64 (run_alloc64 _) ?_))
          refine start_ (n := 6) (S := fun w' => True) (ds := []) #[false, false, false, false, false, false] (by kernel_rfl) rfl rfl trivial (fun hHeld => ?_)
          refine pure_ (i := 0) (N := some 25) (v := ?_) (a' := ?_) #[true, false, false, false, false, false] rfl rfl (by kernel_rfl) (fun _ _ _ h => h) (Or.inl ⟨by rfl, ?_⟩) ?_ ?_
          rotate_left
          · intro w'
            go_simp
            with_reducible rfl
          rotate_left
          · simp only [Act.put, List.setIfInBounds_toArray, List.set_cons_zero, List.set_cons_succ, i64_w, i32_w]
            rfl
          refine pure_ (i := 1) (N := some 26) (v := ?_) (a' := ?_) #[true, true, false, false, false, false] rfl rfl (by kernel_rfl) (fun _ _ _ h => h) (Or.inl ⟨by rfl, ?_⟩) ?_ ?_
          rotate_left
          · intro w'
            go_simp
            with_reducible rfl
          rotate_left
          · simp only [Act.put, List.setIfInBounds_toArray, List.set_cons_zero, List.set_cons_succ, i64_w, i32_w]
            rfl
          refine pure_ (i := 2) (N := some 27) (v := ?_) (a' := ?_) #[true, true, true, false, false, false] rfl rfl (by kernel_rfl) (fun _ _ _ h => h) (Or.inl ⟨by rfl, ?_⟩) ?_ ?_
          rotate_left
          · intro w'
            go_simp
            with_reducible rfl
          rotate_left
          · simp only [Act.put, List.setIfInBounds_toArray, List.set_cons_zero, List.set_cons_succ, i64_w, i32_w]
            rfl
          refine pure_ (i := 3) (N := some 28) (v := ?_) (a' := ?_) #[true, true, true, true, false, false] rfl rfl (by kernel_rfl) (fun _ _ _ h => h) (Or.inl ⟨by rfl, ?_⟩) ?_ ?_
          rotate_left
          · intro w'
            go_simp
            (try rw [hw4])
            (try with_reducible rfl)
          rotate_left
          · simp only [Act.put, List.setIfInBounds_toArray, List.set_cons_zero, List.set_cons_succ, i64_w, i32_w]
            rfl
          refine pure_ (i := 4) (N := some 29) (v := ?_) (a' := ?_) #[true, true, true, true, true, false] rfl rfl (by kernel_rfl) (fun _ _ _ h => h) (Or.inl ⟨by rfl, ?_⟩) ?_ ?_
          rotate_left
          · intro w'
            go_simp
            (try simp only [htn])
            (try rw [if_pos ⟨by omega, by omega⟩])
            (try rw [if_neg (by omega)])
            (try with_reducible rfl)
          rotate_left
          · simp only [Act.put, List.setIfInBounds_toArray, List.set_cons_zero, List.set_cons_succ, i64_w, i32_w]
            rfl
          refine one_ (i := 5) (N := some 30) #[true, true, true, true, true, true] rfl rfl (by kernel_rfl) (by decide) (fun K hK => ?_)
          refine copy_step (by rfl) rfl (.tmp 25) (.tmp 29) 22 22 rfl rfl rfl HCP.out ?_
          refine hK.out _ _ trivial (fun hHeld => ?_)
          clear hK K
          refine norm_ (a' := ?_) ?_ ?_
          rotate_left
          · show Act.put _ (some 30) _ = _
            simp only [Act.put, List.setIfInBounds_toArray, List.set_cons_zero, List.set_cons_succ, i64_w, i32_w]
            rfl
          refine done_ (by kernel_rfl) ?_

          go_wp2_with (first | (go_at_call 19; refine (Write_calls64 HD9.out HO.out HL9.out ((k0 : Int) + i) _ 64 (secAt x i) (secAt_length x i) HC9.out).mono ?_; rintro e w5 ⟨rfl, h5, hu5⟩; rw [HQ.out]; have H5 := Aside0.mk h5; have HU5 := Aside0.mk hu5; clear h5 hu5))
          go_roundw
          case rel => exact ⟨i + 1, _, by go_num, by omega, HE2, ⟨H5.out.regrow2 (Nat.le_trans HU9.out.size HU5.out.size) HU9'.out.size HB.out H.out.lt (Nat.le_trans HU9'.out.size HU5.out.size)⟩, ⟨writeM_ok HO.out HL9.out⟩, ⟨by have := writeM_held (D := D') ((k0 : Int) + i) (secAt x i); have := HL.out; omega⟩, ⟨HU9'.out.trans HU5.out (fun k hk => hk.elim .inl (fun h => .inr h.1))⟩⟩
          case measure => simp [intOf]; omega
        · clear hq0
          have HE2 := Lib.hid (show saveM D k0 x = writeM D' ((k0 : Int) + i) (secAt x i) by rw [hq.out, HE.out, show M - i = (M - (i + 1)) + 1 by omega, saveFrom, if_pos (by rw [HQ.out]; exact hqz)])
          go_wp2_with (first | (refine wpList_alloc rfl rfl _ rfl zs64 (run_alloc64 _) ?_))
          refine start_ (n := 6) (S := fun w' => True) (ds := []) #[false, false, false, false, false, false] (by kernel_rfl) rfl rfl trivial (fun hHeld => ?_)
          refine pure_ (i := 0) (N := some 25) (v := ?_) (a' := ?_) #[true, false, false, false, false, false] rfl rfl (by kernel_rfl) (fun _ _ _ h => h) (Or.inl ⟨by rfl, ?_⟩) ?_ ?_
          rotate_left
          · intro w'
            go_simp
            with_reducible rfl
          rotate_left
          · simp only [Act.put, List.setIfInBounds_toArray, List.set_cons_zero, List.set_cons_succ, i64_w, i32_w]
            rfl
          refine pure_ (i := 1) (N := some 26) (v := ?_) (a' := ?_) #[true, true, false, false, false, false] rfl rfl (by kernel_rfl) (fun _ _ _ h => h) (Or.inl ⟨by rfl, ?_⟩) ?_ ?_
          rotate_left
          · intro w'
            go_simp
            with_reducible rfl
          rotate_left
          · simp only [Act.put, List.setIfInBounds_toArray, List.set_cons_zero, List.set_cons_succ, i64_w, i32_w]
            rfl
          refine pure_ (i := 2) (N := some 27) (v := ?_) (a' := ?_) #[true, true, true, false, false, false] rfl rfl (by kernel_rfl) (fun _ _ _ h => h) (Or.inl ⟨by rfl, ?_⟩) ?_ ?_
          rotate_left
          · intro w'
            go_simp
            with_reducible rfl
          rotate_left
          · simp only [Act.put, List.setIfInBounds_toArray, List.set_cons_zero, List.set_cons_succ, i64_w, i32_w]
            rfl
          refine pure_ (i := 3) (N := some 28) (v := ?_) (a' := ?_) #[true, true, true, true, false, false] rfl rfl (by kernel_rfl) (fun _ _ _ h => h) (Or.inl ⟨by rfl, ?_⟩) ?_ ?_
          rotate_left
          · intro w'
            go_simp
            (try rw [hw4])
            (try with_reducible rfl)
          rotate_left
          · simp only [Act.put, List.setIfInBounds_toArray, List.set_cons_zero, List.set_cons_succ, i64_w, i32_w]
            rfl
          refine pure_ (i := 4) (N := some 29) (v := ?_) (a' := ?_) #[true, true, true, true, true, false] rfl rfl (by kernel_rfl) (fun _ _ _ h => h) (Or.inl ⟨by rfl, ?_⟩) ?_ ?_
          rotate_left
          · intro w'
            go_simp
            (try simp only [htn])
            (try rw [if_pos ⟨by omega, by omega⟩])
            (try rw [if_neg (by omega)])
            (try with_reducible rfl)
          rotate_left
          · simp only [Act.put, List.setIfInBounds_toArray, List.set_cons_zero, List.set_cons_succ, i64_w, i32_w]
            rfl
          refine one_ (i := 5) (N := some 30) #[true, true, true, true, true, true] rfl rfl (by kernel_rfl) (by decide) (fun K hK => ?_)
          refine copy_step (by rfl) rfl (.tmp 25) (.tmp 29) 22 22 rfl rfl rfl HCP.out ?_
          refine hK.out _ _ trivial (fun hHeld => ?_)
          clear hK K
          refine norm_ (a' := ?_) ?_ ?_
          rotate_left
          · show Act.put _ (some 30) _ = _
            simp only [Act.put, List.setIfInBounds_toArray, List.set_cons_zero, List.set_cons_succ, i64_w, i32_w]
            rfl
          refine done_ (by kernel_rfl) ?_

          go_wp2_with (first | (go_at_call 19; refine (Write_calls64 HD9.out HO.out HL9.out ((k0 : Int) + i) _ 64 (secAt x i) (secAt_length x i) HC9.out).mono ?_; rintro e w5 ⟨rfl, h5, hu5⟩; rw [HQ.out]; have H5 := Aside0.mk h5; have HU5 := Aside0.mk hu5; clear h5 hu5))
          go_ret
          exact ⟨by rw [HE2.out, HQ.out] <;> rfl, by rw [HE2.out]; exact H5.out.regrow2 (Nat.le_trans HU9.out.size HU5.out.size) HU9'.out.size HB.out H.out.lt (Nat.le_trans HU9'.out.size HU5.out.size), HU9'.out.trans HU5.out (fun k hk => hk.elim .inl (fun h => .inr h.1))⟩
      · obtain rfl : i = M := by omega
        have HE' := Lib.hid (show saveM D k0 x = (D', 0) by rw [hq.out, HE.out, Nat.sub_self]; rfl)
        clear hq
        go_wp2
        go_ret
        exact ⟨by rw [HE'.out] <;> rfl, by rw [HE'.out]; exact HD.out, HU.out⟩
  · have hq := Lib.hid (show saveM D k x = (D, spanM D k x.length) by simp [saveM, hs])
    obtain ⟨q, hq0⟩ : ∃ q, spanM D k x.length = q := ⟨_, rfl⟩
    have HQ := Lib.hid hq0
    rw [hq0] at hs
    clear hq0
    go_enter Try.func22, Try.ntmps22
    go_wp2_with (first | (go_at_call 37; refine (span_calls H.out HOK.out k x.length (by omega) (by omega)).mono ?_; rintro e w' ⟨rfl, m, rfl⟩; rw [HQ.out]))
    go_ret
    refine ⟨by rw [hq.out, HQ.out] <;> rfl, ?_, (Upd.refl _ _).drewN _⟩
    rw [hq.out]
    exact ⟨_, _, _, (H.out.drewN _).grow HB.out⟩
end Go.Proofs.Ytfimeiicidcoiaa.Dk
