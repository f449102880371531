/- SlotsNil: the texts ShI MkA MkB MkC MkD MkE MkF MkG LoH LoI LoJ LoK LoR LawSlotsNil. -/
import Derived.Test.YtfpfnolpoklefaaGreatDoorPSlotsNil2
import Derived.Deep.Slices
import Derived.Deep.Grids
import Derived.Test.YtfpfnolpoklefaaGreatDoorRows
import Derived.Test.YtfpfnolpoklefaaGreatDoorCards
import Derived.Test.YtfpfnolpoklefaaGreatDoorTie
import Derived.Test.YtfpfnolpoklefaaGreatDoorPSlotsNil1
import Derived.WalkKit
import Derived.ProofKit
import Derived.OpenShut
import Derived.ShutString
import Derived.ChangeOld
import Derived.Below
import Derived.SizedLaws
import Derived.SevenTiedAt
import Derived.LaidMore
import Derived.Stop.Joined
/- Contracts of package sha2: Write, Sum; of package store: digest. -/
namespace Go.Proofs.YtfpfnolpoklefaaGreatDoor.Sh
open Go.Proofs.YtfpfnolpoklefaaGreatDoor.Dk
open Go.RowKit Go.Proofs.YtfpfnolpoklefaaGreatDoorW.PrintWords Go.Proofs.YtfpfnolpoklefaaGreatDoorW.PrintLast Go.Proofs.YtfpfnolpoklefaaGreatDoorW.PrintMore
set_option linter.unusedVariables false
set_option linter.unusedSimpArgs false
set_option maxRecDepth 30000

variable {w w0 w1 w2 wr : World} {g q : Nat} {n : Int} {r : Option (List Int)} {hv xs ys : List Int} {v : Value}
theorem C_bys {gs o : Nat} (h : Bys w gs o xs) (hx : xs.length ≤ 1000000000) : C8 w (some ⟨gs, o, none⟩) xs := by
  refine ⟨rfl, by omega, fun _ => ⟨_, rfl, fun j p hj => ⟨[.int .u8 p], rfl, rfl, fun i u hu => ?_⟩⟩⟩
  cases i with
  | succ i => simp at hu
  | zero =>
    simp only [List.getElem?_cons_zero, Option.some.injEq] at hu
    subst hu
    have hlt := (List.getElem?_eq_some_iff.1 hj).1
    have e : (⟨gs, o, none⟩ : Addr).add (j * (Kd.int .u8).sz + 0) = ⟨gs, o + j, none⟩ := by rw [Addr.add_mid]; simp [Kd.int, Kd.scalar]
    rw [e, h j hlt, List.getD_eq_getElem?_getD, hj]
    rfl
theorem RowAt.C (h : RowAt w g v xs) (hx : xs.length ≤ 1000000000) : ∃ A c, v = .slice A xs.length c ∧ C8 w A xs := by
  obtain ⟨A, c, rfl, hc, h⟩ := h
  refine ⟨A, c, rfl, ?_⟩
  rcases h with rfl | ⟨gs, o, rfl, _, _, hb⟩
  · exact ⟨rfl, by simp, fun h => absurd h (by simp)⟩
  · exact C_bys hb hx
theorem row8_at {cs : Array Value} {t : Nat} (h : Row8 w q v xs) (hb : w.heap[g]? = some (.cells cs t (0, 0))) (ht : 5 ≠ t) : RowAt w g v xs := by
  obtain ⟨A, c, rfl, hc, _⟩ := h.reads
  refine ⟨A, c, rfl, hc, ?_⟩
  by_cases h0 : 0 < xs.length
  · obtain ⟨gs, c', e, _, hlt, _, ⟨cells, hcl⟩, hx⟩ := h.form h0
    injection e with e
    refine .inr ⟨gs, 0, e, blk_ne hcl hb ht, hlt, fun j hj => by rw [Nat.zero_add]; exact hx j hj⟩
  · exact .inl (List.eq_nil_of_length_eq_zero (by omega))
theorem HAt.grown (h : HAt w0 w g n r hv) (hr : Row8 w q v xs) (hg : w.grownBy w1 v.ownBlock) (hb : Below w0.heap.size w w1) : HAt w0 w1 g n none hv := by
  obtain ⟨vr, h6, h1, h2, h3⟩ := h.blk
  have hne := Kd.R_ne hr h1 (by decide)
  exact ⟨⟨vr, h6, blk_grown h1 hg hne, ⟨h2.1, fun x hx => by cases hx⟩, h3⟩, h.hl, h.lo, h.b.trans hb⟩
theorem HAt.rowAt (h : HAt w0 w g n r hv) (hr : Row8 w q v xs) : RowAt w g v xs := by
  obtain ⟨vr, h6, h1, h2, h3⟩ := h.blk
  exact row8_at hr h1 (by decide)
theorem takeF_len (hv : List Int) : ∀ (k : Nat) (xs : List Int), xs.length ≤ k → (takeF hv xs).2.length ≤ xs.length ∧ (takeF hv xs).2.length < 64
  | k, xs, hk => by
    by_cases h : 64 ≤ xs.length
    · rw [takeF_ge h]
      cases k with
      | zero => omega
      | succ k =>
        have := takeF_len (mixM hv (xs.take 64)) k (xs.drop 64) (by simp; omega)
        simp at this
        omega
    · rw [takeF_lt (by omega)]
      exact ⟨Nat.le_refl _, by show xs.length < 64; omega⟩
def WritePost (w0 w w' : World) (g : Nat) (n : Int) (r hv b : List Int) (e : Ending) : Prop := e = .returned (.int .i64 0) ∧ HAt w0 w' g (n + b.length) (some (takeF hv (r ++ b)).2) (takeF hv (r ++ b)).1 ∧ w.heap.size ≤ w'.heap.size
set_option maxHeartbeats 16000000 in
theorem write_calls (hg0 : Glob w0) (h : HAt w0 w g n (some xs) hv) (hn : 0 ≤ n) (A : Option Addr) (c : Nat) (b : List Int) (hnb : n + b.length ≤ 1048576) (hx : xs.length ≤ 64) (hC : ∀ W, Upd w W (· = g) → C8 W A b) :
    Calls Tryz.prog 67 #[.pointer (some ⟨g, 0, none⟩), .slice A b.length c] w fun e w' => WritePost w0 w w' g n xs hv b e := by
  have hg := Aside0.mk hg0
  have hc15 := h.cn
  have hf15 := h.free 15
  have hf16 := h.free 16
  obtain ⟨A1, m1, c1, hc16, hr16⟩ := h.cr
  have hr := hr16 xs rfl
  have HA1 := Aside0.mk (h.setN (n + b.length))
  have HU1 := upd_cell w g 15 (.int .i64 (n + b.length))
  have HR1 := Aside0.mk (show Row8 (w.setCell ⟨g, 15, none⟩ (.int .i64 (n + b.length))) w0.heap.size (.slice A1 m1 c1) xs from by obtain ⟨vr, h6, h1, _⟩ := h.blk; exact hr.type h1 (by decide) HU1)
  have HC1 := Aside0.mk (hC _ HU1)
  have HZ := Aside0.mk (show w.heap.size ≤ (w.setCell ⟨g, 15, none⟩ (.int .i64 (n + b.length))).heap.size from HU1.size)
  have hq : decide (1048576 - n < (b.length : Int)) = false := decide_eq_false (by omega)
  obtain ⟨m, hm⟩ : ∃ m, m = n + b.length := ⟨_, rfl⟩
  have hm1 : m ≤ 1048576 := by omega
  have HM := Lib.hid hm
  rw [← hm] at HA1 HR1 HC1 HZ
  have hms : n + (b.length : Int) = m := hm.symm
  clear h hg0 hr hr16 HU1 hC hm
  have hbl : b.length ≤ 1048576 := by omega
  go_enter Tryz.func67, Tryz.ntmps67
  go_wp2_with (first | ((with_reducible refine gate_builtin (b := .append) (xs := #[.tmp 31, .tmp 32]) rfl ?_); at_builtin; refine app8 (q := w0.heap.size) info5 Tryz.underlying22 rfl (.tmp 31) (.tmp 32) rfl _ _ _ _ _ _ rfl rfl HR1.out HC1.out ?aQ ?aL ?_; (case aQ => have := HA1.out.b.size; omega); (case aL => omega); intro A3 c3 w3 hr3 hb3 hg3; have HA3 := Aside0.mk (HA1.out.grown HR1.out hg3 hb3); have HZ3 := Aside0.mk (Nat.le_trans HZ.out hg3.size); have HR3 := Aside0.mk (show RowAt w3 g (.slice A3 (xs.length + b.length) c3) (xs ++ b) from by have h := HA3.out.rowAt hr3; rwa [List.length_append] at h); clear hr3 hb3 hg3) | (go_at_call 83; (with_reducible refine (take_calls hg.out _ HA3.out HR3.out (by simp; omega)).mono ?_); rintro e w4 ⟨v4, rfl, hr4, ha4, hu4⟩; obtain ⟨A4, c4, rfl, hc4⟩ := RowAt.C hr4 (by have := takeF_len hv _ (xs ++ b) (Nat.le_refl _); omega); have HA4 := Aside0.mk ha4; have HC4 := Aside0.mk hc4; have HZ4 := Aside0.mk (Nat.le_trans HZ3.out hu4.size); clear hr4 ha4 hu4 hc4) | ((with_reducible refine gate_builtin (b := .append) (xs := #[.const (.slice none 0 0), .tmp 34]) rfl ?_); at_builtin; refine app8 (q := w4.heap.size) info5 Tryz.underlying22 rfl (.const (.slice none 0 0)) (.tmp 34) rfl _ _ _ _ _ _ rfl rfl (Row8.nil _ _) HC4.out ?aQ ?aL ?_; (case aQ => exact Nat.le_refl _); (case aL => have := takeF_len hv _ (xs ++ b) (Nat.le_refl _); simp; omega); intro A5 c5 w5 hr5 hb5 hg5; have HR5 := Aside0.mk hr5; have HA5 := Aside0.mk (HA4.out.below hb5); have HZ5 := Aside0.mk (Nat.le_trans HZ4.out hb5.size); have hf := HA5.out.free 16; obtain ⟨_, _, _, hc, _⟩ := HA5.out.cr; clear hr5 hb5 hg5))
  go_ret
  exact ⟨rfl, by rw [← HM.out]; exact HA5.out.setR (HR5.out.lower HA4.out.b.size), by have := HZ5.out; simpa [World.setCell] using this⟩

def sumM (hv r : List Int) (k : Nat) : List Int := tellM (takeF hv (r ++ padM k)).1
def SumPost (w0 w' : World) (x : List Int) (e : Ending) : Prop := ∃ v, e = .returned v ∧ Row8 w' w0.heap.size v x ∧ Below w0.heap.size w0 w'
theorem padN_le (k : Nat) : padN k ≤ 72 := by unfold padN; omega
theorem padM_length (k : Nat) : (padM k).length = padN k := padR_length k 8
set_option maxHeartbeats 16000000 in
theorem sum_calls (hg0 : Glob w0) (k : Nat) (hk : k ≤ 1048576) (h : HAt w0 w g k (some xs) hv) (hx : xs.length < 64) : Calls Tryz.prog 68 #[.pointer (some ⟨g, 0, none⟩)] w fun e w' => SumPost w0 w' (sumM hv xs k) e := by
  have hg := Aside0.mk hg0
  have HA1 := Aside0.mk h
  have HX := Aside0.mk hx
  clear h hg0 hx
  go_enter Tryz.func68, Tryz.ntmps68
  go_wp2_with (first | (go_at_call 84; (with_reducible refine (copy_calls HA1.out (by have := HX.out; omega)).mono ?_); rintro e w2 ⟨g2, rfl, ha2, hb2⟩; clear hb2))
  have HA2 := Aside0.mk ha2.drew
  have hw256 : wrap64 256 = 256 := by simp [wrap64]
  clear ha2
  repeat (first | go_step | go_guarded | go_upon)
  refine start_ (n := 16) (S := fun w' => w'.cell? ⟨g2, 15, none⟩ = some (.int .i64 k) ∧ w'.cell? ⟨g2, 0, none⟩ = some (.int .i64 4)) (ds := []) (bz 16 0) (by kernel_rfl) rfl rfl ⟨HA2.out.cn, HA2.out.c0⟩ (fun hHeld => ?_)
  refine pz 0 (some 11) (bz 16 1) ?_
  refine pz 1 (some 12) (bz 16 3) ?_
  refine pz 2 (some 13) (bz 16 7) ?_
  refine pz 4 (some 15) (bz 16 23) ?_
  refine pz 5 (some 16) (bz 16 55) ?_
  refine pz 6 (some 17) (bz 16 119) ?_
  refine pz 7 (some 18) (bz 16 247) ?_
  refine tz2 3 (some 14) (bz 16 255) hHeld ?_
  refine tz2 8 (some 19) (bz 16 511) hHeld ?_
  refine pz 9 (some 20) (bz 16 1023) ?_
  refine one_ (i := 10) (N := some 21) (bz 16 2047) rfl rfl (by kernel_rfl) (by decide) (fun K hK => ?_)
  refine goes_ Tryz.func85 (by kernel_rfl) rfl #[.int .i64 k, .int .i64 (wrap64 256)] (by rfl) rfl rfl (by simp only [List.map_toArray, List.map_cons, List.map_nil]; rfl) ?_
  rw [show wrap64 256 = 256 by simp [wrap64]]
  with_reducible refine (pad_calls k hk).mono ?_
  rintro e w3 ⟨vp, rfl, hr, hb⟩
  refine ⟨_, rfl, ?_⟩
  have HA3 := Aside0.mk (HA2.out.below hb)
  have HP3 := Aside0.mk hr
  have HZ3 := Aside0.mk (show w0.heap.size ≤ w3.heap.size from HA3.out.b.size)
  have HZ2 := Aside0.mk (show w0.heap.size ≤ w2.drew.heap.size from HA2.out.b.size)
  clear hr hb
  refine hK.out _ _ ⟨HA3.out.cn, HA3.out.c0⟩ (fun hHeld => ?_)
  clear hK K
  refine norm_ (a' := ?_) ?_ ?_
  rotate_left
  · show Act.put _ (some 21) _ = _
    simp only [Act.put, List.setIfInBounds_toArray, List.set_cons_zero, List.set_cons_succ, i64_w, i32_w]
    rfl
  refine pz 11 (some 10) (bz 16 4095) ?_
  refine pz 12 (some 22) (bz 16 8191) ?_
  refine pz 13 (some 23) (bz 16 16383) ?_
  refine pz 14 (some 4) (bz 16 32767) ?_
  refine pz 15 (some 5) (bz 16 65535) ?_
  refine done_ (by kernel_rfl) ?_
  clear hHeld hw256
  obtain ⟨A3, c3, rfl, hpc, hp8⟩ := HP3.out.reads
  obtain ⟨A2, m2, c2, hc16, hr16⟩ := HA3.out.cr
  have HR2 := Aside0.mk (hr16 xs rfl)
  have HP8 := Aside0.mk hp8
  have hpl : (padM k).length ≤ 72 := by rw [padM_length]; exact padN_le k
  have HPL := Aside0.mk hpl
  clear hpc hr16 hp8 HP3 hpl
  obtain ⟨h5, hh5⟩ : ∃ h5, (takeF hv (xs ++ padM k)).1 = h5 := ⟨_, rfl⟩
  have HH5 := Lib.hid hh5
  go_wp2_with (first | ((with_reducible refine gate_builtin (b := .append) (xs := #[.tmp 28, .tmp 29]) rfl ?_); at_builtin; refine app8 (q := w0.heap.size) info5 Tryz.underlying22 rfl (.tmp 28) (.tmp 29) rfl _ _ _ _ _ _ rfl rfl HR2.out HP8.out ?aQ ?aL ?_; (case aQ => exact HZ3.out); (case aL => have := HX.out; have := HPL.out; omega); intro A4 c4 w4 hr4 hb4 hg4; have HA4 := Aside0.mk (HA3.out.grown HR2.out hg4 hb4); have HR4 := Aside0.mk (show RowAt w4 g2 (.slice A4 (xs.length + (padM k).length) c4) (xs ++ padM k) from by have h := HA4.out.rowAt hr4; rwa [List.length_append] at h); clear hr4 hb4 hg4) | (go_at_call 83; (with_reducible refine (take_calls hg.out _ HA4.out HR4.out (by have := HX.out; have := HPL.out; simp; omega)).mono ?_); rintro e w5 ⟨v5, rfl, hr5, ha5, hu5⟩; rw [hh5] at ha5; have HA5 := Aside0.mk ha5; have hc0 := HA5.out.c0; clear hr5 ha5 hu5 hh5))
  have HL5 := Aside0.mk HA5.out.hl
  have HA6 := Aside0.mk HA5.out.drew
  repeat (first | go_step | go_guarded | go_upon)
  refine start_ (n := 10) (S := fun w' => w'.rangeAt g2 0 narrowA.toList ∧ w'.rangeAt g2 17 (nums .u32 h5)) (ds := []) (bz 10 0) (by kernel_rfl) rfl rfl ⟨HA6.out.rs, HA6.out.rh⟩ (fun hHeld => ?_)
  refine pz 0 (some 38) (bz 10 1) ?_
  refine pz 1 (some 39) (bz 10 3) ?_
  refine pz 2 (some 40) (bz 10 7) ?_
  refine pz 4 (some 42) (bz 10 23) ?_
  refine pz 5 (some 43) (bz 10 55) ?_
  refine pz 6 (some 44) (bz 10 119) ?_
  refine take_ (i := 3) (N := some 41) (v := .agg narrowA) (a' := ?_) (bz 10 127) rfl rfl (by kernel_rfl) (fun _ _ _ h => h) (yieldsIf_load_mid (by rfl) 154 (.tmp 40) rfl g2 0 (by rfl) narrowA.toList _ (fun w' h => h.1) Tryz.underlying154 rfl (by kernel_rfl)) hHeld ?_ ?_
  rotate_left
  · simp only [Act.put, List.setIfInBounds_toArray, List.set_cons_zero, List.set_cons_succ, i64_w, i32_w]
    rfl
  refine take_ (i := 7) (N := some 45) (v := .agg (nums .u32 h5).toArray) (a' := ?_) (bz 10 255) rfl rfl (by kernel_rfl) (fun _ _ _ h => h) (yieldsIf_load_mid (by rfl) 158 (.tmp 44) rfl g2 17 (by rfl) (nums .u32 h5) _ (fun w' h => h.2) Tryz.underlying158 rfl (by rw [nums_length, HL5.out]; kernel_rfl)) hHeld ?_ ?_
  rotate_left
  · simp only [Act.put, List.setIfInBounds_toArray, List.set_cons_zero, List.set_cons_succ, i64_w, i32_w]
    rfl
  refine one_ (i := 8) (N := some 46) (bz 10 511) rfl rfl (by kernel_rfl) (by decide) (fun K hK => ?_)
  refine goes_ Tryz.func86 (by kernel_rfl) rfl #[.agg narrowA, .agg (nums .u32 h5).toArray] (by rfl) rfl rfl (by simp only [List.map_toArray, List.map_cons, List.map_nil]; rfl) ?_
  with_reducible refine (tell_calls h5 HL5.out).mono ?_
  rintro e w7 ⟨v7, rfl, hr, hb⟩
  refine ⟨_, rfl, ?_⟩
  have HA7 := Aside0.mk (HA6.out.below hb)
  have HR7 := Aside0.mk (hr.lower HA6.out.b.size)
  clear hr hb
  refine hK.out _ _ ⟨HA7.out.rs, HA7.out.rh⟩ (fun hHeld => ?_)
  clear hK K
  refine norm_ (a' := ?_) ?_ ?_
  rotate_left
  · show Act.put _ (some 46) _ = _
    simp only [Act.put, List.setIfInBounds_toArray, List.set_cons_zero, List.set_cons_succ, i64_w, i32_w]
    rfl
  refine pz 9 (some 2) (bz 10 1023) ?_
  refine done_ (by kernel_rfl) ?_
  clear hHeld
  go_wp2_with (fail)
  go_ret
  exact ⟨v7, rfl, by rw [sumM, HH5.out]; exact HR7.out, HA7.out.b⟩

theorem HAt.upd_below {W : World} (h : HAt w0 w g n r hv) (hu : Upd w W (· = g)) : Below w0.heap.size w0 W := Upd.below (F := fun k => w0.heap.size ≤ k) ((Upd.of_below (F := fun k => w0.heap.size ≤ k) h.b).trans hu (fun k hk => .inl (by rw [hk]; exact h.lo))) (fun k hk => hk)
end Go.Proofs.YtfpfnolpoklefaaGreatDoor.Sh
/- Package merkle: digest. -/
namespace Go.Proofs.YtfpfnolpoklefaaGreatDoor.Sh
open Go.Proofs.YtfpfnolpoklefaaGreatDoor.Dk
open Go.RowKit Go.Proofs.YtfpfnolpoklefaaGreatDoorW.PrintWords Go.Proofs.YtfpfnolpoklefaaGreatDoorW.PrintLast Go.Proofs.YtfpfnolpoklefaaGreatDoorW.PrintMore
set_option linter.unusedVariables false
set_option linter.unusedSimpArgs false
set_option maxRecDepth 30000
variable {w w0 w1 w2 wr : World} {g c : Nat} {A : Option Addr} {L : List (List Int)} {mark : Int}
/-- The state of a hash behind some bytes: the numbers, the rest, how many bytes there were. -/
def stM (s : List Int × List Int × Nat) (b : List Int) : List Int × List Int × Nat := ((takeF s.1 (s.2.1 ++ b)).1, (takeF s.1 (s.2.1 ++ b)).2, s.2.2 + b.length)
def mdS (mark : Int) (L : List (List Int)) : List Int × List Int × Nat := L.foldl stM (stM (begin32L, [], 0) [mark])
def mdigM (mark : Int) (L : List (List Int)) : List Int := sumM (mdS mark L).1 (mdS mark L).2.1 (mdS mark L).2.2
def totL (L : List (List Int)) : Nat := (L.map List.length).sum
theorem mdS_snoc {i : Nat} (h : i < L.length) : mdS mark (L.take (i + 1)) = stM (mdS mark (L.take i)) L[i] := by
  unfold mdS
  rw [List.take_succ_eq_append_getElem h, List.foldl_append]
  rfl
theorem mdS_facts (mark : Int) : ∀ i, i ≤ L.length → (mdS mark (L.take i)).2.1.length < 64 ∧ (mdS mark (L.take i)).2.2 = 1 + totL (L.take i) := by
  intro i
  induction i with
  | zero => intro _; exact ⟨(takeF_len _ _ _ (Nat.le_refl _)).2, by simp [mdS, stM, totL]⟩
  | succ i ih =>
    intro hi
    rw [mdS_snoc (by omega)]
    refine ⟨(takeF_len _ _ _ (Nat.le_refl _)).2, ?_⟩
    show (mdS mark (L.take i)).2.2 + L[i].length = _
    rw [(ih (by omega)).2]
    unfold totL
    rw [List.take_succ_eq_append_getElem (by omega)]
    simp only [List.map_append, List.sum_append, List.map_cons, List.map_nil, List.sum_cons, List.sum_nil]
    omega
theorem totL_take (L : List (List Int)) (i : Nat) : totL (L.take i) ≤ totL L := by
  conv => rhs; rw [← List.take_append_drop i L]
  unfold totL
  simp only [List.map_append, List.sum_append]
  omega
theorem build22 (m : Int) (w : World) : (Instr.buildSlice 22 1 #[(0, .int .u8 m)]).run Tryz.prog w = .ok (.slice (some ⟨w.heap.size, 0, none⟩) 1 1) (w.alloc (.cells #[.int .u8 m] 5)) := by kernel_rfl
theorem C8_mark {w1 : World} {n : Int} {r : Option (List Int)} {hv : List Int} (h : HAt w w1 g n r hv) (m : Int) : ∀ W, Upd (w1.alloc (.cells #[.int .u8 m] 5)) W (· = g) → C8 W (some ⟨w1.heap.size, 0, none⟩) [m] := fun W hW => by
  obtain ⟨_, _, hb, _⟩ := h.blk
  have hlt := blk_lt hb
  have h1 := heap_alloc_new w1 (.cells #[.int .u8 m] 5)
  refine C_block (x := [m]) (e := 5) (m := (0, 0)) ?_ (by simp)
  rw [hW.block w1.heap.size (by rw [World.size_alloc]; exact Nat.lt_succ_self _) (fun e => by have e' : w1.heap.size = g := e; omega)]
  exact h1
set_option maxHeartbeats 16000000 in
theorem mdigest_calls (hg0 : Glob w) (mark : Int) (hL : Kd.C (Kd.slice 5 (Kd.int .u8)) w A L.length L) (hc : L.length ≤ c) (hl : 1 + totL L ≤ 1048576) (hn : L.length ≤ 1000000) :
    Calls Tryz.prog 52 #[.int .u8 mark, .slice A L.length c] w fun e w' => SumPost w w' (mdigM mark L) e := by
  have hg := Aside0.mk hg0
  have HL := Aside0.mk hL
  have HT := Aside0.mk hl
  have hbb := fun W => build22 mark W
  clear hg0 hL hl
  go_enter Tryz.func52, Tryz.ntmps52
  go_wp2_with (first
    | (go_at_call 66; (with_reducible refine (new_calls hg.out).mono ?_); rintro e w1 ⟨g, rfl, ha1⟩; have HA1 := Aside0.mk ha1; have HM1 := Aside0.mk (C8_mark ha1 mark); have HA1' := Aside0.mk (ha1.below (below_alloc (Below.refl w1.heap.size w1) (.cells #[.int .u8 mark] 5))); have HW1 := Aside0.mk (show Calls Tryz.prog 67 #[.pointer (some ⟨g, 0, none⟩), .slice (some ⟨w1.heap.size, 0, none⟩) 1 1] (w1.alloc (.cells #[.int .u8 mark] 5)) fun e w' => WritePost w (w1.alloc (.cells #[.int .u8 mark] 5)) w' g 0 [] begin32L [mark] e from write_calls hg.out HA1'.out (by decide) (some ⟨w1.heap.size, 0, none⟩) 1 [mark] (by simp) (by decide) HM1.out); clear ha1)
    | (go_at_call 67; (with_reducible refine HW1.out.mono ?_); rintro e w2 ⟨rfl, ha2, _⟩; have HA2 := Aside0.mk (show HAt w w2 g ((mdS mark (L.take 0)).2.2 : Int) (some (mdS mark (L.take 0)).2.1) (mdS mark (L.take 0)).1 from ha2); clear ha2))
  go_loopw [19] (fun v19 w' => ∃ i : Nat, v19 = .int .i64 i ∧ i ≤ L.length ∧ Aside0 (HAt w w' g ((mdS mark (L.take i)).2.2 : Int) (some (mdS mark (L.take i)).2.1) (mdS mark (L.take i)).1)) (fun v19 _ => L.length - (intOf v19).toNat)
  case atStart => exact ⟨0, rfl, Nat.zero_le _, HA2⟩
  case round =>
    obtain ⟨i, rfl, hi, HA⟩ := hrel
    obtain ⟨f1, f2⟩ := mdS_facts (L := L) mark i hi
    by_cases hlt : i < L.length
    · obtain ⟨ad, A0, c0, rfl, hcw, hl0, hC0⟩ := P.at_L1 HL.out (i : Int) (by omega) (by omega)
      rw [Int.toNat_natCast] at hcw
      obtain ⟨t, ht⟩ : ∃ t, P.rd_L1 L (i : Int) = t := ⟨_, rfl⟩
      have hti : L[i] = t := by rw [← ht]; unfold P.rd_L1; rw [Int.toNat_natCast, List.getD_eq_getElem?_getD, List.getElem?_eq_getElem hlt]; rfl
      rw [ht] at hcw hl0 hC0
      have hcell := Kd.cell_heap (fun k hk => HA.out.b.block k hk) hcw
      obtain ⟨g1, g2⟩ := mdS_facts (L := L) mark (i + 1) hlt
      have hsn := mdS_snoc (mark := mark) hlt
      rw [hti] at hsn
      have hb2 : (mdS mark (L.take i)).2.2 + t.length ≤ 1048576 := by
        have e : (mdS mark (L.take (i + 1))).2.2 = (mdS mark (L.take i)).2.2 + t.length := by rw [hsn]; rfl
        have := totL_take L (i + 1)
        have := HT.out
        omega
      have HSN := Aside0.mk hsn
      have HC0 := Aside0.mk hC0
      obtain ⟨S, hS⟩ : ∃ S, mdS mark (L.take i) = S := ⟨_, rfl⟩
      rw [hS] at HA HSN f1 hb2
      clear hcw hC0 ht hti hsn hS f2 g1 g2
      go_wp2_with (first | (go_at_call 67; (with_reducible refine (write_calls hg.out HA.out (by omega) A0 c0 t (by omega) (by omega) (fun W hW => Kd.C_below HC0.out (HA.out.upd_below hW))).mono ?_); rintro e w3 ⟨rfl, ha3, _⟩; have HA3 := Aside0.mk (show HAt w w3 g ((stM S t).2.2 : Int) (some (stM S t).2.1) (stM S t).1 from by (have h := ha3; rw [← Int.natCast_add] at h; exact h)); clear ha3))
      go_roundw
      case rel => exact ⟨i + 1, by go_num, by omega, ⟨by rw [HSN.out]; exact HA3.out⟩⟩
      case measure => simp [intOf]; omega
    · obtain rfl : i = L.length := by omega
      rw [List.take_length] at HA f1 f2
      have hb3 : (mdS mark L).2.2 ≤ 1048576 := by have := HT.out; omega
      go_wp2_with (first | (go_at_call 68; (with_reducible refine (sum_calls hg.out (mdS mark L).2.2 hb3 HA.out f1).mono ?_); rintro e w4 ⟨v4, rfl, hr4, hb4⟩; have HS := Aside0.mk (show SumPost w w4 (mdigM mark L) (.returned v4) from ⟨v4, rfl, hr4, hb4⟩); clear hr4 hb4))
      go_ret
      exact HS.out

end Go.Proofs.YtfpfnolpoklefaaGreatDoor.Sh
/- Package merkle: eight (a row of eight bytes of the call's own). -/
namespace Go.Proofs.YtfpfnolpoklefaaGreatDoor.Sh
open Go.Proofs.YtfpfnolpoklefaaGreatDoor.Dk
open Go.RowKit Go.Proofs.YtfpfnolpoklefaaGreatDoorW.PrintWords Go.Proofs.YtfpfnolpoklefaaGreatDoorW.PrintLast Go.Proofs.YtfpfnolpoklefaaGreatDoorW.PrintMore
set_option linter.unusedVariables false
set_option linter.unusedSimpArgs false
set_option maxRecDepth 30000
variable {w w0 w1 w2 wr : World} {g c : Nat} {xs : List Int} {n : Int}
theorem cell_u8 {w : World} {b g n cap : Nat} {ok : Nat → Prop} {xs : List Int} (h : Kd.R (Kd.int .u8) 5 w b ok (.slice (some ⟨g, 0, none⟩) n cap) xs) {i : Nat} (hi : i < xs.length) : ∃ z, w.cell? ⟨g, i, none⟩ = some (.int .u8 z) := by
  have hn := (Kd.R_reads' h).1
  obtain ⟨c, hl, hM, hx, _⟩ := Kd.R_elem h 0 (i : Int) (by omega) (by omega)
  rw [Int.toNat_natCast] at hM hx
  have hM' : c = [.int .u8 (xs.getD i 0)] := hM
  subst hM'
  have := hx 0 _ rfl
  rw [show i * (Kd.int .u8).sz + 0 = i from by show i * 1 + 0 = _; omega] at this
  exact ⟨_, this⟩
theorem typed_set {w : World} {g : Nat} (h : ∃ cells, w.heap[g]? = some (.cells cells 5 (0, 0))) (i : Nat) (u : Value) : ∃ cells, (w.setCell ⟨g, i, none⟩ u).heap[g]? = some (.cells cells 5 (0, 0)) := by
  obtain ⟨cells, h⟩ := h
  unfold World.setCell
  simp only [Array.getElem?_modify]
  rw [if_pos trivial, h]
  exact ⟨_, rfl⟩
theorem zeros8 : ∃ xs : List Int, List.replicate (8 : Int).toNat (0 : Int) = xs ∧ xs.length = 8 := ⟨_, rfl, rfl⟩
set_option maxHeartbeats 8000000 in
theorem eight_calls : Calls Tryz.prog 53 #[.int .i64 n] w fun e w' => ∃ v x, e = .returned v ∧ x.length = 8 ∧ Row8 w' w.heap.size v x ∧ Below w.heap.size w w' := by
  go_enter Tryz.func53, Tryz.ntmps53
  go_wp2_with (first | (at_make; refine Kd.R_make (Kd.int .u8) (w0 := w) w.heap.size 5 rfl rfl 22 (.const (.int .i64 8)) (.const (.int .i64 8)) rfl 8 rfl rfl Tryz.underlying22 (.int .u8 0) 1 info5 rfl (by decide) (by decide) 0 (okp := fun _ => False) (ok := fun k => w.heap.size ≤ k) rfl (fun _ h => h.elim) (Nat.le_refl _) (by decide) (by decide) (Below.refl _ _) (Nat.le_refl _) ?_; intro v1 w1 hr1 hb1 _ _; (obtain ⟨xs0, hxs0, hl0⟩ := zeros8); rw [hxs0] at hr1; obtain ⟨g, cap, rfl, hg1, hg2, cells, hg3⟩ := Kd.R_form hr1 (by rw [hl0]; decide); rw [hl0] at hr1 ⊢; have HR1 := Aside0.mk hr1; have HB1 := Aside0.mk hb1; have HG := Aside0.mk (show ∃ cells, w1.heap[g]? = some (.cells cells 5 (0, 0)) from ⟨cells, hg3⟩); clear hr1 hb1 hg3))
  go_loopw [8] (fun v8 w' => ∃ (i : Nat) (xs : List Int), v8 = .int .i64 i ∧ i ≤ 8 ∧ xs.length = 8 ∧ Aside0 (Kd.R (Kd.int .u8) 5 w' w.heap.size (fun k => w.heap.size ≤ k) (.slice (some ⟨g, 0, none⟩) 8 cap) xs) ∧ Aside0 (Below w.heap.size w w') ∧ Aside0 (∃ cells, w'.heap[g]? = some (.cells cells 5 (0, 0)))) (fun v8 _ => 8 - (intOf v8).toNat)
  case atStart => exact ⟨0, xs0, rfl, by decide, hl0, HR1, HB1, HG⟩
  case round =>
    clear HR1 HB1 HG hl0 hxs0
    obtain ⟨i, xs, rfl, hi, hl0, HR, HB, HG⟩ := hrel
    by_cases hil : i < 8
    · have hfz : wr.frozen? ⟨g, i, none⟩ = false := by obtain ⟨cells, hg3⟩ := HG.out; exact blk_frozen hg3 i
      obtain ⟨z, hcz⟩ := cell_u8 HR.out (i := i) (by omega)
      have HS := Aside0.mk (show ∀ y : Int, Kd.R (Kd.int .u8) 5 (wr.setCell ⟨g, i, none⟩ (.int .u8 y)) w.heap.size (fun k => w.heap.size ≤ k) (.slice (some ⟨g, 0, none⟩) 8 cap) (xs.set i y) from fun y => Kd.R_putn (h1 := fun _ => rfl) HR.out (i : Int) y)
      go_wp2
      go_roundw
      case rel => exact ⟨i + 1, _, by go_num, by omega, by rw [List.length_set]; exact hl0, ⟨HS.out _⟩, ⟨HB.out.setCell (p := ⟨g, i, none⟩) hg1 _⟩, ⟨typed_set HG.out _ _⟩⟩
      case measure => simp [intOf]; omega
    · obtain rfl : i = 8 := by omega
      go_wp2_with (fail)
      go_ret
      exact ⟨_, xs, rfl, hl0, HR.out, HB.out⟩

end Go.Proofs.YtfpfnolpoklefaaGreatDoor.Sh
/- Package merkle: Leaf of a chunk (that 32 bytes come). -/
namespace Go.Proofs.YtfpfnolpoklefaaGreatDoor.Sh
open Go.Proofs.YtfpfnolpoklefaaGreatDoor.Dk
open Go.RowKit Go.Proofs.YtfpfnolpoklefaaGreatDoorW.PrintWords Go.Proofs.YtfpfnolpoklefaaGreatDoorW.PrintLast Go.Proofs.YtfpfnolpoklefaaGreatDoorW.PrintMore
set_option linter.unusedVariables false
set_option linter.unusedSimpArgs false
set_option maxRecDepth 30000
section
variable {w W w' : World} {A A1 A2 : Option Addr} {c n c1 c2 G : Nat} {xs x1 x2 : List Int}
theorem C_two {m : Nat × Nat} {n1 n2 : Nat} (h : w.heap[G]? = some (.cells #[.slice A1 n1 c1, .slice A2 n2 c2] 22 m)) (e1 : x1.length = n1) (e2 : x2.length = n2) (l1 : n1 ≤ c1) (C1 : Kd.C (Kd.int .u8) w A1 n1 x1) (l2 : n2 ≤ c2) (C2 : Kd.C (Kd.int .u8) w A2 n2 x2) :
    Kd.C (Kd.slice 5 (Kd.int .u8)) w (some ⟨G, 0, none⟩) 2 [x1, x2] := by
  subst e1 e2
  refine ⟨rfl, by decide, fun _ => ⟨_, rfl, fun j p hj => ?_⟩⟩
  have hcell : ∀ i, w.cell? ⟨G, i, none⟩ = (#[Value.slice A1 x1.length c1, Value.slice A2 x2.length c2] : Array Value)[i]? := fun i => by rw [World.cell?, h]; simp
  match j, hj with
  | 0, hj =>
    simp only [List.getElem?_cons_zero, Option.some.injEq] at hj
    subst hj
    refine ⟨[.slice A1 x1.length c1], rfl, ⟨A1, c1, rfl, l1, C1⟩, fun i u hu => ?_⟩
    cases i with
    | zero =>
      simp only [List.getElem?_cons_zero, Option.some.injEq] at hu
      subst hu
      exact hcell 0
    | succ i => simp at hu
  | 1, hj =>
    simp only [List.getElem?_cons_succ, List.getElem?_cons_zero, Option.some.injEq] at hj
    subst hj
    refine ⟨[.slice A2 x2.length c2], rfl, ⟨A2, c2, rfl, l2, C2⟩, fun i u hu => ?_⟩
    cases i with
    | zero =>
      simp only [List.getElem?_cons_zero, Option.some.injEq] at hu
      subst hu
      exact hcell 1
    | succ i => simp at hu
  | j + 2, hj => simp at hj
end

variable {w w0 w1 w2 wr : World} {g c : Nat} {A : Option Addr} {b : List Int} {n : Int}
theorem build87 (v1 v2 : Option Addr × Nat × Nat) (w : World) : (Instr.buildSlice 87 2 #[(0, .slice v1.1 v1.2.1 v1.2.2), (1, .slice v2.1 v2.2.1 v2.2.2)]).run Tryz.prog w = .ok (.slice (some ⟨w.heap.size, 0, none⟩) 2 2) (w.alloc (.cells #[.slice v1.1 v1.2.1 v1.2.2, .slice v2.1 v2.2.1 v2.2.2] 22)) := by kernel_rfl
theorem leaf_dig {A1 : Option Addr} {c1 : Nat} {x : List Int} (hg : Glob w) (hb1 : Below w.heap.size w w1) (hr1 : Row8 w1 w.heap.size (.slice A1 x.length c1) x) (hx8 : x.length = 8) (hC : C8 w A b) (hc : b.length ≤ c) (hb : b.length ≤ 1024) :
    Calls Tryz.prog 52 #[.int .u8 0, .slice (some ⟨w1.heap.size, 0, none⟩) 2 2] (w1.alloc (.cells #[.slice A1 8 c1, .slice A b.length c] 22)) fun e w' => ∃ v, e = .returned v ∧ Row8 w' w.heap.size v (mdigM 0 [x, b]) ∧ Below w.heap.size w w' := by
  have hba := below_alloc (Below.refl w1.heap.size w1) (.cells #[.slice A1 8 c1, .slice A b.length c] 22)
  have hr := Kd.R_reads' hr1
  rw [hx8] at hr
  have h2 := C_two (x1 := x) (x2 := b) (n1 := 8) (n2 := b.length) (heap_alloc_new w1 (.cells #[.slice A1 8 c1, .slice A b.length c] 22)) hx8 rfl hr.2.1 (Kd.C_below hr.2.2 hba) hc (Kd.C_below (Kd.C_below hC hb1) hba)
  have hbw : Below w.heap.size w (w1.alloc (.cells #[.slice A1 8 c1, .slice A b.length c] 22)) := below_alloc hb1 _
  have hd := mdigest_calls (L := [x, b]) (c := 2) (hg.below hbw) 0 h2 (by simp) (by simp [totL, hx8]; omega) (by simp)
  refine hd.mono ?_
  rintro e w' ⟨v, rfl, hv, hbv⟩
  exact ⟨v, rfl, hv.lower hbw.size, Upd.below (F := fun _ => False) ((Upd.of_below (F := fun _ => False) hbw).trans (Upd.of_below (F := fun _ => False) hbv) (fun _ h => .inl h)) (fun _ h => h.elim)⟩
set_option maxHeartbeats 8000000 in
theorem Leaf_calls (hg0 : Glob w) (hn : 0 ≤ n) (hC : C8 w A b) (hc : b.length ≤ c) (hb : b.length ≤ 1024) : Calls Tryz.prog 45 #[.int .i64 n, .slice A b.length c] w fun e w' => ∃ v x, e = .returned (.tuple #[v, .int .i64 0]) ∧ Row8 w' w.heap.size v (mdigM 0 [x, b]) ∧ Below w.heap.size w w' := by
  have hg := Aside0.mk hg0
  have HC := Aside0.mk hC
  have hq1 : decide (n < 0) = false := decide_eq_false (by omega)
  have hq2 : decide (1024 < (b.length : Int)) = false := decide_eq_false (by omega)
  have hbb := fun (A1 : Option Addr) (n1 c1 : Nat) (W : World) => build87 (A1, n1, c1) (A, b.length, c) W
  clear hg0 hC
  go_enter Tryz.func45, Tryz.ntmps45
  go_wp2_with (first | (go_at_call 53; (with_reducible refine (eight_calls).mono ?_); rintro e w1 ⟨v1, x, rfl, hx8, hr1, hb1⟩; obtain ⟨A1, c1, rfl⟩ := Kd.R_slice hr1; have HR1 := Aside0.mk hr1; have HB1 := Aside0.mk hb1; have HDG := Aside0.mk (leaf_dig hg.out hb1 hr1 hx8 HC.out hc hb); rw [hx8]; clear hr1 hb1) | (go_at_call 52; (with_reducible refine HDG.out.mono ?_); rintro e w2 ⟨v2, rfl, hr2, hb2⟩; have HR2 := Aside0.mk hr2; have HB2 := Aside0.mk hb2; clear hr2 hb2))
  refine bodyPost_ret (results_tmp2 rfl _ _ _) rfl ?_
  exact ⟨v2, x, rfl, HR2.out, HB2.out⟩

end Go.Proofs.YtfpfnolpoklefaaGreatDoor.Sh
/- Package merkle: the digest's length; top of one leaf. -/
namespace Go.Proofs.YtfpfnolpoklefaaGreatDoor.Sh
open Go.Proofs.YtfpfnolpoklefaaGreatDoor.Dk
open Go.RowKit Go.Proofs.YtfpfnolpoklefaaGreatDoorW.PrintWords Go.Proofs.YtfpfnolpoklefaaGreatDoorW.PrintLast Go.Proofs.YtfpfnolpoklefaaGreatDoorW.PrintMore
set_option linter.unusedVariables false
set_option linter.unusedSimpArgs false
set_option maxRecDepth 30000
theorem tellM_length {h : List Int} (hl : h.length = 8) : (tellM h).length = 32 := by
  have : ∀ l : List Int, (l.flatMap tell1).length = 4 * l.length := by
    intro l
    induction l with
    | nil => rfl
    | cons a l ih => rw [List.flatMap_cons, List.length_append, ih]; simp [tell1]; omega
  rw [tellM, this, hl]
theorem takeF_h (hv : List Int) (h8 : hv.length = 8) : ∀ (k : Nat) (xs : List Int), xs.length ≤ k → (takeF hv xs).1.length = 8 := by
  intro k
  induction k generalizing hv with
  | zero => intro xs hk; rw [takeF_lt (by omega)]; exact h8
  | succ k ih =>
    intro xs hk
    by_cases h : 64 ≤ xs.length
    · rw [takeF_ge h]
      exact ih _ (mixM_length h8) _ (by simp; omega)
    · rw [takeF_lt (by omega)]; exact h8

theorem stM_h {s : List Int × List Int × Nat} (h : s.1.length = 8) (b : List Int) : (stM s b).1.length = 8 := takeF_h _ h _ _ (Nat.le_refl _)
theorem mdS_h (mark : Int) : ∀ L : List (List Int), (mdS mark L).1.length = 8 := fun L => by
  have : ∀ (L : List (List Int)) (s : List Int × List Int × Nat), s.1.length = 8 → (L.foldl stM s).1.length = 8 := by
    intro L
    induction L with
    | nil => intro s h; exact h
    | cons b L ih => intro s h; exact ih _ (stM_h h b)
  exact this L _ (stM_h begin32L_length _)
theorem mdigM_length (mark : Int) (L : List (List Int)) : (mdigM mark L).length = 32 := tellM_length (takeF_h _ (mdS_h mark L) _ _ (Nat.le_refl _))
variable {w w0 w1 w2 wr : World} {g c : Nat} {A : Option Addr} {x : List Int}
theorem top1_calls (hL : Kd.C (Kd.slice 5 (Kd.int .u8)) w A 1 [x]) (hc : 1 ≤ c) : Calls Tryz.prog 55 #[.slice A 1 c] w fun e w' => (∃ A' c', e = .returned (.slice A' x.length c') ∧ x.length ≤ c' ∧ C8 w A' x) ∧ w = w' := by
  obtain ⟨ad, A0, c0, rfl, hcw, hl0, hC0⟩ := P.at_L1 hL (0 : Int) (by decide) (by decide)
  have hx : P.rd_L1 [x] 0 = x := rfl
  rw [hx] at hcw hl0 hC0
  have hcw' : w.cell? ad = some (.slice A0 x.length c0) := by simpa [Addr.add] using hcw
  have HC := Aside0.mk hC0
  clear hL hC0 hx
  go_enter Tryz.func55, Tryz.ntmps55
  go_wp2_with (fail)
  go_ret
  exact ⟨⟨A0, c0, rfl, hl0, HC.out⟩, rfl⟩

end Go.Proofs.YtfpfnolpoklefaaGreatDoor.Sh
/- Package merkle: Root of one leaf. -/
namespace Go.Proofs.YtfpfnolpoklefaaGreatDoor.Sh
open Go.Proofs.YtfpfnolpoklefaaGreatDoor.Dk
open Go.RowKit Go.Proofs.YtfpfnolpoklefaaGreatDoorW.PrintWords Go.Proofs.YtfpfnolpoklefaaGreatDoorW.PrintLast Go.Proofs.YtfpfnolpoklefaaGreatDoorW.PrintMore
set_option linter.unusedVariables false
set_option linter.unusedSimpArgs false
set_option maxRecDepth 30000
variable {w w0 w1 w2 wr : World} {g c : Nat} {A : Option Addr} {x : List Int}
theorem leaves1 (hx : x.length = 32) : P.merkle_leaves.f 5 [x] = some 0 := by
  have e : P.rd_L1 [x] 0 = x := rfl
  simp [P.merkle_leaves.f, P.merkle_leaves.l0, e, hx, wrap64]
theorem two_dig {A1 A2 : Option Addr} {c1 c2 : Nat} {x1 x2 : List Int} (mark : Int) (hg : Glob w) (hb1 : Below w.heap.size w w1) (C1 : C8 w1 A1 x1) (l1 : x1.length ≤ c1) (C2 : C8 w1 A2 x2) (l2 : x2.length ≤ c2) (hl : x1.length + x2.length ≤ 10000) {n1 n2 : Nat} (e1 : x1.length = n1) (e2 : x2.length = n2) :
    Calls Tryz.prog 52 #[.int .u8 mark, .slice (some ⟨w1.heap.size, 0, none⟩) 2 2] (w1.alloc (.cells #[.slice A1 n1 c1, .slice A2 n2 c2] 22)) fun e w' => ∃ v, e = .returned v ∧ Row8 w' w.heap.size v (mdigM mark [x1, x2]) ∧ Below w.heap.size w w' := by
  subst e1 e2
  have hba := below_alloc (Below.refl w1.heap.size w1) (.cells #[.slice A1 x1.length c1, .slice A2 x2.length c2] 22)
  have h2 := C_two (heap_alloc_new w1 (.cells #[.slice A1 x1.length c1, .slice A2 x2.length c2] 22)) rfl rfl l1 (Kd.C_below C1 hba) l2 (Kd.C_below C2 hba)
  have hbw : Below w.heap.size w (w1.alloc (.cells #[.slice A1 x1.length c1, .slice A2 x2.length c2] 22)) := below_alloc hb1 _
  have hd := mdigest_calls (L := [x1, x2]) (c := 2) (hg.below hbw) mark h2 (by simp) (by simp [totL]; omega) (by simp)
  refine hd.mono ?_
  rintro e w' ⟨v, rfl, hv, hbv⟩
  exact ⟨v, rfl, hv.lower hbw.size, Upd.below (F := fun _ => False) ((Upd.of_below (F := fun _ => False) hbw).trans (Upd.of_below (F := fun _ => False) hbv) (fun _ h => .inl h)) (fun _ h => h.elim)⟩
set_option maxHeartbeats 8000000 in
theorem Root1_calls (hg0 : Glob w) (hL : Kd.C (Kd.slice 5 (Kd.int .u8)) w A 1 [x]) (hc : 1 ≤ c) (hx : x.length = 32) : Calls Tryz.prog 46 #[.slice A 1 c] w fun e w' => ∃ v y, e = .returned (.tuple #[v, .int .i64 0]) ∧ y.length = 32 ∧ Row8 w' w.heap.size v y ∧ Below w.heap.size w w' := by
  have hg := Aside0.mk hg0
  have HL := Aside0.mk hL
  have HLV := Aside0.mk (show Calls Tryz.prog 54 #[.slice A 1 c] w fun e w' => e = .returned (.int .i64 0) ∧ Drawn0 w w' from P.merkle_leaves.calls 5 A c [x] 0 w hL hc (leaves1 hx))
  have HX := Aside0.mk hx
  have hbb := fun (A1 : Option Addr) (n1 c1 : Nat) (A2 : Option Addr) (n2 c2 : Nat) (W : World) => build87 (A1, n1, c1) (A2, n2, c2) W
  clear hg0 hL hx
  go_enter Tryz.func46, Tryz.ntmps46
  go_wp2_with (first
    | (go_at_call 54; (with_reducible refine HLV.out.mono ?_); rintro e w1 ⟨rfl, m1, rfl⟩)
    | (go_at_call 53; (with_reducible refine (eight_calls).mono ?_); rintro e w2 ⟨v1, x8, rfl, hx8, hr1, hb1⟩; obtain ⟨A1, c1, rfl⟩ := Kd.R_slice hr1; have HR1 := Aside0.mk (Kd.R_reads' hr1); have HX8 := Aside0.mk hx8; have HB1 := Aside0.mk (show Below w.heap.size w w2 from ⟨hb1.os, hb1.tape, hb1.output, hb1.size, hb1.block⟩); rw [hx8]; clear hr1 hb1 hx8)
    | (go_at_call 55; (with_reducible refine (top1_calls (Kd.C_below HL.out HB1.out) hc).mono ?_); rintro e w3 ⟨⟨A2, c2, rfl, hl2, hC2⟩, rfl⟩; rw [HX.out]; have HDG := Aside0.mk (two_dig 2 hg.out HB1.out (by have h := HR1.out.2.2; exact h) HR1.out.2.1 hC2 hl2 (by rw [HX8.out, HX.out]; decide) HX8.out HX.out); clear hl2 hC2)
    | (go_at_call 52; (with_reducible refine HDG.out.mono ?_); rintro e w4 ⟨v4, rfl, hr4, hb4⟩; have HR4 := Aside0.mk hr4; have HB4 := Aside0.mk hb4; clear hr4 hb4))
  refine bodyPost_ret (results_tmp2 rfl _ _ _) rfl ?_
  exact ⟨v4, _, rfl, mdigM_length _ _, HR4.out, HB4.out⟩

end Go.Proofs.YtfpfnolpoklefaaGreatDoor.Sh
/- Package merkle: Cut of 64 bytes into one chunk. -/
namespace Go.Proofs.YtfpfnolpoklefaaGreatDoor.Sh
open Go.Proofs.YtfpfnolpoklefaaGreatDoor.Dk
open Go.RowKit Go.Proofs.YtfpfnolpoklefaaGreatDoorW.PrintWords Go.Proofs.YtfpfnolpoklefaaGreatDoorW.PrintLast Go.Proofs.YtfpfnolpoklefaaGreatDoorW.PrintMore
set_option linter.unusedVariables false
set_option linter.unusedSimpArgs false
set_option maxRecDepth 30000
variable {w w0 w1 w2 wr : World} {g c : Nat} {A : Option Addr} {b : List Int}
theorem count64 (w : World) : Calls Tryz.prog 35 #[.int .i64 64, .int .i64 64] w fun e w' => e = .returned (.tuple #[.int .i64 1, .int .i64 0]) ∧ Drawn0 w w' := by
  have h := Lo.count_calls (w := w) 64 64
  rwa [show (if Lo.countE 64 64 = 0 then Lo.countN 64 64 else 0) = 1 by decide, show Lo.countE 64 64 = 0 by decide] at h
theorem build_one (A : Option Addr) (n c : Nat) (w : World) : (Instr.buildSlice 87 1 #[(0, .slice A n c)]).run Tryz.prog w = .ok (.slice (some ⟨w.heap.size, 0, none⟩) 1 1) (w.alloc (.cells #[.slice A n c] 22)) := by kernel_rfl
theorem C_came {α : Type} {d : Kd α} {w : World} {A : Option Addr} {n : Nat} {xs : List α} (hd : Kd.Heap d) (h : d.C w A n xs) : Kd.F d w (fun k => k < w.heap.size) A n xs := fun W' hW => hd.C (fun k hk => hW k hk hk) h
theorem info22 : (Tryz.prog.info? 22).map (fun i => (i.zero, i.size, i.bytes)) = some (some (.slice none 0 0), 1, 24) := by kernel_rfl
abbrev kT : Kd (List Int) := Kd.slice 5 (Kd.int .u8)
/-- A text of one's own, as an element. -/
theorem FK_text {W : World} {A : Option Addr} {x : List Int} {n c : Nat} (hC : C8 W A x) (hn : x.length = n) (hc : n ≤ c) : Kd.FK kT W (fun k => k < W.heap.size) x [.slice A n c] := by
  subst hn
  exact Kd.FK_slice_mk hc (C_came (Kd.heap_int .u8) hC)
/-- append(nil, x) for a text x: one text is read. -/
theorem appT {P : Program} {ops : Array Oper} {o : Oper} {rest : List Oper} {a : Act} {W w0 : World} {Q : Exit → Act → World → Prop} {q n c : Nat} {A : Option Addr} {b : List Int} {N : Option Tmp}
    (hi : (P.info? 22).map (fun i => (i.zero, i.size, i.bytes)) = some (some (.slice none 0 0), 1, 24)) (ht : P.underlying 87 = some (.slice 22)) (hN : o.dst = N) (hgd : o.guard = none) (s x : Operand) (ho : o.op = .call { callee := .builtin .append, args := #[s, x], argTypes := #[87, 87] })
    (hs : a.eval s = .slice none 0 0) (hx : a.eval x = .slice (some ⟨W.heap.size, 0, none⟩) 1 1) (hC : C8 W A b) (hn : b.length = n) (hc : n ≤ c) (HB : Below q w0 W) (hq : q ≤ W.heap.size)
    (h : ∀ A1 c1 w1, 1 ≤ c1 → Kd.C kT w1 A1 1 [b] → Below q w0 w1 → wpList P ops Q rest (a.put N (.slice A1 1 c1)) w1) : wpList P ops Q (o :: rest) a (W.alloc (.cells #[.slice A n c] 22)) := by
  subst hN
  refine Kd.N_append kT (w0 := w0) q hgd s x 87 22 (.slice none 0 0) 24 ho ht hi rfl (by decide) (by decide) (.slice none 0 0) [] b [.slice A n c] (fun _ => True) (fun k => k < W.heap.size) hs hx (FK_text hC hn hc) (fun k _ => ⟨trivial, by simp [Value.ownBlock]⟩) (fun _ _ => trivial) (Kd.N_nil _ _ _ _ _) HB hq (by decide) ?_
  intro v1 w1 hN hb hg hat
  obtain ⟨A1, c1, rfl, h1, h2⟩ := Kd.N_reads hN
  exact h A1 c1 w1 h1 h2 hb
set_option maxHeartbeats 8000000 in
theorem Cut1_calls (hC0 : C8 w A b) (hl : b.length = 64) (hc : 64 ≤ c) : Calls Tryz.prog 44 #[.slice A 64 c, .int .i64 64] w fun e w' => ∃ A1 c1, e = .returned (.tuple #[.slice A1 1 c1, .int .i64 0]) ∧ 1 ≤ c1 ∧ Kd.C kT w' A1 1 [b] ∧ Below w.heap.size w w' := by
  obtain ⟨ad, rfl, _⟩ := hC0.2.2 (by omega)
  have HC := Aside0.mk (show ∀ m, Kd.C (Kd.int .u8) (w.drewN m) (some ad) 64 b from fun m => by
    have := Kd.C_below hC0 (pw_below_drewN (Below.refl _ _) m)
    rwa [hl] at this)
  have HBD := Aside0.mk (show ∀ m, Below w.heap.size w (w.drewN m) from fun m => pw_below_drewN (Below.refl _ _) m)
  have HSZ := Aside0.mk (show ∀ m, (w.drewN m).heap.size = w.heap.size from fun m => Nat.le_antisymm (by simp) (HBD.out m).size)
  have HL := Aside0.mk hl
  have hbb := fun (A1 : Option Addr) (n1 c1 : Nat) (W : World) => build_one A1 n1 c1 W
  clear hC0 hl
  go_enter Tryz.func44, Tryz.ntmps44
  go_wp2_with (first | (go_at_call 35; (with_reducible refine (count64 w).mono ?_); rintro e w1 ⟨rfl, m1, rfl⟩))
  refine wp_loop_rounds 2 ?_
  rw [rounds_succ]
  go_wp2_with (first
    | ((with_reducible refine gate_builtin (b := .append) (xs := #[.const (.slice none 0 0), .tmp 37]) rfl ?_); at_builtin; refine app8 (q := (w.drewN m1).heap.size) info5 Tryz.underlying22 rfl (.const (.slice none 0 0)) (.tmp 37) rfl _ [] b _ _ _ rfl rfl (Row8.nil _ _) (HC.out m1) ?aQ ?aL ?_; (case aQ => exact Nat.le_refl _); (case aL => simp); intro A2 c2 w2 hr2 hb2 _; rw [List.nil_append] at hr2 ⊢; rw [HL.out] at ⊢; have HR2 := Aside0.mk (Kd.R_reads' hr2); have HB2 := Aside0.mk (below_trans (HBD.out m1) hb2); clear hr2 hb2)
    | ((with_reducible refine gate_builtin (b := .append) (xs := #[.tmp 28, .tmp 39]) rfl ?_); at_builtin; refine appT (w0 := w) (q := w.heap.size) info22 Tryz.underlying87 rfl rfl (.tmp 28) (.tmp 39) rfl rfl rfl HR2.out.2.2 HL.out (by have := HR2.out.2.1; rw [HL.out] at this; exact this) HB2.out HB2.out.size ?_; intro A3 c3 w3 hc3 hC3 hb3; have HC3 := Aside0.mk hC3; have HB3 := Aside0.mk hb3; clear hC3 hb3))
  rw [rounds_succ]
  go_wp2_with (fail)
  refine bodyPost_ret (results_tmp2 rfl _ _ _) rfl ?_
  exact ⟨A3, c3, rfl, hc3, HC3.out, HB3.out⟩
end Go.Proofs.YtfpfnolpoklefaaGreatDoor.Sh
/- Package merkle: Of of 64 bytes in one chunk: 32 bytes come. -/
namespace Go.Proofs.YtfpfnolpoklefaaGreatDoor.Sh
open Go.Proofs.YtfpfnolpoklefaaGreatDoor.Dk
open Go.RowKit Go.Proofs.YtfpfnolpoklefaaGreatDoorW.PrintWords Go.Proofs.YtfpfnolpoklefaaGreatDoorW.PrintLast Go.Proofs.YtfpfnolpoklefaaGreatDoorW.PrintMore
set_option linter.unusedVariables false
set_option linter.unusedSimpArgs false
set_option maxRecDepth 30000
variable {w w0 w1 w2 wr : World} {g c : Nat} {A : Option Addr} {b : List Int}
theorem leaf64 (hg : Glob w) (hC : C8 w A b) (hl : b.length = 64) (hc : 64 ≤ c) : Calls Tryz.prog 45 #[.int .i64 0, .slice A 64 c] w fun e w' => ∃ A1 c1 x, e = .returned (.tuple #[.slice A1 32 c1, .int .i64 0]) ∧ 32 ≤ c1 ∧ x.length = 32 ∧ C8 w' A1 x ∧ Below w.heap.size w w' := by
  have h := Leaf_calls (n := 0) hg (Int.le_refl _) hC (by omega) (by omega) (c := c)
  rw [hl] at h
  refine h.mono ?_
  rintro e w' ⟨v, x, rfl, hr, hb⟩
  obtain ⟨A1, c1, rfl⟩ := Kd.R_slice hr
  have hr2 := Kd.R_reads' hr
  have hl2 : (mdigM 0 [x, b]).length = 32 := mdigM_length _ _
  refine ⟨A1, c1, mdigM 0 [x, b], by rw [hl2], by rw [← hl2]; exact hr2.2.1, hl2, hr2.2.2, hb⟩
theorem cell_one (hC : Kd.C kT w A 1 [b]) : ∃ ad A0 c0, A = some ad ∧ w.cell? ad = some (.slice A0 b.length c0) ∧ b.length ≤ c0 ∧ C8 w A0 b := by
  obtain ⟨ad, A0, c0, rfl, hcw, hl0, hC0⟩ := P.at_L1 hC (0 : Int) (by decide) (by decide)
  have hx : P.rd_L1 [b] 0 = b := rfl
  rw [hx] at hcw hl0 hC0
  exact ⟨ad, A0, c0, rfl, by simpa [Addr.add] using hcw, hl0, hC0⟩
set_option maxHeartbeats 8000000 in
theorem Of1_calls (hg0 : Glob w) (hC0 : C8 w A b) (hl : b.length = 64) (hc : 64 ≤ c) : Calls Tryz.prog 29 #[.slice A 64 c, .int .i64 64] w fun e w' => ∃ A1 c1 x, e = .returned (.tuple #[.slice A1 32 c1, .int .i64 0]) ∧ 32 ≤ c1 ∧ x.length = 32 ∧ C8 w' A1 x ∧ Below w.heap.size w w' := by
  have HG := Aside0.mk hg0
  have HL := Aside0.mk hl
  have HCT := Aside0.mk (Cut1_calls hC0 hl hc)
  have hbb := fun (A1 : Option Addr) (n1 c1 : Nat) (W : World) => build_one A1 n1 c1 W
  clear hC0 hl hg0
  go_enter Tryz.func29, Tryz.ntmps29
  go_wp2_with (first | (go_at_call 44; (with_reducible refine HCT.out.mono ?_); rintro e w1 ⟨A1, c1, rfl, hc1, hC1, hb1⟩; obtain ⟨ad, A0, c0, rfl, hcw, hl0, hC0⟩ := cell_one hC1; rw [HL.out] at hcw hl0; have HB1 := Aside0.mk hb1; have HLF := Aside0.mk (leaf64 (HG.out.below hb1) hC0 HL.out hl0); clear hC1 hb1 hC0 hl0))
  refine wp_loop_rounds 2 ?_
  rw [rounds_succ]
  go_wp2_with (first
    | (go_at_call 45; (with_reducible refine HLF.out.mono ?_); rintro e w2 ⟨A2, c2, x, rfl, hc2, hx2, hC2, hb2⟩; have HC2 := Aside0.mk hC2; have HX := Aside0.mk hx2; have HB2 := Aside0.mk (below_trans HB1.out hb2); clear hC2 hx2 hb2)
    | ((with_reducible refine gate_builtin (b := .append) (xs := #[.tmp 35, .tmp 37]) rfl ?_); at_builtin; refine appT (w0 := w) (q := w.heap.size) info22 Tryz.underlying87 rfl rfl (.tmp 35) (.tmp 37) rfl rfl rfl HC2.out HX.out hc2 HB2.out HB2.out.size ?_; intro A3 c3 w3 hc3 hC3 hb3; have HB3 := Aside0.mk hb3; have HRT := Aside0.mk (Root1_calls (HG.out.below hb3) hC3 hc3 HX.out); clear hC3 hb3))
  rw [rounds_succ]
  go_wp2_with (first | (go_at_call 46; (with_reducible refine HRT.out.mono ?_); rintro e w4 ⟨v4, y, rfl, hy, hr4, hb4⟩; have HY := Aside0.mk hy; have HR4 := Aside0.mk hr4; have HB4 := Aside0.mk (below_trans HB3.out hb4); clear hy hr4 hb4))
  refine bodyPost_ret (results_tmp2 rfl _ _ _) rfl ?_
  obtain ⟨A4, c4, rfl⟩ := Kd.R_slice HR4.out
  have hr := Kd.R_reads' HR4.out
  exact ⟨A4, c4, y, by rw [HY.out] <;> rfl, by rw [← HY.out]; exact hr.2.1, HY.out, hr.2.2, HB4.out⟩
end Go.Proofs.YtfpfnolpoklefaaGreatDoor.Sh
/- Package slots: Holds of 64 bytes, where the record has no root: ErrHash. -/
namespace Go.Proofs.YtfpfnolpoklefaaGreatDoor.Lo
open Go.Proofs.YtfpfnolpoklefaaGreatDoor.Dk
open Go.RowKit Go.Proofs.YtfpfnolpoklefaaGreatDoorW.PrintWords Go.Proofs.YtfpfnolpoklefaaGreatDoorW.PrintLast Go.Proofs.YtfpfnolpoklefaaGreatDoorW.PrintMore
set_option linter.unusedVariables false
set_option linter.unusedSimpArgs false
set_option maxRecDepth 30000
variable {w w0 w1 w2 wr : World} {slot z ch : Int} {sv : Value} {E : Int}
theorem eq_nil {W : World} {A : Option Addr} {c : Nat} {y : List Int} (hy : y.length = 32) (hc : 32 ≤ c) (hC : C8 W A y) : Calls Tryz.prog 30 #[.slice A 32 c, .slice none 0 0] W fun e w' => e = .returned (.bool false) ∧ Drawn0 W w' := by
  have h := P.bytes_Equal.calls A c y none 0 [] false W hC (by omega) (Kd.C_nil _ _) (Nat.zero_le _) (by
    unfold P.bytes_Equal.f
    match y, hy with
    | a :: l, _ => rw [ByteArray.toList_eq, ByteArray.toList_eq]; rfl)
  rwa [hy] at h
set_option maxHeartbeats 8000000 in
theorem holds_hash (hg0 : Sh.Glob w) (ver exp : Int) (HG : ∀ W, Below w.heap.size w W → Calls Tryz.prog 7 #[sv, .int .i64 slot, .int .i64 64] W fun e w' => ∃ A c b, e = .returned (.tuple #[.slice A 64 c, .int .i64 0]) ∧ 64 ≤ c ∧ b.length = 64 ∧ C8 w' A b ∧ Below W.heap.size W w') :
    Calls Tryz.prog 8 #[sv, .int .i64 slot, Tgt ver exp 64 64 none 0 0] w fun e w' => e = .returned (.tuple #[.agg #[.slice none 0 0, .slice none 0 0], .int .i64 84]) ∧ Below w.heap.size w w' := by
  have HGG := Aside0.mk HG
  have HGL := Aside0.mk hg0
  clear HG hg0
  unfold Tgt
  go_enter Tryz.func8, Tryz.ntmps8
  go_wp2_with (first
    | (go_at_call 7; (with_reducible refine (HGG.out _ (below_alloc (below_alloc (Below.refl w.heap.size w) _) _)).mono ?_); rintro e w1 ⟨A, c, b, rfl, hc, hb, hC, hb1⟩; have HB1 := Aside0.mk (below_trans (below_alloc (below_alloc (Below.refl w.heap.size w) _) _) hb1); have HBK := Aside0.mk (vocab_blk _ hb1); have HBT := Aside0.mk (blk_below (blk_below (heap_alloc_new w _) (below_alloc (Below.refl _ _) _)) hb1); have ht3 := cellB HBT.out 3 _ rfl; have ht4 := cellB HBT.out 4 _ rfl; have HOF := Aside0.mk (Sh.Of1_calls (HGL.out.below HB1.out) hC hb hc); clear hb1 hC hb)
    | (go_at_call 29; (with_reducible refine HOF.out.mono ?_); rintro e w2 ⟨A2, c2, y, rfl, hc2, hy, hC2, hb2⟩; have HB2 := Aside0.mk (below_trans HB1.out hb2); have HBK2 := Aside0.mk (blk_below HBK.out hb2); have hs4 := cellB (blk_below HBT.out hb2) 4 _ rfl; have HEQ := Aside0.mk (eq_nil hy hc2 hC2); clear hb2 hC2 hy)
    | (go_at_call 30; (with_reducible refine HEQ.out.mono ?_); rintro e w3 ⟨rfl, m3, rfl⟩; have HB3 := Aside0.mk (below_trans HB2.out (pw_below_drewN (Below.refl _ _) m3)); have HBK3 := Aside0.mk (blk_below HBK2.out (pw_below_drewN (Below.refl _ _) m3)); have hv0 := cellB HBK3.out 0 _ rfl; have hv1 := cellB HBK3.out 1 _ rfl; have hf0 := blk_frozen HBK3.out 0; have hf1 := blk_frozen HBK3.out 1))
  refine bodyPost_ret (results_ct rfl _ _ (w.heap.size + 1) 32 _ (0, 0) _ rfl (setCell_blk (setCell_blk HBK3.out 0 (.slice none 0 0)) 1 (.slice none 0 0)) Tryz.underlying32 rfl (by kernel_rfl)) rfl ?_
  exact ⟨rfl, (HB3.out.setCell (p := ⟨w.heap.size + 1, 0, none⟩) (Nat.le_succ _) _).setCell (p := ⟨w.heap.size + 1, 1, none⟩) (Nat.le_succ _) _⟩
end Go.Proofs.YtfpfnolpoklefaaGreatDoor.Lo
/- Slots of a law's own: the state, the calls on it; plain facts of Put. -/
namespace Go.Proofs.YtfpfnolpoklefaaGreatDoor.Lo
open Go.Proofs.YtfpfnolpoklefaaGreatDoor.Dk
open Go.RowKit Go.Proofs.YtfpfnolpoklefaaGreatDoorW.PrintWords Go.Proofs.YtfpfnolpoklefaaGreatDoorW.PrintLast Go.Proofs.YtfpfnolpoklefaaGreatDoorW.PrintMore
set_option linter.unusedVariables false
set_option linter.unusedSimpArgs false
set_option maxRecDepth 30000
variable {w0 w w' W W' w1 w2 : World} {B s g : Nat} {F F' : Nat → Prop} {D D' : DM} {fr n slot z ch pl q : Int} {v : Value} {xs x b y : List Int} {A : Option Addr} {c m at' o : Nat}
theorem lputF_hs : ∀ (m : Nat) (D : DM) (at' : Nat) (b : List Int), (lputF m D q at' b).1.held.length ≤ D.held.length + m ∧ (lputF m D q at' b).1.sec.length = D.sec.length
  | 0, _, _, _ => ⟨Nat.le_refl _, rfl⟩
  | m + 1, D, at', b => by
    unfold lputF
    have hw := writeM_hs (D := D) (q + (at' / 64 : Nat)) (lseg (readM D (q + (at' / 64 : Nat))) b (at' % 64))
    split
    · exact ⟨by have := (flushM_hs (D := D)).1; omega, (flushM_hs (D := D)).2⟩
    · split
      · exact ⟨by dsimp only; omega, rfl⟩
      · split
        · exact ⟨by omega, hw.2⟩
        · have := lputF_hs m (writeM D (q + (at' / 64 : Nat)) (lseg (readM D (q + (at' / 64 : Nat))) b (at' % 64))).1 (at' + lstep b at') (b.drop (lstep b at'))
          exact ⟨by omega, this.2.trans hw.2⟩
theorem lputF_ok : ∀ (m : Nat) (D : DM) (at' : Nat) (b : List Int), DOk D → D.held.length + m ≤ 10000000 → DOk (lputF m D q at' b).1
  | 0, _, _, _, h, _ => h
  | m + 1, D, at', b, h, hm => by
    unfold lputF
    have hw := writeM_hs (D := D) (q + (at' / 64 : Nat)) (lseg (readM D (q + (at' / 64 : Nat))) b (at' % 64))
    have ho := writeM_ok (k := q + (at' / 64 : Nat)) (x := lseg (readM D (q + (at' / 64 : Nat))) b (at' % 64)) h (by omega)
    split
    · exact flushM_ok h
    · split
      · exact h
      · split
        · exact ho
        · exact lputF_ok m _ _ _ ho (by omega)
theorem lPutM_hs : (lPutM D fr n slot z ch pl b).1.held.length ≤ D.held.length + (b.length + 1) ∧ (lPutM D fr n slot z ch pl b).1.sec.length = D.sec.length := by
  unfold lPutM
  split
  · exact ⟨by dsimp only; omega, rfl⟩
  · split
    · exact ⟨by dsimp only; omega, rfl⟩
    · split
      · exact ⟨by dsimp only; omega, rfl⟩
      · exact lputF_hs _ _ _ _
theorem lPutM_ok (hd : DOk D) (hn : D.held.length + (b.length + 1) ≤ 10000000) : DOk (lPutM D fr n slot z ch pl b).1 := by
  unfold lPutM
  split
  · exact hd
  · split
    · exact hd
    · split
      · exact hd
      · exact lputF_ok _ _ _ _ hd hn
theorem LOk.dm (hk : LOk D fr n) (h : DOk D') (hl : D'.sec.length = D.sec.length) : LOk D' fr n := ⟨h, hk.hf, hk.hn, by rw [hl]; exact hk.hl, by rw [hl]; exact hk.hz⟩
theorem piece_self (h : o + y.length ≤ x.length) : piece (over x o y) o y.length = y := by
  unfold piece
  apply List.ext_getElem?
  intro i
  rw [List.getElem?_take]
  by_cases hi : i < y.length
  · rw [if_pos hi, List.getElem?_drop, over_get h, if_neg (by omega), if_pos (by omega)]
    congr 1
    omega
  · rw [if_neg hi, List.getElem?_eq_none (by omega)]
/-- A Put on a calm disk: refused, and nothing is changed; or it is there. -/
inductive Put2 (D D' : DM) (fr n slot z ch pl : Int) (b : List Int) (e : Int) : Prop where
  | no (he : e ≠ 0) (hd : D' = D)
  | yes (he : e = 0) (q : Nat) (hq : fr + slot * n = (q : Int)) (at' : Nat) (ha : pl * ch = (at' : Int)) (hz : pl * ch + b.length ≤ z) (hb : (b.length : Int) = min ch (z - pl * ch)) (hc : countE z ch = 0) (h0 : 0 ≤ pl) (h1 : pl < countN z ch) (hr : lreadyM D n slot z = 0) (ho : Over D D' (64 * q + at') b)
theorem calm_lPut (hc : Dk.Calm D) (h6 : Six D) (hk : LOk D fr n) (hh : D.held.length + b.length ≤ 9000000) : Put2 D (lPutM D fr n slot z ch pl b).1 fr n slot z ch pl b (lPutM D fr n slot z ch pl b).2 := by
  unfold lPutM
  split
  · rename_i h
    exact .no h rfl
  · rename_i h
    have hr : lreadyM D n slot z = 0 := by simpa using h
    split
    · exact .no (show (1 : Int) ≠ 0 by decide) rfl
    · rename_i h2
      split
      · exact .no (show (1 : Int) ≠ 0 by decide) rfl
      · rename_i h3
        have hce : countE z ch = 0 := by
          rcases Classical.em (countE z ch = 0) with h | h
          · exact h
          · exact absurd (.inl h) h2
        have hp0 : 0 ≤ pl := by
          rcases Int.lt_or_le pl 0 with h | h
          · exact absurd (.inr (.inl h)) h2
          · exact h
        have hp1 : pl < countN z ch := by
          rcases Int.lt_or_le pl (countN z ch) with h | h
          · exact h
          · exact absurd (.inr (.inr h)) h2
        have hb : (b.length : Int) = min ch (z - pl * ch) := by simpa using h3
        obtain ⟨r1, r2, r3⟩ := lready_zero hr
        obtain ⟨c1, c2, c3, c4⟩ := count_zero hce
        obtain ⟨p1, p2⟩ := place_le hce hp0 hp1
        have hl := hk.hl
        have hn := hk.hn
        have hf := hk.hf
        obtain ⟨qn, hq⟩ : ∃ qn : Nat, fr + slot * n = (qn : Int) := ⟨(fr + slot * n).toNat, by rcases r2 with rfl | rfl <;> omega⟩
        obtain ⟨an, ha⟩ : ∃ an : Nat, pl * ch = (an : Int) := ⟨(pl * ch).toNat, by omega⟩
        have hqn : (qn : Int) + n ≤ (D.sec.length : Int) := by rcases r2 with rfl | rfl <;> omega
        have hzz : pl * ch + b.length ≤ z := by omega
        rw [hq, ha, Int.toNat_natCast]
        obtain ⟨e1, e2⟩ := calm_lput (qn := qn) (at' := an) (b := b) hc h6 hk.d (by omega) hh
        exact .yes e1 qn hq an ha hzz hb hce hp0 hp1 hr e2
/-- Slots of the law's own, younger than w0. -/
structure Ls (w0 w : World) (s g : Nat) (F : Nat → Prop) (D : DM) (fr n : Int) : Prop where
  S : LAt w w0.heap.size s g F D fr n
  K : LOk D fr n
  G : Sh.Glob w0
  b : Below w0.heap.size w0 w
theorem Ls.glob (h : Ls w0 w s g F D fr n) : Sh.Glob w := h.G.below h.b
theorem Ls.below (h : Ls w0 w s g F D fr n) (hb : Below w.heap.size w w') : Ls w0 w' s g F D fr n := ⟨h.S.below hb, h.K, h.G, below_trans h.b hb⟩
/-- Rows of bytes that were there, and are no blocks of the disk's. -/
def Keeps (w w' : World) (F F' : Nat → Prop) : Prop := (∀ A xs, (C8 w A xs ∧ ∀ a, A = some a → a.block < w.heap.size ∧ ¬ F a.block) → C8 w' A xs ∧ ∀ a, A = some a → a.block < w'.heap.size ∧ ¬ F' a.block) ∧ (∀ v xs, Row w F v xs → Row w' F' v xs)
theorem Keeps.of (hF : ∀ k, F' k → F k ∨ w.heap.size ≤ k) (hu : Upd w w' F) : Keeps w w' F F' :=
  ⟨fun A xs ⟨h1, h2⟩ => ⟨h1.upd hu h2, fun a ha => ⟨Nat.lt_of_lt_of_le (h2 a ha).1 hu.size, fun hf => by
    have := h2 a ha
    rcases hF _ hf with h | h
    · exact this.2 h
    · omega⟩⟩, fun v xs h => h.post hF hu⟩
def LsPo (w0 w w' : World) (s g : Nat) (F : Nat → Prop) (D' : DM) (fr n : Int) : Prop := ∃ F', Ls w0 w' s g F' D' fr n ∧ Keeps w w' F F' ∧ (∀ k, F' k → F k ∨ w.heap.size ≤ k) ∧ Upd w w' F
theorem Ls.po (h : Ls w0 w s g F D fr n) (hk : LOk D' fr n) (hp : LPo w w' w0.heap.size s g F D' fr n) : LsPo w0 w w' s g F D' fr n := by
  obtain ⟨F', hF, hs, hu⟩ := hp
  exact ⟨F', ⟨hs, hk, h.G, below_upd h.b hu h.S.d.lo⟩, .of hF hu, hF, hu⟩
theorem Ls.dpo (h : Ls w0 w s g F D fr n) (hk : LOk D' fr n) (hp : DPost w w' w0.heap.size g F D') : LsPo w0 w w' s g F D' fr n := h.po hk (h.S.post hp)
theorem lsGet (h : Ls w0 w s g F D fr n) : Calls Tryz.prog 7 #[.pointer (some ⟨s, 0, none⟩), .int .i64 slot, .int .i64 z] w fun e w' => ∃ A c, e = .returned (.tuple #[.slice A (lGetR D fr n slot z).length c, .int .i64 (lGetE D n slot z)]) ∧ (lGetR D fr n slot z).length ≤ c ∧ Fr8 w w' A (lGetR D fr n slot z) ∧ Below w.heap.size w w' := Get_calls h.S h.K
theorem lsRoom (h : Ls w0 w s g F D fr n) : Calls Tryz.prog 12 #[.pointer (some ⟨s, 0, none⟩)] w fun e w' => e = .returned (.int .i64 (64 * n)) ∧ w = w' := room_calls h.S h.K
theorem lsPut (h : Ls w0 w s g F D fr n) (ver exp : Int) (Ar : Option Addr) (nr cr : Nat) (hh : D.held.length + b.length ≤ 9000000) (hc : b.length ≤ c) (hC : ∀ W, Upd w W F → C8 W A b) :
    Calls Tryz.prog 13 #[.pointer (some ⟨s, 0, none⟩), .int .i64 slot, Tgt ver exp z ch Ar nr cr, .int .i64 pl, .slice A b.length c] w fun e w' => e = .returned (.int .i64 (lPutM D fr n slot z ch pl b).2) ∧ LsPo w0 w w' s g F (lPutM D fr n slot z ch pl b).1 fr n :=
  (Put_calls h.S h.K ver exp Ar nr cr hh hc hC h.b.size (fun k hk => ⟨h.S.d.lo k hk, disk_hi h.S.d k hk⟩)).mono fun e w' ⟨he, hp⟩ => ⟨he, h.po (h.K.dm (lPutM_ok h.K.d (by omega)) lPutM_hs.2) hp⟩
end Go.Proofs.YtfpfnolpoklefaaGreatDoor.Lo
/- What the law of slots knows: fixed calls. -/
namespace Go.Proofs.YtfpfnolpoklefaaGreatDoor.Lo
open Go.Proofs.YtfpfnolpoklefaaGreatDoor.Dk
open Go.RowKit Go.Proofs.YtfpfnolpoklefaaGreatDoorW.PrintWords Go.Proofs.YtfpfnolpoklefaaGreatDoorW.PrintLast Go.Proofs.YtfpfnolpoklefaaGreatDoorW.PrintMore
set_option linter.unusedVariables false
set_option linter.unusedSimpArgs false
set_option maxRecDepth 30000
variable {w0 w w' W W' w1 w2 : World} {B s g : Nat} {F F' : Nat → Prop} {D D' : DM} {fr n slot z ch pl q : Int} {v : Value} {xs x b y : List Int} {A : Option Addr} {c m at' o : Nat}
theorem newM_len (x : List Int) (n : Nat) : (newM x n n).sec.length = n := secTo_length x n n (Nat.le_refl _)
theorem newM_calm (x : List Int) (n : Nat) : Dk.Calm (newM x n n) := ⟨rfl, rfl⟩
theorem newM_six (x : List Int) (n : Nat) : Six (newM x n n) := by
  refine ⟨fun i hi => ?_, fun i hi => absurd hi (by simp [newM])⟩
  rw [newM_len] at hi
  show ((secTo x n n).getD i []).length = 64
  unfold secTo
  rw [Nat.sub_self, List.replicate_zero, List.append_nil, List.getD_eq_getElem?_getD, List.getElem?_map, List.getElem?_range hi]
  exact secAt_length x i
def lS : List Int := (List.replicate 64 0).set 5 9
def lD0 : DM := newM [] 2 2
def lD1 : DM := (lPutM lD0 0 1 1 64 64 0 lS).1
theorem lS_len : lS.length = 64 := by decide
theorem lD0_len : lD0.sec.length = 2 := newM_len [] 2
theorem lD0_ok : LOk lD0 0 1 := ⟨newM_ok [] 2 (by decide), by decide, by decide, by rw [lD0_len]; decide, by rw [lD0_len]; decide⟩
theorem lP1 : (lPutM lD0 0 1 1 64 64 0 lS).2 = 0 ∧ Over lD0 lD1 64 lS := by
  have h := calm_lPut (slot := 1) (z := 64) (ch := 64) (pl := 0) (b := lS) (newM_calm [] 2) (newM_six [] 2) lD0_ok (by rw [lS_len]; show 0 + 64 ≤ 9000000; decide)
  have hr : lreadyM lD0 1 1 64 = 0 := by decide
  rw [show newM [] 2 2 = lD0 from rfl] at h
  rcases h with ⟨he, hd⟩ | ⟨he, q, hq, at', ha, _, _, _, _, _, _, ho⟩
  · exfalso
    apply he
    have e : lPutM lD0 0 1 1 64 64 0 lS = lputM lD0 (0 + 1 * 1) ((0 : Int) * 64).toNat lS := by
      unfold lPutM
      rw [if_neg (by rw [hr]; decide), if_neg (by decide), if_neg (by rw [lS_len]; decide)]
    have h2 := calm_lput (D := lD0) (qn := 1) (at' := 0) (b := lS) (newM_calm [] 2) (newM_six [] 2) lD0_ok.d (by rw [lS_len, lD0_len]; decide) (by rw [lS_len]; show 0 + 64 ≤ 9000000; decide)
    have h3 := h2.1
    rw [show (0 : Int) + 1 * 1 = ((1 : Nat) : Int) by decide, show ((0 : Int) * 64).toNat = 0 by decide] at e
    rw [e]
    exact h3
  · obtain rfl : q = 1 := by omega
    obtain rfl : at' = 0 := by omega
    exact ⟨he, ho⟩
theorem lD1_ok : LOk lD1 0 1 := lD0_ok.dm lP1.2.ok lP1.2.len
theorem lG1 : lGetE lD1 1 1 64 = 0 ∧ lGetR lD1 0 1 1 64 = lS := by
  have hr : lreadyM lD1 1 1 64 = 0 := by
    unfold lreadyM
    rw [if_neg (by rw [lP1.2.calm.down]; decide), if_neg (by decide)]
  have he : lGetE lD1 1 1 64 = 0 := by
    unfold lGetE
    rw [if_neg (by rw [hr]; decide), if_neg (by decide)]
  refine ⟨he, ?_⟩
  rw [getR_piece (q := 1) lP1.2.six lD1_ok he (by decide), lP1.2.flat, show 64 * 1 = 64 by decide, show (64 : Int).toNat = lS.length by rw [lS_len]; rfl]
  exact piece_self (by rw [lS_len, flat_length (D := lD0) (newM_six [] 2) _ (Nat.le_refl _), lD0_len]; decide)
theorem lNew2 : Calls Tryz.prog 10 #[.slice none 0 0, .int .i64 2] w fun e w' => ∃ g F, e = .returned (.tuple #[.pointer (some ⟨g, 0, none⟩), .int .i64 0]) ∧ DiskAt w' w.heap.size g F lD0 ∧ Below w.heap.size w w' :=
  (New_calls none 0 [] 2 (by decide) (by decide) ⟨rfl, by decide, fun h => absurd h (by decide)⟩ (by unfold newBad; decide)).mono fun e w' ⟨g, h1, h2, h3⟩ => ⟨g, _, h1, h2, h3⟩
theorem lOpen (h : DiskAt w w0.heap.size g F D) (hk : LOk D fr n) (hg : Sh.Glob w0) (hb : Below w0.heap.size w0 w) : Calls Tryz.prog 9 #[.pointer (some ⟨g, 0, none⟩), .int .i64 fr, .int .i64 n] w fun e w' => ∃ s, e = .returned (.tuple #[.pointer (some ⟨s, 0, none⟩), .int .i64 0]) ∧ Ls w0 w' s g F D fr n ∧ Below w.heap.size w w' := by
  refine (Open_calls h hk.hz fr n).mono ?_
  rintro e w' (⟨hn, _⟩ | ⟨_, s, rfl, hs, _, hb2⟩)
  · exact absurd ⟨hk.hn, hk.hf, hk.hl⟩ hn
  · exact ⟨s, rfl, ⟨hs, hk, hg, below_trans hb hb2⟩, hb2⟩
theorem lGet1 (h : Ls w0 w s g F lD1 0 1) : Calls Tryz.prog 7 #[.pointer (some ⟨s, 0, none⟩), .int .i64 1, .int .i64 64] w fun e w' => ∃ A c b, e = .returned (.tuple #[.slice A 64 c, .int .i64 0]) ∧ 64 ≤ c ∧ b = lS ∧ C8 w' A b ∧ Below w.heap.size w w' := by
  refine (lsGet h).mono ?_
  rintro e w' ⟨A, c, rfl, hc, hf, hb⟩
  rw [lG1.1]
  rw [lG1.2] at hf hc ⊢
  rw [lS_len] at hc ⊢
  exact ⟨A, c, lS, rfl, hc, rfl, hf.C, hb⟩
theorem lHolds1 (h : Ls w0 w s g F lD1 0 1) : Calls Tryz.prog 8 #[.pointer (some ⟨s, 0, none⟩), .int .i64 1, Tgt 0 0 64 64 none 0 0] w fun e w' => e = .returned (.tuple #[.agg #[.slice none 0 0, .slice none 0 0], .int .i64 84]) ∧ Below w.heap.size w w' :=
  holds_hash h.glob 0 0 (fun W hW => (lGet1 (h.below hW)).mono fun e w' ⟨A, c, b, he, hc, hb, hC, hB⟩ => ⟨A, c, b, he, hc, by rw [hb]; exact lS_len, hC, hB⟩)
theorem lPut1 (h : Ls w0 w s g F lD0 0 1) (hc : 64 ≤ c) (hC : ∀ W, Upd w W F → C8 W A lS) : Calls Tryz.prog 13 #[.pointer (some ⟨s, 0, none⟩), .int .i64 1, Tgt 0 0 64 64 none 0 0, .int .i64 0, .slice A 64 c] w fun e w' => e = .returned (.int .i64 0) ∧ LsPo w0 w w' s g F lD1 0 1 := by
  have hp := lsPut (b := lS) (slot := 1) (z := 64) (ch := 64) (pl := 0) (A := A) (c := c) h 0 0 none 0 0 (by rw [lS_len]; show 0 + 64 ≤ 9000000; decide) (by rw [lS_len]; exact hc) hC
  rw [lS_len, lP1.1] at hp
  exact hp
def Kn (w0 w' : World) (e : Ending) : Prop := e = .returned (.bool true) ∧ Below w0.heap.size w0 w'
set_option maxHeartbeats 16000000 in
theorem known_calls (hg : Sh.Glob w) : Calls Tryz.prog 14 #[] w fun e w' => Kn w w' e := by
  have HG := Aside0.mk hg
  clear hg
  go_enter Tryz.func14, Tryz.ntmps14
  go_wp2_with (first | (go_at_call 10; (with_reducible refine lNew2.mono ?_); rintro e w1 ⟨g, F, rfl, hd1, hb1⟩; have HD1 := Aside0.mk hd1; have HB1 := Aside0.mk hb1; clear hd1 hb1) | (go_at_call 9; (with_reducible refine (lOpen HD1.out lD0_ok HG.out HB1.out).mono ?_); rintro e w2 ⟨s, rfl, hs2, hb2⟩; have HS2 := Aside0.mk hs2; clear hs2 hb2))
  obtain ⟨A3, w3, hmk, hr3, hb3⟩ := run_make8 (P := Tryz.prog) info5 Tryz.underlying22 w2 64 64 (by decide) (by decide)
  obtain ⟨g3, c3, hA3, hg3, _, _, hcs3, hcell3⟩ := hr3.form (by rw [List.length_replicate]; decide)
  rw [List.length_replicate] at hA3
  injection hA3 with hA3 _ hc3
  subst hA3 hc3
  have hmk : (Instr.makeSlice 22 (.int .i64 64) (.int .i64 64)).run Tryz.prog w2 = .ok (.slice (some ⟨g3, 0, none⟩) 64 64) w3 := hmk
  have hcl : w3.cell? ⟨g3, 5, none⟩ = some (.int .u8 0) := (hr3.celln (i := 5) (by decide)).1
  have hfz : w3.frozen? ⟨g3, 5, none⟩ = false := (hr3.celln (i := 5) (by decide)).2
  have HRL := Aside0.mk (show Row8 (w3.setCell ⟨g3, 5, none⟩ (.int .u8 9)) w2.heap.size (.slice (some ⟨g3, 0, none⟩) 64 64) lS from hr3.put 5 9)
  have HB3 := Aside0.mk hb3
  clear hr3 hb3 hcs3 hcell3
  have HN4 := Aside0.mk (heap_alloc_new (w3.setCell ⟨g3, 5, none⟩ (.int .u8 9)) (.cells #[.int .i64 0, .int .i64 0, .int .i64 64, .int .i64 64, .slice none 0 0] 24))
  have HB4 := Aside0.mk (show Below w2.heap.size w2 ((w3.setCell ⟨g3, 5, none⟩ (.int .u8 9)).alloc (.cells #[.int .i64 0, .int .i64 0, .int .i64 64, .int .i64 64, .slice none 0 0] 24)) from below_alloc (HB3.out.setCell (p := ⟨g3, 5, none⟩) hg3 _) _)
  have HR4 := Aside0.mk (HRL.out.below (below_alloc (Below.refl _ _) (.cells #[.int .i64 0, .int .i64 0, .int .i64 64, .int .i64 64, .slice none 0 0] 24)))
  have HHI := Aside0.mk (disk_hi HS2.out.S.d)
  have HG3 := Aside0.mk hg3
  obtain ⟨q, hq⟩ : ∃ q, (w3.setCell ⟨g3, 5, none⟩ (.int .u8 9)).heap.size = q := ⟨_, rfl⟩
  have hq2 : w2.heap.size ≤ q := by rw [← hq]; exact (HB3.out.setCell (p := ⟨g3, 5, none⟩) hg3 _).size
  go_wp2_with (fail)
  obtain ⟨w4, hw4⟩ : ∃ w4, (w3.setCell ⟨g3, 5, none⟩ (.int .u8 9)).alloc (.cells #[.int .i64 0, .int .i64 0, .int .i64 64, .int .i64 64, .slice none 0 0] 24) = w4 := ⟨_, rfl⟩
  have e3 : w3.heap.size = q := by rw [← hq]; simp
  rw [hw4] at HN4 HB4 HR4 ⊢
  rw [hq] at HN4
  clear hmk hcl hfz hw4 e3 hq HRL HB3
  have HS4 := Aside0.mk (HS2.out.below HB4.out)
  have HC4 := Aside0.mk (show ∀ W, Upd w4 W F → C8 W (some ⟨g3, 0, none⟩) lS from fun W hW => C8.upd HR4.out.C.2.2 hW (fun a ha => by
    injection ha with ha
    subst ha
    exact ⟨(HR4.out.own g3 rfl).2, fun hf => by have h1 := HHI.out g3 hf; have h2 := HG3.out; omega⟩))
  go_wp2_with (first
    | (go_at_call 13; (with_reducible refine (lPut1 HS4.out (Nat.le_refl _) HC4.out).mono ?_); rintro e w5 ⟨rfl, F5, hs5, _, _, hu5⟩; have HS5 := Aside0.mk hs5; have HC5 := Aside0.mk (HC4.out _ hu5); have HN5 := Aside0.mk ((hu5.block q (blk_lt HN4.out) (fun hf => by have h1 := HHI.out q hf; omega)).trans HN4.out); clear hs5 hu5)
    | (go_at_call 7; (with_reducible refine (lGet1 HS5.out).mono ?_); rintro e w6 ⟨A6, c6, b6, rfl, hc6, rfl, hC6, hb6⟩; have HS6 := Aside0.mk (HS5.out.below hb6); have HC6 := Aside0.mk hC6; have HC56 := Aside0.mk (Kd.C_below HC5.out hb6); have HN6 := Aside0.mk (blk_below HN5.out hb6); have hk0 := cellB HN6.out 0 _ rfl; have hk1 := cellB HN6.out 1 _ rfl; have hk2 := cellB HN6.out 2 _ rfl; have hk3 := cellB HN6.out 3 _ rfl; have hk4 := cellB HN6.out 4 _ rfl; clear hb6 hC6))
  go_wp2_with (first
    | (go_at_call 8; (with_reducible refine (lHolds1 HS6.out).mono ?_); rintro e w7 ⟨rfl, hb7⟩; have HB7 := Aside0.mk hb7; have HS7 := Aside0.mk (HS6.out.below hb7); clear hb7))
  have HB8 := Aside0.mk (below_alloc (Below.refl w7.heap.size w7) (.cells #[.slice none 0 0, .slice none 0 0] 32))
  have HS8 := Aside0.mk (HS7.out.below HB8.out)
  have HSM := Aside0.mk (show Calls Tryz.prog 18 #[.slice (some ⟨g3, 0, none⟩) 64 64, .slice A6 64 c6] (w7.alloc (.cells #[.slice none 0 0, .slice none 0 0] 32)) fun e w' => e = .returned (.bool true) ∧ (w7.alloc (.cells #[.slice none 0 0, .slice none 0 0] 32)) = w' from by
    have h := Same_calls (some ⟨g3, 0, none⟩) 64 lS A6 c6 lS (Kd.C_below (Kd.C_below HC56.out HB7.out) HB8.out) (Kd.C_below (Kd.C_below HC6.out HB7.out) HB8.out)
    rwa [sameM_refl, lS_len] at h)
  go_wp2_with (first
    | (go_at_call 12; (with_reducible refine (lsRoom HS8.out).mono ?_); rintro e w9 ⟨rfl, rfl⟩)
    | (go_at_call 18; (with_reducible refine HSM.out.mono ?_); rintro e w9 ⟨rfl, rfl⟩))
  go_ret
  exact ⟨rfl, HS8.out.b⟩
end Go.Proofs.YtfpfnolpoklefaaGreatDoor.Lo
/- The law SlotsNil, walked. -/
namespace Go.Proofs.YtfpfnolpoklefaaGreatDoor.Lo
open Go.Proofs.YtfpfnolpoklefaaGreatDoor.Dk
open Go.RowKit Go.Proofs.YtfpfnolpoklefaaGreatDoorW.PrintWords Go.Proofs.YtfpfnolpoklefaaGreatDoorW.PrintLast Go.Proofs.YtfpfnolpoklefaaGreatDoorW.PrintMore
set_option linter.unusedVariables false
set_option linter.unusedSimpArgs false
set_option maxRecDepth 30000
variable {w0 w w' W W' w1 w2 : World} {B s g : Nat} {F F' : Nat → Prop} {D D' : DM} {fr n slot z ch pl q ver exp : Int} {v : Value} {xs x b y : List Int} {A Ar : Option Addr} {c m at' o nr cr nb : Nat}
theorem PutNil_calls : Calls Tryz.prog 13 #[.pointer none, .int .i64 slot, Tgt ver exp z ch Ar nr cr, .int .i64 pl, .slice A nb c] w fun e w' => e = .returned (.int .i64 3) ∧ Below w.heap.size w w' := by
  unfold Tgt
  go_enter Tryz.func13, Tryz.ntmps13
  go_wp2_with (first | (go_at_call 26; (with_reducible refine lreadyNil_calls.mono ?_); rintro e w1 ⟨rfl, rfl⟩))
  go_ret
  exact ⟨rfl, below_alloc (Below.refl _ _) _⟩
theorem PutDown_calls (h : LAt w B s g F D fr n) (hk : LOk D fr n) (hd : D.down = true) : Calls Tryz.prog 13 #[.pointer (some ⟨s, 0, none⟩), .int .i64 slot, Tgt ver exp z ch Ar nr cr, .int .i64 pl, .slice A nb c] w fun e w' => e = .returned (.int .i64 60) ∧ Below w.heap.size w w' := by
  have HR := Aside0.mk (show ∀ W, Below w.heap.size w W → ∀ slot size, Calls Tryz.prog 26 #[.pointer (some ⟨s, 0, none⟩), .int .i64 slot, .int .i64 size] W fun e w' => e = .returned (.int .i64 60) ∧ W = w' from fun W hW slot size => by
    have := lready_calls (slot := slot) (size := size) (h.below hW) hk
    rwa [show lreadyM D n slot size = 60 by unfold lreadyM; rw [if_pos hd]] at this)
  clear h hk hd
  unfold Tgt
  go_enter Tryz.func13, Tryz.ntmps13
  go_wp2_with (first | (go_at_call 26; (with_reducible refine (HR.out _ (below_alloc (Below.refl w.heap.size w) _) _ _).mono ?_); rintro e w1 ⟨rfl, rfl⟩))
  go_ret
  exact ⟨rfl, below_alloc (Below.refl _ _) _⟩
theorem holdsNil : Calls Tryz.prog 8 #[.pointer none, .int .i64 slot, Tgt ver exp z ch Ar nr cr] w fun e w' => e = .returned (.tuple #[.agg #[.slice none 0 0, .slice none 0 0], .int .i64 3]) ∧ Below w.heap.size w w' :=
  holds_err (by decide) ver exp Ar nr cr (fun W _ => GetNil_calls.mono fun e w' ⟨h1, h2⟩ => ⟨⟨none, 0, 0, h1⟩, by rw [← h2]; exact Below.refl _ _⟩)
theorem holdsDown (h : LAt w B s g F D fr n) (hk : LOk D fr n) (hd : D.down = true) : Calls Tryz.prog 8 #[.pointer (some ⟨s, 0, none⟩), .int .i64 slot, Tgt ver exp z ch Ar nr cr] w fun e w' => e = .returned (.tuple #[.agg #[.slice none 0 0, .slice none 0 0], .int .i64 60]) ∧ Below w.heap.size w w' :=
  holds_err (by decide) ver exp Ar nr cr (fun W hW => (GetDown_calls (h.below hW) hk hd).mono fun e w' ⟨h1, h2⟩ => ⟨⟨none, 0, 0, h1⟩, by rw [← h2]; exact Below.refl _ _⟩)
def lD4 : DM := newM [] 4 4
def lD5 : DM := loseM [] lD4
theorem lD4_ok : LOk lD4 0 2 := ⟨newM_ok [] 4 (by decide), by decide, by decide, by rw [show lD4.sec.length = 4 from newM_len [] 4]; decide, by rw [show lD4.sec.length = 4 from newM_len [] 4]; decide⟩
theorem lD5_ok : LOk lD5 0 2 := lD4_ok.dm (loseM_ok _ lD4_ok.d) (loseM_hs (D := lD4) _).2
theorem lD5_down : lD5.down = true := rfl
theorem lNew4 : Calls Tryz.prog 10 #[.slice none 0 0, .int .i64 4] w fun e w' => ∃ g F, e = .returned (.tuple #[.pointer (some ⟨g, 0, none⟩), .int .i64 0]) ∧ DiskAt w' w.heap.size g F lD4 ∧ Below w.heap.size w w' :=
  (New_calls none 0 [] 4 (by decide) (by decide) ⟨rfl, by decide, fun h => absurd h (by decide)⟩ (by unfold newBad; decide)).mono fun e w' ⟨g, h1, h2, h3⟩ => ⟨g, _, h1, h2, h3⟩
theorem lLose4 (h : Ls w0 w s g F lD4 0 2) : Calls Tryz.prog 11 #[.pointer (some ⟨g, 0, none⟩), .slice none 0 0] w fun e w' => e = .returned (.tuple #[]) ∧ LsPo w0 w w' s g F lD5 0 2 :=
  (dLose h.S.d h.K.d none 0 [] (Nat.le_refl _) (fun W _ => Kd.C_nil _ _)).mono fun e w' ⟨he, hp⟩ => ⟨he, h.dpo lD5_ok hp⟩
theorem tgt_cells {m : Nat × Nat} {t : Nat} (h : w.heap[t]? = some (.cells #[.int .i64 ver, .int .i64 exp, .int .i64 z, .int .i64 ch, .slice Ar nr cr] 24 m)) : w.cell? ⟨t, 0, none⟩ = some (.int .i64 ver) ∧ w.cell? ⟨t, 1, none⟩ = some (.int .i64 exp) ∧ w.cell? ⟨t, 2, none⟩ = some (.int .i64 z) ∧ w.cell? ⟨t, 3, none⟩ = some (.int .i64 ch) ∧ w.cell? ⟨t, 4, none⟩ = some (.slice Ar nr cr) := ⟨cellB h 0 _ rfl, cellB h 1 _ rfl, cellB h 2 _ rfl, cellB h 3 _ rfl, cellB h 4 _ rfl⟩
set_option maxHeartbeats 16000000 in
theorem SlotsNil_calls (hg : Sh.Glob w) : Calls Tryz.prog 3 #[.int .i64 slot, Tgt ver exp z ch Ar nr cr, .int .i64 pl, .slice A nb c] w fun e w' => Kn w w' e := by
  have HG := Aside0.mk hg
  have HT0 := Aside0.mk (heap_alloc_new w (.cells #[.int .i64 ver, .int .i64 exp, .int .i64 z, .int .i64 ch, .slice Ar nr cr] 24))
  have HBA := Aside0.mk (below_alloc (Below.refl w.heap.size w) (.cells #[.int .i64 ver, .int .i64 exp, .int .i64 z, .int .i64 ch, .slice Ar nr cr] 24))
  clear hg
  unfold Tgt
  go_enter Tryz.func3, Tryz.ntmps3
  go_wp2_with (first
    | (go_at_call 7; (with_reducible refine GetNil_calls.mono ?_); rintro e w1 ⟨rfl, rfl⟩)
    | (go_at_call 8; (with_reducible refine holdsNil.mono ?_); rintro e w2 ⟨rfl, hb2⟩; have HB2 := Aside0.mk hb2; clear hb2))
  have HB3 := Aside0.mk (below_trans (below_trans HBA.out HB2.out) (below_alloc (Below.refl w2.heap.size w2) (.cells #[.slice none 0 0, .slice none 0 0] 32)))
  have HT3 := Aside0.mk (blk_below (blk_below HT0.out HB2.out) (below_alloc (Below.refl w2.heap.size w2) (.cells #[.slice none 0 0, .slice none 0 0] 32)))
  obtain ⟨wa, hwa⟩ : ∃ wa, w2.alloc (.cells #[.slice none 0 0, .slice none 0 0] 32) = wa := ⟨_, rfl⟩
  obtain ⟨t, ht⟩ : ∃ t, w.heap.size = t := ⟨_, rfl⟩
  rw [hwa] at HB3 HT3 ⊢
  rw [ht] at HT3 ⊢
  have HGA := Aside0.mk (HG.out.below HB3.out)
  clear hwa HB2 HT0 HBA HG
  go_wp2_with (first
    | (go_at_call 9; (with_reducible refine (OpenNil_calls _ _).mono ?_); rintro e w3 ⟨rfl, rfl⟩)
    | (go_at_call 10; (with_reducible refine lNew4.mono ?_); rintro e w4 ⟨g, F, rfl, hd4, hb4⟩; have HD4 := Aside0.mk hd4; have HB4 := Aside0.mk hb4; clear hd4 hb4)
    | (go_at_call 9; (with_reducible refine (lOpen HD4.out lD4_ok HGA.out HB4.out).mono ?_); rintro e w5 ⟨s, rfl, hs5, hb5⟩; have HS5 := Aside0.mk hs5; clear hs5 hb5)
    | (go_at_call 11; (with_reducible refine (lLose4 HS5.out).mono ?_); rintro e w6 ⟨rfl, F6, hs6, _⟩; have HS6 := Aside0.mk hs6; have HT6 := Aside0.mk (blk_below HT3.out hs6.b); obtain ⟨hk0, hk1, hk2, hk3, hk4⟩ := tgt_cells HT6.out; clear hs6)
    | (go_at_call 7; (with_reducible refine (GetDown_calls HS6.out.S HS6.out.K lD5_down).mono ?_); rintro e w7 ⟨rfl, rfl⟩)
    | (go_at_call 8; (with_reducible refine (holdsDown HS6.out.S HS6.out.K lD5_down).mono ?_); rintro e w8 ⟨rfl, hb8⟩; have HB8 := Aside0.mk hb8; clear hb8))
  have HS9 := Aside0.mk ((HS6.out.below HB8.out).below (below_alloc (Below.refl w8.heap.size w8) (.cells #[.slice none 0 0, .slice none 0 0] 32)))
  have HT9 := Aside0.mk (blk_below (blk_below HT6.out HB8.out) (below_alloc (Below.refl w8.heap.size w8) (.cells #[.slice none 0 0, .slice none 0 0] 32)))
  obtain ⟨w9, hw9⟩ : ∃ w9, w8.alloc (.cells #[.slice none 0 0, .slice none 0 0] 32) = w9 := ⟨_, rfl⟩
  rw [hw9] at HS9 HT9 ⊢
  clear hk0 hk1 hk2 hk3 hk4 hw9
  obtain ⟨hk0, hk1, hk2, hk3, hk4⟩ := tgt_cells HT9.out
  go_wp2_with (first
    | (go_at_call 12; (with_reducible refine RoomNil_calls.mono ?_); rintro e w10 ⟨rfl, rfl⟩)
    | (go_at_call 13; (with_reducible refine PutNil_calls.mono ?_); rintro e w11 ⟨rfl, hb11⟩; have HS11 := Aside0.mk (HS9.out.below hb11); have HT11 := Aside0.mk (blk_below HT9.out hb11); clear hk0 hk1 hk2 hk3 hk4 hb11; obtain ⟨hk0, hk1, hk2, hk3, hk4⟩ := tgt_cells HT11.out)
    | (go_at_call 13; (with_reducible refine (PutDown_calls HS11.out.S HS11.out.K lD5_down).mono ?_); rintro e w12 ⟨rfl, hb12⟩; have HS12 := Aside0.mk (HS11.out.below hb12); clear hb12)
    | (go_at_call 14; (with_reducible refine (known_calls (HGA.out.below HS12.out.b)).mono ?_); rintro e w13 ⟨rfl, hb13⟩; have HB13 := Aside0.mk hb13; clear hb13))
  go_ret
  exact ⟨rfl, below_trans (below_trans HB3.out HS12.out.b) HB13.out⟩
end Go.Proofs.YtfpfnolpoklefaaGreatDoor.Lo
/- The slots laws' arguments, opened: bytes, choices, records, operations. -/
namespace Go.Proofs.YtfpfnolpoklefaaGreatDoor.Dk
open Go.RowKit Go.Proofs.YtfpfnolpoklefaaGreatDoorW.PrintWords Go.Proofs.YtfpfnolpoklefaaGreatDoorW.PrintLast Go.Proofs.YtfpfnolpoklefaaGreatDoorW.PrintMore
open Go.ChangeShapes Go.WideShapes
set_option linter.unusedVariables false
set_option linter.unusedSimpArgs false
set_option maxRecDepth 30000
variable {H : Type} {enc : TypeId × Value → H} {W : World}
theorem bytes5 : Tryz.prog.bytesOf 5 = 1 := by kernel_rfl
theorem open_by {fuel : Nat} {cs : List Value} {x : DataW H × List MemPlace} (h : DataW.trod enc Tryz.prog W 0 (fun _ => true) true fuel 22 cs = some x) (hw : ∀ n ∈ x.1.weights Tryz.prog 22, n ≤ reachBytes) :
    ∃ a c zs, cs = [.slice a zs.length c] ∧ zs.length ≤ c ∧ Kd.C (Kd.int .u8) W a zs.length zs ∧ zs.length ≤ 140737488351232 := by
  rcases open_ints Tryz.underlying22 Tryz.underlying5 (by kernel_rfl) h with ⟨rfl, _⟩ | ⟨a, len, cap, zs, rfl, _, hl, hm, hz, rfl, hc, hwf⟩
  · exact ⟨none, 0, [], rfl, Nat.le_refl _, Kd.C_nil _ _, by decide⟩
  · simp only [if_true] at hz
    have hlt : (zs.take len).length = len := by rw [List.length_take]; omega
    have hb : len ≤ 140737488351232 := by
      have h1 := hw (((lits (H := H) .u8 (zs.take len)).length + (lits (H := H) .u8 (zs.drop len)).length) * Tryz.prog.bytesOf 5) (by simp [DataW.weights, Tryz.underlying22])
      have h2 : (lits (H := H) .u8 (zs.take len)).length = len := by simp [lits]; omega
      rw [h2, bytes5] at h1
      have : reachBytes = 140737488351232 := rfl
      omega
    refine ⟨some a, cap, zs.take len, by rw [hlt], by omega, ⟨rfl, by omega, fun _ => ⟨a, rfl, fun j p hj => ?_⟩⟩, by omega⟩
    rw [List.getElem?_take] at hj
    split at hj
    · obtain ⟨hj1, rfl⟩ := List.getElem?_eq_some_iff.1 hj
      refine ⟨[.int .u8 zs[j]], rfl, rfl, fun i u hu => ?_⟩
      cases i with
      | zero =>
        simp only [List.getElem?_cons_zero, Option.some.injEq] at hu
        subst hu
        have := hc j hj1
        rw [List.getD_eq_getElem?_getD, hj] at this
        simpa [Kd.int, Kd.scalar] using this
      | succ i => simp at hu
    · cases hj
theorem wf_i64 {n : Int} (h : (Lit.int .i64 n).wf = true) : -9223372036854775808 ≤ n ∧ n ≤ 9223372036854775807 := by
  have e1 : IntKind.i64.min = -9223372036854775808 := by decide
  have e2 : IntKind.i64.max = 9223372036854775807 := by decide
  simp [Lit.wf] at h
  omega
theorem cellsT : Tryz.prog.cellsOf 24 = 5 := by kernel_rfl
theorem open_tgt {fuel : Nat} {cs : List Value} {x : DataW H × List MemPlace} (h : DataW.trod enc Tryz.prog W 0 (fun _ => true) true fuel 24 cs = some x) (hw : ∀ n ∈ x.1.weights Tryz.prog 24, n ≤ reachBytes) :
    ∃ v e s k a c zs, cs = [.int .i64 v, .int .i64 e, .int .i64 s, .int .i64 k, .slice a (List.length zs) c] ∧ zs.length ≤ c ∧ Kd.C (Kd.int .u8) W a zs.length zs ∧ zs.length ≤ 140737488351232 ∧ (-9223372036854775808 ≤ s ∧ s ≤ 9223372036854775807) ∧ (-9223372036854775808 ≤ k ∧ k ≤ 9223372036854775807) := by
  obtain ⟨xs, n, rfl, rfl, hl, hxl, hf⟩ := DataW.trod_struct Tryz.underlying24 h
  rw [cellsT] at hl
  match cs, hl, xs, hxl with
  | [v0, v1, v2, v3, v4], _, [y0, y1, y2, y3, y4], _ =>
    have g0 := hf 0 _ rfl
    have g1 := hf 1 _ rfl
    have g2 := hf 2 _ rfl
    have g3 := hf 3 _ rfl
    have g4 := hf 4 _ rfl
    have c2 : Tryz.prog.cellsOf 2 = 1 := by kernel_rfl
    have c22 : Tryz.prog.cellsOf 22 = 1 := by kernel_rfl
    simp [c2, c22] at g0 g1 g2 g3 g4
    obtain ⟨n0, e0, _, w0⟩ := DataW.trod_int Tryz.underlying2 g0
    obtain ⟨n1, e1, _, w1⟩ := DataW.trod_int Tryz.underlying2 g1
    obtain ⟨n2, e2, _, w2⟩ := DataW.trod_int Tryz.underlying2 g2
    obtain ⟨n3, e3, _, w3⟩ := DataW.trod_int Tryz.underlying2 g3
    have hw' : ∀ n ∈ DataW.weightsEach Tryz.prog [2, 2, 2, 2, 22] [y0.1, y1.1, y2.1, y3.1, y4.1], n ≤ reachBytes := fun n hn => hw n (by simpa [DataW.weights, Tryz.underlying24] using hn)
    obtain ⟨a4, k4, z4, e4, l4, C4, b4⟩ := open_by g4 (fun n hn => hw' n (by simp [DataW.weightsEach, hn]))
    injection e0 with e0; injection e1 with e1; injection e2 with e2; injection e3 with e3; injection e4 with e4
    subst e0; subst e1; subst e2; subst e3; subst e4
    exact ⟨n0, n1, n2, n3, a4, k4, z4, rfl, l4, C4, b4, wf_i64 w2, wf_i64 w3⟩
theorem agg_of {v a b c d e : Value} (h : v.cells.toList = [a, b, c, d, e]) : v = .agg #[a, b, c, d, e] := by
  cases v with
  | agg cs =>
    congr 1
    apply Array.ext'
    exact h
  | _ => simp [Value.cells] at h
end Go.Proofs.YtfpfnolpoklefaaGreatDoor.Dk
/- The law SlotsNil holds: called with any arguments that can be read, it returns true and leaves them as they were: the card, tied to the program's text. There is no further condition. -/
namespace Go.Proofs.YtfpfnolpoklefaaGreatDoor.slotsNil
open Go.ChangeShapes Go.WideShapes Go.ChangeAt Go.RowKit
open Go.ChangeMaps (open_string shut_string)
set_option linter.unusedVariables false
theorem own : ownKnob Tryz.prog.godebug = none := by kernel_rfl
theorem laidOut : laidOutB Tryz.prog = true := by kernel_rfl
set_option maxHeartbeats 8000000 in
set_option maxRecDepth 100000 in
theorem lifted (os : Os) (started : os.Started) (H : Type) (enc : TypeId × Value → H) :
    ReturnsInHanded {} Tryz.checked os 3 .any (fun w args => (Rows.slotsNilSpec.pre enc Tryz.prog Tryz.f3 [] false w args ∧ laidMetH Tryz.prog Sh.laidTabs w) ∧ sizedMet enc Tryz.prog Tryz.f3 (OpenSpec.ofChange Rows.slotsNilSpec) false w args) (Rows.slotsNilSpec.post enc Tryz.prog Tryz.f3 false true false false) := by
  refine returnsInHanded_of_change_and (C := Tryz.checked) (X := fun w _ => laidMetH Tryz.prog Sh.laidTabs w) (fun _ _ _ hh h => h.of_heap hh) own started (by kernel_rfl) Tryz.func3
    (ChangeSpec.witness_shaped (enc := enc) (C := Tryz.checked) (os := os) (X := fun w _ => laidMetH Tryz.prog Sh.laidTabs w) false (World.doorLaid Tryz.prog 400 os) #[.int .i64 0, .agg #[.int .i64 0, .int .i64 0, .int .i64 0, .int .i64 0, .slice none 0 0], .int .i64 0, .slice none 0 0] 8 rfl (World.shaped_of_RefB (by kernel_rfl) (by kernel_rfl)) (by kernel_rfl) (by kernel_rfl) (by kernel_rfl) (Sh.door_met os _)) ?_
  intro W base args ds gs before hval0 hW hcnd hsz0 hL _
  have hG := Sh.of_laid hL
  have hsz : (DataW.weightsEach Tryz.prog (Tryz.f3.params.toList ++ Rows.slotsNilSpec.plain.varTypes Tryz.prog) (ds ++ gs)).all (· ≤ reachBytes) = true := hsz0
  have hval : ∀ (j : Nat) t v, Tryz.f3.params[j]? = some t → args[j]? = some v → Value.okWide Tryz.prog W .any base t v := hval0
  have hW' := hW
  obtain ⟨p, q, hA0, hV, rfl, hfz, hnd⟩ := hW
  have hA : DataW.TrodAll enc Tryz.prog W 0 (fun _ => true) true Tryz.f3.params.toList args.toList ds p := hA0
  rw [Tryz.params3] at hA hval hsz
  obtain ⟨v0, vs0, d0, ds0, p0, q0, hargs, rfl, rfl, h0, r0⟩ := trodAll_cons hA
  obtain ⟨v1, vs1, d1, ds1, p1, q1, rfl, rfl, rfl, h1, r1⟩ := trodAll_cons r0
  obtain ⟨v2, vs2, d2, ds2, p2, q2, rfl, rfl, rfl, h2, r2⟩ := trodAll_cons r1
  obtain ⟨v3, vs3, d3, ds3, p3, q3, rfl, rfl, rfl, h3, r3⟩ := trodAll_cons r2
  obtain ⟨rfl, rfl, rfl⟩ := trodAll_nil r3
  obtain rfl : args = #[v0, v1, v2, v3] := by cases args; simp_all
  obtain ⟨rfl, rfl⟩ := trodVars_none hV
  obtain ⟨a0, rfl, rfl, rfl, w0⟩ := open_int Tryz.underlying3 (hval 0 3 v0 rfl rfl) h0
  have k1 := h1
  have lt1 : ∀ x ∈ p1, x.block < W.heap.size := by obtain ⟨m, hm⟩ := k1; exact DataW.trod_lt m _ _ _ hm
  obtain ⟨fu1, hf1⟩ := h1
  obtain ⟨ver1, exp1, sz1, ck1, ar1, cr1, rt1, hcs1, hcr1, hC1, hl1, hs1, hk1⟩ := Dk.open_tgt hf1 (fun n hn => by simpa using List.all_eq_true.1 hsz _ (DataW.weights_mem_each (j := 1) (t := 24) rfl rfl n hn))
  obtain rfl := Dk.agg_of hcs1
  obtain ⟨a2, rfl, rfl, rfl, w2⟩ := open_int Tryz.underlying3 (hval 2 3 v2 rfl rfl) h2
  obtain ⟨a3, len3, cap3, rfl⟩ := okWide_slice Tryz.underlying22 (hval 3 22 v3 rfl rfl)
  have k3 := h3
  have lt3 : ∀ x ∈ p3, x.block < W.heap.size := by obtain ⟨m, hm⟩ := k3; exact DataW.trod_lt m _ _ _ hm
  clear hA0 hval0 hsz0 hsz
  refine (Lo.SlotsNil_calls hG).mono fun e W' ⟨he, bel⟩ => ?_
  subst he
  exact ⟨_, rfl, _, _, _, [], _, [], hW', trodAll_mk1 (shut_bool Tryz.underlying4 _), (trodAll_cons_mk (shut_int Tryz.underlying3 w0) (trodAll_cons_mk (Below.trod laidOut (by kernel_rfl) (of_decide_eq_true (by kernel_rfl)) k1 bel lt1) (trodAll_cons_mk (shut_int Tryz.underlying3 w2) (trodAll_cons_mk (Below.trod laidOut (by kernel_rfl) (of_decide_eq_true (by kernel_rfl)) k3 bel lt3) trodAll_mk0)))), rfl, bel.frame _, fun h => by cases h⟩
theorem over : Rows.slotsNilRow.holds Tryz.pinned (OpenSpec.ofChange Rows.slotsNilSpec) :=
  OpenClaim.holds_of_wide 3 Tryz.f3 rfl rfl rfl rfl rfl rfl rfl ⟨rfl, rfl, rfl, rfl, rfl⟩ rfl rfl rfl rfl rfl (by kernel_rfl) Tryz.func3 (by kernel_rfl)
    (of_decide_eq_true (by kernel_rfl)) (by unfold Func.isWrapper; first | (rw [if_pos (by decide +kernel)]; kernel_rfl) | (rw [if_neg (by decide +kernel)]; exact ⟨rfl, rfl⟩))
    (fun os started H enc _ => lifted os started H enc)
theorem proved : Rows.SlotsNilSaid := over
theorem card : Rows.SlotsNilCardSaid :=
  Claim7.holds_tied_plain_at .later [] [.data, .data] true (true, "df487efc2d3613f5b734570face83baf3bd35c42f6d88ae94063d0daad1ebbc4") true
    proved (fun _ h => by cases h) (by kernel_rfl) (fun _ h => by cases h) slotsNil_row_tie rfl ⟨rfl, rfl⟩ (by kernel_rfl) rfl
    (fun f fn hf hfn => by
      obtain rfl : f = 3 := Option.some.inj ((show Tryz.prog.funcNamed "imprimatur/imprimaturlaw13.SlotsNil" = some 3 by kernel_rfl).symm.trans hf) |>.symm
      obtain rfl : fn = Tryz.f3 := (Option.some.inj (Tryz.func3.symm.trans hfn)).symm
      exact ⟨by kernel_rfl, fun j t ht => by
        rw [Tryz.params3] at ht
        have hm : t ∈ [3, 24, 3, 22] := by simpa using Array.mem_of_getElem? ht
        have hall : ([3, 24, 3, 22].all fun u => !Tryz.prog.wantsStandIn u) = true := by kernel_rfl
        exact (show Tryz.prog.wantsStandIn t = false by simpa using List.all_eq_true.1 hall t hm)⟩)
    (by kernel_rfl)
#print axioms card
end Go.Proofs.YtfpfnolpoklefaaGreatDoor.slotsNil
namespace Go.Proofs.YtfpfnolpoklefaaGreatDoor
/-- The statement, under a short name, for the claim. -/
theorem slotsNil_holds : Rows.SlotsNilCardSaid := slotsNil.card
end Go.Proofs.YtfpfnolpoklefaaGreatDoor
