/- StoreApart: the texts StE StF StG PlA PlS ShQ Bq ShR RsA RsB RsC. -/
import Derived.Test.YtmblnflfklmmkaaDoorPStoreApart4
import Derived.Test.YtmblnflfklmmkaaDoorPStoreApart2
import Derived.Test.YtmblnflfklmmkaaDoorPStoreApart3
/- Contracts of package store: step, newest, Newest, Get. -/
namespace Go.Proofs.YtmblnflfklmmkaaDoor.Sh
open Go.Proofs.YtmblnflfklmmkaaDoor.Dk
open Go.RowKit Go.Proofs.YtmblnflfklmmkaaDoorW.PrintWords Go.Proofs.YtmblnflfklmmkaaDoorW.PrintLast Go.Proofs.YtmblnflfklmmkaaDoorW.PrintMore
set_option linter.unusedVariables false
set_option linter.unusedSimpArgs false
set_option maxRecDepth 30000

variable {w w0 w1 w2 wr : World} {B s g : Nat} {F : Nat → Prop} {D D' : DM} {fr n : Int} {xs hs b : List Int}
/-- What a call leaves of a store: its disk turned. -/
def SPo (w w' : World) (B s g : Nat) (F : Nat → Prop) (D' : DM) (fr n : Int) : Prop := ∃ F', (∀ k, F' k → F k ∨ w.heap.size ≤ k) ∧ SAt w' B s g F' D' fr n ∧ Upd w w' F
theorem SAt.po (h : SAt w B s g F D fr n) (hp : DPost w w1 B g F D') : SPo w w1 B s g F D' fr n := h.post hp
theorem SPo.then {D2 : DM} {F' : Nat → Prop} (hF : ∀ k, F' k → F k ∨ w.heap.size ≤ k) (hu : Upd w w1 F) (h2 : SPo w1 w2 B s g F' D2 fr n) : SPo w w2 B s g F D2 fr n := by
  obtain ⟨F2, hF2, h3, h4⟩ := h2
  refine ⟨F2, fun k hk => ?_, h3, hu.trans h4 hF⟩
  rcases hF2 k hk with h | h
  · exact hF k h
  · exact .inr (Nat.le_trans hu.size h)
theorem SPo.pre (hb : Below w.heap.size w w1) (h2 : SPo w1 w2 B s g F D' fr n) : SPo w w2 B s g F D' fr n := SPo.then (F' := F) (fun _ h => .inl h) (Upd.of_below hb) h2
theorem SPo.below (h : SPo w w1 B s g F D' fr n) (hb : Below w1.heap.size w1 w2) : SPo w w2 B s g F D' fr n := by
  obtain ⟨F', hF, h1, h2⟩ := h
  exact ⟨F', hF, h1.below hb, h2.trans (Upd.of_below (F := F) hb) (fun _ h => .inl h)⟩
theorem SPo.same (h : SAt w B s g F D fr n) (hb : Below w.heap.size w w1) : SPo w w1 B s g F D fr n := ⟨F, fun _ h => .inl h, h.below hb, Upd.of_below hb⟩
def stepM (D : DM) (k : Int) (x : List Int) : DM × Int := if (saveM D k x).2 ≠ 0 then saveM D k x else flushM (saveM D k x).1
set_option maxHeartbeats 16000000 in
theorem step_calls (h : SAt w B s g F D fr n) (hok : DOk D) (hn : D.held.length + 20000 ≤ 10000000) (k : Int) (A : Option Addr) (c : Nat) (x : List Int) (hx : x.length ≤ 20000) (hxc : x.length ≤ c) (hC : ∀ W, Upd w W F → Kd.C (Kd.int .u8) W A x.length x) :
    Calls Tryd.prog 28 #[.pointer (some ⟨s, 0, none⟩), .int .i64 k, .slice A x.length c] w fun e w' => e = .returned (.int .i64 (stepM D k x).2) ∧ SPo w w' B s g F (stepM D k x).1 fr n := by
  have HS := Aside0.mk h
  have HSV := Aside0.mk (dSave h.d hok hn k A c x (by omega) hxc hC)
  have c0 := h.c0
  have HK := Aside0.mk (saveM_ok (k := k) (x := x) hok (by omega))
  clear h hok hn hC hxc
  obtain ⟨D1, e1, hs⟩ : ∃ D1 e1, saveM D k x = (D1, e1) := ⟨_, _, rfl⟩
  rw [hs] at HSV HK
  by_cases he : e1 = 0
  · have HM := Lib.hid (show stepM D k x = flushM D1 by rw [stepM, hs]; simp [he])
    subst he
    clear hs
    go_enter Tryd.func28, Tryd.ntmps28
    go_wp2_with (first | (go_at_call 43; (with_reducible refine HSV.out.mono ?_); rintro e w1 ⟨rfl, hp⟩; obtain ⟨F1, hF1, hs1, hu1⟩ := HS.out.post hp; have HS1 := Aside0.mk hs1; have HF1 := Aside0.mk hF1; have HU1 := Aside0.mk hu1; have c01 := hs1.c0; clear hp hs1 hF1 hu1) | (go_at_call 19; (with_reducible refine (dFlush HS1.out.d HK.out).mono ?_); rintro e w2 ⟨rfl, hp2⟩; have HP2 := Aside0.mk (SPo.then HF1.out HU1.out (HS1.out.po hp2)); clear hp2))
    go_ret
    exact ⟨by rw [HM.out] <;> rfl, by rw [HM.out]; exact HP2.out⟩
  · have HM := Lib.hid (show stepM D k x = (D1, e1) by rw [stepM, hs]; simp [he])
    have hq1 : (e1 == 0) = false := by simpa using he
    have hq2 : (e1 != 0) = true := by simpa using he
    have hq3 : decide (e1 = 0) = false := decide_eq_false he
    clear hs he
    go_enter Tryd.func28, Tryd.ntmps28
    go_wp2_with (first | (go_at_call 43; (with_reducible refine HSV.out.mono ?_); rintro e w1 ⟨rfl, hp⟩; have HP1 := Aside0.mk (HS.out.po hp); clear hp))
    go_ret
    exact ⟨by rw [HM.out] <;> rfl, by rw [HM.out]; exact HP1.out⟩
/-- The newest so far. -/
def nextM (st : Int × Int × List Int) (k : Int) (o : Option (Int × List Int)) : Int × Int × List Int := match o with
  | none => st
  | some (g', r) => if st.2.1 < g' then (k, g', r) else st
def newestM (D : DM) (fr n : Int) : Int × Int × List Int := nextM (nextM (-1, 0, []) 0 (areaM D fr n 0)) 1 (areaM D fr n 1)
def nsT (D : DM) (fr n : Int) : Nat → Int × Int × List Int
  | 0 => (-1, 0, [])
  | k + 1 => nextM (nsT D fr n k) k (areaM D fr n k)
def NewPo (w w' : World) (st : Int × Int × List Int) (e : Ending) : Prop := ∃ A c, e = .returned (.tuple #[.int .i64 st.1, .int .u64 st.2.1, .slice A st.2.2.length c]) ∧ Fr8 w w' A st.2.2 ∧ Below w.heap.size w w'
set_option maxHeartbeats 16000000 in
theorem newest_calls (hg : Glob w) (h : SAt w B s g F D fr n) (hk : SOk D fr n) (hd : D.down = false) : Calls Tryd.prog 25 #[.pointer (some ⟨s, 0, none⟩)] w fun e w' => NewPo w w' (newestM D fr n) e := by
  have HG := Aside0.mk hg
  have HS := Aside0.mk h
  have HK := Aside0.mk hk
  have HD := Lib.hid hd
  clear hg h hk hd
  go_enter Tryd.func25, Tryd.ntmps25
  go_wp2_with (fail)
  go_loopw [5, 6, 7, 8, 9, 10, 11, 12] (fun v5 v6 v7 v8 v9 v10 v11 v12 w' => ∃ (k : Nat) (at_ mo : Int) (r : List Int) (A : Option Addr) (c : Nat), v12 = .int .i64 k ∧ k ≤ 2 ∧ v5 = .int .i64 at_ ∧ v6 = .int .u64 mo ∧ v7 = .slice A r.length c ∧ Aside0 (nsT D fr n k = (at_, mo, r)) ∧ Aside0 (Fr8 w w' A r) ∧ Aside0 (SAt w' B s g F D fr n) ∧ Aside0 (Below w.heap.size w w')) (fun v5 v6 v7 v8 v9 v10 v11 v12 _ => 2 - (intOf v12).toNat)
  case atStart => exact ⟨0, -1, 0, [], none, 0, rfl, by decide, rfl, rfl, rfl, ⟨rfl⟩, ⟨Fr8.nil _ _⟩, HS, ⟨Below.refl _ _⟩⟩
  case round =>
    clear HS
    obtain ⟨k, at_, mo, r, A, c, rfl, hk2, rfl, rfl, rfl, HN, HC, HS, HB⟩ := hrel
    by_cases hlt : k < 2
    · have hq : decide ((k : Int) < 2) = true := decide_eq_true (by omega)
      have HAR := Aside0.mk (area_calls (HG.out.below HB.out) HS.out HK.out HD.out k (by omega) (by omega))
      cases hA : areaM D fr n k with
      | none =>
        rw [hA] at HAR
        have HN1 := Aside0.mk (show nsT D fr n (k + 1) = (at_, mo, r) by rw [nsT, HN.out, hA]; rfl)
        clear hA
        go_wp2_with (first | (go_at_call 42; (with_reducible refine HAR.out.mono ?_); rintro e w1 ⟨hb1, rfl⟩; have HS1 := Aside0.mk (HS.out.below hb1); have HB1 := Aside0.mk (HB.out.trans (hb1.mono HB.out.size)); have HC1 := Aside0.mk (HC.out.below hb1); clear hb1))
        go_roundw
        case rel => exact ⟨k + 1, at_, mo, r, A, c, by go_num, by omega, rfl, rfl, rfl, HN1, HC1, HS1, HB1⟩
        case measure => simp [intOf]; omega
      | some p =>
        obtain ⟨g', r'⟩ := p
        rw [hA] at HAR
        by_cases hgt : mo < g'
        · have HN1 := Aside0.mk (show nsT D fr n (k + 1) = ((k : Int), g', r') by rw [nsT, HN.out, hA]; exact if_pos hgt)
          have hqg : decide (mo < g') = true := decide_eq_true hgt
          clear hA hgt
          go_wp2_with (first | (go_at_call 42; (with_reducible refine HAR.out.mono ?_); rintro e w1 ⟨hb1, A', c', rfl, hc1⟩; have HS1 := Aside0.mk (HS.out.below hb1); have HB1 := Aside0.mk (HB.out.trans (hb1.mono HB.out.size)); have HC1 := Aside0.mk (hc1.elder HB.out.size); clear hb1 hc1))
          go_roundw
          case rel => exact ⟨k + 1, k, g', r', A', c', by go_num, by omega, rfl, rfl, rfl, HN1, HC1, HS1, HB1⟩
          case measure => simp [intOf]; omega
        · have HN1 := Aside0.mk (show nsT D fr n (k + 1) = (at_, mo, r) by rw [nsT, HN.out, hA]; exact if_neg hgt)
          have hqg : decide (mo < g') = false := decide_eq_false hgt
          clear hA hgt
          go_wp2_with (first | (go_at_call 42; (with_reducible refine HAR.out.mono ?_); rintro e w1 ⟨hb1, A', c', rfl, hc1⟩; have HS1 := Aside0.mk (HS.out.below hb1); have HB1 := Aside0.mk (HB.out.trans (hb1.mono HB.out.size)); have HC1 := Aside0.mk (HC.out.below hb1); clear hb1 hc1))
          go_roundw
          case rel => exact ⟨k + 1, at_, mo, r, A, c, by go_num, by omega, rfl, rfl, rfl, HN1, HC1, HS1, HB1⟩
          case measure => simp [intOf]; omega
    · obtain rfl : k = 2 := by omega
      have hq : decide (((2 : Nat) : Int) < 2) = false := rfl
      have HN2 := Aside0.mk (show newestM D fr n = (at_, mo, r) from HN.out)
      go_wp2_with (fail)
      refine bodyPost_ret (results_tmp3 rfl _ _ _) rfl ?_
      rw [HN2.out]
      exact ⟨A, c, rfl, HC.out, HB.out⟩
/-- What Newest and Get tell. -/
def NwPo (w w' : World) (D : DM) (fr n : Int) (e : Ending) : Prop :=
  Below w.heap.size w w' ∧ e = .returned (.tuple (if D.down = true then #[.int .i64 0, .int .u64 0, .int .i64 60] else if (newestM D fr n).1 < 0 then #[.int .i64 0, .int .u64 0, .int .i64 70] else #[.int .i64 (newestM D fr n).1, .int .u64 (newestM D fr n).2.1, .int .i64 0]))
set_option maxHeartbeats 16000000 in
theorem Newest_calls (hg : Glob w) (h : SAt w B s g F D fr n) (hk : SOk D fr n) : Calls Tryd.prog 9 #[.pointer (some ⟨s, 0, none⟩)] w fun e w' => NwPo w w' D fr n e := by
  have HG := Aside0.mk hg
  have HS := Aside0.mk h
  have HK := Aside0.mk hk
  clear hg h hk
  cases hd : D.down with
  | true =>
    have HD := Lib.hid hd
    have HRD := Aside0.mk (sready_calls HS.out)
    rw [hd, if_pos rfl] at HRD
    clear hd
    go_enter Tryd.func9, Tryd.ntmps9
    go_wp2_with (first | (go_at_call 24; (with_reducible refine HRD.out.mono ?_); rintro e w1 ⟨rfl, rfl⟩))
    refine bodyPost_ret (results_tmp3 rfl _ _ _) rfl ?_
    exact ⟨Below.refl _ _, by rw [HD.out, if_pos rfl] <;> rfl⟩
  | false =>
    have HD := Lib.hid hd
    have HRD := Aside0.mk (sready_calls HS.out)
    rw [hd, if_neg (by decide)] at HRD
    have HN := Aside0.mk (newest_calls HG.out HS.out HK.out hd)
    obtain ⟨at_, mo, r, hst⟩ : ∃ at_ mo r, newestM D fr n = (at_, mo, r) := ⟨_, _, _, rfl⟩
    rw [hst] at HN
    have HST := Lib.hid hst
    clear hd hst
    by_cases h0 : at_ < 0
    · have hq : decide (at_ < 0) = true := decide_eq_true h0
      have H0 := Aside0.mk h0
      clear h0
      go_enter Tryd.func9, Tryd.ntmps9
      go_wp2_with (first | (go_at_call 24; (with_reducible refine HRD.out.mono ?_); rintro e w1 ⟨rfl, rfl⟩) | (go_at_call 25; (with_reducible refine HN.out.mono ?_); rintro e w2 ⟨A2, c2, rfl, _, hb2⟩))
      refine bodyPost_ret (results_tmp3 rfl _ _ _) rfl ?_
      exact ⟨hb2, by rw [HD.out, if_neg (by decide), HST.out, if_pos H0.out] <;> rfl⟩
    · have hq : decide (at_ < 0) = false := decide_eq_false h0
      have H0 := Aside0.mk h0
      clear h0
      go_enter Tryd.func9, Tryd.ntmps9
      go_wp2_with (first | (go_at_call 24; (with_reducible refine HRD.out.mono ?_); rintro e w1 ⟨rfl, rfl⟩) | (go_at_call 25; (with_reducible refine HN.out.mono ?_); rintro e w2 ⟨A2, c2, rfl, _, hb2⟩))
      refine bodyPost_ret (results_tmp3 rfl _ _ _) rfl ?_
      exact ⟨hb2, by rw [HD.out, if_neg (by decide), HST.out, if_neg (Int.not_lt.2 H0.out)] <;> rfl⟩
def getE (D : DM) (fr n : Int) : Int := if D.down = true then 60 else if (newestM D fr n).1 < 0 then 70 else 0
def getR (D : DM) (fr n : Int) : List Int := if getE D fr n = 0 then (newestM D fr n).2.2 else []
def GtPo (w w' : World) (D : DM) (fr n : Int) (e : Ending) : Prop := ∃ A c, e = .returned (.tuple #[.slice A (getR D fr n).length c, .int .i64 (getE D fr n)]) ∧ Fr8 w w' A (getR D fr n) ∧ Below w.heap.size w w'
set_option maxHeartbeats 16000000 in
theorem Get_calls (hg : Glob w) (h : SAt w B s g F D fr n) (hk : SOk D fr n) : Calls Tryd.prog 8 #[.pointer (some ⟨s, 0, none⟩)] w fun e w' => GtPo w w' D fr n e := by
  have HG := Aside0.mk hg
  have HS := Aside0.mk h
  have HK := Aside0.mk hk
  clear hg h hk
  cases hd : D.down with
  | true =>
    have HE := Lib.hid (show getE D fr n = 60 by simp [getE, hd])
    have HR := Lib.hid (show getR D fr n = [] by simp [getR, HE.out])
    have HRD := Aside0.mk (sready_calls HS.out)
    rw [hd, if_pos rfl] at HRD
    clear hd
    go_enter Tryd.func8, Tryd.ntmps8
    go_wp2_with (first | (go_at_call 24; (with_reducible refine HRD.out.mono ?_); rintro e w1 ⟨rfl, rfl⟩))
    refine bodyPost_ret (results_tmp2 rfl _ _ _) rfl ?_
    exact ⟨none, 0, by rw [HR.out, HE.out] <;> rfl, by rw [HR.out]; exact Fr8.nil _ _, Below.refl _ _⟩
  | false =>
    have HD := Lib.hid hd
    have HRD := Aside0.mk (sready_calls HS.out)
    rw [hd, if_neg (by decide)] at HRD
    have HN := Aside0.mk (newest_calls HG.out HS.out HK.out hd)
    obtain ⟨at_, mo, r, hst⟩ : ∃ at_ mo r, newestM D fr n = (at_, mo, r) := ⟨_, _, _, rfl⟩
    rw [hst] at HN
    by_cases h0 : at_ < 0
    · have hq : decide (at_ < 0) = true := decide_eq_true h0
      have HE := Lib.hid (show getE D fr n = 70 by simp [getE, hd, hst, h0])
      have HR := Lib.hid (show getR D fr n = [] by simp [getR, HE.out])
      clear h0 hd hst
      go_enter Tryd.func8, Tryd.ntmps8
      go_wp2_with (first | (go_at_call 24; (with_reducible refine HRD.out.mono ?_); rintro e w1 ⟨rfl, rfl⟩) | (go_at_call 25; (with_reducible refine HN.out.mono ?_); rintro e w2 ⟨A2, c2, rfl, _, hb2⟩))
      refine bodyPost_ret (results_tmp2 rfl _ _ _) rfl ?_
      exact ⟨none, 0, by rw [HR.out, HE.out] <;> rfl, by rw [HR.out]; exact Fr8.nil _ _, hb2⟩
    · have hq : decide (at_ < 0) = false := decide_eq_false h0
      have HE := Lib.hid (show getE D fr n = 0 by simp [getE, hd, hst, h0])
      have HR := Lib.hid (show getR D fr n = r by simp [getR, HE.out, hst])
      clear h0 hd hst
      go_enter Tryd.func8, Tryd.ntmps8
      go_wp2_with (first | (go_at_call 24; (with_reducible refine HRD.out.mono ?_); rintro e w1 ⟨rfl, rfl⟩) | (go_at_call 25; (with_reducible refine HN.out.mono ?_); rintro e w2 ⟨A2, c2, rfl, hc2, hb2⟩))
      refine bodyPost_ret (results_tmp2 rfl _ _ _) rfl ?_
      exact ⟨A2, c2, by rw [HR.out, HE.out] <;> rfl, by rw [HR.out]; exact hc2, hb2⟩

end Go.Proofs.YtmblnflfklmmkaaDoor.Sh
/- Contracts of package store: Put. -/
namespace Go.Proofs.YtmblnflfklmmkaaDoor.Sh
open Go.Proofs.YtmblnflfklmmkaaDoor.Dk
open Go.RowKit Go.Proofs.YtmblnflfklmmkaaDoorW.PrintWords Go.Proofs.YtmblnflfklmmkaaDoorW.PrintLast Go.Proofs.YtmblnflfklmmkaaDoorW.PrintMore
set_option linter.unusedVariables false
set_option linter.unusedSimpArgs false
set_option maxRecDepth 30000

variable {w w0 w1 w2 wr : World} {B s g : Nat} {F : Nat → Prop} {D D' : DM} {fr n : Int} {xs hs b : List Int}
theorem areaM_range {k g' : Int} {r : List Int} (h : areaM D fr n k = some (g', r)) : 0 ≤ g' ∧ g' ≤ 18446744073709551615 := by
  unfold areaM at h
  split at h
  · cases h
  · split at h
    · cases h
    · split at h
      · injection h with h
        injection h with h1 h2
        rw [← h1]
        exact numM_range _
      · cases h
theorem nextM_range {st : Int × Int × List Int} {k : Int} {o : Option (Int × List Int)} (h : 0 ≤ st.2.1 ∧ st.2.1 ≤ 18446744073709551615) (ho : ∀ g' r, o = some (g', r) → 0 ≤ g' ∧ g' ≤ 18446744073709551615) : 0 ≤ (nextM st k o).2.1 ∧ (nextM st k o).2.1 ≤ 18446744073709551615 := by
  cases o with
  | none => exact h
  | some q =>
    obtain ⟨g', r⟩ := q
    unfold nextM
    dsimp only
    split
    · exact ho g' r rfl
    · exact h
theorem newestM_range : 0 ≤ (newestM D fr n).2.1 ∧ (newestM D fr n).2.1 ≤ 18446744073709551615 :=
  nextM_range (nextM_range ⟨by decide, by decide⟩ (fun _ _ h => areaM_range h)) (fun _ _ h => areaM_range h)
theorem stepM_hs (k : Int) (x : List Int) : (stepM D k x).1.held.length ≤ D.held.length + x.length ∧ (stepM D k x).1.sec.length = D.sec.length := by
  have h1 := saveM_hs (D := D) k x
  unfold stepM
  split
  · exact h1
  · have h2 := flushM_hs (D := (saveM D k x).1)
    exact ⟨by omega, h2.2.trans h1.2⟩
theorem stepM_ok {k : Int} {x : List Int} (h : DOk D) (hn : D.held.length + x.length ≤ 10000000) : DOk (stepM D k x).1 := by
  have h1 := saveM_ok (k := k) (x := x) h hn
  unfold stepM
  split
  · exact h1
  · exact flushM_ok h1
theorem step64 (h : SAt w B s g F D fr n) (hok : DOk D) (hn : D.held.length + 20000 ≤ 10000000) (k : Int) (A : Option Addr) (c : Nat) (x : List Int) (hx : x.length = 64) (hxc : 64 ≤ c) (hC : ∀ W, Upd w W F → C8 W A x) :
    Calls Tryd.prog 28 #[.pointer (some ⟨s, 0, none⟩), .int .i64 k, .slice A 64 c] w fun e w' => e = .returned (.int .i64 (stepM D k x).2) ∧ SPo w w' B s g F (stepM D k x).1 fr n := by
  have := step_calls h hok hn k A c x (by omega) (by omega) hC
  rwa [hx] at this
theorem DiskAt.hi (h : DiskAt w B g F D) : ∀ k, F k → k < w.heap.size := by
  obtain ⟨_, _, _, h⟩ := h
  exact fun k hk => (h.lt k hk).2
/-- A block that is younger than the disk's blocks. -/
theorem C8_young {q t : Nat} {x : List Int} (hF : ∀ k, F k → k < q) (hb : w.heap[q]? = some (.cells (nums .u8 x).toArray t (0, 0))) (hx : x.length ≤ 1000000) : ∀ W, Upd w W F → C8 W (some ⟨q, 0, none⟩) x := fun W hW =>
  C_block ((hW.block q (blk_lt hb) (fun h => by have := hF q h; omega)).trans hb) hx
def zer64 : List Int := List.replicate 64 0
theorem headM_le (g : Int) (y : List Int) : (headM g y).length ≤ 1000000 := by rw [headM_length]; decide
theorem zer64_len : zer64.length = 64 := by simp [zer64]
theorem zer64_le : zer64.length ≤ 1000000 := by simp [zer64]
def toM (fr n : Int) (at_ : Int) : Int := if at_ = 0 then fr + 1 * n else fr + 0 * n
def put3 (D : DM) (q : Int) (x h : List Int) : DM × Int :=
  if (stepM D q zer64).2 ≠ 0 then stepM D q zer64
  else if (stepM (stepM D q zer64).1 (q + 1) x).2 ≠ 0 then stepM (stepM D q zer64).1 (q + 1) x
  else stepM (stepM (stepM D q zer64).1 (q + 1) x).1 q h
def putM (D : DM) (fr n : Int) (x : List Int) : DM × Int :=
  if D.down = true then (D, 60)
  else if 64 * (n - 1) < (x.length : Int) then (D, 2)
  else if (newestM D fr n).2.1 = 18446744073709551615 then (D, 2)
  else put3 D (toM fr n (newestM D fr n).1) x (headM ((newestM D fr n).2.1 + 1) x)

set_option maxHeartbeats 16000000 in
theorem Put_calls (hg : Glob w) (hgF : ¬ F 0 ∧ ¬ F 1) (h : SAt w B s g F D fr n) (hk : SOk D fr n) (hnh : D.held.length ≤ 5000000) (A : Option Addr) (c : Nat) (x : List Int) (hx : x.length ≤ 20000) (hxc : x.length ≤ c) (hC : ∀ W, Upd w W F → C8 W A x) :
    Calls Tryd.prog 12 #[.pointer (some ⟨s, 0, none⟩), .slice A x.length c] w fun e w' => e = .returned (.int .i64 (putM D fr n x).2) ∧ SPo w w' B s g F (putM D fr n x).1 fr n := by
  have HG := Aside0.mk hg
  have HNF := Aside0.mk hgF
  have HS := Aside0.mk h
  have HK := Aside0.mk hk
  have HC := Aside0.mk hC
  have HXC := Aside0.mk hxc
  have HNH := Aside0.mk (show D.held.length + 20000 ≤ 10000000 by omega)
  have HNH0 := Aside0.mk hnh
  have hn2 := hk.hn
  have hn3 : n ≤ 1000 := by have := hk.hz; have := hk.hl; have := hk.hf; omega
  have hf0 := hk.hf
  have hf1 : fr ≤ 1000 := by have := hk.hz; have := hk.hl; omega
  clear hg hgF h hk hnh hxc hC
  cases hd : D.down with
  | true =>
    have HM := Lib.hid (show putM D fr n x = (D, 60) by simp [putM, hd])
    have HRD := Aside0.mk (sready_calls HS.out)
    rw [hd, if_pos rfl] at HRD
    clear hd
    go_enter Tryd.func12, Tryd.ntmps12
    go_wp2_with (first | (go_at_call 24; (with_reducible refine HRD.out.mono ?_); rintro e w1 ⟨rfl, rfl⟩))
    go_ret
    exact ⟨by rw [HM.out] <;> rfl, by rw [HM.out]; exact SPo.same HS.out (Below.refl _ _)⟩
  | false =>
    have HD := Lib.hid hd
    have HRD := Aside0.mk (sready_calls HS.out)
    rw [hd, if_neg (by decide)] at HRD
    have HN := Aside0.mk (newest_calls HG.out HS.out HK.out hd)
    have hmr := newestM_range (D := D) (fr := fr) (n := n)
    obtain ⟨at_, mo, r, hst⟩ : ∃ at_ mo r, newestM D fr n = (at_, mo, r) := ⟨_, _, _, rfl⟩
    rw [hst] at HN hmr
    dsimp only at hmr
    have HST := Lib.hid hst
    clear hst hd
    by_cases hlen : 64 * (n - 1) < (x.length : Int)
    · have HM := Lib.hid (show putM D fr n x = (D, 2) by rw [putM, HD.out, if_neg (by decide), if_pos hlen])
      have hq : decide (64 * (n - 1) < (x.length : Int)) = true := decide_eq_true hlen
      clear hlen
      go_enter Tryd.func12, Tryd.ntmps12
      go_wp2_with (first | (go_at_call 24; (with_reducible refine HRD.out.mono ?_); rintro e w1 ⟨rfl, rfl⟩) | (go_at_call 25; (with_reducible refine HN.out.mono ?_); rintro e w2 ⟨A2, c2, rfl, _, hb2⟩; have HB2 := Aside0.mk hb2; have HS2 := Aside0.mk (HS.out.below hb2); clear hb2) | (go_at_call 11; (with_reducible refine (room_calls HS2.out HK.out).mono ?_); rintro e w3 ⟨rfl, rfl⟩))
      go_ret
      exact ⟨by rw [HM.out] <;> rfl, by rw [HM.out]; exact SPo.same HS.out HB2.out⟩
    by_cases hmx : mo = 18446744073709551615
    · have HM := Lib.hid (show putM D fr n x = (D, 2) by rw [putM, HD.out, if_neg (by decide), if_neg hlen, HST.out, if_pos hmx])
      have hq : decide (64 * (n - 1) < (x.length : Int)) = false := decide_eq_false hlen
      subst hmx
      clear hlen
      go_enter Tryd.func12, Tryd.ntmps12
      go_wp2_with (first | (go_at_call 24; (with_reducible refine HRD.out.mono ?_); rintro e w1 ⟨rfl, rfl⟩) | (go_at_call 25; (with_reducible refine HN.out.mono ?_); rintro e w2 ⟨A2, c2, rfl, _, hb2⟩; have HB2 := Aside0.mk hb2; have HS2 := Aside0.mk (HS.out.below hb2); clear hb2) | (go_at_call 11; (with_reducible refine (room_calls HS2.out HK.out).mono ?_); rintro e w3 ⟨rfl, rfl⟩))
      go_ret
      exact ⟨by rw [HM.out] <;> rfl, by rw [HM.out]; exact SPo.same HS.out HB2.out⟩
    have hmo : mo < 18446744073709551615 := by omega
    have hqm : (mo == 18446744073709551615) = false := by simpa using hmx
    have hqm2 : decide (mo = 18446744073709551615) = false := decide_eq_false hmx
    have HPM := Lib.hid (show putM D fr n x = put3 D (toM fr n at_) x (headM (mo + 1) x) by rw [putM, HD.out, if_neg (by decide), if_neg hlen, HST.out, if_neg hmx])
    have hq : decide (64 * (n - 1) < (x.length : Int)) = false := decide_eq_false hlen
    clear hlen hmx
    by_cases hat : at_ = 0
    · subst hat
      obtain ⟨q, hqq⟩ : ∃ q, fr + 1 * n = q := ⟨_, rfl⟩
      have HTM := Lib.hid (show toM fr n 0 = q by rw [toM, if_pos rfl, hqq])
      have HTO := Lib.hid hqq
      have hq0 : 0 ≤ q ∧ q ≤ 2000 := by omega
      obtain ⟨hq00, hq01⟩ := hq0
      clear hqq
      obtain ⟨D1, h1a⟩ : ∃ D1, (stepM D q zer64).1 = D1 := ⟨_, rfl⟩
      obtain ⟨e1, h1b⟩ : ∃ e1, (stepM D q zer64).2 = e1 := ⟨_, rfl⟩
      have HE1a := Lib.hid h1a
      have HE1b := Lib.hid h1b
      have HOK1 := Aside0.mk (show DOk D1 from h1a ▸ stepM_ok HK.out.d (by have := HNH0.out; simp [zer64]; omega))
      have HL1 := Aside0.mk (show D1.held.length ≤ 5000064 from by have := (stepM_hs (D := D) q zer64).1; rw [h1a] at this; simp [zer64] at this; have := HNH0.out; omega)
      have HNH1 := Aside0.mk (show D1.held.length + 20000 ≤ 10000000 by have := HL1.out; omega)
      have h1c : stepM D q zer64 = (D1, e1) := Prod.ext h1a h1b
      by_cases he1 : e1 = 0
      · obtain ⟨D2, h2a⟩ : ∃ D2, (stepM D1 (q + 1) x).1 = D2 := ⟨_, rfl⟩
        obtain ⟨e2, h2b⟩ : ∃ e2, (stepM D1 (q + 1) x).2 = e2 := ⟨_, rfl⟩
        have HE2a := Lib.hid h2a
        have HE2b := Lib.hid h2b
        have h2c : stepM D1 (q + 1) x = (D2, e2) := Prod.ext h2a h2b
        have HOK2 := Aside0.mk (show DOk D2 from h2a ▸ stepM_ok HOK1.out (by have := HL1.out; omega))
        have HNH2 := Aside0.mk (show D2.held.length + 20000 ≤ 10000000 from by have := (stepM_hs (D := D1) (q + 1) x).1; rw [h2a] at this; have := HL1.out; omega)
        by_cases he2 : e2 = 0
        · have HM := Lib.hid (show putM D fr n x = stepM D2 q (headM (mo + 1) x) by rw [HPM.out, HTM.out, put3, h1c]; simp [he1, h2c, he2])
          subst he1
          subst he2
          clear h1a h1b h1c h2a h2b h2c
          go_enter Tryd.func12, Tryd.ntmps12
          go_wp2_with (first | (go_at_call 24; (with_reducible refine HRD.out.mono ?_); rintro e w1 ⟨rfl, rfl⟩) | (go_at_call 25; (with_reducible refine HN.out.mono ?_); rintro e w2 ⟨A2, c2, rfl, _, hb2⟩; have HB2 := Aside0.mk hb2; have HS2 := Aside0.mk (HS.out.below hb2); clear hb2) | (go_at_call 11; (with_reducible refine (room_calls HS2.out HK.out).mono ?_); rintro e w3 ⟨rfl, rfl⟩) | (go_at_call 27; (with_reducible refine (place_calls HS2.out HK.out 0 (by decide) (by decide)).mono ?_); rintro e w3 ⟨rfl, hb3⟩; have HB3 := Aside0.mk (HB2.out.trans (hb3.mono HB2.out.size)); have HS3 := Aside0.mk (HS2.out.below hb3); clear hb3) | (go_at_call 27; (with_reducible refine (place_calls HS3.out HK.out 1 (by decide) (by decide)).mono ?_); rintro e w4 ⟨rfl, hb4⟩; rw [HTO.out]; have HB4 := Aside0.mk (HB3.out.trans (hb4.mono HB3.out.size)); have HS4 := Aside0.mk (HS3.out.below hb4); clear hb4) | ((with_reducible refine gate_dst (N := 10) ?_ ?_); exact rfl; ((with_reducible refine alloc_at (e := 59) ?_ ?_ (run_alloc59 _) ?_); exact rfl; exact rfl; have HF5 := Aside0.mk (DiskAt.hi HS4.out.d); have HZ5 := Aside0.mk (show (w4.alloc (.cells z59 59)).heap[w4.heap.size]? = some (.cells (nums .u8 zer64).toArray 59 (0, 0)) from heap_alloc_new w4 (.cells z59 59)); have HB5 := Aside0.mk (HB4.out.trans ((below_alloc (Below.refl _ _) (.cells z59 59)).mono HB4.out.size)); have HS5 := Aside0.mk (HS4.out.below (below_alloc (Below.refl _ _) (.cells z59 59))); generalize w4.alloc (.cells z59 59) = w5 at HZ5 HB5 HS5 ⊢; generalize w4.heap.size = q5 at HF5 HZ5 ⊢)) | (go_at_call 28; (with_reducible refine (step64 HS5.out HK.out.d HNH.out q (some ⟨q5, 0, none⟩) 64 zer64 zer64_len (Nat.le_refl _) (C8_young HF5.out HZ5.out zer64_le)).mono ?_); rintro e w6 ⟨rfl, hp6⟩; rw [HE1b.out]; rw [HE1a.out] at hp6; obtain ⟨F6, hF6, hs6, hu6⟩ := SPo.pre (F := F) HB5.out hp6; have HF6 := Aside0.mk hF6; have HS6 := Aside0.mk hs6; have HU6 := Aside0.mk hu6; clear hp6 hF6 hs6 hu6) | (go_at_call 28; (with_reducible refine (step_calls HS6.out HOK1.out HNH1.out (q + 1) A c x (by omega) HXC.out (fun W hW => HC.out W (HU6.out.trans hW HF6.out))).mono ?_); rintro e w7 ⟨rfl, hp7⟩; rw [HE2b.out]; rw [HE2a.out] at hp7; obtain ⟨F7, hF7, hs7, hu7⟩ := SPo.then HF6.out HU6.out hp7; have HF7 := Aside0.mk hF7; have HS7 := Aside0.mk hs7; have HU7 := Aside0.mk hu7; clear hp7 hF7 hs7 hu7) | (go_at_call 29; (with_reducible refine (headOf_calls (HG.out.upd HU7.out HNF.out.1 HNF.out.2) (mo + 1) (by omega) (by omega) A c x (HC.out _ HU7.out) (by omega)).mono ?_); rintro e w8 ⟨rfl, hb8⟩; have HS8 := Aside0.mk (HS7.out.below hb8); have HU8 := Aside0.mk (HU7.out.trans (Upd.of_below (F := F) hb8) (fun _ h => .inl h)); have HF8 := Aside0.mk (show ∀ k, F7 k → F k ∨ w.heap.size ≤ k from HF7.out); have HST := Aside0.mk (run_storeAt_new (P := Tryd.prog) w8 59 z59 (nums .u8 (headM (mo + 1) x)).toArray (info59 _ (headM_length _ _)) (by simp [z59, nums_length, headM_length]) (u8_one _)); clear hb8) | ((with_reducible refine gate_dst (N := 13) ?_ ?_); exact rfl; ((with_reducible refine alloc_at (e := 59) ?_ ?_ (run_alloc59 _) ?_); exact rfl; exact rfl)) | ((with_reducible refine store_at (ty := 59) (.tmp 13) (.tmp 58) ?_ ?_ ?_ HST.out ?_ ?_ ?_); exact rfl; exact rfl; exact rfl; exact rfl; exact rfl; have HF9 := Aside0.mk (DiskAt.hi HS8.out.d); have HZ9 := Aside0.mk (heap_alloc_new w8 (.cells (nums .u8 (headM (mo + 1) x)).toArray 59)); have HU9 := Aside0.mk (HU8.out.trans (Upd.of_below (F := F) (below_alloc (Below.refl w8.heap.size w8) (.cells (nums .u8 (headM (mo + 1) x)).toArray 59))) (fun _ h => .inl h)); have HS9 := Aside0.mk (HS8.out.below (below_alloc (Below.refl _ _) (.cells (nums .u8 (headM (mo + 1) x)).toArray 59))); clear HST; generalize w8.alloc (.cells (nums .u8 (headM (mo + 1) x)).toArray 59) = w9 at HZ9 HU9 HS9 ⊢; generalize w8.heap.size = q9 at HF9 HZ9 ⊢) | (go_at_call 28; (with_reducible refine (step64 HS9.out HOK2.out HNH2.out q (some ⟨q9, 0, none⟩) 64 (headM (mo + 1) x) (headM_length _ _) (Nat.le_refl _) (C8_young HF9.out HZ9.out (headM_le _ _))).mono ?_); rintro e w10 ⟨rfl, hp10⟩; have HP10 := Aside0.mk (SPo.then HF8.out HU9.out hp10); clear hp10))
          go_ret
          exact ⟨by rw [HM.out] <;> rfl, by rw [HM.out]; exact HP10.out⟩
        · have HM := Lib.hid (show putM D fr n x = (D2, e2) by rw [HPM.out, HTM.out, put3, h1c]; simp [he1, h2c, he2])
          have hx1 : (e2 == 0) = false := by simpa using he2
          have hx2 : (e2 != 0) = true := by simpa using he2
          have hx3 : decide (e2 = 0) = false := decide_eq_false he2
          subst he1
          clear h1a h1b h1c h2a h2b h2c he2
          go_enter Tryd.func12, Tryd.ntmps12
          go_wp2_with (first | (go_at_call 24; (with_reducible refine HRD.out.mono ?_); rintro e w1 ⟨rfl, rfl⟩) | (go_at_call 25; (with_reducible refine HN.out.mono ?_); rintro e w2 ⟨A2, c2, rfl, _, hb2⟩; have HB2 := Aside0.mk hb2; have HS2 := Aside0.mk (HS.out.below hb2); clear hb2) | (go_at_call 11; (with_reducible refine (room_calls HS2.out HK.out).mono ?_); rintro e w3 ⟨rfl, rfl⟩) | (go_at_call 27; (with_reducible refine (place_calls HS2.out HK.out 0 (by decide) (by decide)).mono ?_); rintro e w3 ⟨rfl, hb3⟩; have HB3 := Aside0.mk (HB2.out.trans (hb3.mono HB2.out.size)); have HS3 := Aside0.mk (HS2.out.below hb3); clear hb3) | (go_at_call 27; (with_reducible refine (place_calls HS3.out HK.out 1 (by decide) (by decide)).mono ?_); rintro e w4 ⟨rfl, hb4⟩; rw [HTO.out]; have HB4 := Aside0.mk (HB3.out.trans (hb4.mono HB3.out.size)); have HS4 := Aside0.mk (HS3.out.below hb4); clear hb4) | ((with_reducible refine gate_dst (N := 10) ?_ ?_); exact rfl; ((with_reducible refine alloc_at (e := 59) ?_ ?_ (run_alloc59 _) ?_); exact rfl; exact rfl; have HF5 := Aside0.mk (DiskAt.hi HS4.out.d); have HZ5 := Aside0.mk (show (w4.alloc (.cells z59 59)).heap[w4.heap.size]? = some (.cells (nums .u8 zer64).toArray 59 (0, 0)) from heap_alloc_new w4 (.cells z59 59)); have HB5 := Aside0.mk (HB4.out.trans ((below_alloc (Below.refl _ _) (.cells z59 59)).mono HB4.out.size)); have HS5 := Aside0.mk (HS4.out.below (below_alloc (Below.refl _ _) (.cells z59 59))); generalize w4.alloc (.cells z59 59) = w5 at HZ5 HB5 HS5 ⊢; generalize w4.heap.size = q5 at HF5 HZ5 ⊢)) | (go_at_call 28; (with_reducible refine (step64 HS5.out HK.out.d HNH.out q (some ⟨q5, 0, none⟩) 64 zer64 zer64_len (Nat.le_refl _) (C8_young HF5.out HZ5.out zer64_le)).mono ?_); rintro e w6 ⟨rfl, hp6⟩; rw [HE1b.out]; rw [HE1a.out] at hp6; obtain ⟨F6, hF6, hs6, hu6⟩ := SPo.pre (F := F) HB5.out hp6; have HF6 := Aside0.mk hF6; have HS6 := Aside0.mk hs6; have HU6 := Aside0.mk hu6; clear hp6 hF6 hs6 hu6) | (go_at_call 28; (with_reducible refine (step_calls HS6.out HOK1.out HNH1.out (q + 1) A c x (by omega) HXC.out (fun W hW => HC.out W (HU6.out.trans hW HF6.out))).mono ?_); rintro e w7 ⟨rfl, hp7⟩; rw [HE2b.out]; rw [HE2a.out] at hp7; obtain ⟨F7, hF7, hs7, hu7⟩ := SPo.then HF6.out HU6.out hp7; have HF7 := Aside0.mk hF7; have HS7 := Aside0.mk hs7; have HU7 := Aside0.mk hu7; clear hp7 hF7 hs7 hu7))
          go_ret
          exact ⟨by rw [HM.out] <;> rfl, by rw [HM.out]; exact ⟨F7, HF7.out, HS7.out, HU7.out⟩⟩
      · have HM := Lib.hid (show putM D fr n x = (D1, e1) by rw [HPM.out, HTM.out, put3, h1c]; simp [he1])
        have hx1 : (e1 == 0) = false := by simpa using he1
        have hx2 : (e1 != 0) = true := by simpa using he1
        have hx3 : decide (e1 = 0) = false := decide_eq_false he1
        clear h1a h1b h1c he1
        go_enter Tryd.func12, Tryd.ntmps12
        go_wp2_with (first | (go_at_call 24; (with_reducible refine HRD.out.mono ?_); rintro e w1 ⟨rfl, rfl⟩) | (go_at_call 25; (with_reducible refine HN.out.mono ?_); rintro e w2 ⟨A2, c2, rfl, _, hb2⟩; have HB2 := Aside0.mk hb2; have HS2 := Aside0.mk (HS.out.below hb2); clear hb2) | (go_at_call 11; (with_reducible refine (room_calls HS2.out HK.out).mono ?_); rintro e w3 ⟨rfl, rfl⟩) | (go_at_call 27; (with_reducible refine (place_calls HS2.out HK.out 0 (by decide) (by decide)).mono ?_); rintro e w3 ⟨rfl, hb3⟩; have HB3 := Aside0.mk (HB2.out.trans (hb3.mono HB2.out.size)); have HS3 := Aside0.mk (HS2.out.below hb3); clear hb3) | (go_at_call 27; (with_reducible refine (place_calls HS3.out HK.out 1 (by decide) (by decide)).mono ?_); rintro e w4 ⟨rfl, hb4⟩; rw [HTO.out]; have HB4 := Aside0.mk (HB3.out.trans (hb4.mono HB3.out.size)); have HS4 := Aside0.mk (HS3.out.below hb4); clear hb4) | ((with_reducible refine gate_dst (N := 10) ?_ ?_); exact rfl; ((with_reducible refine alloc_at (e := 59) ?_ ?_ (run_alloc59 _) ?_); exact rfl; exact rfl; have HF5 := Aside0.mk (DiskAt.hi HS4.out.d); have HZ5 := Aside0.mk (show (w4.alloc (.cells z59 59)).heap[w4.heap.size]? = some (.cells (nums .u8 zer64).toArray 59 (0, 0)) from heap_alloc_new w4 (.cells z59 59)); have HB5 := Aside0.mk (HB4.out.trans ((below_alloc (Below.refl _ _) (.cells z59 59)).mono HB4.out.size)); have HS5 := Aside0.mk (HS4.out.below (below_alloc (Below.refl _ _) (.cells z59 59))); generalize w4.alloc (.cells z59 59) = w5 at HZ5 HB5 HS5 ⊢; generalize w4.heap.size = q5 at HF5 HZ5 ⊢)) | (go_at_call 28; (with_reducible refine (step64 HS5.out HK.out.d HNH.out q (some ⟨q5, 0, none⟩) 64 zer64 zer64_len (Nat.le_refl _) (C8_young HF5.out HZ5.out zer64_le)).mono ?_); rintro e w6 ⟨rfl, hp6⟩; rw [HE1b.out]; rw [HE1a.out] at hp6; obtain ⟨F6, hF6, hs6, hu6⟩ := SPo.pre (F := F) HB5.out hp6; have HF6 := Aside0.mk hF6; have HS6 := Aside0.mk hs6; have HU6 := Aside0.mk hu6; clear hp6 hF6 hs6 hu6))
        go_ret
        exact ⟨by rw [HM.out] <;> rfl, by rw [HM.out]; exact ⟨F6, HF6.out, HS6.out, HU6.out⟩⟩
    · have hat1 : (at_ == 0) = false := by simpa using hat
      have hat2 : decide (at_ = 0) = false := decide_eq_false hat
      obtain ⟨q, hqq⟩ : ∃ q, fr + 0 * n = q := ⟨_, rfl⟩
      have HTM := Lib.hid (show toM fr n at_ = q by rw [toM, if_neg hat, hqq])
      clear hat
      have HTO := Lib.hid hqq
      have hq0 : 0 ≤ q ∧ q ≤ 2000 := by omega
      obtain ⟨hq00, hq01⟩ := hq0
      clear hqq
      obtain ⟨D1, h1a⟩ : ∃ D1, (stepM D q zer64).1 = D1 := ⟨_, rfl⟩
      obtain ⟨e1, h1b⟩ : ∃ e1, (stepM D q zer64).2 = e1 := ⟨_, rfl⟩
      have HE1a := Lib.hid h1a
      have HE1b := Lib.hid h1b
      have HOK1 := Aside0.mk (show DOk D1 from h1a ▸ stepM_ok HK.out.d (by have := HNH0.out; simp [zer64]; omega))
      have HL1 := Aside0.mk (show D1.held.length ≤ 5000064 from by have := (stepM_hs (D := D) q zer64).1; rw [h1a] at this; simp [zer64] at this; have := HNH0.out; omega)
      have HNH1 := Aside0.mk (show D1.held.length + 20000 ≤ 10000000 by have := HL1.out; omega)
      have h1c : stepM D q zer64 = (D1, e1) := Prod.ext h1a h1b
      by_cases he1 : e1 = 0
      · obtain ⟨D2, h2a⟩ : ∃ D2, (stepM D1 (q + 1) x).1 = D2 := ⟨_, rfl⟩
        obtain ⟨e2, h2b⟩ : ∃ e2, (stepM D1 (q + 1) x).2 = e2 := ⟨_, rfl⟩
        have HE2a := Lib.hid h2a
        have HE2b := Lib.hid h2b
        have h2c : stepM D1 (q + 1) x = (D2, e2) := Prod.ext h2a h2b
        have HOK2 := Aside0.mk (show DOk D2 from h2a ▸ stepM_ok HOK1.out (by have := HL1.out; omega))
        have HNH2 := Aside0.mk (show D2.held.length + 20000 ≤ 10000000 from by have := (stepM_hs (D := D1) (q + 1) x).1; rw [h2a] at this; have := HL1.out; omega)
        by_cases he2 : e2 = 0
        · have HM := Lib.hid (show putM D fr n x = stepM D2 q (headM (mo + 1) x) by rw [HPM.out, HTM.out, put3, h1c]; simp [he1, h2c, he2])
          subst he1
          subst he2
          clear h1a h1b h1c h2a h2b h2c
          go_enter Tryd.func12, Tryd.ntmps12
          go_wp2_with (first | (go_at_call 24; (with_reducible refine HRD.out.mono ?_); rintro e w1 ⟨rfl, rfl⟩) | (go_at_call 25; (with_reducible refine HN.out.mono ?_); rintro e w2 ⟨A2, c2, rfl, _, hb2⟩; have HB2 := Aside0.mk hb2; have HS2 := Aside0.mk (HS.out.below hb2); clear hb2) | (go_at_call 11; (with_reducible refine (room_calls HS2.out HK.out).mono ?_); rintro e w3 ⟨rfl, rfl⟩) | (go_at_call 27; (with_reducible refine (place_calls HS2.out HK.out 0 (by decide) (by decide)).mono ?_); rintro e w3 ⟨rfl, hb3⟩; have HB3 := Aside0.mk (HB2.out.trans (hb3.mono HB2.out.size)); have HS3 := Aside0.mk (HS2.out.below hb3); clear hb3; rw [HTO.out]) | ((with_reducible refine gate_dst (N := 10) ?_ ?_); exact rfl; ((with_reducible refine alloc_at (e := 59) ?_ ?_ (run_alloc59 _) ?_); exact rfl; exact rfl; have HF5 := Aside0.mk (DiskAt.hi HS3.out.d); have HZ5 := Aside0.mk (show (w3.alloc (.cells z59 59)).heap[w3.heap.size]? = some (.cells (nums .u8 zer64).toArray 59 (0, 0)) from heap_alloc_new w3 (.cells z59 59)); have HB5 := Aside0.mk (HB3.out.trans ((below_alloc (Below.refl _ _) (.cells z59 59)).mono HB3.out.size)); have HS5 := Aside0.mk (HS3.out.below (below_alloc (Below.refl _ _) (.cells z59 59))); generalize w3.alloc (.cells z59 59) = w5 at HZ5 HB5 HS5 ⊢; generalize w3.heap.size = q5 at HF5 HZ5 ⊢)) | (go_at_call 28; (with_reducible refine (step64 HS5.out HK.out.d HNH.out q (some ⟨q5, 0, none⟩) 64 zer64 zer64_len (Nat.le_refl _) (C8_young HF5.out HZ5.out zer64_le)).mono ?_); rintro e w6 ⟨rfl, hp6⟩; rw [HE1b.out]; rw [HE1a.out] at hp6; obtain ⟨F6, hF6, hs6, hu6⟩ := SPo.pre (F := F) HB5.out hp6; have HF6 := Aside0.mk hF6; have HS6 := Aside0.mk hs6; have HU6 := Aside0.mk hu6; clear hp6 hF6 hs6 hu6) | (go_at_call 28; (with_reducible refine (step_calls HS6.out HOK1.out HNH1.out (q + 1) A c x (by omega) HXC.out (fun W hW => HC.out W (HU6.out.trans hW HF6.out))).mono ?_); rintro e w7 ⟨rfl, hp7⟩; rw [HE2b.out]; rw [HE2a.out] at hp7; obtain ⟨F7, hF7, hs7, hu7⟩ := SPo.then HF6.out HU6.out hp7; have HF7 := Aside0.mk hF7; have HS7 := Aside0.mk hs7; have HU7 := Aside0.mk hu7; clear hp7 hF7 hs7 hu7) | (go_at_call 29; (with_reducible refine (headOf_calls (HG.out.upd HU7.out HNF.out.1 HNF.out.2) (mo + 1) (by omega) (by omega) A c x (HC.out _ HU7.out) (by omega)).mono ?_); rintro e w8 ⟨rfl, hb8⟩; have HS8 := Aside0.mk (HS7.out.below hb8); have HU8 := Aside0.mk (HU7.out.trans (Upd.of_below (F := F) hb8) (fun _ h => .inl h)); have HF8 := Aside0.mk (show ∀ k, F7 k → F k ∨ w.heap.size ≤ k from HF7.out); have HST := Aside0.mk (run_storeAt_new (P := Tryd.prog) w8 59 z59 (nums .u8 (headM (mo + 1) x)).toArray (info59 _ (headM_length _ _)) (by simp [z59, nums_length, headM_length]) (u8_one _)); clear hb8) | ((with_reducible refine gate_dst (N := 13) ?_ ?_); exact rfl; ((with_reducible refine alloc_at (e := 59) ?_ ?_ (run_alloc59 _) ?_); exact rfl; exact rfl)) | ((with_reducible refine store_at (ty := 59) (.tmp 13) (.tmp 58) ?_ ?_ ?_ HST.out ?_ ?_ ?_); exact rfl; exact rfl; exact rfl; exact rfl; exact rfl; have HF9 := Aside0.mk (DiskAt.hi HS8.out.d); have HZ9 := Aside0.mk (heap_alloc_new w8 (.cells (nums .u8 (headM (mo + 1) x)).toArray 59)); have HU9 := Aside0.mk (HU8.out.trans (Upd.of_below (F := F) (below_alloc (Below.refl w8.heap.size w8) (.cells (nums .u8 (headM (mo + 1) x)).toArray 59))) (fun _ h => .inl h)); have HS9 := Aside0.mk (HS8.out.below (below_alloc (Below.refl _ _) (.cells (nums .u8 (headM (mo + 1) x)).toArray 59))); clear HST; generalize w8.alloc (.cells (nums .u8 (headM (mo + 1) x)).toArray 59) = w9 at HZ9 HU9 HS9 ⊢; generalize w8.heap.size = q9 at HF9 HZ9 ⊢) | (go_at_call 28; (with_reducible refine (step64 HS9.out HOK2.out HNH2.out q (some ⟨q9, 0, none⟩) 64 (headM (mo + 1) x) (headM_length _ _) (Nat.le_refl _) (C8_young HF9.out HZ9.out (headM_le _ _))).mono ?_); rintro e w10 ⟨rfl, hp10⟩; have HP10 := Aside0.mk (SPo.then HF8.out HU9.out hp10); clear hp10))
          go_ret
          exact ⟨by rw [HM.out] <;> rfl, by rw [HM.out]; exact HP10.out⟩
        · have HM := Lib.hid (show putM D fr n x = (D2, e2) by rw [HPM.out, HTM.out, put3, h1c]; simp [he1, h2c, he2])
          have hx1 : (e2 == 0) = false := by simpa using he2
          have hx2 : (e2 != 0) = true := by simpa using he2
          have hx3 : decide (e2 = 0) = false := decide_eq_false he2
          subst he1
          clear h1a h1b h1c h2a h2b h2c he2
          go_enter Tryd.func12, Tryd.ntmps12
          go_wp2_with (first | (go_at_call 24; (with_reducible refine HRD.out.mono ?_); rintro e w1 ⟨rfl, rfl⟩) | (go_at_call 25; (with_reducible refine HN.out.mono ?_); rintro e w2 ⟨A2, c2, rfl, _, hb2⟩; have HB2 := Aside0.mk hb2; have HS2 := Aside0.mk (HS.out.below hb2); clear hb2) | (go_at_call 11; (with_reducible refine (room_calls HS2.out HK.out).mono ?_); rintro e w3 ⟨rfl, rfl⟩) | (go_at_call 27; (with_reducible refine (place_calls HS2.out HK.out 0 (by decide) (by decide)).mono ?_); rintro e w3 ⟨rfl, hb3⟩; have HB3 := Aside0.mk (HB2.out.trans (hb3.mono HB2.out.size)); have HS3 := Aside0.mk (HS2.out.below hb3); clear hb3; rw [HTO.out]) | ((with_reducible refine gate_dst (N := 10) ?_ ?_); exact rfl; ((with_reducible refine alloc_at (e := 59) ?_ ?_ (run_alloc59 _) ?_); exact rfl; exact rfl; have HF5 := Aside0.mk (DiskAt.hi HS3.out.d); have HZ5 := Aside0.mk (show (w3.alloc (.cells z59 59)).heap[w3.heap.size]? = some (.cells (nums .u8 zer64).toArray 59 (0, 0)) from heap_alloc_new w3 (.cells z59 59)); have HB5 := Aside0.mk (HB3.out.trans ((below_alloc (Below.refl _ _) (.cells z59 59)).mono HB3.out.size)); have HS5 := Aside0.mk (HS3.out.below (below_alloc (Below.refl _ _) (.cells z59 59))); generalize w3.alloc (.cells z59 59) = w5 at HZ5 HB5 HS5 ⊢; generalize w3.heap.size = q5 at HF5 HZ5 ⊢)) | (go_at_call 28; (with_reducible refine (step64 HS5.out HK.out.d HNH.out q (some ⟨q5, 0, none⟩) 64 zer64 zer64_len (Nat.le_refl _) (C8_young HF5.out HZ5.out zer64_le)).mono ?_); rintro e w6 ⟨rfl, hp6⟩; rw [HE1b.out]; rw [HE1a.out] at hp6; obtain ⟨F6, hF6, hs6, hu6⟩ := SPo.pre (F := F) HB5.out hp6; have HF6 := Aside0.mk hF6; have HS6 := Aside0.mk hs6; have HU6 := Aside0.mk hu6; clear hp6 hF6 hs6 hu6) | (go_at_call 28; (with_reducible refine (step_calls HS6.out HOK1.out HNH1.out (q + 1) A c x (by omega) HXC.out (fun W hW => HC.out W (HU6.out.trans hW HF6.out))).mono ?_); rintro e w7 ⟨rfl, hp7⟩; rw [HE2b.out]; rw [HE2a.out] at hp7; obtain ⟨F7, hF7, hs7, hu7⟩ := SPo.then HF6.out HU6.out hp7; have HF7 := Aside0.mk hF7; have HS7 := Aside0.mk hs7; have HU7 := Aside0.mk hu7; clear hp7 hF7 hs7 hu7))
          go_ret
          exact ⟨by rw [HM.out] <;> rfl, by rw [HM.out]; exact ⟨F7, HF7.out, HS7.out, HU7.out⟩⟩
      · have HM := Lib.hid (show putM D fr n x = (D1, e1) by rw [HPM.out, HTM.out, put3, h1c]; simp [he1])
        have hx1 : (e1 == 0) = false := by simpa using he1
        have hx2 : (e1 != 0) = true := by simpa using he1
        have hx3 : decide (e1 = 0) = false := decide_eq_false he1
        clear h1a h1b h1c he1
        go_enter Tryd.func12, Tryd.ntmps12
        go_wp2_with (first | (go_at_call 24; (with_reducible refine HRD.out.mono ?_); rintro e w1 ⟨rfl, rfl⟩) | (go_at_call 25; (with_reducible refine HN.out.mono ?_); rintro e w2 ⟨A2, c2, rfl, _, hb2⟩; have HB2 := Aside0.mk hb2; have HS2 := Aside0.mk (HS.out.below hb2); clear hb2) | (go_at_call 11; (with_reducible refine (room_calls HS2.out HK.out).mono ?_); rintro e w3 ⟨rfl, rfl⟩) | (go_at_call 27; (with_reducible refine (place_calls HS2.out HK.out 0 (by decide) (by decide)).mono ?_); rintro e w3 ⟨rfl, hb3⟩; have HB3 := Aside0.mk (HB2.out.trans (hb3.mono HB2.out.size)); have HS3 := Aside0.mk (HS2.out.below hb3); clear hb3; rw [HTO.out]) | ((with_reducible refine gate_dst (N := 10) ?_ ?_); exact rfl; ((with_reducible refine alloc_at (e := 59) ?_ ?_ (run_alloc59 _) ?_); exact rfl; exact rfl; have HF5 := Aside0.mk (DiskAt.hi HS3.out.d); have HZ5 := Aside0.mk (show (w3.alloc (.cells z59 59)).heap[w3.heap.size]? = some (.cells (nums .u8 zer64).toArray 59 (0, 0)) from heap_alloc_new w3 (.cells z59 59)); have HB5 := Aside0.mk (HB3.out.trans ((below_alloc (Below.refl _ _) (.cells z59 59)).mono HB3.out.size)); have HS5 := Aside0.mk (HS3.out.below (below_alloc (Below.refl _ _) (.cells z59 59))); generalize w3.alloc (.cells z59 59) = w5 at HZ5 HB5 HS5 ⊢; generalize w3.heap.size = q5 at HF5 HZ5 ⊢)) | (go_at_call 28; (with_reducible refine (step64 HS5.out HK.out.d HNH.out q (some ⟨q5, 0, none⟩) 64 zer64 zer64_len (Nat.le_refl _) (C8_young HF5.out HZ5.out zer64_le)).mono ?_); rintro e w6 ⟨rfl, hp6⟩; rw [HE1b.out]; rw [HE1a.out] at hp6; obtain ⟨F6, hF6, hs6, hu6⟩ := SPo.pre (F := F) HB5.out hp6; have HF6 := Aside0.mk hF6; have HS6 := Aside0.mk hs6; have HU6 := Aside0.mk hu6; clear hp6 hF6 hs6 hu6))
        go_ret
        exact ⟨by rw [HM.out] <;> rfl, by rw [HM.out]; exact ⟨F6, HF6.out, HS6.out, HU6.out⟩⟩

end Go.Proofs.YtmblnflfklmmkaaDoor.Sh
/- Contracts of package store: Open; a store that is not there. -/
namespace Go.Proofs.YtmblnflfklmmkaaDoor.Sh
open Go.Proofs.YtmblnflfklmmkaaDoor.Dk
open Go.RowKit Go.Proofs.YtmblnflfklmmkaaDoorW.PrintWords Go.Proofs.YtmblnflfklmmkaaDoorW.PrintLast Go.Proofs.YtmblnflfklmmkaaDoorW.PrintMore
set_option linter.unusedVariables false
set_option linter.unusedSimpArgs false
set_option maxRecDepth 30000

variable {w w0 w1 w2 wr : World} {B s g : Nat} {F : Nat → Prop} {D D' : DM} {fr n : Int} {xs hs b : List Int}
theorem sizeS (h : DiskAt w B g F D) : Calls Tryd.prog 26 #[.pointer (some ⟨g, 0, none⟩)] w fun e w' => e = .returned (.int .i64 (D.sec.length : Int)) ∧ w = w' := by
  obtain ⟨_, _, _, h⟩ := h
  exact Size_calls h
def OpenPo (w w' : World) (B g : Nat) (F : Nat → Prop) (D : DM) (fr n : Int) (e : Ending) : Prop :=
  (¬ (2 ≤ n ∧ 0 ≤ fr ∧ fr + 2 * n ≤ (D.sec.length : Int)) ∧ e = .returned (.tuple #[.pointer none, .int .i64 1]) ∧ Below w.heap.size w w') ∨
  ((2 ≤ n ∧ 0 ≤ fr ∧ fr + 2 * n ≤ (D.sec.length : Int)) ∧ ∃ s, e = .returned (.tuple #[.pointer (some ⟨s, 0, none⟩), .int .i64 0]) ∧ SAt w' B s g F D fr n ∧ w.heap.size ≤ s ∧ Below w.heap.size w w')
set_option maxHeartbeats 16000000 in
theorem Open_calls (h : DiskAt w B g F D) (hl : D.sec.length ≤ 1000) (fr n : Int) : Calls Tryd.prog 10 #[.pointer (some ⟨g, 0, none⟩), .int .i64 fr, .int .i64 n] w fun e w' => OpenPo w w' B g F D fr n e := by
  have HD := Aside0.mk h
  obtain ⟨S, hS⟩ : ∃ S : Nat, D.sec.length = S := ⟨_, rfl⟩
  have HSS := Lib.hid hS
  have HF := Aside0.mk (DiskAt.hi h)
  rw [hS] at hl
  clear h hS
  by_cases h1 : n < 2
  · have hq : decide (n < 2) = true := decide_eq_true h1
    have HB := Aside0.mk h1
    clear h1
    go_enter Tryd.func10, Tryd.ntmps10
    go_wp2_with (first | (go_at_call 26; (with_reducible refine (sizeS HD.out).mono ?_); rintro e w1 ⟨rfl, rfl⟩; rw [HSS.out]))
    refine bodyPost_ret (results_tmp2 rfl _ _ _) rfl ?_
    exact .inl ⟨by have := HB.out; omega, rfl, Below.refl _ _⟩
  have hq : decide (n < 2) = false := decide_eq_false h1
  by_cases h2 : fr < 0
  · have hq2 : decide (fr < 0) = true := decide_eq_true h2
    have HB := Aside0.mk h2
    clear h2 h1
    go_enter Tryd.func10, Tryd.ntmps10
    go_wp2_with (first | (go_at_call 26; (with_reducible refine (sizeS HD.out).mono ?_); rintro e w1 ⟨rfl, rfl⟩; rw [HSS.out]))
    refine bodyPost_ret (results_tmp2 rfl _ _ _) rfl ?_
    exact .inl ⟨by have := HB.out; omega, rfl, Below.refl _ _⟩
  have hq2 : decide (fr < 0) = false := decide_eq_false h2
  by_cases h3 : (S : Int) < fr
  · have hq3 : decide ((S : Int) < fr) = true := decide_eq_true h3
    have HB := Aside0.mk h3
    have HB1 := Aside0.mk h1
    clear h2 h1 h3
    go_enter Tryd.func10, Tryd.ntmps10
    go_wp2_with (first | (go_at_call 26; (with_reducible refine (sizeS HD.out).mono ?_); rintro e w1 ⟨rfl, rfl⟩; rw [HSS.out]))
    refine bodyPost_ret (results_tmp2 rfl _ _ _) rfl ?_
    exact .inl ⟨by have := HB.out; have := HB1.out; rw [HSS.out]; omega, rfl, Below.refl _ _⟩
  have hq3 : decide ((S : Int) < fr) = false := decide_eq_false h3
  obtain ⟨m, hm⟩ : ∃ m : Int, m = ((S : Int) - fr) / 2 := ⟨_, rfl⟩
  have HM := Lib.hid hm
  have hfr0 : 0 ≤ fr := by omega
  have hfrS : fr ≤ S := by omega
  by_cases h4 : ((S : Int) - fr) / 2 < n
  · have hq4 : decide (((S : Int) - fr) / 2 < n) = true := decide_eq_true h4
    have HB := Aside0.mk (show ¬ fr + 2 * n ≤ (S : Int) by omega)
    clear h2 h1 h3 h4 hm
    go_enter Tryd.func10, Tryd.ntmps10
    go_wp2_with (first | (go_at_call 26; (with_reducible refine (sizeS HD.out).mono ?_); rintro e w1 ⟨rfl, rfl⟩; rw [HSS.out]))
    refine bodyPost_ret (results_tmp2 rfl _ _ _) rfl ?_
    exact .inl ⟨by have := HB.out; rw [HSS.out]; omega, rfl, Below.refl _ _⟩
  · have hq4 : decide (((S : Int) - fr) / 2 < n) = false := decide_eq_false h4
    have HB := Aside0.mk (show 2 ≤ n ∧ 0 ≤ fr ∧ fr + 2 * n ≤ (S : Int) by omega)
    clear h2 h1 h3 h4 hm
    go_enter Tryd.func10, Tryd.ntmps10
    go_wp2_with (first | (go_at_call 26; (with_reducible refine (sizeS HD.out).mono ?_); rintro e w1 ⟨rfl, rfl⟩; rw [HSS.out]))
    refine bodyPost_ret (results_tmp2 rfl _ _ _) rfl ?_
    refine .inr ⟨by rw [HSS.out]; exact HB.out, w.heap.size, rfl, ⟨heap_alloc_new w _, HD.out.frame (G := fun _ => False) (Upd.of_below (below_alloc (Below.refl _ _) _)) (fun _ _ _ h => h), fun h => by have := HF.out _ h; omega⟩, Nat.le_refl _, below_alloc (Below.refl _ _) _⟩
end Go.Proofs.YtmblnflfklmmkaaDoor.Sh
/- Plain facts about disks: what is written is read, flushed or not. -/
namespace Go.Proofs.YtmblnflfklmmkaaDoor.Dk
open Go.RowKit Go.Proofs.YtmblnflfklmmkaaDoorW.PrintWords Go.Proofs.YtmblnflfklmmkaaDoorW.PrintLast Go.Proofs.YtmblnflfklmmkaaDoorW.PrintMore
set_option linter.unusedVariables false
set_option linter.unusedSimpArgs false
set_option maxRecDepth 30000
variable {D D' : DM} {k : Int} {x : List Int}
/-- A disk whose power does not go. -/
structure Calm (D : DM) : Prop where
  set : D.set = false
  down : D.down = false
theorem calm_goes (h : Calm D) : goesM D = ({ D with strokes := wrap64 (D.strokes + 1) }, false) := by simp [goesM, h.set]
theorem calm_at (h : Calm D) (h0 : 0 ≤ k) (h1 : k < (D.sec.length : Int)) : atM D k = 0 := by
  unfold atM
  rw [h.down, if_neg (by decide), if_neg (by omega)]
theorem calm_write (h : Calm D) (h0 : 0 ≤ k) (h1 : k < (D.sec.length : Int)) (hx : x.length = 64) : (writeM D k x).2 = 0 ∧ (writeM D k x).1.held = D.held ++ [(k, x)] ∧ (writeM D k x).1.sec = D.sec ∧ Calm (writeM D k x).1 := by
  have hg := calm_goes (D := holdM D k x) ⟨h.set, h.down⟩
  have e : writeM D k x = ((goesM (holdM D k x)).1, 0) := by
    unfold writeM
    rw [if_neg (by rw [calm_at h h0 h1]; decide), if_neg (by omega), if_neg (by rw [hg]; exact Bool.false_ne_true)]
  rw [e, hg]
  exact ⟨rfl, rfl, rfl, h.set, h.down⟩
theorem calm_flush (h : Calm D) : (flushM D).2 = 0 ∧ (flushM D).1.held = [] ∧ (flushM D).1.sec = putsTo (fun _ => true) D.held D.sec D.held.length ∧ Calm (flushM D).1 := by
  have hg := calm_goes h
  have e : flushM D = (putsM (fun _ => true) (goesM D).1, 0) := by
    unfold flushM
    rw [h.down, if_neg (by decide), if_neg (by rw [hg]; exact Bool.false_ne_true)]
  rw [e, hg]
  exact ⟨rfl, rfl, rfl, h.set, h.down⟩
theorem calm_saveFrom (x : List Int) (k : Int) : ∀ (m i : Nat) (D : DM), Calm D → 0 ≤ k → k + i + m ≤ (D.sec.length : Int) →
    (saveFrom x k m i D).2 = 0 ∧ (saveFrom x k m i D).1.held = D.held ++ (List.range m).map (fun j => (k + ((i + j : Nat) : Int), secAt x (i + j))) ∧ (saveFrom x k m i D).1.sec = D.sec ∧ Calm (saveFrom x k m i D).1
  | 0, i, D, h, _, _ => ⟨rfl, by simp [saveFrom], rfl, h⟩
  | m + 1, i, D, h, h0, h1 => by
    obtain ⟨w1, w2, w3, w4⟩ := calm_write (k := k + i) (x := secAt x i) h (by omega) (by omega) (secAt_length x i)
    have e : saveFrom x k (m + 1) i D = saveFrom x k m (i + 1) (writeM D (k + i) (secAt x i)).1 := by
      rw [saveFrom, if_neg (by rw [w1]; decide)]
    obtain ⟨r1, r2, r3, r4⟩ := calm_saveFrom x k m (i + 1) _ w4 h0 (by rw [w3]; omega)
    rw [e]
    refine ⟨r1, ?_, r3.trans w3, r4⟩
    rw [r2, w2, List.range_succ_eq_map, List.map_cons, List.append_assoc]
    simp [List.map_map, Function.comp_def, Nat.add_assoc, Nat.add_comm 1]
theorem readTo_app (k0 : Int) (f : Nat → List Int) (H : List (Int × List Int)) (s : List Int) (M i : Nat) : ∀ n, n ≤ M → i < n → readTo (k0 + i) (H ++ (List.range M).map (fun j : Nat => (k0 + (j : Int), f j))) s (H.length + n) = f i
  | 0, _, h => absurd h (Nat.not_lt_zero _)
  | n + 1, hn, hi => by
    have e : (H ++ (List.range M).map (fun j : Nat => (k0 + (j : Int), f j))).getD (H.length + n) (0, []) = (k0 + (n : Int), f n) := by
      rw [List.getD_eq_getElem?_getD, List.getElem?_append_right (by omega)]
      simp [show n < M by omega]
    rw [← Nat.add_assoc, readTo, e]
    by_cases h : n = i
    · subst h
      rw [if_pos rfl]
    · rw [if_neg (by simp only; omega)]
      exact readTo_app k0 f H s M i n (by omega) (by omega)
theorem puts_read (H : List (Int × List Int)) (S : List (List Int)) (j : Nat) (hH : ∀ h ∈ H, 0 ≤ h.1 ∧ h.1 < (S.length : Int)) : ∀ n, n ≤ H.length → (putsTo (fun _ => true) H S n).getD j [] = readTo j H (S.getD j []) n
  | 0, _ => rfl
  | n + 1, hn => by
    obtain ⟨a0, a1⟩ := hH (H.getD n (0, [])) (by rw [List.getD_eq_getElem?_getD, List.getElem?_eq_getElem (by omega)]; exact List.getElem_mem (by omega))
    rw [putsTo, if_pos rfl, readTo]
    have hl := putsTo_length (fun _ => true) H S n
    by_cases h : (H.getD n (0, [])).1 = j
    · rw [if_pos h, List.getD_eq_getElem?_getD, List.getElem?_set, if_pos (by omega), if_pos (by omega)]
      rfl
    · rw [if_neg h, List.getD_eq_getElem?_getD, List.getElem?_set, if_neg (by omega), ← List.getD_eq_getElem?_getD]
      exact puts_read H S j hH n (by omega)
/-- A flush changes nothing of what is read. -/
theorem flush_read (h : Calm D) (hok : DOk D) (h0 : 0 ≤ k) : readM (flushM D).1 k = readM D k := by
  obtain ⟨_, f2, f3, _⟩ := calm_flush h
  unfold readM
  rw [f2, f3]
  show (putsTo _ _ _ _).getD k.toNat [] = _
  rw [puts_read D.held D.sec k.toNat hok.at_ _ (Nat.le_refl _), Int.toNat_of_nonneg h0]
theorem readsTo_congr (k : Int) : ∀ m : Nat, (∀ i, i < m → readM D' (k + (i : Nat)) = readM D (k + (i : Nat))) → readsTo D' k m = readsTo D k m
  | 0, _ => rfl
  | m + 1, h => by
    rw [readsTo, readsTo, readsTo_congr k m (fun i hi => h i (by omega)), h m (by omega)]
theorem reads_len (k : Int) (x : List Int) : ∀ m : Nat, (∀ i, i < m → readM D (k + (i : Nat)) = secAt x i) → (readsTo D k m).length = 64 * m
  | 0, _ => rfl
  | m + 1, h => by
    rw [readsTo, List.length_append, reads_len k x m (fun i hi => h i (by omega)), h m (by omega), secAt_length]
    omega
theorem reads_take (k : Int) (x : List Int) : ∀ m : Nat, (∀ i, i < m → readM D (k + (i : Nat)) = secAt x i) → 64 * m ≤ x.length + 63 → (readsTo D k m).take x.length = x.take (64 * m)
  | 0, _, _ => by simp [readsTo]
  | m + 1, h, hm => by
    have ih := reads_take k x m (fun i hi => h i (by omega)) (by omega)
    have hl := reads_len k x m (fun i hi => h i (by omega))
    rw [readsTo, h m (by omega), List.take_append, ih, hl, secAt, Nat.mul_comm m 64, show 64 * (m + 1) = 64 * m + 64 by omega, List.take_add]
    congr 1
    rw [List.take_append, List.take_take, List.length_take, List.length_drop, List.take_replicate]
    rw [show min (x.length - 64 * m - min 64 (x.length - 64 * m)) (64 - min (x.length - 64 * m) 64) = 0 by omega, List.replicate_zero, List.append_nil]
    by_cases h64 : x.length - 64 * m ≤ 64
    · rw [show min (x.length - 64 * m) 64 = x.length - 64 * m by omega, List.take_of_length_le (by rw [List.length_drop]; omega), List.take_of_length_le (by rw [List.length_drop]; omega)]
    · rw [show min (x.length - 64 * m) 64 = 64 by omega]
/-- A calm disk's Save: what comes of it. -/
theorem calm_save (h : Calm D) (h0 : 0 ≤ k) (h1 : k ≤ (D.sec.length : Int)) :
    (((saveM D k x).2 = 0 ∧ ((x.length + 63) / 64 : Nat) ≤ (D.sec.length : Int) - k) ∨ ((saveM D k x).2 = 61 ∧ 64 * ((D.sec.length : Int) - k) < (x.length : Int) ∧ (saveM D k x).1 = D)) := by
  have hsp : spanM D k x.length = if (D.sec.length : Int) - k < needM x.length then 61 else 0 := by
    unfold spanM
    rw [h.down, if_neg (by decide)]
    by_cases hc : (D.sec.length : Int) - k < needM x.length
    · rw [if_pos (.inr (.inr hc)), if_pos hc]
    · rw [if_neg (by omega), if_neg hc]
  rw [need_nat] at hsp
  by_cases hc : (D.sec.length : Int) - k < (((x.length + 63) / 64 : Nat) : Int)
  · rw [if_pos hc] at hsp
    right
    have e : saveM D k x = (D, 61) := by
      unfold saveM
      rw [hsp, if_pos (by decide)]
    rw [e]
    exact ⟨rfl, by omega, rfl⟩
  · rw [if_neg hc] at hsp
    left
    have e : saveM D k x = saveFrom x k ((x.length + 63) / 64) 0 D := by
      unfold saveM
      rw [hsp, if_neg (by decide)]
    rw [e]
    exact ⟨(calm_saveFrom x k _ 0 D h h0 (by omega)).1, by omega⟩
theorem calm_saved (h : Calm D) (h0 : 0 ≤ k) (h1 : k ≤ (D.sec.length : Int)) (hs : (saveM D k x).2 = 0) : Calm (saveM D k x).1 ∧ (saveM D k x).1.sec = D.sec ∧ spanM (saveM D k x).1 k x.length = 0 ∧ (∀ i, i < (x.length + 63) / 64 → readM (saveM D k x).1 (k + (i : Nat)) = secAt x i) := by
  rcases calm_save (x := x) h h0 h1 with ⟨_, hm⟩ | ⟨h2, _⟩
  · have hsp : ∀ D' : DM, D'.down = false → D'.sec = D.sec → spanM D' k x.length = 0 := fun D' hd hs' => by
      unfold spanM
      rw [hd, if_neg (by decide), hs', need_nat, if_neg (by omega)]
    have e : saveM D k x = saveFrom x k ((x.length + 63) / 64) 0 D := by
      unfold saveM
      rw [hsp D h.down rfl, if_neg (by decide)]
    obtain ⟨_, r2, r3, r4⟩ := calm_saveFrom x k ((x.length + 63) / 64) 0 D h h0 (by omega)
    rw [e]
    refine ⟨r4, r3, hsp _ r4.down r3, fun i hi => ?_⟩
    unfold readM
    rw [r2]
    have e2 : (List.range ((x.length + 63) / 64)).map (fun j => (k + ((0 + j : Nat) : Int), secAt x (0 + j))) = (List.range ((x.length + 63) / 64)).map (fun j : Nat => (k + (j : Int), secAt x j)) := by simp
    rw [e2, List.length_append, List.length_map, List.length_range]
    exact readTo_app k (secAt x) D.held _ _ i _ (Nat.le_refl _) hi
  · omega
/-- What was saved is loaded. -/
theorem saved_reads (hr : ∀ i, i < (x.length + 63) / 64 → readM D (k + (i : Nat)) = secAt x i) : (readsTo D k ((x.length + 63) / 64)).take x.length = x := by
  rw [reads_take k x _ hr (by omega), List.take_of_length_le (by omega)]
end Go.Proofs.YtmblnflfklmmkaaDoor.Dk
/- Plain facts about stores: what a Put leaves on a disk whose power does not go. -/
namespace Go.Proofs.YtmblnflfklmmkaaDoor.Sh
open Go.Proofs.YtmblnflfklmmkaaDoor.Dk
open Go.RowKit Go.Proofs.YtmblnflfklmmkaaDoorW.PrintWords Go.Proofs.YtmblnflfklmmkaaDoorW.PrintLast Go.Proofs.YtmblnflfklmmkaaDoorW.PrintMore
set_option linter.unusedVariables false
set_option linter.unusedSimpArgs false
set_option maxRecDepth 30000
variable {D D' : DM} {fr n q k g : Int} {x y b : List Int}
def secN (x : List Int) : Nat := (x.length + 63) / 64
theorem readTo_skip (k : Int) (H K : List (Int × List Int)) (s : List Int) (hK : ∀ h ∈ K, h.1 ≠ k) : ∀ j, j ≤ K.length → readTo k (H ++ K) s (H.length + j) = readTo k H s H.length
  | 0, _ => by
    have : ∀ i, i ≤ H.length → readTo k (H ++ K) s i = readTo k H s i := by
      intro i
      induction i with
      | zero => intro _; rfl
      | succ i ih =>
        intro hi
        have e : (H ++ K).getD i (0, []) = H.getD i (0, []) := by
          rw [List.getD_eq_getElem?_getD, List.getElem?_append_left (by omega), ← List.getD_eq_getElem?_getD]
        rw [readTo, readTo, e, ih (by omega)]
    exact this _ (Nat.le_refl _)
  | j + 1, hj => by
    have e : (H ++ K).getD (H.length + j) (0, []) = K.getD j (0, []) := by
      rw [List.getD_eq_getElem?_getD, List.getElem?_append_right (by omega), Nat.add_sub_cancel_left, ← List.getD_eq_getElem?_getD]
    rw [← Nat.add_assoc, readTo, e, if_neg]
    · exact readTo_skip k H K s hK j (by omega)
    · rw [List.getD_eq_getElem?_getD, List.getElem?_eq_getElem (by omega), Option.getD_some]
      exact hK _ (List.getElem_mem _)
/-- One step on a disk whose power does not go. -/
structure Stepped (D D' : DM) (q : Int) (x : List Int) : Prop where
  calm : Dk.Calm D'
  len : D'.sec.length = D.sec.length
  held : D'.held = []
  ok : DOk D'
  own : ∀ i, i < secN x → readM D' (q + (i : Nat)) = secAt x i
  other : ∀ k, 0 ≤ k → (k < q ∨ q + (secN x : Nat) ≤ k) → readM D' k = readM D k
theorem calm_step (h : Dk.Calm D) (hok : DOk D) (h0 : 0 ≤ q) (h1 : q + (secN x : Nat) ≤ (D.sec.length : Int)) (hn : D.held.length + x.length ≤ 10000000) : (stepM D q x).2 = 0 ∧ Stepped D (stepM D q x).1 q x := by
  have hsp : spanM D q x.length = 0 := by
    unfold spanM
    rw [h.down, if_neg (by decide), need_nat, if_neg (by have : ((x.length + 63) / 64 : Nat) = secN x := rfl; omega)]
  have e : saveM D q x = saveFrom x q (secN x) 0 D := by
    unfold saveM
    rw [hsp, if_neg (by decide)]
    rfl
  obtain ⟨r1, r2, r3, r4⟩ := calm_saveFrom x q (secN x) 0 D h h0 (by omega)
  rw [← e] at r1 r2 r3 r4
  have hs := calm_saved h h0 (by omega) r1
  have hok1 := saveM_ok (k := q) (x := x) hok hn
  obtain ⟨f1, f2, f3, f4⟩ := calm_flush r4
  have em : stepM D q x = flushM (saveM D q x).1 := by rw [stepM, r1, if_neg (by decide)]
  rw [em]
  refine ⟨f1, f4, by rw [f3, putsTo_length, r3], f2, flushM_ok hok1, fun i hi => ?_, fun k hk hd => ?_⟩
  · rw [flush_read r4 hok1 (by omega)]
    exact hs.2.2.2 i hi
  · rw [flush_read r4 hok1 hk]
    unfold readM
    rw [r2, r3, List.length_append, List.length_map, List.length_range]
    refine readTo_skip k D.held _ _ (fun h hh => ?_) (secN x) (by simp)
    rw [List.mem_map] at hh
    obtain ⟨j, hj, rfl⟩ := hh
    rw [List.mem_range] at hj
    simp only
    omega
theorem secAt_self (hx : x.length = 64) : secAt x 0 = x := by
  simp [secAt, hx, List.take_of_length_le]
theorem secN_64 (hx : x.length = 64) : secN x = 1 := by simp [secN, hx]
/-- All three steps. -/
structure Put3 (D D' : DM) (q : Int) (x h : List Int) : Prop where
  calm : Dk.Calm D'
  len : D'.sec.length = D.sec.length
  held : D'.held = []
  ok : DOk D'
  head : readM D' q = h
  own : ∀ i, i < secN x → readM D' (q + 1 + (i : Nat)) = secAt x i
  other : ∀ k, 0 ≤ k → (k < q ∨ q + 1 + (secN x : Nat) ≤ k) → readM D' k = readM D k
theorem calm_put3 {h : List Int} (hc : Dk.Calm D) (hok : DOk D) (h0 : 0 ≤ q) (h1 : q + 1 + (secN x : Nat) ≤ (D.sec.length : Int)) (hn : D.held.length + 100 ≤ 10000000) (hx : x.length ≤ 1000000) (hh : h.length = 64) : (put3 D q x h).2 = 0 ∧ Put3 D (put3 D q x h).1 q x h := by
  have z1 : secN zer64 = 1 := secN_64 zer64_len
  obtain ⟨a1, a2⟩ := calm_step (x := zer64) hc hok h0 (by rw [z1]; omega) (by rw [zer64_len]; omega)
  have hl1 := a2.len
  obtain ⟨b1, b2⟩ := calm_step (q := q + 1) (x := x) a2.calm a2.ok (by omega) (by rw [hl1]; omega) (by rw [a2.held]; simp; omega)
  have hl2 := b2.len
  obtain ⟨c1, c2⟩ := calm_step (q := q) (x := h) b2.calm b2.ok h0 (by rw [hl2, hl1, secN_64 hh]; omega) (by rw [b2.held, hh]; simp)
  have e : put3 D q x h = stepM (stepM (stepM D q zer64).1 (q + 1) x).1 q h := by
    unfold put3
    rw [a1, if_neg (by decide), b1, if_neg (by decide)]
  rw [e]
  have z2 := secN_64 hh
  refine ⟨c1, c2.calm, by rw [c2.len, hl2, hl1], c2.held, c2.ok, ?_, fun i hi => ?_, fun k hk hd => ?_⟩
  · have := c2.own 0 (by rw [z2]; decide)
    rw [secAt_self hh] at this
    simpa using this
  · rw [c2.other _ (by omega) (by rw [z2]; omega)]
    exact b2.own i hi
  · rw [c2.other _ hk (by rw [z2]; omega), b2.other _ hk (by omega), a2.other _ hk (by rw [z1]; omega)]
/-! ### Heads -/
theorem putR_split (hs : List Int) (o m : Nat) (n : Int) (hm : o + m ≤ hs.length) : ∀ j, j ≤ m → putR hs o m n j = hs.take (o + (m - j)) ++ beM j n ++ hs.drop (o + m)
  | 0, _ => by simp [putR, beM]
  | j + 1, hj => by
    rw [putR, putR_split hs o m n hm j (by omega)]
    have e : m - j = (m - 1 - j) + 1 := by omega
    have e2 : m - (j + 1) = m - 1 - j := by omega
    rw [e, e2, ← Nat.add_assoc, List.take_succ_eq_append_getElem (by omega)]
    have hb : beM (j + 1) n = shN n j % 256 :: beM j n := by
      have : ∀ (j : Nat) (n : Int), beM (j + 1) n = shN n j % 256 :: beM j n := by
        intro j
        induction j with
        | zero => intro n; rfl
        | succ j ih =>
          intro n
          have hsh : ∀ (j : Nat) (n : Int), shN (n / 256) j = shN n (j + 1) := by
            intro j
            induction j with
            | zero => intro n; rfl
            | succ j ih =>
              intro n
              show shN (n / 256) j / 256 = shN n (j + 1) / 256
              rw [ih]
          rw [beM, ih, hsh]
          rfl
      exact this j n
    rw [hb]
    simp only [List.append_assoc, List.singleton_append, List.cons_append]
    rw [List.set_append_right _ _ (by rw [List.length_take]; omega)]
    have e3 : o + (m - 1 - j) - (List.take (o + (m - 1 - j)) hs).length = 0 := by rw [List.length_take]; omega
    rw [e3, List.set_cons_zero]
    simp only [List.nil_append]
theorem putR_all (hs : List Int) (o m : Nat) (n : Int) (hm : o + m ≤ hs.length) : putR hs o m n m = hs.take o ++ beM m n ++ hs.drop (o + m) := by
  have := putR_split hs o m n hm m (Nat.le_refl _)
  simpa using this
theorem headM_eq (g : Int) (y : List Int) : headM g y = [73, 77, 80, 82] ++ beM 8 g ++ beM 4 y.length ++ digestM (beM 8 g) y ++ List.replicate 16 0 := by
  have h8 := beM_length 8 g
  have h4 := beM_length 4 (y.length : Int)
  have e1 : putR mark60 4 8 g 8 = [73, 77, 80, 82] ++ beM 8 g ++ List.replicate 52 0 := by
    rw [putR_all mark60 4 8 g (by decide)]
    rfl
  have e2 : headR g y = [73, 77, 80, 82] ++ beM 8 g ++ beM 4 y.length ++ List.replicate 48 0 := by
    rw [headR, e1, putR_all _ 12 4 _ (by simp [h8])]
    simp [List.take_append, List.drop_append, h8, List.take_of_length_le, List.drop_of_length_le]
  have e3 : hgen (headR g y) = beM 8 g := by
    rw [hgen, e2]
    simp [List.take_append, List.drop_append, h8, List.take_of_length_le, List.drop_of_length_le]
  rw [headM, e3, e2]
  simp [List.take_append, List.drop_append, h8, h4, List.take_of_length_le, List.drop_of_length_le]
theorem or_add (a c : Int) (h0 : 0 ≤ a) (h1 : a ≤ 72057594037927935) (h2 : 0 ≤ c) (h3 : c ≤ 255) : num1 a c = a * 256 + c := by
  obtain ⟨a, rfl⟩ := Int.eq_ofNat_of_zero_le h0
  obtain ⟨c, rfl⟩ := Int.eq_ofNat_of_zero_le h2
  have wa : IntKind.u64.wrap ((a : Int) * 256) = ((a * 256 : Nat) : Int) := by
    have e : IntKind.u64.wrap ((a : Int) * 256) = ((a : Int) * 256) % 18446744073709551616 := by simp [IntKind.wrap, IntKind.signed, IntKind.bits]
    rw [e]; omega
  have wc : IntKind.u64.wrap (c : Int) = (c : Int) := by
    have e : IntKind.u64.wrap (c : Int) = (c : Int) % 18446744073709551616 := by simp [IntKind.wrap, IntKind.signed, IntKind.bits]
    rw [e]; omega
  rw [num1, wa, wc]
  have hor : (a * 256) ||| c = a * 256 + c := by
    have := Nat.shiftLeft_add_eq_or_of_lt (b := c) (i := 8) (by omega) a
    rw [Nat.shiftLeft_eq] at this
    exact this.symm
  have e2 : IntKind.u64.wrap (((a * 256 + c : Nat) : Int)) = ((a * 256 + c : Nat) : Int) := by
    have e : IntKind.u64.wrap (((a * 256 + c : Nat) : Int)) = (((a * 256 + c : Nat) : Int)) % 18446744073709551616 := by simp [IntKind.wrap, IntKind.signed, IntKind.bits]
    rw [e]; omega
  have hb : (BitVec.ofInt IntKind.u64.bits ((a * 256 : Nat) : Int) ||| BitVec.ofInt IntKind.u64.bits (c : Int)).toNat = a * 256 + c := by
    rw [BitVec.toNat_or, BitVec.toNat_ofInt, BitVec.toNat_ofInt]
    have hbits : IntKind.u64.bits = 64 := rfl
    rw [hbits]
    have e1 : (((a * 256 : Nat) : Int) % ((2 ^ 64 : Nat) : Int)).toNat = a * 256 := by omega
    have e2 : ((c : Int) % ((2 ^ 64 : Nat) : Int)).toNat = c := by omega
    rw [e1, e2, hor]
  unfold Go.bits
  simp only [hb]
  rw [e2]
  omega
theorem numM_be : ∀ (m : Nat) (n : Int), m ≤ 8 → 0 ≤ n → n < 256 ^ m → numM (beM m n) = n
  | 0, n, _, h0, h1 => by
    have : n = 0 := by simp at h1; omega
    rw [this]; rfl
  | m + 1, n, hm, h0, h1 => by
    have hp : (256 : Int) ^ (m + 1) = 256 ^ m * 256 := by rw [Int.pow_succ]
    have ih := numM_be m (n / 256) (by omega) (by omega) (by rw [hp] at h1; omega)
    have hle : n / 256 ≤ 72057594037927935 := by
      have : (256 : Int) ^ m ≤ 256 ^ 7 := by
        have h := Nat.pow_le_pow_right (n := 256) (by decide) (show m ≤ 7 by omega)
        exact_mod_cast h
      rw [hp] at h1
      have h7 : (256 : Int) ^ 7 = 72057594037927936 := by decide
      omega
    rw [beM]
    unfold numM at ih ⊢
    rw [List.foldl_append, ih]
    show num1 (n / 256) (n % 256) = n
    rw [or_add _ _ (by omega) hle (by omega) (by omega)]
    omega
theorem hdG_head (h0 : 0 ≤ g) (h1 : g ≤ 18446744073709551615) : hdG (headM g y) = g := by
  have h8 := beM_length 8 g
  have e : ((headM g y).drop 4).take 8 = beM 8 g := by
    rw [headM_eq]
    simp [List.take_append, List.drop_append, h8, List.take_of_length_le, List.drop_of_length_le]
  rw [hdG, e]
  exact numM_be 8 g (by decide) h0 (by have : (256 : Int) ^ 8 = 18446744073709551616 := by decide
                                       omega)
theorem hdN_head (hy : y.length ≤ 1000000) : hdN (headM g y) = y.length := by
  have h8 := beM_length 8 g
  have h4 := beM_length 4 (y.length : Int)
  have e : ((headM g y).drop 12).take 4 = beM 4 y.length := by
    rw [headM_eq]
    simp [List.take_append, List.drop_append, h8, h4, List.take_of_length_le, List.drop_of_length_le]
  rw [hdN, e]
  exact numM_be 4 _ (by decide) (by omega) (by have : (256 : Int) ^ 4 = 4294967296 := by decide
                                               omega)
end Go.Proofs.YtmblnflfklmmkaaDoor.Sh
/- Plain facts: the reference's digest as lists; it is the program's. -/
namespace Go.Proofs.YtmblnflfklmmkaaDoor.Sh
open Go.Proofs.YtmblnflfklmmkaaDoor.Dk Go.Proofs.YtmblnflfklmmkaaDoor.P
open Go.RowKit Go.Proofs.YtmblnflfklmmkaaDoorW.PrintWords Go.Proofs.YtmblnflfklmmkaaDoorW.PrintLast Go.Proofs.YtmblnflfklmmkaaDoorW.PrintMore
set_option linter.unusedVariables false
set_option linter.unusedSimpArgs false
set_option maxRecDepth 30000
/-! ### Totality: what the reference reckons, of whatever numbers -/
theorem cut_some (x : Int) : imprimaturref02_Words_cut.f 4294967296 32 x = some (Int.tmod x 4294967296) := by
  unfold imprimaturref02_Words_cut.f
  rw [if_neg (by decide)]
def turnR (x b : Int) : Int := Int.tmod (Go.bits .or .u64 (shr .u64 x b) (shl .u64 x (IntKind.u64.wrap (32 - b)))) 4294967296
theorem turn_some (x : Int) {b : Int} (h0 : 0 ≤ b) (h1 : b ≤ 32) : imprimaturref02_Words_turn.f 4294967296 32 x b = some (turnR x b) := by
  have hw : 0 ≤ IntKind.u64.wrap (32 - b) := by rw [wrap64u]; omega
  unfold imprimaturref02_Words_turn.f turnR
  rw [if_pos h0, if_pos hw, cut_some]
  rfl
def smallR (x a b c : Int) : Int := Go.bits .xor .u64 (Go.bits .xor .u64 (turnR x a) (turnR x b)) (shr .u64 x c)
theorem small_some (x : Int) {a b c : Int} (a0 : 0 ≤ a) (a1 : a ≤ 32) (b0 : 0 ≤ b) (b1 : b ≤ 32) (c0 : 0 ≤ c) : imprimaturref02_Words_small.f 4294967296 32 x a b c = some (smallR x a b c) := by
  unfold imprimaturref02_Words_small.f smallR
  rw [turn_some x a0 a1, turn_some x b0 b1, Option.bind_some, Option.bind_some, if_pos c0]
def bigR (x a b c : Int) : Int := Go.bits .xor .u64 (Go.bits .xor .u64 (turnR x a) (turnR x b)) (turnR x c)
theorem big_some (x : Int) {a b c : Int} (a0 : 0 ≤ a) (a1 : a ≤ 32) (b0 : 0 ≤ b) (b1 : b ≤ 32) (c0 : 0 ≤ c) (c1 : c ≤ 32) : imprimaturref02_Words_big.f 4294967296 32 x a b c = some (bigR x a b c) := by
  unfold imprimaturref02_Words_big.f bigR
  rw [turn_some x a0 a1, turn_some x b0 b1, turn_some x c0 c1, Option.bind_some, Option.bind_some, Option.bind_some]
/-- A round's eight words. -/
def roundR (v : List Int) (k x : Int) : List Int := (imprimaturref02_Words_round.f 4294967296 32 v k x).getD []
theorem round_some {v : List Int} (hl : v.length = 8) (k x : Int) : imprimaturref02_Words_round.f 4294967296 32 v k x = some (roundR v k x) ∧ (roundR v k x).length = 8 := by
  have l0 : 0 < (v.length : Int) := by omega
  have l1 : 1 < (v.length : Int) := by omega
  have l2 : 2 < (v.length : Int) := by omega
  have l3 : 3 < (v.length : Int) := by omega
  have l4 : 4 < (v.length : Int) := by omega
  have l5 : 5 < (v.length : Int) := by omega
  have l6 : 6 < (v.length : Int) := by omega
  have l7 : 7 < (v.length : Int) := by omega
  have : ∃ r, imprimaturref02_Words_round.f 4294967296 32 v k x = some r ∧ r.length = 8 := by
    unfold imprimaturref02_Words_round.f
    rw [if_pos l0, if_pos l1, if_pos l2, if_pos l4, if_pos l5, if_pos l6, if_neg (by decide), big_some _ (by decide) (by decide) (by decide) (by decide) (by decide) (by decide), Option.bind_some, big_some _ (by decide) (by decide) (by decide) (by decide) (by decide) (by decide), Option.bind_some]
    rw [cut_some, Option.bind_some, if_pos l7, cut_some, Option.bind_some, if_pos l3, cut_some, Option.bind_some]
    exact ⟨_, rfl, rfl⟩
  obtain ⟨r, h1, h2⟩ := this
  unfold roundR
  rw [h1]
  exact ⟨rfl, h2⟩
/-- A byte goes into a word. -/
def inU (x c : Int) : Int := IntKind.u64.wrap (IntKind.u64.wrap (x * 256) + IntKind.u64.wrap c)
def w4R (b : List Int) (t : Nat) : Int := inU (inU (inU (inU 0 (b.getD (t * 4) 0)) (b.getD (t * 4 + 1) 0)) (b.getD (t * 4 + 2) 0)) (b.getD (t * 4 + 3) 0)
def nxtR (l : List Int) (t : Nat) : Int := Int.tmod (IntKind.u64.wrap (IntKind.u64.wrap (IntKind.u64.wrap (l.getD (t - 16) 0 + l.getD (t - 7) 0) + smallR (l.getD (t - 15) 0) 7 18 3) + smallR (l.getD (t - 2) 0) 17 19 10)) 4294967296
def expR (b : List Int) : Nat → List Int
  | 0 => []
  | t + 1 => expR b t ++ [if t < 16 then w4R b t else nxtR (expR b t) t]
theorem expR_length (b : List Int) : ∀ t, (expR b t).length = t
  | 0 => rfl
  | t + 1 => by rw [expR, List.length_append, expR_length b t]; rfl
theorem w64 {i : Int} (h0 : 0 ≤ i) (h1 : i ≤ 100000000) : wrap64 i = i := by simp only [wrap64]; omega
theorem exp_step {b : List Int} (hb : b.length = 64) (m t : Nat) (ht : t < 16) (x6 : List Int) (hx : x6.length = t) :
    imprimaturref02_Words_expand.l0 (m + 6) b 4 x6 t 4294967296 32 = imprimaturref02_Words_expand.l0 m b 4 (x6 ++ [w4R b t]) ((t + 1 : Nat) : Int) 4294967296 32 := by
  have c1 : (t : Int) < 16 := by omega
  have p0 : (0 : Int) ≤ ((t * 4 : Nat) : Int) := by omega
  have p1 : (0 : Int) ≤ ((t * 4 + 1 : Nat) : Int) := by omega
  have p2 : (0 : Int) ≤ ((t * 4 + 2 : Nat) : Int) := by omega
  have p3 : (0 : Int) ≤ ((t * 4 + 3 : Nat) : Int) := by omega
  have q0 : ((t * 4 : Nat) : Int) < (b.length : Int) := by omega
  have q1 : ((t * 4 + 1 : Nat) : Int) < (b.length : Int) := by omega
  have q2 : ((t * 4 + 2 : Nat) : Int) < (b.length : Int) := by omega
  have q3 : ((t * 4 + 3 : Nat) : Int) < (b.length : Int) := by omega
  have c2 : x6.length < 17592186044416 := by omega
  have et : wrap64 ((t : Int) + 1) = ((t + 1 : Nat) : Int) := by rw [w64 (by omega) (by omega)]; omega
  have e0 : wrap64 (wrap64 ((t : Int) * 4) + 0) = ((t * 4 : Nat) : Int) := by rw [w64 (i := (t : Int) * 4) (by omega) (by omega), w64 (by omega) (by omega)]; omega
  have e1 : wrap64 (wrap64 ((t : Int) * 4) + 1) = ((t * 4 + 1 : Nat) : Int) := by rw [w64 (i := (t : Int) * 4) (by omega) (by omega), w64 (by omega) (by omega)]; omega
  have e2 : wrap64 (wrap64 ((t : Int) * 4) + 2) = ((t * 4 + 2 : Nat) : Int) := by rw [w64 (i := (t : Int) * 4) (by omega) (by omega), w64 (by omega) (by omega)]; omega
  have e3 : wrap64 (wrap64 ((t : Int) * 4) + 3) = ((t * 4 + 3 : Nat) : Int) := by rw [w64 (i := (t : Int) * 4) (by omega) (by omega), w64 (by omega) (by omega)]; omega
  have d0 : wrap64 (0 + 1) = 1 := by kernel_rfl
  have d1 : wrap64 (1 + 1) = 2 := by kernel_rfl
  have d2 : wrap64 (2 + 1) = 3 := by kernel_rfl
  have d3 : wrap64 (3 + 1) = 4 := by kernel_rfl
  have r (i : Nat) : rd b (i : Int) = b.getD i 0 := by unfold rd; rw [Int.toNat_natCast]
  rw [imprimaturref02_Words_expand.l0, if_pos c1]
  rw [imprimaturref02_Words_expand.l1, if_pos (by decide), e0, if_pos p0, if_pos q0, d0]
  rw [imprimaturref02_Words_expand.l1, if_pos (by decide), e1, if_pos p1, if_pos q1, d1]
  rw [imprimaturref02_Words_expand.l1, if_pos (by decide), e2, if_pos p2, if_pos q2, d2]
  rw [imprimaturref02_Words_expand.l1, if_pos (by decide), e3, if_pos p3, if_pos q3, d3]
  rw [imprimaturref02_Words_expand.l1, if_neg (by decide), if_pos c2, et]
  rw [r, r, r, r]
  rfl
theorem exp_first {b : List Int} (hb : b.length = 64) : ∀ n m t, t + n = 16 → imprimaturref02_Words_expand.l0 (m + n * 6) b 4 (expR b t) t 4294967296 32 = imprimaturref02_Words_expand.l0 m b 4 (expR b 16) ((16 : Nat) : Int) 4294967296 32
  | 0, m, t, h => by
    obtain rfl : t = 16 := by omega
    rfl
  | n + 1, m, t, h => by
    rw [show m + (n + 1) * 6 = (m + n * 6) + 6 by omega, exp_step hb (m + n * 6) t (by omega) _ (expR_length b t)]
    have e : expR b t ++ [w4R b t] = expR b (t + 1) := by rw [expR, if_pos (by omega)]
    rw [e]
    exact exp_first hb n m (t + 1) (by omega)
theorem exp_next (m t : Nat) (h0 : 16 ≤ t) (h1 : t < 64) (x6 : List Int) (hx : x6.length = t) :
    imprimaturref02_Words_expand.l2 (m + 1) x6 64 t 4294967296 32 = imprimaturref02_Words_expand.l2 m (x6 ++ [nxtR x6 t]) 64 ((t + 1 : Nat) : Int) 4294967296 32 := by
  have c1 : (t : Int) < 64 := by omega
  have p16 : (0 : Int) ≤ ((t - 16 : Nat) : Int) := by omega
  have p15 : (0 : Int) ≤ ((t - 15 : Nat) : Int) := by omega
  have p7 : (0 : Int) ≤ ((t - 7 : Nat) : Int) := by omega
  have p2 : (0 : Int) ≤ ((t - 2 : Nat) : Int) := by omega
  have q16 : ((t - 16 : Nat) : Int) < (x6.length : Int) := by omega
  have q15 : ((t - 15 : Nat) : Int) < (x6.length : Int) := by omega
  have q7 : ((t - 7 : Nat) : Int) < (x6.length : Int) := by omega
  have q2 : ((t - 2 : Nat) : Int) < (x6.length : Int) := by omega
  have c2 : x6.length < 17592186044416 := by omega
  have e16 : wrap64 ((t : Int) - 16) = ((t - 16 : Nat) : Int) := by rw [w64 (by omega) (by omega)]; omega
  have e15 : wrap64 ((t : Int) - 15) = ((t - 15 : Nat) : Int) := by rw [w64 (by omega) (by omega)]; omega
  have e7 : wrap64 ((t : Int) - 7) = ((t - 7 : Nat) : Int) := by rw [w64 (by omega) (by omega)]; omega
  have e2 : wrap64 ((t : Int) - 2) = ((t - 2 : Nat) : Int) := by rw [w64 (by omega) (by omega)]; omega
  have et : wrap64 ((t : Int) + 1) = ((t + 1 : Nat) : Int) := by rw [w64 (by omega) (by omega)]; omega
  have r (i : Nat) : rd x6 (i : Int) = x6.getD i 0 := by unfold rd; rw [Int.toNat_natCast]
  rw [imprimaturref02_Words_expand.l2, if_pos c1, e16, if_pos p16, if_pos q16, e7, if_pos p7, if_pos q7, if_neg (by decide), e15, if_pos p15, if_pos q15]
  rw [small_some _ (by decide) (by decide) (by decide) (by decide) (by decide), Option.bind_some, e2, if_pos p2, if_pos q2]
  rw [small_some _ (by decide) (by decide) (by decide) (by decide) (by decide), Option.bind_some, cut_some, Option.bind_some, if_pos c2, et]
  rw [r, r, r, r]
  rfl
theorem exp_last (b : List Int) : ∀ n m t, 16 ≤ t → t + n = 64 → imprimaturref02_Words_expand.l2 (m + n + 1) (expR b t) 64 t 4294967296 32 = some (expR b 64)
  | 0, m, t, h0, h => by
    obtain rfl : t = 64 := by omega
    rw [imprimaturref02_Words_expand.l2, if_neg (by decide)]
  | n + 1, m, t, h0, h => by
    rw [show m + (n + 1) + 1 = (m + n + 1) + 1 by omega, exp_next (m + n + 1) t h0 (by omega) _ (expR_length b t)]
    have e : expR b t ++ [nxtR (expR b t) t] = expR b (t + 1) := by rw [expR, if_neg (by omega)]
    rw [e]
    exact exp_last b n m (t + 1) (by omega) (by omega)
theorem exp_some {b : List Int} (hb : b.length = 64) : ∃ k, imprimaturref02_Words_expand.f k 4294967296 32 b = some (expR b 64) := by
  refine ⟨(0 + 48 + 1) + 1 + 1 + 16 * 6, ?_⟩
  unfold imprimaturref02_Words_expand.f
  have e4 : wrap64 (IntKind.u64.wrap (Int.tdiv 32 8)) = 4 := by kernel_rfl
  rw [e4]
  have h := exp_first hb 16 ((0 + 48 + 1) + 1 + 1) 0 rfl
  refine h.trans ?_
  rw [imprimaturref02_Words_expand.l0, if_neg (by decide), if_neg (by decide), imprimaturref02_Words_expand.j2]
  exact exp_last b 48 0 16 (by decide) (by decide)
/-! ### Padding -/
theorem shN_pow (n : Int) : ∀ j, shN n j = n / 2 ^ (8 * j)
  | 0 => by simp [shN]
  | j + 1 => by
    rw [shN, shN_pow n j, Int.ediv_ediv_of_nonneg (by exact Int.pow_nonneg (by decide))]
    rw [show 8 * (j + 1) = 8 * j + 8 by omega, Int.pow_add]
    rfl
theorem padR_put (n : Nat) : ∀ i, i ≤ 8 → padR n i = putR ((List.replicate (padN n) (0 : Int)).set 0 128) (padN n - 8) 8 (8 * (n : Int)) i
  | 0, _ => rfl
  | i + 1, h => by
    have hp : 9 ≤ padN n := by unfold padN; omega
    rw [padR, putR, padR_put n i (by omega), show padN n - 8 + (8 - 1 - i) = padN n - 1 - i by omega]
    congr 1
    unfold padB
    rw [shN_pow]
theorem padM_eq (n : Nat) : padM n = [128] ++ List.replicate (padN n - 9) 0 ++ beM 8 (8 * (n : Int)) := by
  have hp : 9 ≤ padN n := by unfold padN; omega
  obtain ⟨m, hm⟩ : ∃ m, padN n = m + 9 := ⟨padN n - 9, by omega⟩
  unfold padM
  rw [padR_put n 8 (by decide), putR_all _ _ _ _ (by simp; omega), hm]
  have e : (List.replicate (m + 9) (0 : Int)).set 0 128 = 128 :: List.replicate (m + 8) 0 := by
    rw [show m + 9 = (m + 8) + 1 by omega, List.replicate_succ, List.set_cons_zero]
  rw [e, show m + 9 - 8 = m + 1 by omega, show m + 9 - 9 = m by omega, List.take_succ_cons, List.take_replicate, show min m (m + 8) = m by omega, List.drop_of_length_le (by simp)]
  simp
theorem pad_tail (x8 : List Int) (hx : x8.length ≤ 1000) : ∀ j m (l : List Int) (x : Int), 0 ≤ x → x < 18446744073709551616 → l.length + j = 8 →
    imprimaturref02_Pad.l1 (m + j + 1) 8 x8 l x (l.length : Int) = some (x8 ++ (beM j x ++ l), 0)
  | 0, m, l, x, h0, h1, h => by
    rw [imprimaturref02_Pad.l1, if_neg (by omega), if_pos (by omega)]
    rfl
  | j + 1, m, l, x, h0, h1, h => by
    rw [show m + (j + 1) + 1 = (m + j + 1) + 1 by omega, imprimaturref02_Pad.l1, if_pos (by omega), Option.bind_some, if_pos (by simp; omega)]
    have e1 : Int.tmod x 256 % 256 = x % 256 := by rw [Int.tmod_eq_emod_of_nonneg h0]; omega
    have e2 : IntKind.u64.wrap (Int.tdiv x 256) = x / 256 := by rw [Int.tdiv_eq_ediv_of_nonneg h0, wrap64u]; omega
    have e3 : wrap64 ((l.length : Int) + 1) = (([x % 256] ++ l).length : Int) := by rw [w64 (by omega) (by omega)]; simp
    rw [e1, e2, e3, pad_tail x8 hx j m ([x % 256] ++ l) (x / 256) (by omega) (by omega) (by simp; omega), beM]
    simp
theorem pad_zeros (n : Nat) (hn : n ≤ 1048576) : ∀ d m (j : Nat), j + d = padN n - 9 →
    imprimaturref02_Pad.l0 (m + d + 1) n 64 8 ([128] ++ List.replicate j 0) = imprimaturref02_Pad.l1 (m) 8 ([128] ++ List.replicate (padN n - 9) 0) [] (IntKind.u64.wrap (IntKind.u64.wrap (n : Int) * 8)) 0 := by
  intro d
  induction d with
  | zero =>
    intro m j h
    have hj : j = padN n - 9 := by omega
    have hl : (([128] ++ List.replicate j (0 : Int)).length : Int) = 1 + j := by simp; omega
    have hz : Int.tmod (wrap64 (wrap64 ((n : Int) + (([128] ++ List.replicate j (0 : Int)).length : Int)) + 8)) 64 = 0 := by
      have hp : padN n = 9 + (64 - (n + 9) % 64) % 64 := rfl
      have hj2 : (j : Int) ≤ 100 := by omega
      rw [hl, w64 (i := (n : Int) + (1 + j)) (by omega) (by omega), w64 (by omega) (by omega), Int.tmod_eq_emod_of_nonneg (by omega)]
      omega
    rw [imprimaturref02_Pad.l0, if_neg (by decide), if_pos hz, hj]
  | succ d ih =>
    intro m j h
    have hl : (([128] ++ List.replicate j (0 : Int)).length : Int) = 1 + j := by simp; omega
    have hp : padN n = 9 + (64 - (n + 9) % 64) % 64 := rfl
    have hz : ¬ Int.tmod (wrap64 (wrap64 ((n : Int) + (([128] ++ List.replicate j (0 : Int)).length : Int)) + 8)) 64 = 0 := by
      have hj2 : (j : Int) ≤ 100 := by omega
      rw [hl, w64 (i := (n : Int) + (1 + j)) (by omega) (by omega), w64 (by omega) (by omega), Int.tmod_eq_emod_of_nonneg (by omega)]
      omega
    rw [show m + (d + 1) + 1 = (m + d + 1) + 1 by omega, imprimaturref02_Pad.l0, if_neg (by decide), if_neg hz, if_pos (by omega)]
    have e : [128] ++ List.replicate j (0 : Int) ++ [0] = [128] ++ List.replicate (j + 1) 0 := by rw [List.append_assoc, List.replicate_succ']
    rw [e]
    exact ih m (j + 1) (by omega)
theorem pad_some (n : Nat) (hn : n ≤ 1048576) : ∃ k, imprimaturref02_Pad.f k n 256 = some (padM n, 0) := by
  refine ⟨((0 + 8 + 1) + (padN n - 9) + 1) + 1, ?_⟩
  have e4 : wrap64 (Int.tdiv 256 4) = 64 := by kernel_rfl
  have e5 : wrap64 (Int.tdiv 256 32) = 8 := by kernel_rfl
  have hp : padN n = 9 + (64 - (n + 9) % 64) % 64 := rfl
  unfold imprimaturref02_Pad.f
  rw [if_pos rfl, imprimaturref02_Pad.j0, if_neg (by simp), if_neg (by omega), e4, e5]
  have h := pad_zeros n hn (padN n - 9) (0 + 8 + 1) 0 (by omega)
  rw [List.replicate_zero, List.append_nil] at h
  rw [h]
  have e6 : IntKind.u64.wrap (IntKind.u64.wrap (n : Int) * 8) = 8 * (n : Int) := by rw [wrap64u, wrap64u]; omega
  rw [e6]
  have h2 := pad_tail ([128] ++ List.replicate (padN n - 9) 0) (by simp; omega) 8 0 [] (8 * (n : Int)) (by omega) (by omega) rfl
  rw [padM_eq]
  simpa using h2
/-! ### The digest -/
def roundsR (h ws : List Int) : Nat → List Int
  | 0 => h
  | t + 1 => roundR (roundsR h ws t) (constsL.getD t 0) (ws.getD t 0)
theorem roundsR_length {h ws : List Int} (hh : h.length = 8) : ∀ t, (roundsR h ws t).length = 8
  | 0 => hh
  | t + 1 => (round_some (roundsR_length hh t) _ _).2
def nextR (h v : List Int) : Nat → List Int
  | 0 => []
  | i + 1 => nextR h v i ++ [Int.tmod (IntKind.u64.wrap (h.getD i 0 + v.getD i 0)) 4294967296]
theorem nextR_length (h v : List Int) : ∀ i, (nextR h v i).length = i
  | 0 => rfl
  | i + 1 => by rw [nextR, List.length_append, nextR_length h v i]; rfl
def blockR (h b : List Int) : List Int := nextR h (roundsR h (expR b 64) 64) 8
theorem blockR_length (h b : List Int) : (blockR h b).length = 8 := nextR_length _ _ 8
def foldR (all : List Int) (h : List Int) : Nat → List Int
  | 0 => h
  | i + 1 => blockR (foldR all h i) ((all.drop (i * 64)).take 64)
theorem foldR_length {all h : List Int} (hh : h.length = 8) : ∀ i, (foldR all h i).length = 8
  | 0 => hh
  | i + 1 => blockR_length _ _
def startR (l : List Int) : Nat → List Int
  | 0 => l
  | i + 1 => (startR l i).set i (IntKind.u64.wrap (Int.tdiv ((startR l i).getD i 0) 4294967296))
theorem startR_length (l : List Int) : ∀ i, (startR l i).length = l.length
  | 0 => rfl
  | i + 1 => by rw [startR, List.length_set, startR_length l i]
def tellR (h : List Int) : Nat → List Int
  | 0 => []
  | i + 1 => tellR h i ++ [h.getD i 0 / 16777216 % 256, h.getD i 0 / 65536 % 256, h.getD i 0 / 256 % 256, h.getD i 0 % 256]
theorem tellR_length (h : List Int) : ∀ i, (tellR h i).length = 4 * i
  | 0 => rfl
  | i + 1 => by rw [tellR, List.length_append, tellR_length h i]; rfl
def hashR (b : List Int) : List Int := tellR (foldR (b ++ padM b.length) (startR startsL 8) ((b.length + padN b.length) / 64)) 8
theorem hashR_length (b : List Int) : (hashR b).length = 32 := tellR_length _ 8
end Go.Proofs.YtmblnflfklmmkaaDoor.Sh
/- Rows of 64-bit words: read, of one's own, appended to. -/
namespace Go.Proofs.YtmblnflfklmmkaaDoor.Sh
open Go.Proofs.YtmblnflfklmmkaaDoor.Dk
open Go.RowKit Go.Proofs.YtmblnflfklmmkaaDoorW.PrintWords Go.Proofs.YtmblnflfklmmkaaDoorW.PrintLast Go.Proofs.YtmblnflfklmmkaaDoorW.PrintMore
set_option linter.unusedVariables false
set_option linter.unusedSimpArgs false
variable {w w1 w2 : World} {q g c : Nat} {v : Value} {xs ys : List Int}
theorem infoQ : (Tryd.prog.info? 27).map (fun i => (i.zero, i.size, i.bytes)) = some (some (.int .u64 0), 1, 8) := by kernel_rfl
/-- A row of words of one's own, in blocks from q on. -/
def RowQ (w : World) (q : Nat) (v : Value) (xs : List Int) : Prop := Kd.R (Kd.int .u64) 27 w q (fun k => q ≤ k) v xs
theorem RowQ.nil (w : World) (q : Nat) : RowQ w q (.slice none 0 0) [] := Kd.R_nil _ _ _ _ _
theorem RowQ.below (h : RowQ w q v xs) (hb : Below w.heap.size w w1) : RowQ w1 q v xs := Kd.R_below h hb
theorem RowQ.of {ok : Nat → Prop} (h : Kd.R (Kd.int .u64) 27 w q ok v xs) : RowQ w q v xs := Kd.R_mono (Kd.R_bound h) (fun k hk => hk.2.1)
theorem Row8.of {ok : Nat → Prop} (h : Kd.R (Kd.int .u8) 5 w q ok v xs) : Row8 w q v xs := Kd.R_mono (Kd.R_bound h) (fun k hk => hk.2.1)
/-- Words that can be read, in block g. -/
structure RdQ (w : World) (q g c : Nat) (xs : List Int) : Prop where
  C : Kd.C (Kd.int .u64) w (some ⟨g, 0, none⟩) xs.length xs
  le : xs.length ≤ c
  lo : q ≤ g
  lt : g < w.heap.size
  blk : ∃ cells, w.heap[g]? = some (.cells cells 27 (0, 0))
  cell : ∀ j, j < xs.length → w.cell? ⟨g, j, none⟩ = some (.int .u64 (xs.getD j 0))
theorem RdQ.below (h : RdQ w q g c xs) (hb : Below w.heap.size w w1) : RdQ w1 q g c xs where
  C := Kd.C_below h.C hb
  le := h.le
  lo := h.lo
  lt := Nat.lt_of_lt_of_le h.lt hb.size
  blk := by obtain ⟨cells, hc⟩ := h.blk; exact ⟨cells, (hb.block g h.lt).trans hc⟩
  cell := fun j hj => (cell_block (hb.block g h.lt) j).trans (h.cell j hj)
theorem RdQ.upd {G : Nat → Prop} (h : RdQ w q g c xs) (hu : Upd w w1 G) (hg : ¬ G g) : RdQ w1 q g c xs where
  C := by
    obtain ⟨h1, h2, h3⟩ := h.C
    refine ⟨h1, h2, fun hp => ?_⟩
    obtain ⟨ad, hA, hc⟩ := h3 hp
    refine ⟨ad, hA, fun j p hj => ?_⟩
    obtain ⟨c, e1, e2, e3⟩ := hc j p hj
    refine ⟨c, e1, e2, fun i u hi => ?_⟩
    injection hA with hA
    subst hA
    rw [← e3 i u hi]
    unfold World.cell?
    rw [show (Addr.add ⟨g, 0, none⟩ (j * (Kd.int .u64).sz + i)).block = g by unfold Addr.add; split <;> rfl, hu.block g h.lt hg]
  le := h.le
  lo := h.lo
  lt := Nat.lt_of_lt_of_le h.lt hu.size
  blk := by obtain ⟨cells, hc⟩ := h.blk; exact ⟨cells, (hu.block g h.lt hg).trans hc⟩
  cell := fun j hj => (cell_block (hu.block g h.lt hg) j).trans (h.cell j hj)
theorem RdQ.lower {p : Nat} (h : RdQ w q g c xs) (hp : p ≤ q) : RdQ w p g c xs := ⟨h.C, h.le, Nat.le_trans hp h.lo, h.lt, h.blk, h.cell⟩
theorem RowQ.rd (h : RowQ w q v xs) (hp : 0 < xs.length) : ∃ g c, v = .slice (some ⟨g, 0, none⟩) xs.length c ∧ RdQ w q g c xs := by
  obtain ⟨g, c, rfl, h1, h2, h3⟩ := Kd.R_form h hp
  refine ⟨g, c, rfl, ⟨(Kd.R_reads' h).2.2, (Kd.R_reads' h).2.1, h1, h2, h3, fun j hj => ?_⟩⟩
  obtain ⟨ad, c', e, hsz, hK, hx⟩ := Kd.C_get (Kd.R_reads' h).2.2 0 (j : Int) (by omega) (by show (j : Int) < (xs.length : Int); omega)
  injection e with e
  subst e
  have := hx 0 (.int .u64 (xs.getD j 0)) (by rw [hK, Int.toNat_natCast]; rfl)
  rw [add0] at this
  simpa [Kd.int, Kd.scalar] using this
theorem RowQ.rd' {n : Nat} (h : RowQ w q (.slice (some ⟨g, 0, none⟩) n c) xs) (hp : 0 < xs.length) : RdQ w q g c xs := by
  obtain ⟨g', c', e, h⟩ := h.rd hp
  injection e with e1 e2 e3
  injection e1 with e1
  injection e1 with e1
  subst e1; subst e3
  exact h
theorem RowQ.put {n : Nat} (h : RowQ w q (.slice (some ⟨g, 0, none⟩) n c) xs) (i : Nat) (x : Int) : RowQ (w.setCell ⟨g, i, none⟩ (.int .u64 x)) q (.slice (some ⟨g, 0, none⟩) n c) (xs.set i x) := by
  have := Kd.R_putn (enc := fun x : Int => Value.int .u64 x) (h1 := fun _ => rfl) h (i : Int) x
  simp only [Int.toNat_natCast] at this
  exact this
theorem CQ_one {t : Nat} {m : Nat × Nat} {b : Nat} {x : Int} (h : w.heap[b]? = some (.cells #[.int .u64 x] t m)) : Kd.C (Kd.int .u64) w (some ⟨b, 0, none⟩) 1 [x] := by
  refine ⟨rfl, by decide, fun _ => ⟨_, rfl, fun j p hj => ⟨[.int .u64 p], rfl, rfl, fun i u hu => ?_⟩⟩⟩
  cases i with
  | succ i => simp at hu
  | zero =>
    simp only [List.getElem?_cons_zero, Option.some.injEq] at hu
    subst hu
    cases j with
    | succ j => simp at hj
    | zero =>
      simp only [List.getElem?_cons_zero, Option.some.injEq] at hj
      subst hj
      rw [add0, World.cell?, h]
      simp [Kd.int, Kd.scalar]
section
variable {P : Program} {ops : Array Oper} {o : Oper} {rest : List Oper} {a : Act} {W : World} {Q : Exit → Act → World → Prop}
theorem appQ_step {Kc : Act → World → Prop} (hi : (P.info? 27).map (fun i => (i.zero, i.size, i.bytes)) = some (some (.int .u64 0), 1, 8)) (ht : P.underlying 105 = some (.slice 27)) (hw : Region.wanted o (yielded ops a.tmps) = true) {N : Option Tmp} (hN : o.dst = N) (s x : Operand) (ho : o.op = .call { callee := .builtin .append, args := #[s, x], argTypes := #[105, 105] }) (v : Value) (xs ys : List Int) (A : Option Addr) (m c : Nat)
    (hs : a.eval s = v) (hx : a.eval x = .slice A m c) (HO : RowQ W q v xs) (HC : Kd.C (Kd.int .u64) W A m ys) (hq : q ≤ W.heap.size) (hl : xs.length + m ≤ 1000000000)
    (h : ∀ A1 c1 w1, RowQ w1 q (.slice A1 (xs ++ ys).length c1) (xs ++ ys) → Below q W w1 → W.grownBy w1 v.ownBlock → Kc (a.put N (.slice A1 (xs ++ ys).length c1)) w1) : if Region.wanted o (yielded ops a.tmps) = true then Oper.wp P o a W Kc Q else Kc (a.put N undef) W := by
  subst hN
  refine Kd.R_append_rows_step (Kd.int .u64) (Rr := (Kd.int .u64).K W) (w0 := W) q hw s x 105 27 (.int .u64 0) 8 ho ht hi rfl (by decide) (by omega) v xs ys A m c (fun k => q ≤ k) (fun _ => False) hs hx HO HC (fun _ _ h => h) (fun _ h => h.elim) (fun _ h => Nat.le_trans hq h) (Below.refl _ _) hq (by omega) ?_
  intro v1 w1 hr hb hg _
  obtain ⟨A1, c1, rfl⟩ := Kd.R_slice hr
  exact h A1 c1 w1 hr hb hg
end
end Go.Proofs.YtmblnflfklmmkaaDoor.Sh
/- Contracts of the reference's Sum and Hash256. -/
namespace Go.Proofs.YtmblnflfklmmkaaDoor.Sh
open Go.Proofs.YtmblnflfklmmkaaDoor.Dk Go.Proofs.YtmblnflfklmmkaaDoor.P
open Go.RowKit Go.Proofs.YtmblnflfklmmkaaDoorW.PrintWords Go.Proofs.YtmblnflfklmmkaaDoorW.PrintLast Go.Proofs.YtmblnflfklmmkaaDoorW.PrintMore
set_option linter.unusedVariables false
set_option linter.unusedSimpArgs false
set_option maxRecDepth 30000
variable {w w0 w1 w2 wr : World} {g q : Nat} {v : Value} {xs ys b : List Int}
/-- What the loops leave as it was: the words' block, the text, the constants. -/
structure Sm (w w' : World) (g6 : Nat) (va : Value) (all : List Int) (gk ck : Nat) : Prop where
  h6 : w'.heap[g6]? = some (.cells #[.int .u64 4294967296, .int .u64 32] 103 (0, 0))
  a : Row8 w' w.heap.size va all
  k : RdQ w' w.heap.size gk ck constsL
  b : Below w.heap.size w w'
theorem Sm.below {g6 gk ck : Nat} {va : Value} {all : List Int} (h : Sm w w1 g6 va all gk ck) (hb : Below w1.heap.size w1 w2) : Sm w w2 g6 va all gk ck := ⟨(hb.block g6 (blk_lt h.h6)).trans h.h6, h.a.below hb, h.k.below hb, below_trans h.b hb⟩
theorem Sm.c0 {g6 gk ck : Nat} {va : Value} {all : List Int} (h : Sm w w1 g6 va all gk ck) : w1.cell? ⟨g6, 0, none⟩ = some (.int .u64 4294967296) := by simp [World.cell?, h.h6]
theorem Sm.c1 {g6 gk ck : Nat} {va : Value} {all : List Int} (h : Sm w w1 g6 va all gk ck) : w1.cell? ⟨g6, 1, none⟩ = some (.int .u64 32) := by simp [World.cell?, h.h6]
theorem HKc {q g c : Nat} (h : RdQ w q g c constsL) (t : Nat) (ht : t < 80) : w.cell? ⟨g, t, none⟩ = some (.int .u64 (constsL.getD t 0)) := h.cell t ht
theorem m64 {m i : Nat} (h : m = 64 * i) : m = i * 64 := by omega
theorem wrapM {m i nb : Nat} (h : m = 64 * i) (hi : i < nb) (hb : nb ≤ 20000) : wrap64 ((m : Int) + 64) = ((64 * (i + 1) : Nat) : Int) := by
  rw [h]
  simp only [wrap64]
  omega
def t4 (y : Int) : List Int := [y / 16777216 % 256, y / 65536 % 256, y / 256 % 256, y % 256]
theorem buildQ (y : Int) (w : World) : (Instr.buildSlice 105 1 #[(0, .int .u64 y)]).run Tryd.prog w = .ok (.slice (some ⟨w.heap.size, 0, none⟩) 1 1) (w.alloc (.cells #[.int .u64 y] 27)) := by kernel_rfl
/-- What Sum answers. -/
def SumR (w w' : World) (x : List Int) (e : Ending) : Prop := ∃ v, e = .returned (.tuple #[v, .int .i64 0]) ∧ Row8 w' w.heap.size v x ∧ Below w.heap.size w w'

set_option maxHeartbeats 16000000 in
theorem SumR_calls (A : Option Addr) (c : Nat) (b : List Int) (hb : b.length ≤ 1048576) (hC : C8 w A b) : Calls Tryd.prog 46 #[.slice A b.length c, .int .i64 256] w fun e w' => SumR w w' (hashR b) e := by
  have HC := Aside0.mk hC
  obtain ⟨kp, hkp⟩ := pad_some b.length (by omega)
  have HP := Aside0.mk hkp
  have HH : hashR b = tellR (foldR (b ++ padM b.length) (startR startsL 8) ((b.length + padN b.length) / 64)) 8 := rfl
  obtain ⟨R, hR⟩ : ∃ R, hashR b = R := ⟨_, rfl⟩
  have HRR := Aside0.mk (HH.symm.trans hR)
  rw [hR]
  clear hC hkp hR HH
  have hu103 := Tryd.underlying103
  have hb0 := below_alloc (Below.refl w.heap.size w) (.cells #[.int .u64 4294967296, .int .u64 32] 103)
  have HB0 := Aside0.mk hb0
  go_enter Tryd.func46, Tryd.ntmps46
  go_wp2_with (first | (go_at_call 64; (with_reducible refine (imprimaturref02_Pad.calls kp b.length 256 (padM b.length) 0 _ HP.out).mono ?_); rintro e w1 ⟨v1, rfl, hr1, hb1⟩; obtain ⟨A1, c1, rfl⟩ := Kd.R_slice hr1; have HR1 := Aside0.mk (Row8.of hr1); have HB1 := Aside0.mk hb1; have HC1 := Aside0.mk (Kd.C_below (Kd.C_below HC.out HB0.out) hb1); clear hr1 hb1) | ((with_reducible refine gate_builtin (b := .append) (xs := #[.tmp 36, .tmp 37]) rfl ?_); at_builtin; refine app8 (q := w1.heap.size) Dk.info5 Tryd.underlying22 rfl (.tmp 36) (.tmp 37) rfl _ _ _ _ _ _ rfl rfl (Row8.nil w1 w1.heap.size) HC1.out ?aQ ?aL ?_; (case aQ => exact Nat.le_refl _); (case aL => simp; omega); intro A2 c2 w2 hr2 hb2 hg2; have HR2 := Aside0.mk hr2; have HB2 := Aside0.mk hb2; have HC2 := Aside0.mk (Row8.C (HR1.out.below hb2)).2.2; clear hr2 hb2 hg2) | ((with_reducible refine gate_builtin (b := .append) (xs := #[.tmp 38, .tmp 39]) rfl ?_); at_builtin; refine app8 (q := w1.heap.size) Dk.info5 Tryd.underlying22 rfl (.tmp 38) (.tmp 39) rfl _ _ _ _ _ _ rfl rfl HR2.out HC2.out ?aQ ?aL ?_; (case aQ => exact HB2.out.size); (case aL => simp [padM_length]; have := padN_le b.length; omega); intro A3 c3 w3 hr3 hb3 hg3; have HR3 := Aside0.mk hr3; have HB3 := Aside0.mk hb3; clear hr3 hb3 hg3) | (go_at_call 65; (with_reducible refine (imprimaturref02_constants.calls constsL _ rfl).mono ?_); rintro e w4 ⟨v4, rfl, hr4, hb4⟩; obtain ⟨g4, c4, rfl, hk4⟩ : ∃ g c, v4 = .slice (some ⟨g, 0, none⟩) 80 c ∧ RdQ w4 w3.heap.size g c constsL := (RowQ.of hr4).rd (by decide); have HK4 := Aside0.mk hk4; have HB4 := Aside0.mk hb4; clear hr4 hk4 hb4) | (go_at_call 66; (with_reducible refine (imprimaturref02_starts.calls startsL _ rfl).mono ?_); rintro e w5 ⟨v5, rfl, hr5, hb5⟩; obtain ⟨g5, c5, rfl, hk5⟩ : ∃ g c, v5 = .slice (some ⟨g, 0, none⟩) 8 c ∧ RdQ w5 w4.heap.size g c startsL := (RowQ.of hr5).rd (by decide); have HR5 := Aside0.mk (show RowQ w5 w4.heap.size (.slice (some ⟨g5, 0, none⟩) 8 c5) startsL from RowQ.of hr5); have HK5 := Aside0.mk hk5; have HB5 := Aside0.mk hb5; clear hr5 hk5 hb5))
  have HH6 := Aside0.mk (show w5.heap[w.heap.size]? = some (.cells #[.int .u64 4294967296, .int .u64 32] 103 (0, 0)) from by
    have h0 := heap_alloc_new w (.cells #[.int .u64 4294967296, .int .u64 32] 103)
    have h1 := (HB1.out.block _ (blk_lt h0)).trans h0
    have h2 := (HB2.out.block _ (blk_lt h1)).trans h1
    have h3 := (HB3.out.block _ (blk_lt h1)).trans h2
    have h4 := (HB4.out.block _ (blk_lt h3)).trans h3
    exact (HB5.out.block _ (blk_lt h4)).trans h4)
  have HZ1 : w.heap.size ≤ w1.heap.size := Nat.le_trans HB0.out.size HB1.out.size
  have HBW := Aside0.mk (show Below w.heap.size w w5 from by
    have h1 := below_trans HB0.out HB1.out
    have h2 : Below w.heap.size w w2 := h1.trans (HB2.out.mono HZ1)
    have h3 : Below w.heap.size w w3 := h2.trans (HB3.out.mono HZ1)
    exact below_trans (below_trans h3 HB4.out) HB5.out)
  have HA5 := Aside0.mk (((HR3.out.below HB4.out).below HB5.out).lower HZ1)
  have HK4b := Aside0.mk ((HK4.out.below HB5.out).lower (show w.heap.size ≤ w3.heap.size from Nat.le_trans HZ1 (Nat.le_trans HB2.out.size HB3.out.size)))
  have HG4 := Aside0.mk HK4.out.lt
  have HG45 := Aside0.mk HK5.out.lo
  have HL6 := Aside0.mk (show w.heap.size < w4.heap.size from by
    have h0 := blk_lt (heap_alloc_new w (.cells #[.int .u64 4294967296, .int .u64 32] 103))
    exact Nat.lt_of_lt_of_le h0 (Nat.le_trans HB1.out.size (Nat.le_trans HB2.out.size (Nat.le_trans HB3.out.size HB4.out.size))))
  have HZ3 := Aside0.mk (show w.heap.size ≤ w3.heap.size ∧ w3.heap.size ≤ w4.heap.size from ⟨Nat.le_trans HZ1 (Nat.le_trans HB2.out.size HB3.out.size), HB4.out.size⟩)
  clear HB1 HB2 HB3 HB4 HB5 HR1 HR2 HR3 HC1 HC2 HZ1
  go_loopw [12] (fun v12 w' => ∃ i : Nat, v12 = .int .i64 i ∧ i ≤ 8 ∧ Aside0 (RowQ w' w4.heap.size (.slice (some ⟨g5, 0, none⟩) 8 c5) (startR startsL i)) ∧ Aside0 (Upd w5 w' (· = g5))) (fun v12 _ => 8 - (intOf v12).toNat)
  case atStart => exact ⟨0, rfl, by decide, HR5, ⟨Upd.refl _ _⟩⟩
  case round =>
    clear HR5
    obtain ⟨i, rfl, hi, HR, HU⟩ := hrel
    have HH6r := Aside0.mk ((HU.out.block _ (blk_lt HH6.out) (by have := HG45.out; have := HL6.out; omega)).trans HH6.out)
    by_cases hlt : i < 8
    · have hc := (HR.out.rd' (by rw [startR_length]; decide)).cell i (by rw [startR_length]; exact hlt)
      have hf : wr.frozen? ⟨g5, i, none⟩ = false := by obtain ⟨cells, hcl⟩ := (HR.out.rd' (by rw [startR_length]; decide)).blk; simp [World.frozen?, hcl]
      have h60 : wr.cell? ⟨w.heap.size, 0, none⟩ = some (.int .u64 4294967296) := by simp [World.cell?, HH6r.out]
      have HN := Aside0.mk (show startR startsL (i + 1) = (startR startsL i).set i (IntKind.u64.wrap (Int.tdiv ((startR startsL i).getD i 0) 4294967296)) from rfl)
      have HS := Aside0.mk (HR.out.put i (IntKind.u64.wrap (Int.tdiv ((startR startsL i).getD i 0) 4294967296)))
      have HU2 := Aside0.mk (HU.out.trans (upd_cell wr g5 i (.int .u64 (IntKind.u64.wrap (Int.tdiv ((startR startsL i).getD i 0) 4294967296)))) (fun _ h => .inl h))
      obtain ⟨y, hy⟩ : ∃ y, (startR startsL i).getD i 0 = y := ⟨_, rfl⟩
      rw [hy] at hc HN HS HU2
      clear hy
      have t8 : decide ((i : Int) < 8) = true := decide_eq_true (by omega)
      go_wp2_with (fail)
      go_roundw
      case rel => exact ⟨i + 1, by go_num, by omega, ⟨by rw [HN.out]; exact HS.out⟩, HU2⟩
      case measure => simp [intOf]; omega
    · obtain rfl : i = 8 := by omega
      have HKr := Aside0.mk (HR.out.rd' (by rw [startR_length]; decide))
      have HSM := Aside0.mk (show Sm w wr w.heap.size (.slice A3 (b ++ padM b.length).length c3) (b ++ padM b.length) g4 c4 from by
        have hne : ∀ k, k < w4.heap.size → ¬ k = g5 := fun k hk => by have := HG45.out; omega
        refine ⟨HH6r.out, ?_, ?_, ?_⟩
        · obtain ⟨cells, hcl⟩ := HK5.out.blk
          exact HA5.out.type hcl (by decide) HU.out
        · exact HK4b.out.upd HU.out (hne _ HG4.out)
        · exact below_upd HBW.out HU.out (fun k hk => by rw [hk]; have := HG45.out; have := HL6.out; omega))
      have HNB := Aside0.mk (show b.length + (padM b.length).length = 64 * ((b.length + padN b.length) / 64) from by
        rw [padM_length]
        have hp : padN b.length = 9 + (64 - (b.length + 9) % 64) % 64 := rfl
        omega)
      have hNB := HNB.out
      have HBS := Aside0.mk (show (b.length + padN b.length) / 64 ≤ 20000 from by have := padN_le b.length; omega)
      obtain ⟨nb, hnb⟩ : ∃ nb, (b.length + padN b.length) / 64 = nb := ⟨_, rfl⟩
      rw [hnb] at HRR hNB HBS
      obtain ⟨M, hM⟩ : ∃ M : Nat, M = 64 * nb := ⟨_, rfl⟩
      have HMN := Lib.hid hM
      rw [← hM] at hNB
      have HL := Aside0.mk (show (b ++ padM b.length).length = M by rw [List.length_append]; exact hNB)
      obtain ⟨all, hall⟩ : ∃ all, b ++ padM b.length = all := ⟨_, rfl⟩
      rw [hall] at HRR HSM HL
      have HNP := Aside0.mk (show 0 < all.length from by rw [← hall, List.length_append, padM_length]; unfold padN; omega)
      have ha3 : A3 = A3 ∧ ∃ ga, A3 = some ⟨ga, 0, none⟩ := ⟨rfl, by
        obtain ⟨ga, ca, e, _⟩ := HSM.out.a.form HNP.out
        injection e with e
        exact ⟨ga, e⟩⟩
      obtain ⟨_, ga, rfl⟩ := ha3
      have hc3 : M ≤ c3 := by have h := (Row8.C HSM.out.a).2.1; rw [HL.out] at h; exact h
      rw [HL.out] at HSM
      simp only [hNB]
      obtain ⟨hs, hhs⟩ : ∃ hs, startR startsL 8 = hs := ⟨_, rfl⟩
      have HHS := Aside0.mk (show hs.length = 8 by rw [← hhs, startR_length]; rfl)
      rw [hhs] at HKr HRR
      have HKr2 := Aside0.mk (HKr.out.lower (show w.heap.size ≤ w4.heap.size from Nat.le_of_lt HL6.out))
      have hbs : nb ≤ 20000 := HBS.out
      clear hNB HNB HBS hM hnb hall hhs HR HU HH6 HH6r HP HB0 hb0 HC HA5 HK4b HK4 HG4 HG45 HL6 HZ3 HBW HK5 HKr hi hlt hb HNP
      obtain ⟨wA, hwA⟩ : ∃ wA, wA = wr := ⟨_, rfl⟩
      subst hwA
      go_wp2_with (fail)
      go_loopw [11, 13] (fun v11 v13 w' => ∃ (i gh ch : Nat), v13 = .int .i64 ((64 * i : Nat) : Int) ∧ v11 = .slice (some ⟨gh, 0, none⟩) 8 ch ∧ i ≤ nb ∧ Aside0 (Sm w w' w.heap.size (.slice (some ⟨ga, 0, none⟩) M c3) all g4 c4) ∧ Aside0 (RdQ w' w.heap.size gh ch (foldR all hs i))) (fun _ v13 _ => M - (intOf v13).toNat)
      case atStart => exact ⟨0, g5, c5, rfl, rfl, Nat.zero_le _, HSM, HKr2⟩
      case round =>
        clear HSM HKr2
        obtain ⟨i, gh, ch, rfl, rfl, hi, HSM, HKH⟩ := hrel
        by_cases hlt : i < nb
        · have hq : decide (((64 * i : Nat) : Int) < (M : Int)) = true := decide_eq_true (by have := HMN.out; omega)
          obtain ⟨m, hm⟩ : ∃ m : Nat, m = 64 * i := ⟨_, rfl⟩
          have HM := Lib.hid hm
          rw [← hm] at hq
          simp only [← hm]
          have hq2 : decide (m < M) = true := decide_eq_true (by have := HMN.out; omega)
          have hm0 : m + 64 ≤ c3 := by have := HMN.out; omega
          have hm1 : m ≤ 2000000 := by omega
          clear hm
          have hw0 : wrap64 64 = 64 := by kernel_rfl
          have hw1 : wrap64 ((m : Int) + 64) = ((m + 64 : Nat) : Int) := by simp only [wrap64]; omega
          have hcn : ¬ c3 = m := by omega
          go_wp2_with (fail)
          have HBK := Aside0.mk (show ((all.drop m).take 64).length = 64 from by rw [List.length_take, List.length_drop, HL.out, HM.out, HMN.out]; omega)
          have HBY := Aside0.mk (show Kd.C (Kd.int .u8) wr.drew (some ⟨ga, m, none⟩) ((all.drop m).take 64).length ((all.drop m).take 64) from by
            refine C_bys (fun j hj => ?_) (by rw [HBK.out]; decide)
            rw [HBK.out] at hj
            have hml : m + 64 ≤ all.length := by rw [HL.out, HM.out, HMN.out]; omega
            obtain ⟨g', c', e, _, _, _, _, hx⟩ := HSM.out.a.form (by omega)
            injection e with e
            injection e with e
            injection e with e
            subst e
            have := hx (m + j) (by omega)
            rw [List.getD_eq_getElem?_getD, List.getElem?_take_of_lt hj, List.getElem?_drop, ← List.getD_eq_getElem?_getD]
            exact this)
          obtain ⟨kx, hkx⟩ := exp_some HBK.out
          have HX := Aside0.mk (expR_length ((all.drop m).take 64) 64)
          have HKX := Aside0.mk (calls_of_args (args' := #[.agg #[.int .u64 4294967296, .int .u64 32], .slice (some ⟨ga, m, none⟩) ((all.drop m).take 64).length (c3 - m)]) (args := #[.agg #[.int .u64 4294967296, .int .u64 32], .slice (some ⟨ga, m, none⟩) 64 (c3 - m)]) (by rw [HBK.out]) (imprimaturref02_Words_expand.calls kx 4294967296 32 (some ⟨ga, m, none⟩) (c3 - m) ((all.drop m).take 64) (expR ((all.drop m).take 64) 64) wr.drew HBY.out (by rw [HBK.out]; omega) hkx))
          clear hkx HBY HBK
          obtain ⟨xs, hxs⟩ : ∃ xs, expR ((all.drop m).take 64) 64 = xs := ⟨_, rfl⟩
          have HXS := Aside0.mk hxs
          rw [hxs] at HX HKX
          clear hxs
          have hr1 : (0 : Int) ≤ (m : Int) + 64 ∧ (m : Int) + 64 ≤ (c3 : Int) := by omega
          have hr2 : m ≤ ((m : Int) + 64).toNat := by omega
          have hr3 : ((m : Int) + 64).toNat - m = 64 := by omega
          refine start_ (n := 10) (S := fun w' => w'.cell? ⟨w.heap.size, 0, none⟩ = some (.int .u64 4294967296) ∧ w'.cell? ⟨w.heap.size, 1, none⟩ = some (.int .u64 32)) (ds := []) (bz 10 0) (by kernel_rfl) rfl rfl ⟨HSM.out.c0, HSM.out.c1⟩ (fun hHeld => ?_)
          refine pz 1 (some 69) (bz 10 2) ?_
          refine pz 2 (some 70) (bz 10 6) ?_
          refine pz 3 (some 71) (bz 10 14) ?_
          refine pz 4 (some 72) (bz 10 30) ?_
          refine pz 5 (some 73) (bz 10 62) ?_
          refine pz 6 (some 74) (bz 10 126) ?_
          refine pz 7 (some 75) (bz 10 254) ?_
          refine tz2 0 (some 68) (bz 10 255) hHeld ?_
          refine one_ (i := 8) (N := some 76) (bz 10 511) rfl rfl (by kernel_rfl) (by decide) (fun K hK => ?_)
          refine goes_ Tryd.func67 (by kernel_rfl) rfl #[.agg #[.int .u64 4294967296, .int .u64 32], .slice (some ⟨ga, m, none⟩) 64 (c3 - m)] (by rfl) rfl rfl (by simp only [List.map_toArray, List.map_cons, List.map_nil]; rfl) ?_
          with_reducible refine (HKX.out).mono ?_
          rintro e w3 ⟨v3, rfl, hr3x, hb3⟩
          refine ⟨_, rfl, ?_⟩
          obtain ⟨gx, cx, rfl, hkx⟩ : ∃ g c, v3 = .slice (some ⟨g, 0, none⟩) 64 c ∧ RdQ w3 w.heap.size g c xs := by
            obtain ⟨g, c, e, h⟩ := (RowQ.of hr3x).rd (by rw [HX.out]; decide)
            rw [HX.out] at e
            exact ⟨g, c, e, h.lower (show w.heap.size ≤ wr.heap.size from HSM.out.b.size)⟩
          have HKXr := Aside0.mk hkx
          have hbw3 : Below wr.heap.size wr w3 := ⟨hb3.os, hb3.tape, hb3.output, hb3.size, hb3.block⟩
          have HSM3 := Aside0.mk (HSM.out.below hbw3)
          have HKH3 := Aside0.mk (HKH.out.below hbw3)
          clear hr3x hb3 hbw3 hkx
          refine hK.out _ _ ⟨HSM3.out.c0, HSM3.out.c1⟩ (fun hHeld => ?_)
          clear hK K
          refine norm_ (a' := ?_) ?_ ?_
          rotate_left
          · show Act.put _ (some 76) _ = _
            simp only [Act.put, List.setIfInBounds_toArray, List.set_cons_zero, List.set_cons_succ, i64_w, i32_w]
            rfl
          refine pz 9 (some 14) (bz 10 1023) ?_
          refine done_ (by kernel_rfl) ?_
          clear HSM HKH hr1 hr2 hr3 hw0 hw1 hHeld HKX
          obtain ⟨h, hh⟩ : ∃ h, foldR all hs i = h := ⟨_, rfl⟩
          have HHL := Aside0.mk (show h.length = 8 by rw [← hh]; exact foldR_length HHS.out i)
          have HHI := Aside0.mk hh
          rw [hh] at HKH3
          clear hh
          obtain ⟨wB, hwB⟩ : ∃ wB, wB = w3 := ⟨_, rfl⟩
          subst hwB
          go_wp2_with (fail)
          go_loopw [15, 16] (fun v15 v16 w' => ∃ (t gv cv : Nat) (vs : List Int), v16 = .int .i64 t ∧ v15 = .slice (some ⟨gv, 0, none⟩) 8 cv ∧ t ≤ 64 ∧ Aside0 (vs = roundsR h xs t) ∧ Aside0 (Sm w w' w.heap.size (.slice (some ⟨ga, 0, none⟩) M c3) all g4 c4) ∧ Aside0 (RdQ w' w.heap.size gh ch h) ∧ Aside0 (RdQ w' w.heap.size gx cx xs) ∧ Aside0 (RdQ w' w.heap.size gv cv vs)) (fun _ v16 _ => 64 - (intOf v16).toNat)
          case atStart => exact ⟨0, gh, ch, h, rfl, rfl, by decide, ⟨rfl⟩, HSM3, HKH3, HKXr, HKH3⟩
          case round =>
            clear HSM3 HKH3 HKXr
            obtain ⟨t, gv, cv, vs, rfl, rfl, ht, HVE, HSM, HKH, HKX, HKV⟩ := hrel
            have HVL := Aside0.mk (show vs.length = 8 by rw [HVE.out]; exact roundsR_length HHL.out t)
            by_cases htl : t < 64
            · have hq3 : decide ((t : Int) < 64) = true := decide_eq_true (by omega)
              have ht80 : t < 80 := by omega
              have hck := HKc HSM.out.k t ht80
              have hcx := HKX.out.cell t (by rw [HX.out]; exact htl)
              obtain ⟨kt, hkt⟩ : ∃ y, constsL.getD t 0 = y := ⟨_, rfl⟩
              obtain ⟨xt, hxt⟩ : ∃ y, xs.getD t 0 = y := ⟨_, rfl⟩
              rw [hkt] at hck
              rw [hxt] at hcx
              have HCK := Aside0.mk hck
              have HCX := Aside0.mk hcx
              have HNV := Aside0.mk (show roundsR h xs (t + 1) = roundR vs kt xt by rw [roundsR, ← HVE.out, hkt, hxt])
              have HRL := Aside0.mk (round_some HVL.out kt xt)
              clear hkt hxt hck hcx
              have HKR := Aside0.mk (calls_of_args (args' := #[.agg #[.int .u64 4294967296, .int .u64 32], .slice (some ⟨gv, 0, none⟩) vs.length cv, .int .u64 kt, .int .u64 xt]) (args := #[.agg #[.int .u64 4294967296, .int .u64 32], .slice (some ⟨gv, 0, none⟩) 8 cv, .int .u64 kt, .int .u64 xt]) (by rw [HVL.out]) (imprimaturref02_Words_round.calls 4294967296 32 (some ⟨gv, 0, none⟩) cv vs kt xt (roundR vs kt xt) wr.drew (Kd.C_below HKV.out.C (below_drew (Below.refl _ _))) HKV.out.le HRL.out.1))
              go_wp2_with (fail)
              have ht80i : (t : Int) < 80 := by omega
              have ht64i : (t : Int) < 64 := by omega
              refine start_ (n := 12) (S := fun w' => w'.cell? ⟨w.heap.size, 0, none⟩ = some (.int .u64 4294967296) ∧ w'.cell? ⟨w.heap.size, 1, none⟩ = some (.int .u64 32) ∧ w'.cell? ⟨g4, t, none⟩ = some (.int .u64 kt) ∧ w'.cell? ⟨gx, t, none⟩ = some (.int .u64 xt)) (ds := []) (bz 12 0) (by kernel_rfl) rfl rfl ⟨HSM.out.c0, HSM.out.c1, HCK.out, HCX.out⟩ (fun hHeld => ?_)
              refine pz 1 (some 85) (bz 12 2) ?_
              refine pz 2 (some 86) (bz 12 6) ?_
              refine pz 3 (some 87) (bz 12 14) ?_
              refine pz 4 (some 88) (bz 12 30) ?_
              refine pz 6 (some 90) (bz 12 94) ?_
              refine pz 7 (some 91) (bz 12 222) ?_
              refine pz 8 (some 92) (bz 12 478) ?_
              refine tz4 0 (some 84) (bz 12 479) hHeld ?_
              refine tz4 5 (some 89) (bz 12 511) hHeld ?_
              refine tz4 9 (some 93) (bz 12 1023) hHeld ?_
              refine one_ (i := 10) (N := some 94) (bz 12 2047) rfl rfl (by kernel_rfl) (by decide) (fun K hK => ?_)
              refine goes_ Tryd.func68 (by kernel_rfl) rfl #[.agg #[.int .u64 4294967296, .int .u64 32], .slice (some ⟨gv, 0, none⟩) 8 cv, .int .u64 kt, .int .u64 xt] (by rfl) rfl rfl (by simp only [List.map_toArray, List.map_cons, List.map_nil]; rfl) ?_
              with_reducible refine (HKR.out).mono ?_
              rintro e w4 ⟨v4, rfl, hr4, hb4⟩
              refine ⟨_, rfl, ?_⟩
              obtain ⟨gv2, cv2, rfl, hkv⟩ : ∃ g c, v4 = .slice (some ⟨g, 0, none⟩) 8 c ∧ RdQ w4 w.heap.size g c (roundR vs kt xt) := by
                obtain ⟨g, c, e, h⟩ := (RowQ.of hr4).rd (by rw [HRL.out.2]; decide)
                rw [HRL.out.2] at e
                exact ⟨g, c, e, h.lower (show w.heap.size ≤ wr.heap.size from HSM.out.b.size)⟩
              have HKV4 := Aside0.mk hkv
              have hbw4 : Below wr.heap.size wr w4 := ⟨hb4.os, hb4.tape, hb4.output, hb4.size, hb4.block⟩
              have HSM4 := Aside0.mk (HSM.out.below hbw4)
              have HKH4 := Aside0.mk (HKH.out.below hbw4)
              have HKX4 := Aside0.mk (HKX.out.below hbw4)
              have HCK4 := Aside0.mk ((cell_block (hbw4.block g4 HSM.out.k.lt) t).trans HCK.out)
              have HCX4 := Aside0.mk ((cell_block (hbw4.block gx HKX.out.lt) t).trans HCX.out)
              clear hr4 hb4 hbw4 hkv
              refine hK.out _ _ ⟨HSM4.out.c0, HSM4.out.c1, HCK4.out, HCX4.out⟩ (fun hHeld => ?_)
              clear hK K
              refine norm_ (a' := ?_) ?_ ?_
              rotate_left
              · show Act.put _ (some 94) _ = _
                simp only [Act.put, List.setIfInBounds_toArray, List.set_cons_zero, List.set_cons_succ, i64_w, i32_w]
                rfl
              refine pz 11 (some 15) (bz 12 4095) ?_
              refine done_ (by kernel_rfl) ?_
              clear ht80i ht64i
              clear HSM HKH HKX HKV HKR HCK HCX hHeld
              go_wp2_with (fail)
              go_roundw
              case rel => exact ⟨t + 1, gv2, cv2, roundR vs kt xt, by go_num, rfl, by omega, ⟨HNV.out.symm⟩, HSM4, HKH4, HKX4, HKV4⟩
              case measure => simp [intOf]; omega
            · obtain rfl : t = 64 := by omega
              have hq3 : decide ((64 : Int) < 64) = false := by decide
              have HVE2 := Aside0.mk (show vs = roundsR h xs 64 from HVE.out)
              obtain ⟨wC, hwC⟩ : ∃ wC, wC = wr := ⟨_, rfl⟩
              subst hwC
              go_wp2_with (fail)
              go_loopw [17, 18] (fun v17 v18 w' => ∃ (j c17 : Nat) (A17 : Option Addr), v18 = .int .i64 j ∧ v17 = .slice A17 j c17 ∧ j ≤ 8 ∧ Aside0 (RowQ w' wC.heap.size (.slice A17 j c17) (nextR h vs j)) ∧ Aside0 (Below wC.heap.size wC w')) (fun _ v18 _ => 8 - (intOf v18).toNat)
              case atStart => exact ⟨0, 0, none, rfl, rfl, by decide, ⟨RowQ.nil _ _⟩, ⟨Below.refl _ _⟩⟩
              case round =>
                obtain ⟨j, c17, A17, rfl, rfl, hj, HN, HBn⟩ := hrel
                by_cases hjl : j < 8
                · have hq4 : decide ((j : Int) < 8) = true := decide_eq_true (by omega)
                  have HSMr := Aside0.mk (HSM.out.below HBn.out)
                  have hch := (HKH.out.below HBn.out).cell j (by rw [HHL.out]; exact hjl)
                  have hcv := (HKV.out.below HBn.out).cell j (by rw [HVL.out]; exact hjl)
                  have HCH := Aside0.mk (HKH.out.cell j (by rw [HHL.out]; exact hjl))
                  have HCV := Aside0.mk (HKV.out.cell j (by rw [HVL.out]; exact hjl))
                  have HGH := Aside0.mk HKH.out.lt
                  have HGV := Aside0.mk HKV.out.lt
                  have HNX := Aside0.mk (show nextR h vs (j + 1) = nextR h vs j ++ [Int.tmod (IntKind.u64.wrap (h.getD j 0 + vs.getD j 0)) 4294967296] from rfl)
                  have HNL := Aside0.mk (nextR_length h vs j)
                  obtain ⟨hj', hhj⟩ : ∃ y, h.getD j 0 = y := ⟨_, rfl⟩
                  obtain ⟨vj, hvj⟩ : ∃ y, vs.getD j 0 = y := ⟨_, rfl⟩
                  rw [hhj] at hch HCH HNX
                  rw [hvj] at hcv HCV HNX
                  have HSH := Aside0.mk (show ∀ W, Below wC.heap.size wC W → W.cell? ⟨gh, j, none⟩ = some (.int .u64 hj') ∧ W.cell? ⟨gv, j, none⟩ = some (.int .u64 vj) from fun W hW => ⟨(cell_block (hW.block gh HGH.out) j).trans HCH.out, (cell_block (hW.block gv HGV.out) j).trans HCV.out⟩)
                  have HSS := Aside0.mk (show ∀ W, Below wC.heap.size wC W → W.cell? ⟨w.heap.size, 0, none⟩ = some (.int .u64 4294967296) ∧ W.cell? ⟨w.heap.size, 1, none⟩ = some (.int .u64 32) from fun W hW => ⟨(HSM.out.below hW).c0, (HSM.out.below hW).c1⟩)
                  clear hhj hvj hch hcv
                  obtain ⟨ys, hys⟩ : ∃ ys, nextR h vs j = ys := ⟨_, rfl⟩
                  rw [hys] at HN HNX HNL
                  clear hys
                  have HBd := Aside0.mk (show Below wC.heap.size wC wr.drew from below_drew HBn.out)
                  go_wp2_with (fail)
                  have hj8i : (j : Int) < 8 := by omega
                  refine start_ (n := 15) (S := fun w' => w'.cell? ⟨w.heap.size, 0, none⟩ = some (.int .u64 4294967296) ∧ w'.cell? ⟨w.heap.size, 1, none⟩ = some (.int .u64 32) ∧ w'.cell? ⟨gh, j, none⟩ = some (.int .u64 hj') ∧ w'.cell? ⟨gv, j, none⟩ = some (.int .u64 vj)) (ds := []) (bz 15 0) (by kernel_rfl) rfl rfl ⟨(HSS.out _ HBd.out).1, (HSS.out _ HBd.out).2, (HSH.out _ HBd.out).1, (HSH.out _ HBd.out).2⟩ (fun hHeld => ?_)
                  refine pz 0 (some 99) (bz 15 1) ?_
                  refine pz 2 (some 101) (bz 15 5) ?_
                  refine pz 3 (some 102) (bz 15 13) ?_
                  refine pz 4 (some 103) (bz 15 29) ?_
                  refine pz 6 (some 105) (bz 15 93) ?_
                  refine pz 7 (some 106) (bz 15 221) ?_
                  refine pz 8 (some 107) (bz 15 477) ?_
                  refine tz4 1 (some 100) (bz 15 479) hHeld ?_
                  refine tz4 5 (some 104) (bz 15 511) hHeld ?_
                  refine tz4 9 (some 108) (bz 15 1023) hHeld ?_
                  refine pz 10 (some 109) (bz 15 2047) ?_
                  refine one_ (i := 11) (N := some 110) (bz 15 4095) rfl rfl (by kernel_rfl) (by decide) (fun K hK => ?_)
                  refine goes_ Tryd.func69 (by kernel_rfl) rfl #[.agg #[.int .u64 4294967296, .int .u64 32], .int .u64 (IntKind.u64.wrap (hj' + vj))] (by rfl) rfl rfl (by simp only [List.map_toArray, List.map_cons, List.map_nil]; rfl) ?_
                  with_reducible refine (imprimaturref02_Words_cut.calls 4294967296 32 _ _ _ (cut_some _)).mono ?_
                  rintro e w6 ⟨rfl, hb6⟩
                  refine ⟨_, rfl, ?_⟩
                  have HB6 := Aside0.mk (show Below wC.heap.size wC w6 from below_trans HBd.out hb6)
                  have HN6 := Aside0.mk (HN.out.below (show Below wr.heap.size wr w6 from ⟨hb6.os, hb6.tape, hb6.output, hb6.size, hb6.block⟩))
                  clear hb6
                  refine hK.out _ _ ⟨(HSS.out _ HB6.out).1, (HSS.out _ HB6.out).2, (HSH.out _ HB6.out).1, (HSH.out _ HB6.out).2⟩ (fun hHeld => ?_)
                  clear hK K
                  refine norm_ (a' := ?_) ?_ ?_
                  rotate_left
                  · show Act.put _ (some 110) _ = _
                    simp only [Act.put, List.setIfInBounds_toArray, List.set_cons_zero, List.set_cons_succ, i64_w, i32_w]
                    rfl
                  refine one_ (i := 12) (N := some 111) (bz 15 8191) rfl rfl (by kernel_rfl) (by decide) (fun K hK => ?_)
                  refine value_ (w1 := w6.alloc (.cells #[.int .u64 (Int.tmod (IntKind.u64.wrap (hj' + vj)) 4294967296)] 27)) (v := .slice (some ⟨w6.heap.size, 0, none⟩) 1 1) (by rfl) rfl ?hbs ?_
                  case hbs =>
                    refine exec_buildSlice (t := 105) (n := 1) (parts := #[(0, .tmp 110)]) (args := #[(0, .int .u64 (Int.tmod (IntKind.u64.wrap (hj' + vj)) 4294967296))]) ?ho ?he ?hr
                    case ho => rfl
                    case he => kernel_rfl
                    case hr => exact buildQ _ w6
                  have HB7 := Aside0.mk (below_trans HB6.out (below_alloc (Below.refl w6.heap.size w6) (.cells #[.int .u64 (Int.tmod (IntKind.u64.wrap (hj' + vj)) 4294967296)] 27)))
                  have HC7 := Aside0.mk (CQ_one (heap_alloc_new w6 (.cells #[.int .u64 (Int.tmod (IntKind.u64.wrap (hj' + vj)) 4294967296)] 27)))
                  have HN7 := Aside0.mk (HN6.out.below (below_alloc (Below.refl w6.heap.size w6) (.cells #[.int .u64 (Int.tmod (IntKind.u64.wrap (hj' + vj)) 4294967296)] 27)))
                  refine hK.out _ _ ⟨(HSS.out _ HB7.out).1, (HSS.out _ HB7.out).2, (HSH.out _ HB7.out).1, (HSH.out _ HB7.out).2⟩ (fun hHeld => ?_)
                  clear hK K
                  refine norm_ (a' := ?_) ?_ ?_
                  rotate_left
                  · show Act.put _ (some 111) _ = _
                    simp only [Act.put, List.setIfInBounds_toArray, List.set_cons_zero, List.set_cons_succ, i64_w, i32_w]
                    rfl
                  refine one_ (i := 13) (N := some 112) (bz 15 16383) rfl rfl (by kernel_rfl) (by decide) (fun K hK => ?_)
                  refine appQ_step infoQ Tryd.underlying105 (by rfl) rfl (.tmp 99) (.tmp 111) rfl (.slice A17 j c17) ys _ _ _ _ rfl rfl HN7.out HC7.out HB7.out.size (by rw [HNL.out]; omega) ?_
                  intro A8 c8 w8 hr8 hb8 _
                  have HB8 := Aside0.mk (HB7.out.trans hb8)
                  rw [show (ys ++ [Int.tmod (IntKind.u64.wrap (hj' + vj)) 4294967296]).length = j + 1 by rw [List.length_append, HNL.out]; rfl] at hr8 ⊢
                  have HR8 := Aside0.mk hr8
                  clear hr8 hb8
                  refine hK.out _ _ ⟨(HSS.out _ HB8.out).1, (HSS.out _ HB8.out).2, (HSH.out _ HB8.out).1, (HSH.out _ HB8.out).2⟩ (fun hHeld => ?_)
                  clear hK K
                  refine norm_ (a' := ?_) ?_ ?_
                  rotate_left
                  · show Act.put _ (some 112) _ = _
                    simp only [Act.put, List.setIfInBounds_toArray, List.set_cons_zero, List.set_cons_succ, i64_w, i32_w]
                    rfl
                  refine pz 14 (some 17) (bz 15 32767) ?_
                  refine done_ (by kernel_rfl) ?_
                  clear hj8i
                  clear hHeld
                  go_wp2_with (fail)
                  go_roundw
                  case rel => exact ⟨j + 1, c8, A8, by go_num, rfl, by omega, ⟨by rw [HNX.out]; exact HR8.out⟩, HB8⟩
                  case measure => simp [intOf]; omega
                · obtain rfl : j = 8 := by omega
                  have hq4 : decide ((8 : Int) < 8) = false := by decide
                  have hm64 : m = i * 64 := m64 HM.out
                  have HF := Aside0.mk (show nextR h vs 8 = foldR all hs (i + 1) by rw [foldR, HHI.out, blockR, HVE2.out, show i * 64 = m from hm64.symm, HXS.out])
                  have HSMe := Aside0.mk (HSM.out.below HBn.out)
                  have hke := HN.out.rd (by rw [nextR_length]; decide)
                  have hke2 : ∃ g17, A17 = some ⟨g17, 0, none⟩ ∧ RdQ wr wC.heap.size g17 c17 (nextR h vs 8) := by
                    obtain ⟨g, c, e, hk⟩ := hke
                    injection e with e1 e2 e3
                    subst e3
                    exact ⟨g, e1, hk⟩
                  obtain ⟨g17, rfl, hk17⟩ := hke2
                  have HK17 := Aside0.mk (hk17.lower (show w.heap.size ≤ wC.heap.size from HSM.out.b.size))
                  have HM2 := Aside0.mk (show wrap64 ((m : Int) + 64) = ((64 * (i + 1) : Nat) : Int) from wrapM HM.out hlt hbs)
                  have HM3 := Aside0.mk (show (m : Int) + 64 = ((64 * (i + 1) : Nat) : Int) by rw [hm64]; omega)
                  clear hm64
                  clear hke hk17
                  go_wp2_with (fail)
                  go_roundw
                  case rel => exact ⟨i + 1, g17, c17, by first | exact congrArg _ HM2.out | exact congrArg _ HM3.out, rfl, by omega, HSMe, ⟨by rw [← HF.out]; exact HK17.out⟩⟩
                  case measure => have := HM.out; have := HMN.out; simp [intOf]; omega
        · obtain rfl : i = nb := by omega
          obtain ⟨m, hm⟩ : ∃ m : Nat, m = 64 * i := ⟨_, rfl⟩
          have HM := Lib.hid hm
          simp only [← hm]
          clear hm
          have hq : decide ((m : Int) < (M : Int)) = false := decide_eq_false (by have := HMN.out; have := HM.out; omega)
          have hq2 : decide (m < M) = false := decide_eq_false (by have := HMN.out; have := HM.out; omega)
          have HTL := HRR
          obtain ⟨h, hh⟩ : ∃ h, foldR all hs i = h := ⟨_, rfl⟩
          have HHL := Aside0.mk (show h.length = 8 by rw [← hh]; exact foldR_length HHS.out i)
          rw [hh] at HKH HTL
          clear hh
          obtain ⟨wD, hwD⟩ : ∃ wD, wD = wr := ⟨_, rfl⟩
          subst hwD
          go_wp2_with (fail)
          go_loopw [19, 20] (fun v19 v20 w' => ∃ (j c19 : Nat) (A19 : Option Addr), v20 = .int .i64 j ∧ v19 = .slice A19 (4 * j) c19 ∧ j ≤ 8 ∧ Aside0 (Row8 w' wD.heap.size (.slice A19 (4 * j) c19) (tellR h j)) ∧ Aside0 (Below wD.heap.size wD w')) (fun _ v20 _ => 8 - (intOf v20).toNat)
          case atStart => exact ⟨0, 0, none, rfl, rfl, by decide, ⟨Row8.nil _ _⟩, ⟨Below.refl _ _⟩⟩
          case round =>
            obtain ⟨j, c19, A19, rfl, rfl, hj, HN, HBn⟩ := hrel
            by_cases hjl : j < 8
            · have hq4 : decide ((j : Int) < 8) = true := decide_eq_true (by omega)
              have HSMr := Aside0.mk (HSM.out.below HBn.out)
              have h61 := HSMr.out.c1
              have HNX := Aside0.mk (show tellR h (j + 1) = tellR h j ++ t4 (h.getD j 0) from rfl)
              have HNL := Aside0.mk (tellR_length h j)
              have HCH := Aside0.mk (show ∀ W, Below wD.heap.size wD W → W.cell? ⟨gh, j, none⟩ = some (.int .u64 (h.getD j 0)) from fun W hW => (HKH.out.below hW).cell j (by rw [HHL.out]; exact hjl))
              obtain ⟨y, hy⟩ : ∃ y, h.getD j 0 = y := ⟨_, rfl⟩
              rw [hy] at HNX HCH
              clear hy
              obtain ⟨ys, hys⟩ : ∃ ys, tellR h j = ys := ⟨_, rfl⟩
              rw [hys] at HN HNX HNL
              clear hys
              obtain ⟨wE, hwE⟩ : ∃ wE, wE = wr := ⟨_, rfl⟩
              subst hwE
              obtain ⟨q, hqq⟩ : ∃ q, q = 4 * j := ⟨_, rfl⟩
              have HQ := Lib.hid hqq
              rw [← hqq] at HN HNL
              simp only [← hqq]
              have hq32 : q ≤ 32 := by omega
              clear hqq
              go_wp2_with (fail)
              go_loopw [19, 21] (fun v19 v21 w' => ∃ (n c19 : Nat) (A19 : Option Addr), v21 = .int .i64 (24 - 8 * (n : Int)) ∧ v19 = .slice A19 (q + n) c19 ∧ n ≤ 4 ∧ Aside0 (Row8 w' wD.heap.size (.slice A19 (q + n) c19) (ys ++ (t4 y).take n)) ∧ Aside0 (Below wD.heap.size wD w')) (fun _ v21 _ => (intOf v21 + 8).toNat)
              case atStart => exact ⟨0, c19, A19, by simp, rfl, by decide, ⟨by simpa using HN.out⟩, HBn⟩
              case round =>
                clear HN HBn HSMr h61
                obtain ⟨n, c20, A20, rfl, rfl, hn, HN, HBn⟩ := hrel
                have hcase : n = 0 ∨ n = 1 ∨ n = 2 ∨ n = 3 ∨ n = 4 := by omega
                have hcy := HCH.out _ HBn.out
                rcases hcase with rfl | rfl | rfl | rfl | rfl
                · have HBa := Aside0.mk (below_trans HBn.out (below_alloc (Below.refl wr.heap.size wr) (.cells #[.int .u8 (y / 16777216 % 256)] 5)))
                  have HNa := Aside0.mk (HN.out.below (below_alloc (Below.refl wr.heap.size wr) (.cells #[.int .u8 (y / 16777216 % 256)] 5)))
                  have HCa := Aside0.mk (show Kd.C (Kd.int .u8) (wr.alloc (.cells #[.int .u8 (y / 16777216 % 256)] 5)) (some ⟨wr.heap.size, 0, none⟩) 1 [y / 16777216 % 256] from C_block (x := [y / 16777216 % 256]) (heap_alloc_new wr (.cells #[.int .u8 (y / 16777216 % 256)] 5)) (by simp))
                  have HLn := Aside0.mk (show (ys ++ (t4 y).take 0).length = q + 0 by rw [List.length_append, HNL.out]; rfl)
                  have HLm := Aside0.mk (show ((ys ++ (t4 y).take 0) ++ [y / 16777216 % 256]).length = q + 1 by rw [List.length_append, HLn.out]; rfl)
                  have HEn := Aside0.mk (show (ys ++ (t4 y).take 0) ++ [y / 16777216 % 256] = ys ++ (t4 y).take 1 by rw [List.append_assoc]; rfl)
                  go_wp2_with (first | ((with_reducible refine gate_builtin (b := .append) (xs := #[.tmp 126, .tmp 135]) rfl ?_); at_builtin; refine app8 (q := wD.heap.size) Dk.info5 Tryd.underlying22 rfl (.tmp 126) (.tmp 135) rfl _ _ _ _ _ _ rfl rfl HNa.out HCa.out ?aQ ?aL ?_; (case aQ => exact HBa.out.size); (case aL => rw [HLn.out]; omega); intro A8 c8 w8 hr8 hb8 _; rw [HLm.out, HEn.out] at hr8; rw [HLm.out]; have HB8 := Aside0.mk (HBa.out.trans hb8); have HR8 := Aside0.mk hr8; clear hr8 hb8))
                  go_roundw
                  case rel => exact ⟨1, c8, A8, by first | rfl | go_num | simp, rfl, by omega, HR8, HB8⟩
                  case measure => simp [intOf]
                · have HBa := Aside0.mk (below_trans HBn.out (below_alloc (Below.refl wr.heap.size wr) (.cells #[.int .u8 (y / 65536 % 256)] 5)))
                  have HNa := Aside0.mk (HN.out.below (below_alloc (Below.refl wr.heap.size wr) (.cells #[.int .u8 (y / 65536 % 256)] 5)))
                  have HCa := Aside0.mk (show Kd.C (Kd.int .u8) (wr.alloc (.cells #[.int .u8 (y / 65536 % 256)] 5)) (some ⟨wr.heap.size, 0, none⟩) 1 [y / 65536 % 256] from C_block (x := [y / 65536 % 256]) (heap_alloc_new wr (.cells #[.int .u8 (y / 65536 % 256)] 5)) (by simp))
                  have HLn := Aside0.mk (show (ys ++ (t4 y).take 1).length = q + 1 by rw [List.length_append, HNL.out]; rfl)
                  have HLm := Aside0.mk (show ((ys ++ (t4 y).take 1) ++ [y / 65536 % 256]).length = q + 2 by rw [List.length_append, HLn.out]; rfl)
                  have HEn := Aside0.mk (show (ys ++ (t4 y).take 1) ++ [y / 65536 % 256] = ys ++ (t4 y).take 2 by rw [List.append_assoc]; rfl)
                  go_wp2_with (first | ((with_reducible refine gate_builtin (b := .append) (xs := #[.tmp 126, .tmp 135]) rfl ?_); at_builtin; refine app8 (q := wD.heap.size) Dk.info5 Tryd.underlying22 rfl (.tmp 126) (.tmp 135) rfl _ _ _ _ _ _ rfl rfl HNa.out HCa.out ?aQ ?aL ?_; (case aQ => exact HBa.out.size); (case aL => rw [HLn.out]; omega); intro A8 c8 w8 hr8 hb8 _; rw [HLm.out, HEn.out] at hr8; rw [HLm.out]; have HB8 := Aside0.mk (HBa.out.trans hb8); have HR8 := Aside0.mk hr8; clear hr8 hb8))
                  go_roundw
                  case rel => exact ⟨2, c8, A8, by first | rfl | go_num | simp, rfl, by omega, HR8, HB8⟩
                  case measure => simp [intOf]
                · have HBa := Aside0.mk (below_trans HBn.out (below_alloc (Below.refl wr.heap.size wr) (.cells #[.int .u8 (y / 256 % 256)] 5)))
                  have HNa := Aside0.mk (HN.out.below (below_alloc (Below.refl wr.heap.size wr) (.cells #[.int .u8 (y / 256 % 256)] 5)))
                  have HCa := Aside0.mk (show Kd.C (Kd.int .u8) (wr.alloc (.cells #[.int .u8 (y / 256 % 256)] 5)) (some ⟨wr.heap.size, 0, none⟩) 1 [y / 256 % 256] from C_block (x := [y / 256 % 256]) (heap_alloc_new wr (.cells #[.int .u8 (y / 256 % 256)] 5)) (by simp))
                  have HLn := Aside0.mk (show (ys ++ (t4 y).take 2).length = q + 2 by rw [List.length_append, HNL.out]; rfl)
                  have HLm := Aside0.mk (show ((ys ++ (t4 y).take 2) ++ [y / 256 % 256]).length = q + 3 by rw [List.length_append, HLn.out]; rfl)
                  have HEn := Aside0.mk (show (ys ++ (t4 y).take 2) ++ [y / 256 % 256] = ys ++ (t4 y).take 3 by rw [List.append_assoc]; rfl)
                  go_wp2_with (first | ((with_reducible refine gate_builtin (b := .append) (xs := #[.tmp 126, .tmp 135]) rfl ?_); at_builtin; refine app8 (q := wD.heap.size) Dk.info5 Tryd.underlying22 rfl (.tmp 126) (.tmp 135) rfl _ _ _ _ _ _ rfl rfl HNa.out HCa.out ?aQ ?aL ?_; (case aQ => exact HBa.out.size); (case aL => rw [HLn.out]; omega); intro A8 c8 w8 hr8 hb8 _; rw [HLm.out, HEn.out] at hr8; rw [HLm.out]; have HB8 := Aside0.mk (HBa.out.trans hb8); have HR8 := Aside0.mk hr8; clear hr8 hb8))
                  go_roundw
                  case rel => exact ⟨3, c8, A8, by first | rfl | go_num | simp, rfl, by omega, HR8, HB8⟩
                  case measure => simp [intOf]
                · have HBa := Aside0.mk (below_trans HBn.out (below_alloc (Below.refl wr.heap.size wr) (.cells #[.int .u8 (y % 256)] 5)))
                  have HNa := Aside0.mk (HN.out.below (below_alloc (Below.refl wr.heap.size wr) (.cells #[.int .u8 (y % 256)] 5)))
                  have HCa := Aside0.mk (show Kd.C (Kd.int .u8) (wr.alloc (.cells #[.int .u8 (y % 256)] 5)) (some ⟨wr.heap.size, 0, none⟩) 1 [y % 256] from C_block (x := [y % 256]) (heap_alloc_new wr (.cells #[.int .u8 (y % 256)] 5)) (by simp))
                  have HLn := Aside0.mk (show (ys ++ (t4 y).take 3).length = q + 3 by rw [List.length_append, HNL.out]; rfl)
                  have HLm := Aside0.mk (show ((ys ++ (t4 y).take 3) ++ [y % 256]).length = q + 4 by rw [List.length_append, HLn.out]; rfl)
                  have HEn := Aside0.mk (show (ys ++ (t4 y).take 3) ++ [y % 256] = ys ++ (t4 y).take 4 by rw [List.append_assoc]; rfl)
                  go_wp2_with (first | ((with_reducible refine gate_builtin (b := .append) (xs := #[.tmp 126, .tmp 135]) rfl ?_); at_builtin; refine app8 (q := wD.heap.size) Dk.info5 Tryd.underlying22 rfl (.tmp 126) (.tmp 135) rfl _ _ _ _ _ _ rfl rfl HNa.out HCa.out ?aQ ?aL ?_; (case aQ => exact HBa.out.size); (case aL => rw [HLn.out]; omega); intro A8 c8 w8 hr8 hb8 _; rw [HLm.out, HEn.out] at hr8; rw [HLm.out]; have HB8 := Aside0.mk (HBa.out.trans hb8); have HR8 := Aside0.mk hr8; clear hr8 hb8))
                  go_roundw
                  case rel => exact ⟨4, c8, A8, by first | rfl | go_num | simp, rfl, by omega, HR8, HB8⟩
                  case measure => simp [intOf]
                · have HNE := Aside0.mk (show ys ++ (t4 y).take 4 = tellR h (j + 1) from HNX.out.symm)
                  have HQ4 := Aside0.mk (show q + 4 = 4 * (j + 1) by rw [HQ.out]; omega)
                  have HN4 := Aside0.mk (show Row8 wr wD.heap.size (.slice A20 (q + 4) c20) (tellR h (j + 1)) by rw [← HNE.out]; exact HN.out)
                  rw [HQ4.out] at HN4
                  simp only [HQ4.out]
                  go_wp2_with (fail)
                  go_roundw
                  case rel => exact ⟨j + 1, c20, A20, by go_num, rfl, by omega, HN4, HBn⟩
                  case measure => simp [intOf]; omega
            · obtain rfl : j = 8 := by omega
              have hq4 : decide ((8 : Int) < 8) = false := by decide
              have HE := Aside0.mk (show Row8 wr w.heap.size (.slice A19 (4 * 8) c19) R from by rw [← HTL.out]; exact HN.out.lower HSM.out.b.size)
              have HBE := Aside0.mk (below_trans HSM.out.b HBn.out)
              go_wp2_with (fail)
              refine bodyPost_ret (results_tmp2 rfl _ _ _) rfl ?_
              exact ⟨_, rfl, HE.out, HBE.out⟩
end Go.Proofs.YtmblnflfklmmkaaDoor.Sh
/- Contracts of the reference's Hash256, num, big, Head. -/
namespace Go.Proofs.YtmblnflfklmmkaaDoor.Sh
open Go.Proofs.YtmblnflfklmmkaaDoor.Dk Go.Proofs.YtmblnflfklmmkaaDoor.P
open Go.RowKit Go.Proofs.YtmblnflfklmmkaaDoorW.PrintWords Go.Proofs.YtmblnflfklmmkaaDoorW.PrintLast Go.Proofs.YtmblnflfklmmkaaDoorW.PrintMore
set_option linter.unusedVariables false
set_option linter.unusedSimpArgs false
set_option maxRecDepth 30000
variable {w w0 w1 w2 wr : World} {g q : Nat} {v : Value} {xs ys b : List Int}
def RowPo (w w' : World) (x : List Int) (e : Ending) : Prop := ∃ v, e = .returned v ∧ Row8 w' w.heap.size v x ∧ Below w.heap.size w w'
set_option maxHeartbeats 4000000 in
theorem Hash_calls (A : Option Addr) (c : Nat) (b : List Int) (hb : b.length ≤ 1048576) (hC : C8 w A b) : Calls Tryd.prog 31 #[.slice A b.length c] w fun e w' => RowPo w w' (hashR b) e := by
  have HS := Aside0.mk (SumR_calls A c b hb hC)
  clear hC
  go_enter Tryd.func31, Tryd.ntmps31
  go_wp2_with (first | (go_at_call 46; (with_reducible refine HS.out.mono ?_); rintro e w1 ⟨v1, rfl, hr1, hb1⟩; have HR1 := Aside0.mk hr1; have HB1 := Aside0.mk hb1; clear hr1 hb1))
  go_ret
  exact ⟨_, rfl, HR1.out, HB1.out⟩
/-- Bytes as a number, the reference's way. -/
def rnumM (xs : List Int) : Int := xs.foldl inU 0
theorem rnumM_take {i : Nat} (h : i < xs.length) : rnumM (xs.take (i + 1)) = inU (rnumM (xs.take i)) (xs.getD i 0) := by
  unfold rnumM
  rw [List.take_succ_eq_append_getElem h, List.foldl_append, List.getD_eq_getElem?_getD, List.getElem?_eq_getElem h]
  rfl
theorem rnumM_range (xs : List Int) : 0 ≤ rnumM xs ∧ rnumM xs ≤ 18446744073709551615 := by
  have : ∀ (xs : List Int) (a : Int), 0 ≤ a ∧ a ≤ 18446744073709551615 → 0 ≤ xs.foldl inU a ∧ xs.foldl inU a ≤ 18446744073709551615 := by
    intro xs
    induction xs with
    | nil => intro a h; exact h
    | cons x xs ih =>
      intro a _
      refine ih _ ?_
      unfold inU
      rw [wrap64u]
      omega
  exact this xs 0 (by decide)
theorem C8_cells {A : Option Addr} (h : C8 w A xs) (hp : 0 < xs.length) : ∃ ad, A = some ad ∧ ∀ i, i < xs.length → w.cell? (ad.add i) = some (.int .u8 (xs.getD i 0)) := by
  obtain ⟨_, _, h3⟩ := h
  obtain ⟨ad, hA, hc⟩ := h3 hp
  refine ⟨ad, hA, fun i hi => ?_⟩
  obtain ⟨cs, _, hK, hx⟩ := hc i _ (List.getElem?_eq_getElem hi)
  have := hx 0 (.int .u8 xs[i]) (by rw [hK]; rfl)
  rw [List.getD_eq_getElem?_getD, List.getElem?_eq_getElem hi]
  simpa [Kd.int, Kd.scalar] using this
set_option maxHeartbeats 4000000 in
theorem num_calls (A : Option Addr) (c : Nat) (hx : xs.length ≤ 1000000) (hC : C8 w A xs) : Calls Tryd.prog 97 #[.slice A xs.length c] w fun e w' => e = .returned (.int .u64 (rnumM xs)) ∧ w = w' := by
  have HC := Aside0.mk hC
  clear hC
  go_enter Tryd.func97, Tryd.ntmps97
  go_wp2_with (fail)
  go_loop [3, 4] (fun v3 v4 => ∃ i : Nat, v4 = .int .i64 i ∧ i ≤ xs.length ∧ v3 = .int .u64 (rnumM (xs.take i))) (fun v3 v4 => xs.length - (intOf v4).toNat)
  case atStart => exact ⟨0, rfl, Nat.zero_le _, rfl⟩
  case round =>
    obtain ⟨i, rfl, hi, rfl⟩ := hrel
    by_cases hlt : i < xs.length
    · have hq : decide (i < xs.length) = true := decide_eq_true hlt
      obtain ⟨ad, rfl, hc⟩ := C8_cells HC.out (by omega)
      have hci := hc i hlt
      clear hc
      have HN := Aside0.mk (rnumM_take hlt)
      obtain ⟨y, hy⟩ : ∃ y, xs.getD i 0 = y := ⟨_, rfl⟩
      obtain ⟨a, ha⟩ : ∃ a, rnumM (xs.take i) = a := ⟨_, rfl⟩
      rw [hy] at hci HN
      rw [ha] at HN ⊢
      clear hy ha
      go_wp2_with (fail)
      go_round
      case rel => exact ⟨i + 1, by go_num, by omega, by rw [HN.out]; rfl⟩
      case measure => simp [intOf]; omega
    · obtain rfl : i = xs.length := by omega
      have hq : decide (xs.length < xs.length) = false := decide_eq_false (by omega)
      have hp : xs.take xs.length = xs := List.take_length
      rw [hp]
      clear hp
      go_wp2_with (fail)
      go_ret
      exact ⟨rfl, rfl⟩
theorem big_loop (n : Nat) (hn : n ≤ 8) : ∀ j m (l : List Int) (x : Int), 0 ≤ x → x < 18446744073709551616 → l.length + j = n →
    imprimaturref08_big.l0 (m + j + 1) x n l (l.length : Int) = some (beM j x ++ l)
  | 0, m, l, x, h0, h1, h => by
    rw [imprimaturref08_big.l0, if_neg (by omega)]
    rfl
  | j + 1, m, l, x, h0, h1, h => by
    rw [show m + (j + 1) + 1 = (m + j + 1) + 1 by omega, imprimaturref08_big.l0, if_pos (by omega), Option.bind_some, if_pos (by simp; omega)]
    have e1 : Int.tmod x 256 % 256 = x % 256 := by rw [Int.tmod_eq_emod_of_nonneg h0]; omega
    have e2 : IntKind.u64.wrap (Int.tdiv x 256) = x / 256 := by rw [Int.tdiv_eq_ediv_of_nonneg h0, wrap64u]; omega
    have e3 : wrap64 ((l.length : Int) + 1) = (([x % 256] ++ l).length : Int) := by rw [w64 (by omega) (by omega)]; simp
    rw [e1, e2, e3, big_loop n hn j m ([x % 256] ++ l) (x / 256) (by omega) (by omega) (by simp; omega), beM]
    simp
theorem big_eq (n : Nat) (hn : n ≤ 8) {x : Int} (h0 : 0 ≤ x) (h1 : x ≤ 18446744073709551615) : ∃ k, imprimaturref08_big.f k x n = some (beM n x) := by
  refine ⟨0 + n + 1, ?_⟩
  have h := big_loop n hn n 0 [] x h0 (by omega) (by simp)
  rw [List.append_nil] at h
  exact h
theorem Big_calls (n : Nat) (hn : n ≤ 8) {x : Int} (h0 : 0 ≤ x) (h1 : x ≤ 18446744073709551615) : Calls Tryd.prog 30 #[.int .u64 x, .int .i64 n] w fun e w' => RowPo w w' (beM n x) e := by
  obtain ⟨k, hk⟩ := big_eq n hn h0 h1
  exact (imprimaturref08_big.calls k x n (beM n x) w hk).mono fun e w' ⟨v, he, hr, hb⟩ => ⟨v, he, Row8.of hr, hb⟩
theorem Big8_calls {x : Int} (h0 : 0 ≤ x) (h1 : x ≤ 18446744073709551615) : Calls Tryd.prog 30 #[.int .u64 x, .int .i64 8] w fun e w' => RowPo w w' (beM 8 x) e := Big_calls 8 (by decide) h0 h1
theorem Big4_calls {x : Int} (h0 : 0 ≤ x) (h1 : x ≤ 18446744073709551615) : Calls Tryd.prog 30 #[.int .u64 x, .int .i64 4] w fun e w' => RowPo w w' (beM 4 x) e := Big_calls 4 (by decide) h0 h1
/-- The reference's head. -/
def rheadM (g : Int) (r : List Int) : List Int := [73, 77, 80, 82] ++ beM 8 g ++ beM 4 r.length ++ hashR (beM 8 g ++ r) ++ List.replicate 16 0
theorem rheadM_length (g : Int) (r : List Int) : (rheadM g r).length = 64 := by simp [rheadM, beM_length, hashR_length]
theorem Row8.block {g : Nat} {xs : List Int} (h : w.heap[g]? = some (.cells (nums .u8 xs).toArray 5 (0, 0))) (hq : q ≤ g) (hx : xs.length ≤ 1000000) : Row8 w q (.slice (some ⟨g, 0, none⟩) xs.length xs.length) xs := by
  have ho : w.ownsRow q 5 1 (.slice (some ⟨g, 0, none⟩) xs.length xs.length) xs.length (nums .u8 xs) := by
    refine ⟨by simp [nums_length], .inr ⟨g, xs.length, (nums .u8 xs).toArray, rfl, hq, h, Nat.le_refl _, by unfold maxLen; omega, by simp [nums_length], by simp [nums, List.take_of_length_le]⟩⟩
  exact Kd.R_of_own (enc := fun x : Int => Value.int .u8 x) (h1 := fun _ => rfl) (ok := fun k => q ≤ k) (xs := xs) (v := .slice (some ⟨g, 0, none⟩) xs.length xs.length) ho (fun k hk => by simp only [Value.ownBlock, Option.some.injEq] at hk; omega)
theorem mark_row (w : World) : Row8 (w.alloc (.cells #[.int .u8 73, .int .u8 77, .int .u8 80, .int .u8 82] 5)) w.heap.size (.slice (some ⟨w.heap.size, 0, none⟩) 4 4) [73, 77, 80, 82] :=
  Row8.block (xs := [73, 77, 80, 82]) (heap_alloc_new w (.cells #[.int .u8 73, .int .u8 77, .int .u8 80, .int .u8 82] 5)) (Nat.le_refl _) (by decide)

set_option maxHeartbeats 8000000 in
theorem Head_calls {g : Int} (h0 : 0 ≤ g) (h1 : g ≤ 18446744073709551615) (A : Option Addr) (c : Nat) (r : List Int) (hr : r.length ≤ 1000000) (hC : C8 w A r) : Calls Tryd.prog 14 #[.int .u64 g, .slice A r.length c] w fun e w' => RowPo w w' (rheadM g r) e := by
  have HC := Aside0.mk hC
  have HG := Aside0.mk (show 0 ≤ g ∧ g ≤ 18446744073709551615 from ⟨h0, h1⟩)
  have HL8 := Aside0.mk (beM_length 8 g)
  obtain ⟨T, hT⟩ : ∃ T, T = 8 + r.length := ⟨_, rfl⟩
  have hT1 : T ≤ 1000008 := by omega
  have HLT := Aside0.mk (show (beM 8 g ++ r).length = T by rw [List.length_append, HL8.out, hT])
  have HL4 := Aside0.mk (beM_length 4 (r.length : Int))
  have HRL := Aside0.mk (show (0 : Int) ≤ (r.length : Int) ∧ (r.length : Int) ≤ 18446744073709551615 by omega)
  have HL12 := Aside0.mk (show (([73, 77, 80, 82] : List Int) ++ beM 8 g).length = 12 by rw [List.length_append, HL8.out]; rfl)
  have HL16 := Aside0.mk (show ((([73, 77, 80, 82] : List Int) ++ beM 8 g) ++ beM 4 r.length).length = 16 by rw [List.length_append, HL12.out, HL4.out])
  have HL32 := Aside0.mk (hashR_length (beM 8 g ++ r))
  have HL48 := Aside0.mk (show (((([73, 77, 80, 82] : List Int) ++ beM 8 g) ++ beM 4 r.length) ++ hashR (beM 8 g ++ r)).length = 48 by rw [List.length_append, HL16.out, HL32.out])
  clear hC h0 h1 hT
  go_enter Tryd.func14, Tryd.ntmps14
  go_wp2_with (first | (go_at_call 30; (with_reducible refine (Big8_calls (w := w) HG.out.1 HG.out.2).mono ?_); rintro e w1 ⟨v1, rfl, hr1, hb1⟩; obtain ⟨A1, c1, rfl⟩ := hr1.slice; have HR1 := Aside0.mk hr1; have HB1 := Aside0.mk hb1; clear hr1 hb1) | ((with_reducible refine gate_builtin (b := .append) (xs := #[.tmp 7, .tmp 9]) rfl ?_); at_builtin; refine app8 (q := w1.heap.size) Dk.info5 Tryd.underlying22 rfl (.tmp 7) (.tmp 9) rfl _ _ _ _ _ _ rfl rfl (Row8.nil w1 w1.heap.size) (Row8.C HR1.out).2.2 ?aQ ?aL ?_; (case aQ => exact Nat.le_refl _); (case aL => rw [HL8.out]; decide); intro A2 c2 w2 hr2 hb2 _; rw [List.nil_append] at hr2; rw [List.nil_append, HL8.out]; rw [HL8.out] at hr2; have HR2 := Aside0.mk hr2; have HB2 := Aside0.mk (HB1.out.trans (hb2.mono HB1.out.size)); have HZ2 := Aside0.mk hb2.size; clear hr2 hb2) | ((with_reducible refine gate_builtin (b := .append) (xs := #[.tmp 10, .tmp 11]) rfl ?_); at_builtin; refine app8 (q := w1.heap.size) Dk.info5 Tryd.underlying22 rfl (.tmp 10) (.tmp 11) rfl _ _ _ _ _ _ rfl rfl HR2.out (Kd.C_below HC.out HB2.out) ?aQ ?aL ?_; (case aQ => exact HZ2.out); (case aL => rw [HL8.out]; omega); intro A3 c3 w3 hr3 hb3 _; rw [HLT.out] at hr3; rw [HLT.out]; have HR3 := Aside0.mk hr3; have HB3 := Aside0.mk (HB2.out.trans (hb3.mono HB1.out.size)); clear hr3 hb3; have HBb := Aside0.mk (below_alloc (Below.refl w3.heap.size w3) (.cells #[.int .u8 73, .int .u8 77, .int .u8 80, .int .u8 82] 5)); have HRb := Aside0.mk (mark_row w3)) | (go_at_call 30; (with_reducible refine (Big8_calls (w := w3.alloc (.cells #[.int .u8 73, .int .u8 77, .int .u8 80, .int .u8 82] 5)) HG.out.1 HG.out.2).mono ?_); rintro e w4 ⟨v4, rfl, hr4, hb4⟩; obtain ⟨A4, c4, rfl⟩ := hr4.slice; have HR4 := Aside0.mk hr4; have HB4 := Aside0.mk (below_trans HBb.out hb4); have HRc := Aside0.mk (HRb.out.below hb4); clear hr4 hb4) | ((with_reducible refine gate_builtin (b := .append) (xs := #[.tmp 14, .tmp 16]) rfl ?_); at_builtin; refine app8 (q := w3.heap.size) Dk.info5 Tryd.underlying22 rfl (.tmp 14) (.tmp 16) rfl _ _ _ _ _ _ rfl rfl HRc.out (Row8.C HR4.out).2.2 ?aQ ?aL ?_; (case aQ => exact HB4.out.size); (case aL => rw [HL8.out]; decide); intro A5 c5 w5 hr5 hb5 _; rw [HL12.out] at hr5; rw [HL12.out]; have HR5 := Aside0.mk hr5; have HB5 := Aside0.mk (HB4.out.trans hb5); clear hr5 hb5) | (go_at_call 30; (with_reducible refine (Big4_calls HRL.out.1 HRL.out.2).mono ?_); rintro e w6 ⟨v6, rfl, hr6, hb6⟩; obtain ⟨A6, c6, rfl⟩ := hr6.slice; have HR6 := Aside0.mk hr6; have HB6 := Aside0.mk (below_trans HB5.out hb6); have HR5b := Aside0.mk (HR5.out.below hb6); clear hr6 hb6) | ((with_reducible refine gate_builtin (b := .append) (xs := #[.tmp 17, .tmp 21]) rfl ?_); at_builtin; refine app8 (q := w3.heap.size) Dk.info5 Tryd.underlying22 rfl (.tmp 17) (.tmp 21) rfl _ _ _ _ _ _ rfl rfl HR5b.out (Row8.C HR6.out).2.2 ?aQ ?aL ?_; (case aQ => exact HB6.out.size); (case aL => rw [HL12.out, HL4.out]; decide); intro A7 c7 w7 hr7 hb7 _; rw [HL16.out] at hr7; rw [HL16.out]; have HR7 := Aside0.mk hr7; have HB7 := Aside0.mk (HB6.out.trans hb7); clear hr7 hb7) | (go_at_call 31; (with_reducible refine (calls_of_args (args' := #[.slice A3 (beM 8 g ++ r).length c3]) (by rw [HLT.out]) (Hash_calls A3 c3 (beM 8 g ++ r) (by rw [HLT.out]; omega) (Row8.C (HR3.out.below HB7.out)).2.2)).mono ?_); rintro e w8 ⟨v8, rfl, hr8, hb8⟩; obtain ⟨A8, c8, rfl⟩ := hr8.slice; have HR8 := Aside0.mk hr8; have HB8 := Aside0.mk (below_trans HB7.out hb8); have HR7b := Aside0.mk (HR7.out.below hb8); clear hr8 hb8) | ((with_reducible refine gate_builtin (b := .append) (xs := #[.tmp 22, .tmp 24]) rfl ?_); at_builtin; refine app8 (q := w3.heap.size) Dk.info5 Tryd.underlying22 rfl (.tmp 22) (.tmp 24) rfl _ _ _ _ _ _ rfl rfl HR7b.out (Row8.C HR8.out).2.2 ?aQ ?aL ?_; (case aQ => exact HB8.out.size); (case aL => rw [HL16.out, HL32.out]; decide); intro A9 c9 w9 hr9 hb9 _; rw [HL48.out] at hr9; rw [HL48.out]; have HR9 := Aside0.mk hr9; have HB9 := Aside0.mk (HB8.out.trans hb9); clear hr9 hb9) | ((with_reducible refine gate_builtin (b := .append) (xs := #[.tmp 26, .const (.int .i64 16)]) rfl ?_); refine Kd.R_append_zeros (Kd.int .u8) (w0 := _) w3.heap.size rfl (.tmp 26) (.const (.int .i64 16)) 22 3 5 (.int .u8 0) 1 rfl Tryd.underlying22 Tryd.underlying3 Dk.info5 rfl (by decide) (by decide) _ _ 0 16 (fun k => w3.heap.size ≤ k) rfl rfl rfl ?aF HR9.out (by decide) (Below.refl _ _) ?aQ ?aL ?_; (case aF => exact fun k hk => Nat.le_trans HB9.out.size hk); (case aQ => exact HB9.out.size); (case aL => rw [HL48.out]; decide); intro v10 w10 hr10 hb10 _ _; have HR10 := Aside0.mk hr10; have HB10 := Aside0.mk (HB9.out.trans hb10); clear hr10 hb10))
  go_ret
  exact ⟨_, rfl, Row8.lower (q := w3.heap.size) HR10.out HB3.out.size, HB3.out.trans (HB10.out.mono HB3.out.size)⟩

end Go.Proofs.YtmblnflfklmmkaaDoor.Sh
/- Contracts of the reference's store: Room, Area, Newest, Open. -/
namespace Go.Proofs.YtmblnflfklmmkaaDoor.Sh
open Go.Proofs.YtmblnflfklmmkaaDoor.Dk
open Go.RowKit Go.Proofs.YtmblnflfklmmkaaDoorW.PrintWords Go.Proofs.YtmblnflfklmmkaaDoorW.PrintLast Go.Proofs.YtmblnflfklmmkaaDoorW.PrintMore
set_option linter.unusedVariables false
set_option linter.unusedSimpArgs false
set_option maxRecDepth 30000
variable {w w0 w1 w2 w' wr : World} {B t g2 : Nat} {F2 : Nat → Prop} {R R' : RM} {fr n q k : Int} {v : Value} {xs ys b : List Int}
/-- A store of the reference's, on a disk of the reference's. -/
structure TAt (w : World) (B t g2 : Nat) (F2 : Nat → Prop) (R : RM) (fr n : Int) : Prop where
  blk : w.heap[t]? = some (.cells #[.pointer (some ⟨g2, 0, none⟩), .int .i64 fr, .int .i64 n] 91 (0, 0))
  r : RefAt w B g2 F2 R
  nF : ¬ F2 t
theorem TAt.c0 (h : TAt w B t g2 F2 R fr n) : w.cell? ⟨t, 0, none⟩ = some (.pointer (some ⟨g2, 0, none⟩)) := by simp [World.cell?, h.blk]
theorem TAt.c1 (h : TAt w B t g2 F2 R fr n) : w.cell? ⟨t, 1, none⟩ = some (.int .i64 fr) := by simp [World.cell?, h.blk]
theorem TAt.c2 (h : TAt w B t g2 F2 R fr n) : w.cell? ⟨t, 2, none⟩ = some (.int .i64 n) := by simp [World.cell?, h.blk]
theorem TAt.below (h : TAt w B t g2 F2 R fr n) (hb : Below w.heap.size w w1) : TAt w1 B t g2 F2 R fr n := ⟨(hb.block t (blk_lt h.blk)).trans h.blk, h.r.frame (G := fun _ => False) (Upd.of_below hb) (fun _ _ h => h) (fun _ h => h.elim), h.nF⟩
structure TOk (R : RM) (fr n : Int) : Prop where
  d : ROk R
  hf : 0 ≤ fr
  hn : 2 ≤ n
  hl : fr + 2 * n ≤ (R.sec.length : Int)
  hz : R.sec.length ≤ 1000
theorem TOk.dm (h : TOk R fr n) (hd : ROk R') (hl : R'.sec.length = R.sec.length) : TOk R' fr n := ⟨hd, h.hf, h.hn, by rw [hl]; exact h.hl, by rw [hl]; exact h.hz⟩
theorem rRoom_calls (h : TAt w B t g2 F2 R fr n) (hk : TOk R fr n) : Calls Tryd.prog 72 #[.pointer (some ⟨t, 0, none⟩)] w fun e w' => e = .returned (.int .i64 (64 * n - 64)) ∧ w = w' := by
  have h2 := h.c2
  have n1 := hk.hn
  have n2 : n ≤ 500 := by have := hk.hf; have := hk.hl; have := hk.hz; omega
  clear h hk
  go_enter Tryd.func72, Tryd.ntmps72
  go_wp2_with (fail)
  go_ret
  exact ⟨rfl, rfl⟩
/-- An area's generation and record. -/
def rareaM (R : RM) (fr n k : Int) : Int × List Int :=
  if (rreadM R (fr + k * n)).length ≠ 64 then (0, [])
  else if 64 * n - 64 < rnumM (((rreadM R (fr + k * n)).drop 12).take 4) then (0, [])
  else if sameM (rheadM (rnumM (((rreadM R (fr + k * n)).drop 4).take 8)) (rloadM R (fr + k * n + 1) (rnumM (((rreadM R (fr + k * n)).drop 12).take 4)))) (rreadM R (fr + k * n)) = true then (rnumM (((rreadM R (fr + k * n)).drop 4).take 8), rloadM R (fr + k * n + 1) (rnumM (((rreadM R (fr + k * n)).drop 12).take 4)))
  else (0, [])
def ArPo (w w' : World) (st : Int × List Int) (e : Ending) : Prop := ∃ v, e = .returned (.tuple #[.int .u64 st.1, v]) ∧ Reads w' v st.2 ∧ Below w.heap.size w w'
def RdPo (w w' : World) (x : List Int) (n : Int) (e : Ending) : Prop := ∃ v, e = .returned (.tuple #[v, .int .i64 n]) ∧ Reads w' v x ∧ Below w.heap.size w w'
theorem num_at {ad : Addr} {c : Nat} {hh : List Int} (h : C8 w (some ad) hh) (hl : hh.length = 64) (hc : 64 ≤ c) (o m : Nat) (ho : 0 < o) (hm : 0 < m) (hom : o + m ≤ 16) :
    Calls Tryd.prog 97 #[.slice (some ⟨ad.block, ad.off + o, none⟩) m (c - o)] w.drew fun e w' => e = .returned (.int .u64 (rnumM ((hh.drop o).take m))) ∧ w.drew = w' := by
  have h1 : Kd.C (Kd.int .u8) w (if c = o then some ad else (some ad).map (·.add (o * (Kd.int .u8).sz))) (hh.drop o).length (hh.drop o) := Kd.C_drop h (by omega) (by omega)
  rw [if_neg (by omega)] at h1
  have e : ((some ad).map (·.add (o * (Kd.int .u8).sz)) : Option Addr) = some ⟨ad.block, ad.off + o, none⟩ := by
    simp [Kd.int, Kd.scalar, Addr.add]
    omega
  rw [e] at h1
  have h2 := Kd.C_take h1 (m := m) (by rw [List.length_drop]; omega)
  have h3 := num_calls (w := w.drew) (some ⟨ad.block, ad.off + o, none⟩) (c - o) (xs := (hh.drop o).take m) (by rw [List.length_take]; omega) (Kd.C_below h2 (below_drew (Below.refl _ _)))
  rwa [show ((hh.drop o).take m).length = m by rw [List.length_take, List.length_drop]; omega] at h3
theorem exec_string {P : Program} {ρ : Operand → Value} {o : Oper} {src dst : TypeId} {x : Operand} {u y : Value} {W : World} (ho : o.op = .convert src dst x) (hx : ρ x = u) (hrun : (convert src dst u).run P W = .ok y W) : (execOp ρ o).run P W = .ok (.value y) W := by
  subst hx
  unfold execOp
  simp [ho, hrun]

set_option maxHeartbeats 16000000 in
theorem Area_calls (h : TAt w B t g2 F2 R fr n) (hk : TOk R fr n) (k : Int) (hk01 : k = 0 ∨ k = 1) : Calls Tryd.prog 86 #[.pointer (some ⟨t, 0, none⟩), .int .i64 k] w fun e w' => ArPo w w' (rareaM R fr n k) e := by
  have HT := Aside0.mk h
  have HK := Aside0.mk hk
  have n1 := hk.hn
  have n2 : n ≤ 500 := by have := hk.hf; have := hk.hl; have := hk.hz; omega
  obtain ⟨kn, hkn⟩ : ∃ kn, kn = k * n := ⟨_, rfl⟩
  have hkb : 0 ≤ kn ∧ kn ≤ 500 := by rcases hk01 with rfl | rfl <;> omega
  obtain ⟨q, hq⟩ : ∃ q, q = fr + kn := ⟨_, rfl⟩
  have hqb : 0 ≤ q ∧ q ≤ 2000 := by have := hk.hf; have := hk.hl; have := hk.hz; omega
  have HQ := Aside0.mk (show fr + k * n = q by rw [hq, hkn])
  have hm1 : wrap64 (k * n) = kn := by rw [← hkn]; simp only [wrap64]; omega
  have hm2 : wrap64 (fr + kn) = q := by rw [← hq]; simp only [wrap64]; omega
  have hq1 : wrap64 (q + 1) = q + 1 := by simp only [wrap64]; omega
  obtain ⟨hh, hhe⟩ : ∃ hh, rreadM R q = hh := ⟨_, rfl⟩
  have HE := Aside0.mk (show rareaM R fr n k = if hh.length ≠ 64 then (0, []) else if 64 * n - 64 < rnumM ((hh.drop 12).take 4) then (0, []) else if sameM (rheadM (rnumM ((hh.drop 4).take 8)) (rloadM R (q + 1) (rnumM ((hh.drop 12).take 4)))) hh = true then (rnumM ((hh.drop 4).take 8), rloadM R (q + 1) (rnumM ((hh.drop 12).take 4))) else (0, []) by rw [rareaM, HQ.out, hhe])
  obtain ⟨th, hth⟩ : ∃ th, thereM R q = th := ⟨_, rfl⟩
  have HRD := Aside0.mk (show Calls Tryd.prog 96 #[.pointer (some ⟨g2, 0, none⟩), .int .i64 q] w.drew fun e w' => RdPo w.drew w' hh th e from by
    rw [← hhe, ← hth]
    exact rToRead (HT.out.r.frame (G := fun _ => False) (Upd.of_below (below_drew (Below.refl _ _))) (fun _ _ h => h) (fun _ h => h.elim)) HK.out.d q)
  obtain ⟨T, hT⟩ : ∃ T, rareaM R fr n k = T := ⟨_, rfl⟩
  rw [hT] at HE ⊢
  have HHE := Aside0.mk hhe
  clear h hk hkn hq hT hk01 hhe
  go_enter Tryd.func86, Tryd.ntmps86
  go_wp2_with (fail)
  refine start_ (n := 12) (S := fun w' => w'.cell? ⟨t, 1, none⟩ = some (.int .i64 fr) ∧ w'.cell? ⟨t, 2, none⟩ = some (.int .i64 n)) (ds := []) (bz 12 0) (by kernel_rfl) rfl rfl ⟨HT.out.c1, HT.out.c2⟩ (fun hHeld => ?_)
  refine pz 0 (some 13) (bz 12 1) ?_
  refine pz 1 (some 14) (bz 12 3) ?_
  refine pz 2 (some 15) (bz 12 7) ?_
  refine pz 4 (some 17) (bz 12 23) ?_
  refine pz 5 (some 18) (bz 12 55) ?_
  refine pz 6 (some 19) (bz 12 119) ?_
  refine pz 7 (some 20) (bz 12 247) ?_
  refine tz2 3 (some 16) (bz 12 255) hHeld ?_
  refine tz2 8 (some 21) (bz 12 511) hHeld ?_
  refine pz 9 (some 22) (bz 12 1023) ?_
  refine pz 10 (some 23) (bz 12 2047) ?_
  refine pz 11 (some 6) (bz 12 4095) ?_
  refine done_ (by kernel_rfl) ?_
  clear hHeld
  have h0 := HT.out.c0
  have h2 := HT.out.c2
  by_cases h64 : hh.length = 64
  · have H64 := Aside0.mk h64
    obtain ⟨g', hg'⟩ : ∃ g', rnumM ((hh.drop 4).take 8) = g' := ⟨_, rfl⟩
    obtain ⟨m, hm⟩ : ∃ m, rnumM ((hh.drop 12).take 4) = m := ⟨_, rfl⟩
    have HGR := Aside0.mk (show 0 ≤ g' ∧ g' ≤ 18446744073709551615 from by rw [← hg']; exact rnumM_range _)
    have HMR := Aside0.mk (show 0 ≤ m from by rw [← hm]; exact (rnumM_range _).1)
    have HE2 := Aside0.mk (HE.out.trans (if_neg (by rw [h64]; simp)))
    rw [hg', hm] at HE2
    have HGE := Aside0.mk hg'
    have HME := Aside0.mk hm
    clear h64 hg' hm HE
    go_wp2_with (first | (go_at_call 96; (with_reducible refine (HRD.out).mono ?_); rintro e w3 ⟨v3, rfl, ⟨A3, c3, rfl, hc3, hC3⟩, hb3⟩; have HC3 := Aside0.mk hC3; have HB3 := Aside0.mk (show Below w.heap.size w w3 from ⟨hb3.os, hb3.tape, hb3.output, hb3.size, hb3.block⟩); clear hC3 hb3; first | (rw [H64.out] at hc3 ⊢) | skip))
    obtain ⟨ad, rfl, _⟩ := C8_cells HC3.out (by rw [H64.out]; decide)
    have hcn4 : ¬ c3 = 4 := by omega
    have hcn12 : ¬ c3 = 12 := by omega
    have hc12 : (12 : Int) ≤ (c3 : Int) := by omega
    have hc16 : (16 : Int) ≤ (c3 : Int) := by omega
    have HN1 := Aside0.mk (num_at (c := c3) HC3.out H64.out hc3 4 8 (by decide) (by decide) (by decide))
    have HN2 := Aside0.mk (num_at (c := c3) HC3.out H64.out hc3 12 4 (by decide) (by decide) (by decide))
    rw [HGE.out] at HN1
    rw [HME.out] at HN2
    refine start_ (n := 8) (S := fun w' => True) (ds := []) (bz 8 0) (by kernel_rfl) rfl rfl trivial (fun hHeld => ?_)
    refine pz 0 (some 36) (bz 8 1) ?_
    refine pz 1 (some 37) (bz 8 3) ?_
    refine pz 3 (some 39) (bz 8 11) ?_
    refine pz 4 (some 40) (bz 8 27) ?_
    refine one_ (i := 2) (N := some 38) (bz 8 31) rfl rfl (by kernel_rfl) (by decide) (fun K hK => ?_)
    refine goes_ Tryd.func97 (by kernel_rfl) rfl #[.slice (some ⟨ad.block, ad.off + 4, none⟩) 8 (c3 - 4)] (by rfl) rfl rfl (by simp only [List.map_toArray, List.map_cons, List.map_nil]; rfl) ?_
    with_reducible refine (HN1.out).mono ?_
    rintro e w4 ⟨rfl, rfl⟩
    refine ⟨_, rfl, ?_⟩
    refine hK.out _ _ trivial (fun hHeld => ?_)
    clear hK K
    refine norm_ (a' := ?_) ?_ ?_
    rotate_left
    · show Act.put _ (some 38) _ = _
      simp only [Act.put, List.setIfInBounds_toArray, List.set_cons_zero, List.set_cons_succ, i64_w, i32_w]
      rfl
    refine one_ (i := 5) (N := some 41) (bz 8 63) rfl rfl (by kernel_rfl) (by decide) (fun K hK => ?_)
    refine goes_ Tryd.func97 (by kernel_rfl) rfl #[.slice (some ⟨ad.block, ad.off + 12, none⟩) 4 (c3 - 12)] (by rfl) rfl rfl (by simp only [List.map_toArray, List.map_cons, List.map_nil]; rfl) ?_
    with_reducible refine (HN2.out).mono ?_
    rintro e w4 ⟨rfl, rfl⟩
    refine ⟨_, rfl, ?_⟩
    refine hK.out _ _ trivial (fun hHeld => ?_)
    clear hK K
    refine norm_ (a' := ?_) ?_ ?_
    rotate_left
    · show Act.put _ (some 41) _ = _
      simp only [Act.put, List.setIfInBounds_toArray, List.set_cons_zero, List.set_cons_succ, i64_w, i32_w]
      rfl
    refine pz 6 (some 9) (bz 8 127) ?_
    refine pz 7 (some 10) (bz 8 255) ?_
    refine done_ (by kernel_rfl) ?_
    clear hHeld HN1 HN2
    have HRM := Aside0.mk (rRoom_calls ((HT.out.below HB3.out).below (below_drew (Below.refl _ _))) HK.out)
    have h0' := (HT.out.below HB3.out).c0
    by_cases hmr : 64 * n - 64 < m
    · have tm : decide (64 * n - 64 < m) = true := decide_eq_true hmr
      have HE3 := Aside0.mk (HE2.out.trans (if_pos hmr))
      clear hmr
      go_wp2_with (first | (go_at_call 72; (with_reducible refine HRM.out.mono ?_); rintro e w4 ⟨rfl, rfl⟩))
      refine bodyPost_ret (results_tmp2 rfl _ _ _) rfl ?_
      rw [HE3.out]
      exact ⟨_, rfl, Reads.nil _, HB3.out.trans (below_drew (Below.refl _ _))⟩
    · have tm : decide (64 * n - 64 < m) = false := decide_eq_false hmr
      have HE3 := Aside0.mk (HE2.out.trans (if_neg hmr))
      have hm0 : 0 ≤ m := HMR.out
      have hm1x : m ≤ 64 * n - 64 := by omega
      have hwm : wrap64 m = m := by simp only [wrap64]; omega
      clear hmr
      obtain ⟨r, hr⟩ : ∃ r, rloadM R (q + 1) m = r := ⟨_, rfl⟩
      obtain ⟨le, hle⟩ : ∃ le, rloadE R (q + 1) m = le := ⟨_, rfl⟩
      rw [hr] at HE3
      have HLD := Aside0.mk (show Calls Tryd.prog 98 #[.pointer (some ⟨g2, 0, none⟩), .int .i64 (q + 1), .int .i64 m] w3.drew fun e w' => RdPo w3.drew w' r le e ∧ r.length ≤ m.toNat from by
        rw [← hr, ← hle]
        exact (rToLoad ((HT.out.below HB3.out).below (below_drew (Below.refl _ _))).r HK.out.d (q + 1) m).mono fun e w' ⟨v, h1, h2, h3, h4⟩ => ⟨⟨v, h1, h2, h3⟩, h4⟩)
      clear hr hle
      go_wp2_with (first | (go_at_call 72; (with_reducible refine HRM.out.mono ?_); rintro e w4 ⟨rfl, rfl⟩) | (go_at_call 98; (with_reducible refine HLD.out.mono ?_); rintro e w5 ⟨⟨v5, rfl, ⟨A5, c5, rfl, hc5, hC5⟩, hb5⟩, hl5⟩; have HC5 := Aside0.mk hC5; have HCL5 := Aside0.mk hc5; have HB5 := Aside0.mk (show Below w.heap.size w w5 from HB3.out.trans (show Below w.heap.size w3 w5 from Below.mono (show Below w3.heap.size w3 w5 from ⟨hb5.os, hb5.tape, hb5.output, hb5.size, hb5.block⟩) HB3.out.size)); have HB35 := Aside0.mk (show Below w3.heap.size w3 w5 from ⟨hb5.os, hb5.tape, hb5.output, hb5.size, hb5.block⟩); have HL5 := Aside0.mk hl5; clear hC5 hb5 hl5 hc5))
      have HCS := Aside0.mk (show ∀ W, C8 W (some ad) hh → (convert 22 9 (.slice (some ad) 64 c3)).run Tryd.prog W = .ok (.string (strOfNums hh)) W from fun W hW => by
        have := Kd.C_string (P := Tryd.prog) (A := some ad) (c := c3) Tryd.underlying22 Tryd.underlying5 Tryd.underlying9 hW
        rwa [H64.out] at this)
      have HC5h := Aside0.mk (show C8 w5 (some ad) hh from Kd.C_below HC3.out HB35.out)
      have HHD := Aside0.mk (Head_calls (w := w5.drew) HGR.out.1 HGR.out.2 A5 c5 r (by have := HL5.out; omega) (Kd.C_below HC5.out (below_drew (Below.refl _ _))))
      obtain ⟨X, hX⟩ : ∃ X, rheadM g' r = X := ⟨_, rfl⟩
      rw [hX] at HHD HE3
      clear hX
      refine start_ (n := 7) (S := fun w' => (convert 22 9 (.slice (some ad) 64 c3)).run Tryd.prog w' = .ok (.string (strOfNums hh)) w') (ds := []) (bz 7 0) (by kernel_rfl) rfl rfl ((HCS.out _ (Kd.C_below HC5h.out (below_drew (Below.refl _ _))))) (fun hHeld => ?_)
      refine pz 0 (some 59) (bz 7 1) ?_
      refine pz 1 (some 60) (bz 7 3) ?_
      refine pz 4 (some 63) (bz 7 19) ?_
      refine tz1 5 (some 64) (bz 7 51) hHeld ?_
      refine one_ (i := 2) (N := some 61) (bz 7 55) rfl rfl (by kernel_rfl) (by decide) (fun K hK => ?_)
      refine goes_ Tryd.func14 (by kernel_rfl) rfl #[.int .u64 g', .slice A5 r.length c5] (by rfl) rfl rfl (by simp only [List.map_toArray, List.map_cons, List.map_nil]; rfl) ?_
      with_reducible refine (HHD.out).mono ?_
      rintro e w6 ⟨v6, rfl, hr6, hb6⟩
      refine ⟨_, rfl, ?_⟩
      obtain ⟨A6, c6, rfl⟩ := hr6.slice
      have HC6 := Aside0.mk (Row8.C hr6).2.2
      have HB56 := Aside0.mk (show Below w5.heap.size w5 w6 from ⟨hb6.os, hb6.tape, hb6.output, hb6.size, hb6.block⟩)
      clear hr6 hb6
      refine hK.out _ _ (HCS.out _ (Kd.C_below HC5h.out HB56.out)) (fun hHeld => ?_)
      clear hK K
      refine norm_ (a' := ?_) ?_ ?_
      rotate_left
      · show Act.put _ (some 61) _ = _
        simp only [Act.put, List.setIfInBounds_toArray, List.set_cons_zero, List.set_cons_succ, i64_w, i32_w]
        rfl
      refine one_ (i := 3) (N := some 62) (bz 7 63) rfl rfl (by kernel_rfl) (by decide) (fun K hK => ?_)
      refine value_ (w1 := w6) (v := .string (strOfNums X)) (by rfl) rfl (exec_string (src := 22) (dst := 9) rfl (by rfl) (Kd.C_string (P := Tryd.prog) (A := A6) (c := c6) Tryd.underlying22 Tryd.underlying5 Tryd.underlying9 HC6.out)) ?_
      refine hK.out _ _ (HCS.out _ (Kd.C_below HC5h.out HB56.out)) (fun hHeld => ?_)
      clear hK K
      refine norm_ (a' := ?_) ?_ ?_
      rotate_left
      · show Act.put _ (some 62) _ = _
        simp only [Act.put, List.setIfInBounds_toArray, List.set_cons_zero, List.set_cons_succ, i64_w, i32_w]
        rfl
      refine pz 6 (some 65) (bz 7 127) ?_
      refine done_ (by kernel_rfl) ?_
      clear hHeld
      have HBE := Aside0.mk (show Below w.heap.size w w6 from below_trans HB5.out HB56.out)
      have HRr := Aside0.mk (show Reads w6 (.slice A5 r.length c5) r from ⟨_, _, rfl, HCL5.out, Kd.C_below HC5.out HB56.out⟩)
      go_wp2_with (fail)
      · rename_i hs
        have hs2 : sameM X hh = false := by simpa [sameM] using hs
        have HE4 := Aside0.mk (HE3.out.trans (if_neg (by rw [hs2]; simp)))
        refine bodyPost_ret (results_tmp2 rfl _ _ _) rfl ?_
        rw [HE4.out]
        exact ⟨_, rfl, Reads.nil _, HBE.out⟩
      · rename_i hs
        have hs2 : sameM X hh = true := by simpa [sameM] using hs
        have HE4 := Aside0.mk (HE3.out.trans (if_pos hs2))
        refine bodyPost_ret (results_tmp2 rfl _ _ _) rfl ?_
        rw [HE4.out]
        exact ⟨_, rfl, HRr.out, HBE.out⟩
  · have t64 : decide ((hh.length : Int) = 64) = false := decide_eq_false (by omega)
    have HE2 := Aside0.mk (HE.out.trans (if_pos h64))
    have t64b : ((hh.length : Int) != 64) = true := by simp; omega
    have t64c : ((hh.length : Int) == 64) = false := by simp; omega
    have t64b : ((hh.length : Int) != 64) = true := by simp; omega
    have t64c : ((hh.length : Int) == 64) = false := by simp; omega
    clear HE h64
    go_wp2_with (first | (go_at_call 96; (with_reducible refine (HRD.out).mono ?_); rintro e w3 ⟨v3, rfl, ⟨A3, c3, rfl, hc3, hC3⟩, hb3⟩; have HC3 := Aside0.mk hC3; have HB3 := Aside0.mk (show Below w.heap.size w w3 from ⟨hb3.os, hb3.tape, hb3.output, hb3.size, hb3.block⟩); clear hC3 hb3; first | (rw [XX.out] at hc3 ⊢) | skip))
    refine bodyPost_ret (results_tmp2 rfl _ _ _) rfl ?_
    rw [HE2.out]
    exact ⟨_, rfl, Reads.nil _, HB3.out⟩

end Go.Proofs.YtmblnflfklmmkaaDoor.Sh
/- Contracts of the reference's store: Newest, Open, Put. -/
namespace Go.Proofs.YtmblnflfklmmkaaDoor.Sh
open Go.Proofs.YtmblnflfklmmkaaDoor.Dk
open Go.RowKit Go.Proofs.YtmblnflfklmmkaaDoorW.PrintWords Go.Proofs.YtmblnflfklmmkaaDoorW.PrintLast Go.Proofs.YtmblnflfklmmkaaDoorW.PrintMore
set_option linter.unusedVariables false
set_option linter.unusedSimpArgs false
set_option maxRecDepth 30000
variable {w w0 w1 w2 w' wr : World} {B t g2 : Nat} {F2 : Nat → Prop} {R R' : RM} {fr n q k : Int} {v : Value} {xs ys b : List Int}
def pickM (a b : Int × List Int) : Int × Int × List Int := if a.1 = 0 ∧ b.1 = 0 then (-1, 0, []) else if b.1 ≤ a.1 then (0, a.1, a.2) else (1, b.1, b.2)
def rnewestM (R : RM) (fr n : Int) : Int × Int × List Int := pickM (rareaM R fr n 0) (rareaM R fr n 1)
def NeP (w w' : World) (st : Int × Int × List Int) (e : Ending) : Prop := ∃ v, e = .returned (.tuple #[.int .i64 st.1, .int .u64 st.2.1, v]) ∧ Reads w' v st.2.2 ∧ Below w.heap.size w w'
theorem rareaM_range (k : Int) : 0 ≤ (rareaM R fr n k).1 ∧ (rareaM R fr n k).1 ≤ 18446744073709551615 := by
  unfold rareaM
  split
  · exact ⟨by decide, by decide⟩
  · split
    · exact ⟨by decide, by decide⟩
    · split
      · exact rnumM_range _
      · exact ⟨by decide, by decide⟩
theorem Reads.below {v : Value} {x : List Int} (h : Reads w v x) (hb : Below w.heap.size w w1) : Reads w1 v x := by
  obtain ⟨A, c, h1, h2, h3⟩ := h
  exact ⟨A, c, h1, h2, Kd.C_below h3 hb⟩
set_option maxHeartbeats 8000000 in
theorem rNewest_calls (h : TAt w B t g2 F2 R fr n) (hk : TOk R fr n) : Calls Tryd.prog 71 #[.pointer (some ⟨t, 0, none⟩)] w fun e w' => NeP w w' (rnewestM R fr n) e := by
  have HT := Aside0.mk h
  have HK := Aside0.mk hk
  have HR := Aside0.mk (show rnewestM R fr n = pickM (rareaM R fr n 0) (rareaM R fr n 1) from rfl)
  have HA0 := Aside0.mk (Area_calls h hk 0 (.inl rfl))
  have HA1 := Aside0.mk (show ∀ W, Below w.heap.size w W → Calls Tryd.prog 86 #[.pointer (some ⟨t, 0, none⟩), .int .i64 1] W fun e w' => ArPo W w' (rareaM R fr n 1) e from fun W hW => Area_calls (HT.out.below hW) HK.out 1 (.inr rfl))
  have ha := (rareaM_range (R := R) (fr := fr) (n := n) 0).1
  have hb := (rareaM_range (R := R) (fr := fr) (n := n) 1).1
  obtain ⟨P, hP⟩ : ∃ P, rareaM R fr n 0 = P := ⟨_, rfl⟩
  obtain ⟨Q, hQ⟩ : ∃ Q, rareaM R fr n 1 = Q := ⟨_, rfl⟩
  rw [hP] at HA0 HR ha
  rw [hQ] at HA1 HR hb
  obtain ⟨T, hT⟩ : ∃ T, rnewestM R fr n = T := ⟨_, rfl⟩
  rw [hT] at HR ⊢
  obtain ⟨a, x⟩ := P
  obtain ⟨b, y⟩ := Q
  dsimp only at ha hb
  clear h hk hP hQ hT
  by_cases h0 : a = 0 ∧ b = 0
  · have HE := Aside0.mk (HR.out.trans (if_pos h0))
    obtain ⟨rfl, rfl⟩ := h0
    go_enter Tryd.func71, Tryd.ntmps71
    go_wp2_with (first | (go_at_call 86; (with_reducible refine (HA0.out).mono ?_); rintro e w1 ⟨v1, rfl, ⟨A1, c1, rfl, hc1, hC1⟩, hb1⟩; have HB1 := Aside0.mk hb1; have HV1 := Aside0.mk (show Reads w1 (.slice A1 x.length c1) x from ⟨A1, c1, rfl, hc1, hC1⟩); clear hb1 hc1 hC1) | (go_at_call 86; (with_reducible refine (HA1.out _ HB1.out).mono ?_); rintro e w2 ⟨v2, rfl, ⟨A2, c2, rfl, hc2, hC2⟩, hb2⟩; have HB2 := Aside0.mk hb2; have HV2 := Aside0.mk (show Reads w2 (.slice A2 y.length c2) y from ⟨A2, c2, rfl, hc2, hC2⟩); clear hb2 hc2 hC2))
    refine bodyPost_ret (results_tmp3 rfl _ _ _) rfl ?_
    rw [HE.out]
    exact ⟨_, rfl, Reads.nil _, below_trans HB1.out HB2.out⟩
  by_cases hab : b ≤ a
  · have HE := Aside0.mk (HR.out.trans ((if_neg h0).trans (if_pos hab)))
    have ha0 : ¬ a = 0 := by omega
    have ta : (a == 0) = false := by simpa using ha0
    have tb : decide (a < b) = false := decide_eq_false (by omega)
    have tc : decide (b ≤ a) = true := decide_eq_true hab
    clear h0 hab
    go_enter Tryd.func71, Tryd.ntmps71
    go_wp2_with (first | (go_at_call 86; (with_reducible refine (HA0.out).mono ?_); rintro e w1 ⟨v1, rfl, ⟨A1, c1, rfl, hc1, hC1⟩, hb1⟩; have HB1 := Aside0.mk hb1; have HV1 := Aside0.mk (show Reads w1 (.slice A1 x.length c1) x from ⟨A1, c1, rfl, hc1, hC1⟩); clear hb1 hc1 hC1) | (go_at_call 86; (with_reducible refine (HA1.out _ HB1.out).mono ?_); rintro e w2 ⟨v2, rfl, ⟨A2, c2, rfl, hc2, hC2⟩, hb2⟩; have HB2 := Aside0.mk hb2; have HV2 := Aside0.mk (show Reads w2 (.slice A2 y.length c2) y from ⟨A2, c2, rfl, hc2, hC2⟩); clear hb2 hc2 hC2))
    refine bodyPost_ret (results_tmp3 rfl _ _ _) rfl ?_
    rw [HE.out]
    exact ⟨_, rfl, Sh.Reads.below HV1.out HB2.out, below_trans HB1.out HB2.out⟩
  · have HE := Aside0.mk (HR.out.trans ((if_neg h0).trans (if_neg hab)))
    have hb0 : ¬ b = 0 := by omega
    have ta : (b == 0) = false := by simpa using hb0
    have tc : decide (b ≤ a) = false := decide_eq_false hab
    clear h0 hab
    go_enter Tryd.func71, Tryd.ntmps71
    go_wp2_with (first | (go_at_call 86; (with_reducible refine (HA0.out).mono ?_); rintro e w1 ⟨v1, rfl, ⟨A1, c1, rfl, hc1, hC1⟩, hb1⟩; have HB1 := Aside0.mk hb1; have HV1 := Aside0.mk (show Reads w1 (.slice A1 x.length c1) x from ⟨A1, c1, rfl, hc1, hC1⟩); clear hb1 hc1 hC1) | (go_at_call 86; (with_reducible refine (HA1.out _ HB1.out).mono ?_); rintro e w2 ⟨v2, rfl, ⟨A2, c2, rfl, hc2, hC2⟩, hb2⟩; have HB2 := Aside0.mk hb2; have HV2 := Aside0.mk (show Reads w2 (.slice A2 y.length c2) y from ⟨A2, c2, rfl, hc2, hC2⟩); clear hb2 hc2 hC2))
    all_goals (refine bodyPost_ret (results_tmp3 rfl _ _ _) rfl ?_)
    all_goals rw [HE.out]
    all_goals exact ⟨_, rfl, HV2.out, below_trans HB1.out HB2.out⟩

def rOpenPo (w w' : World) (B g2 : Nat) (F2 : Nat → Prop) (R : RM) (fr n : Int) (e : Ending) : Prop :=
  (¬ (2 ≤ n ∧ 0 ≤ fr ∧ fr + 2 * n ≤ (R.sec.length : Int)) ∧ e = .returned (.tuple #[.pointer none, .int .i64 1]) ∧ Below w.heap.size w w') ∨
  ((2 ≤ n ∧ 0 ≤ fr ∧ fr + 2 * n ≤ (R.sec.length : Int)) ∧ ∃ t, e = .returned (.tuple #[.pointer (some ⟨t, 0, none⟩), .int .i64 0]) ∧ TAt w' B t g2 F2 R fr n ∧ w.heap.size ≤ t ∧ Below w.heap.size w w')
set_option maxHeartbeats 16000000 in
theorem rOpen_calls (h : RefAt w B g2 F2 R) (hl : R.sec.length ≤ 1000) (fr n : Int) : Calls Tryd.prog 48 #[.pointer (some ⟨g2, 0, none⟩), .int .i64 fr, .int .i64 n] w fun e w' => rOpenPo w w' B g2 F2 R fr n e := by
  have HD := Aside0.mk h
  obtain ⟨vs, vh, vc, hR⟩ := h
  obtain ⟨A, c, rfl, _, _⟩ := Kd.R_reads hR.sec
  have h0 := hR.c0
  have HLT := Aside0.mk (fun k hk => (hR.lt k hk).2)
  obtain ⟨S, hS⟩ : ∃ S : Nat, R.sec.length = S := ⟨_, rfl⟩
  have HSS := Lib.hid hS
  rw [hS] at hl h0
  clear hR hS
  by_cases h1 : n < 2
  · have hq : decide (n < 2) = true := decide_eq_true h1
    have HB := Aside0.mk h1
    clear h1
    go_enter Tryd.func48, Tryd.ntmps48
    go_wp2_with (fail)
    refine bodyPost_ret (results_tmp2 rfl _ _ _) rfl ?_
    exact .inl ⟨by have := HB.out; omega, rfl, Below.refl _ _⟩
  have hq : decide (n < 2) = false := decide_eq_false h1
  by_cases h2 : (S : Int) < n
  · have hq2 : decide ((S : Int) < n) = true := decide_eq_true h2
    have HB := Aside0.mk h2
    clear h1 h2
    go_enter Tryd.func48, Tryd.ntmps48
    go_wp2_with (fail)
    refine bodyPost_ret (results_tmp2 rfl _ _ _) rfl ?_
    exact .inl ⟨by have := HB.out; have := HSS.out; omega, rfl, Below.refl _ _⟩
  have hq2 : decide ((S : Int) < n) = false := decide_eq_false h2
  by_cases h3 : fr < 0
  · have hq3 : decide (fr < 0) = true := decide_eq_true h3
    have HB := Aside0.mk h3
    clear h1 h2 h3
    go_enter Tryd.func48, Tryd.ntmps48
    go_wp2_with (fail)
    refine bodyPost_ret (results_tmp2 rfl _ _ _) rfl ?_
    exact .inl ⟨by have := HB.out; omega, rfl, Below.refl _ _⟩
  have hq3 : decide (fr < 0) = false := decide_eq_false h3
  by_cases h4 : (S : Int) < fr
  · have hq4 : decide ((S : Int) < fr) = true := decide_eq_true h4
    have HB := Aside0.mk (show ¬ fr + 2 * n ≤ (S : Int) by omega)
    clear h1 h2 h3 h4
    go_enter Tryd.func48, Tryd.ntmps48
    go_wp2_with (fail)
    refine bodyPost_ret (results_tmp2 rfl _ _ _) rfl ?_
    exact .inl ⟨by have := HB.out; have := HSS.out; omega, rfl, Below.refl _ _⟩
  have hq4 : decide ((S : Int) < fr) = false := decide_eq_false h4
  have hn0 : 0 ≤ n := by omega
  have hnS : n ≤ 1000 := by omega
  have hf0 : 0 ≤ fr := by omega
  have hfS : fr ≤ 1000 := by omega
  by_cases h5 : (S : Int) < fr + 2 * n
  · have hq5 : decide ((S : Int) < fr + 2 * n) = true := decide_eq_true h5
    have HB := Aside0.mk (show ¬ fr + 2 * n ≤ (S : Int) by omega)
    clear h1 h2 h3 h4 h5
    go_enter Tryd.func48, Tryd.ntmps48
    go_wp2_with (fail)
    refine bodyPost_ret (results_tmp2 rfl _ _ _) rfl ?_
    exact .inl ⟨by have := HB.out; have := HSS.out; omega, rfl, Below.refl _ _⟩
  · have hq5 : decide ((S : Int) < fr + 2 * n) = false := decide_eq_false h5
    have HB := Aside0.mk (show 2 ≤ n ∧ 0 ≤ fr ∧ fr + 2 * n ≤ (S : Int) by omega)
    clear h1 h2 h3 h4 h5
    go_enter Tryd.func48, Tryd.ntmps48
    go_wp2_with (fail)
    refine bodyPost_ret (results_tmp2 rfl _ _ _) rfl ?_
    refine .inr ⟨by rw [HSS.out]; exact HB.out, w.heap.size, rfl, ⟨heap_alloc_new w _, HD.out.frame (G := fun _ => False) (Upd.of_below (below_alloc (Below.refl _ _) _)) (fun _ _ h => h) (fun _ h => h.elim), fun h => by have := HLT.out _ h; omega⟩, Nat.le_refl _, below_alloc (Below.refl _ _) _⟩

end Go.Proofs.YtmblnflfklmmkaaDoor.Sh
