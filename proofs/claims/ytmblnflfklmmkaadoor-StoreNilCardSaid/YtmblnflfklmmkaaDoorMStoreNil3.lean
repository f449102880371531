/- StoreNil: the texts ReH ReI ReJ ReK LwA LwB LwC LwD LwE LwF LwG StC StD StE StF StG PlA PlS PlT StH SnA LawStoreNil. -/
import Derived.Test.YtmblnflfklmmkaaDoorMStoreNil2
import Derived.Stop.BytesEq
import Derived.Test.YtmblnflfklmmkaaDoorRows
import Derived.Test.YtmblnflfklmmkaaDoorCards
import Derived.Test.YtmblnflfklmmkaaDoorTie
import Derived.Test.YtmblnflfklmmkaaDoorMStoreNil1
import Derived.Test.YtmblnflfklmmkaaDoorWSized
import Derived.WalkKit
import Derived.ProofKit
import Derived.OpenShut
import Derived.ShutString
import Derived.ChangeOld
import Derived.Below
import Derived.SizedLaws
import Derived.SevenTiedAt
import Derived.LaidMore
import Derived.Stop.Joined
/- The reference's Read. -/
namespace Go.Proofs.YtmblnflfklmmkaaDoor.Dk
open Go.RowKit Go.Proofs.YtmblnflfklmmkaaDoorW.PrintWords Go.Proofs.YtmblnflfklmmkaaDoorW.PrintLast Go.Proofs.YtmblnflfklmmkaaDoorW.PrintMore
set_option linter.unusedVariables false
set_option linter.unusedSimpArgs false
set_option maxRecDepth 30000
variable {w w1 : World} {B g : Nat} {F G : Nat → Prop} {R : RM} {vs vh vc : Value}
/-- Bytes that can be read. -/
def Reads (w : World) (v : Value) (b : List Int) : Prop := ∃ A c, v = .slice A b.length c ∧ b.length ≤ c ∧ Kd.C (Kd.int .u8) w A b.length b
theorem Reads.nil (w : World) : Reads w (.slice none 0 0) [] := ⟨none, 0, rfl, Nat.le_refl _, rfl, by decide, fun h => absurd h (by decide)⟩
theorem Reads.of_R {ok : Nat → Prop} {v : Value} {b : List Int} (h : Kd.R (Kd.int .u8) 5 w B ok v b) : Reads w v b := Kd.R_reads h
/-- A sector of the reference. -/
theorem sec_elem {gs ns cs : Nat} {L : List (List Int)} (h : Kd.R kBy 22 w B F (.slice (some ⟨gs, 0, none⟩) ns cs) L) (k : Int) (h0 : 0 ≤ k) (h1 : k < ns) :
    ∃ u, w.cell? ⟨gs, k.toNat, none⟩ = some u ∧ Kd.R (Kd.int .u8) 5 w B F u (L.getD k.toNat []) := by
  obtain ⟨c, hl, hM, hx, _⟩ := Kd.R_elem h [] k h0 h1
  obtain ⟨u, rfl, hr⟩ := hM
  have := hx 0 u rfl
  refine ⟨u, ?_, Kd.R_mono hr (fun _ h => h.1)⟩
  rw [show k.toNat * kBy.sz + 0 = k.toNat from by show k.toNat * 1 + 0 = _; omega] at this
  exact this
set_option maxHeartbeats 8000000 in
theorem rRead_calls (h : RAt w B g F R vs vh vc) (hok : ROk R) (k : Int) :
    Calls Tryd.prog 96 #[.pointer (some ⟨g, 0, none⟩), .int .i64 k] w fun e w' => ∃ v b n, e = .returned (.tuple #[v, .int .i64 n]) ∧ Reads w' v b ∧ w = w' ∧ (thereM R k = 0 → b.length = 64) := by
  have H := Aside0.mk h
  have HOK := Aside0.mk hok
  obtain ⟨As, cs, rfl, hsl, _⟩ := Kd.R_reads h.sec
  obtain ⟨Ah, ch, rfl, hhl, _⟩ := Kd.R_reads h.wait
  have h1 := h.c1
  have h0 := h.c0
  have hn2 := hok.n2
  clear h hok hsl hhl
  by_cases ha : thereM R k = 0
  · have hk0 : 0 ≤ k ∧ k < (R.sec.length : Int) := by
      unfold thereM at ha
      split at ha
      · omega
      · split at ha
        · omega
        · omega
    have HA := Aside0.mk ha
    clear ha
    obtain ⟨hk0, hk1⟩ := hk0
    rcases R_cases H.out.sec with ⟨_, hz⟩ | ⟨gs, caps', es, hgs⟩
    · have : R.sec.length = 0 := congrArg List.length hz
      omega
    injection es with es1 es2 es3
    subst es1
    clear es2 es3
    obtain ⟨us, hus, hRu⟩ := sec_elem H.out.sec k hk0 hk1
    have hlb : (R.sec.getD k.toNat []).length = 64 := by
      rw [List.getD_eq_getElem?_getD, List.getElem?_eq_getElem (by omega)]
      exact HOK.out.s64 _ (List.getElem_mem (by omega))
    obtain ⟨bs, hbs⟩ : ∃ b, R.sec.getD k.toNat [] = b := ⟨_, rfl⟩
    rw [hbs] at hRu hlb
    have HLB := Aside0.mk hlb
    have HUS := Aside0.mk hRu
    obtain ⟨Au, cu, rfl⟩ := Kd.R_slice hRu
    clear hbs hlb
    clear hRu
    go_enter Tryd.func96, Tryd.ntmps96
    go_wp2_with (first | (go_at_call 75; refine (there_calls H.out k).mono ?_; rintro e w' ⟨rfl, rfl⟩; rw [HA.out]))
    go_loopw [7] (fun v7 w' => w' = w ∧ (v7 = .int .i64 (-1) ∨ ∃ j : Nat, v7 = .int .i64 j ∧ j < R.wait.length)) (fun v7 _ => (intOf v7 + 1).toNat)
    case atStart =>
      refine ⟨rfl, ?_⟩
      rcases Nat.eq_zero_or_pos R.wait.length with h | h
      · exact .inl (by rw [h]; rfl)
      · exact .inr ⟨R.wait.length - 1, by congr 1; omega, by omega⟩
    case round =>
      obtain ⟨rfl, hv⟩ := hrel
      rcases hv with rfl | ⟨j, rfl, hj⟩
      · go_wp2
        refine bodyPost_ret (results_tmp2 rfl _ _ _) rfl ?_
        exact ⟨_, bs, _, rfl, Reads.of_R HUS.out, rfl, fun _ => HLB.out⟩
      · rcases R_cases H.out.wait with ⟨_, hz⟩ | ⟨gh, caph, eh, hgh⟩
        · have : R.wait.length = 0 := by rw [hz]; rfl
          omega
        injection eh with eh1 eh2 eh3
        subst eh1
        clear eh2 eh3
        obtain ⟨u, hu1, hu2, hu3⟩ := wait_elem H.out.sec H.out.wait j hj
        have hl64 : (R.wait.getD j (0, [])).2.length = 64 := by
          rw [List.getD_eq_getElem?_getD, List.getElem?_eq_getElem hj]
          exact HOK.out.w64 _ (List.getElem_mem hj)
        obtain ⟨a, b, hab⟩ : ∃ a b, R.wait.getD j (0, []) = (a, b) := ⟨_, _, rfl⟩
        rw [hab] at hl64 hu3
        have hu1' : wr.cell? ⟨gh, j * 2, none⟩ = some (.int .i64 (R.wait.getD j (0, [])).1) := hu1
        rw [hab] at hu1'
        dsimp only at hl64 hu3 hu1'
        have HL := Aside0.mk hl64
        have HU := Aside0.mk hu3
        clear hab hl64 hu3 hu1
        by_cases hak : a = k
        · subst hak
          go_wp2
          refine bodyPost_ret (results_tmp2 rfl _ _ _) rfl ?_
          exact ⟨_, b, _, rfl, Reads.of_R HU.out, rfl, fun _ => HL.out⟩
        · have tak : (a == k) = false := by simpa using hak
          clear hak
          go_wp2
          go_roundw
          case rel =>
            refine ⟨trivial, ?_⟩
            rcases Nat.eq_zero_or_pos j with h | h
            · exact .inl (by rw [h]; rfl)
            · exact .inr ⟨j - 1, by congr 1; omega, by omega⟩
          case measure => simp [intOf]
  · obtain ⟨q, hq0⟩ : ∃ q, thereM R k = q := ⟨_, rfl⟩
    have HA := Lib.hid hq0
    rw [hq0] at ha
    clear hq0
    go_enter Tryd.func96, Tryd.ntmps96
    go_wp2_with (first | (go_at_call 75; refine (there_calls H.out k).mono ?_; rintro e w' ⟨rfl, rfl⟩; rw [HA.out]))
    refine bodyPost_ret (results_tmp2 rfl _ _ _) rfl ?_
    exact ⟨_, [], q, rfl, Reads.nil _, rfl, fun h => absurd (HA.out.symm.trans h) (by simpa using ha)⟩
end Go.Proofs.YtmblnflfklmmkaaDoor.Dk
/- The reference's span and Load. -/
namespace Go.Proofs.YtmblnflfklmmkaaDoor.Dk
open Go.RowKit Go.Proofs.YtmblnflfklmmkaaDoorW.PrintWords Go.Proofs.YtmblnflfklmmkaaDoorW.PrintLast Go.Proofs.YtmblnflfklmmkaaDoorW.PrintMore
set_option linter.unusedVariables false
set_option linter.unusedSimpArgs false
set_option maxRecDepth 30000
variable {w w1 : World} {B g : Nat} {F G : Nat → Prop} {R : RM} {vs vh vc : Value}
def rspanM (R : RM) (k n : Int) : Int := if R.down = true then 60 else if k < 0 ∨ (R.sec.length : Int) < k ∨ 64 * ((R.sec.length : Int) - k) < n then 61 else 0
set_option maxHeartbeats 8000000 in
theorem rspan_calls (h : RAt w B g F R vs vh vc) (hok : ROk R) (k n : Int) :
    Calls Tryd.prog 87 #[.pointer (some ⟨g, 0, none⟩), .int .i64 k, .int .i64 n] w fun e w' => e = .returned (.int .i64 (rspanM R k n)) ∧ w = w' := by
  obtain ⟨As, cs, rfl, hsl, _⟩ := Kd.R_reads h.sec
  have h0 := h.c0
  have h2 := h.c2
  have hn1 := hok.n1
  clear h hok hsl
  cases hd : R.down with
  | true =>
    rw [hd] at h2
    have hq := Lib.hid (show rspanM R k n = 60 by simp [rspanM, hd])
    clear hd
    go_enter Tryd.func87, Tryd.ntmps87
    go_wp2
    go_ret
    exact ⟨by rw [hq.out] <;> rfl, rfl⟩
  | false =>
    rw [hd] at h2
    by_cases hk : k < 0
    · have hq := Lib.hid (show rspanM R k n = 61 by simp [rspanM, hd, hk])
      clear hd
      go_enter Tryd.func87, Tryd.ntmps87
      go_wp2
      go_ret
      exact ⟨by rw [hq.out] <;> rfl, rfl⟩
    by_cases hk2 : (R.sec.length : Int) < k
    · have hq := Lib.hid (show rspanM R k n = 61 by simp [rspanM, hd, hk2])
      clear hd
      go_enter Tryd.func87, Tryd.ntmps87
      go_wp2
      go_ret
      exact ⟨by rw [hq.out] <;> rfl, rfl⟩
    by_cases hk3 : 64 * ((R.sec.length : Int) - k) < n
    · have hq := Lib.hid (show rspanM R k n = 61 by simp [rspanM, hd, hk3])
      clear hd
      go_enter Tryd.func87, Tryd.ntmps87
      go_wp2
      go_ret
      exact ⟨by rw [hq.out] <;> rfl, rfl⟩
    · have hq := Lib.hid (show rspanM R k n = 0 by simp [rspanM, hd, hk, hk2, hk3])
      clear hd
      go_enter Tryd.func87, Tryd.ntmps87
      go_wp2
      go_ret
      exact ⟨by rw [hq.out] <;> rfl, rfl⟩
theorem rspan0 {k n : Int} (h : rspanM R k n = 0) : R.down = false ∧ 0 ≤ k ∧ k ≤ R.sec.length ∧ n ≤ 64 * ((R.sec.length : Int) - k) := by
  unfold rspanM at h
  cases hd : R.down with
  | true => rw [hd] at h; simp at h
  | false =>
    rw [hd] at h
    by_cases hc : k < 0 ∨ (R.sec.length : Int) < k ∨ 64 * ((R.sec.length : Int) - k) < n
    · simp [hc] at h
    · refine ⟨rfl, ?_, ?_, ?_⟩ <;> omega
theorem there0 {k : Int} (hd : R.down = false) (h0 : 0 ≤ k) (h1 : k < R.sec.length) : thereM R k = 0 := by
  unfold thereM
  rw [hd, if_neg (by decide), if_neg (by omega)]
def TwoRead (w w' : World) (e : Ending) : Prop := ∃ v b q, e = .returned (.tuple #[v, .int .i64 q]) ∧ Reads w' v b ∧ Below w.heap.size w w'
set_option maxHeartbeats 8000000 in
theorem rLoad_calls (h : RAt w B g F R vs vh vc) (hok : ROk R) (k n : Int) :
    Calls Tryd.prog 98 #[.pointer (some ⟨g, 0, none⟩), .int .i64 k, .int .i64 n] w fun e w' => TwoRead w w' e := by
  have H := Aside0.mk h
  have HOK := Aside0.mk hok
  have h2 := h.c2
  have hn1 := hok.n1
  clear h hok
  cases hd : R.down with
  | true =>
    rw [hd] at h2
    clear hd
    go_enter Tryd.func98, Tryd.ntmps98
    go_wp2
    refine bodyPost_ret (results_tmp2 rfl _ _ _) rfl ?_
    exact ⟨_, [], 60, rfl, Reads.nil _, Below.refl _ _⟩
  | false =>
    rw [hd] at h2
    clear hd
    by_cases hn : n < 0
    · go_enter Tryd.func98, Tryd.ntmps98
      go_wp2
      refine bodyPost_ret (results_tmp2 rfl _ _ _) rfl ?_
      exact ⟨_, [], 1, rfl, Reads.nil _, Below.refl _ _⟩
    · by_cases ha : rspanM R k n = 0
      · have HA := Aside0.mk ha
        obtain ⟨hd, hk0, hk1, hk2⟩ := rspan0 ha
        have HD := Aside0.mk hd
        clear ha hd
        go_enter Tryd.func98, Tryd.ntmps98
        go_wp2_with (first | (go_at_call 87; refine (rspan_calls H.out HOK.out k n).mono ?_; rintro e w' ⟨rfl, rfl⟩; rw [HA.out]))
        go_loopw [1, 9] (fun v1 v9 w' => ∃ (i : Nat) (xs : List Int), v1 = .int .i64 (k + i) ∧ xs.length = 64 * i ∧ (i : Int) ≤ R.sec.length - k ∧ Aside0 (Kd.R (Kd.int .u8) 5 w' w.heap.size (fun k => w.heap.size ≤ k) v9 xs) ∧ Aside0 (Below w.heap.size w w') ∧ ∃ A c, v9 = .slice A xs.length c) (fun _ v9 _ => (n - (match v9 with | .slice _ m _ => (m : Int) | _ => 0)).toNat)
        case atStart => exact ⟨0, [], by simp, rfl, by omega, ⟨Kd.R_nil _ _ _ _ _⟩, ⟨Below.refl _ _⟩, none, 0, rfl⟩
        case round =>
          obtain ⟨i, xs, rfl, hl, hi, HR, HB, A9, c9, rfl⟩ := hrel
          by_cases hlt : (xs.length : Int) < n
          · have HT := Aside0.mk (there0 (R := R) (k := k + i) HD.out (by omega) (by omega))
            have HLX := Aside0.mk hl
            have hxb : xs.length ≤ 1048576 := by omega
            clear hl
            have HW := Aside0.mk (H.out.below HB.out)
            clear h2
            go_wp2_with (first | (go_at_call 96; refine (rRead_calls HW.out HOK.out (k + i)).mono ?_; rintro e w3 ⟨v3, b3, n3, rfl, ⟨A3, c3, rfl, hc3, hC3⟩, rfl, hb3⟩; have HC3 := Aside0.mk hC3; have HB3 := Aside0.mk (hb3 HT.out); clear hC3 hb3 hc3) | ((with_reducible refine gate_builtin (b := .append) (xs := #[.tmp 35, .tmp 36]) rfl ?_); at_builtin; refine Kd.R_append_rows (Kd.int .u8) (Rr := (Kd.int .u8).K w) (w0 := w) w.heap.size rfl (.tmp 35) (.tmp 36) 22 5 (.int .u8 0) 1 rfl Tryd.underlying22 info5 rfl (by decide) (by omega) _ xs b3 A3 b3.length c3 (fun k => w.heap.size ≤ k) (fun _ => False) rfl rfl HR.out HC3.out (fun _ _ h => h) (fun _ h => h.elim) (fun _ h => Nat.le_trans HB.out.size h) HB.out HB.out.size ?aL ?_; (case aL => have := HB3.out; omega); intro v1 w1 hr1 hb1 hg1 _; obtain ⟨A1, c1, rfl⟩ := Kd.R_slice hr1; have HR1 := Aside0.mk hr1; have HB1 := Aside0.mk hb1; clear hr1 hb1 hg1))
            have e64 := HB3.out
            have hl := HLX.out
            go_roundw
            case rel => exact ⟨i + 1, xs ++ b3, by go_num, by rw [List.length_append]; omega, by omega, ⟨by have := HR1.out; rwa [List.length_append] at this⟩, HB1, _, _, by rw [List.length_append]⟩
            case measure => simp; omega
          · obtain ⟨_, _, e, hc, hC3⟩ := Kd.R_reads HR.out
            injection e with e1 e2 e3
            subst e1; subst e3
            clear e2 hC3
            clear hl
            obtain ⟨m, hm⟩ : ∃ m : Nat, n = m := ⟨n.toNat, by omega⟩
            subst hm
            have HT := Aside0.mk (Kd.R_take HR.out (m := m) (by omega))
            go_wp2
            refine bodyPost_ret (results_tmp2 rfl _ _ _) rfl ?_
            exact ⟨_, xs.take m, 0, rfl, Reads.of_R HT.out, HB.out⟩
      · obtain ⟨q, hq0⟩ : ∃ q, rspanM R k n = q := ⟨_, rfl⟩
        have HA := Lib.hid hq0
        rw [hq0] at ha
        clear hq0
        go_enter Tryd.func98, Tryd.ntmps98
        go_wp2_with (first | (go_at_call 87; refine (rspan_calls H.out HOK.out k n).mono ?_; rintro e w' ⟨rfl, rfl⟩; rw [HA.out]))
        refine bodyPost_ret (results_tmp2 rfl _ _ _) rfl ?_
        exact ⟨_, [], q, rfl, Reads.nil _, Below.refl _ _⟩
end Go.Proofs.YtmblnflfklmmkaaDoor.Dk
/- The reference's Save. -/
namespace Go.Proofs.YtmblnflfklmmkaaDoor.Dk
open Go.RowKit Go.Proofs.YtmblnflfklmmkaaDoorW.PrintWords Go.Proofs.YtmblnflfklmmkaaDoorW.PrintLast Go.Proofs.YtmblnflfklmmkaaDoorW.PrintMore
set_option linter.unusedVariables false
set_option linter.unusedSimpArgs false
set_option maxRecDepth 30000
variable {w w1 : World} {B g : Nat} {F G : Nat → Prop} {R : RM} {vs vh vc : Value}
/-- What a call leaves of the reference's disk: at most m writes more wait; its blocks are those it had, or new ones. -/
def RefPost (w w' : World) (B g : Nat) (F : Nat → Prop) (R : RM) (m : Nat) : Prop :=
  ∃ R' F', (∀ k, F' k → F k ∨ w.heap.size ≤ k) ∧ RefAt w' B g F' R' ∧ ROk R' ∧ R'.wait.length ≤ R.wait.length + m ∧ R'.sec.length = R.sec.length ∧ Upd w w' F
def Num (e : Ending) : Prop := ∃ n, e = .returned (.int .i64 n)
theorem full_take (A : Option Addr) (c m : Nat) (x : List Int) (hm : m ≤ x.length) (hx : m ≤ 64) (hC : Kd.C (Kd.int .u8) w A x.length x) :
    Calls Tryd.prog 70 #[.slice A m c] w fun e w' => ∃ v xs, e = .returned v ∧ xs.length = 64 ∧ Kd.R (Kd.int .u8) 5 w' w.heap.size (fun k => w.heap.size ≤ k) v xs ∧ Below w.heap.size w w' := by
  have h := full_calls A c (x.take m) (by rw [List.length_take]; omega) (Kd.C_take hC hm)
  rwa [show (x.take m).length = m by rw [List.length_take]; omega] at h
set_option maxHeartbeats 8000000 in
theorem rSave_calls (h : RAt w B g F R vs vh vc) (hok : ROk R) (hB : B ≤ w.heap.size) (k : Int) (A : Option Addr) (c : Nat) (x : List Int) (hx : x.length ≤ 1000000000) (hxc : x.length ≤ c) (hn : R.wait.length + x.length < 9000000) (hC : ∀ W, Upd w W F → Kd.C (Kd.int .u8) W A x.length x) :
    Calls Tryd.prog 73 #[.pointer (some ⟨g, 0, none⟩), .int .i64 k, .slice A x.length c] w fun e w' => Num e ∧ RefPost w w' B g F R x.length := by
  have H := Aside0.mk h
  have HC := Aside0.mk hC
  have HOK := Aside0.mk hok
  have HN := Aside0.mk hn
  have HB := Aside0.mk hB
  have HX := Aside0.mk hxc
  clear h hC hok hn hB hxc
  by_cases ha : rspanM R k x.length = 0
  · have HA := Aside0.mk ha
    clear ha
    go_enter Tryd.func73, Tryd.ntmps73
    go_wp2_with (first | (go_at_call 87; refine (rspan_calls H.out HOK.out k _).mono ?_; rintro e w' ⟨rfl, rfl⟩; rw [HA.out]))
    go_loopw [1, 2] (fun v1 v2 w' => ∃ (k' : Int) (y : List Int) (A' : Option Addr) (c' : Nat) (R' : RM) (F' : Nat → Prop), v1 = .int .i64 k' ∧ v2 = .slice A' y.length c' ∧ y.length ≤ x.length ∧ Aside0 (y.length ≤ c') ∧ Aside0 (∀ W, Upd w W F → Kd.C (Kd.int .u8) W A' y.length y) ∧ Aside0 (∀ k, F' k → F k ∨ w.heap.size ≤ k) ∧ Aside0 (RefAt w' B g F' R') ∧ Aside0 (ROk R') ∧ Aside0 (R'.wait.length + y.length ≤ R.wait.length + x.length) ∧ Aside0 (R'.sec.length = R.sec.length) ∧ Aside0 (Upd w w' F)) (fun _ v2 _ => (match v2 with | .slice _ m _ => m | _ => 0))
    case atStart => exact ⟨k, x, A, c, R, F, rfl, rfl, Nat.le_refl _, HX, HC, ⟨fun _ h => .inl h⟩, ⟨_, _, _, H.out⟩, HOK, ⟨Nat.le_refl _⟩, ⟨rfl⟩, ⟨Upd.refl _ _⟩⟩
    case round =>
      obtain ⟨k', y, A', c', R', F', rfl, rfl, hyx, HYC, HCy, HF, HR, HO, HW, HS, HU⟩ := hrel
      by_cases hy0 : y.length = 0
      · go_wp2
        go_ret
        exact ⟨⟨0, rfl⟩, R', F', HF.out, HR.out, HO.out, by have := HW.out; omega, HS.out, HU.out⟩
      · by_cases hy : y.length < 64
        · have HT := Aside0.mk (full_take (w := wr) A' c' y.length y (by omega) (by omega) (HCy.out wr HU.out))
          have HD := Aside0.mk (show ∀ W, Upd w W F → Kd.C (Kd.int .u8) W (if c' = y.length then A' else A'.map (·.add (y.length * (Kd.int .u8).sz))) (y.drop y.length).length (y.drop y.length) from fun W hW => Kd.C_drop (HCy.out W hW) (by omega) HYC.out)
          have HLD := Aside0.mk (show (y.drop y.length).length = y.length - y.length from List.length_drop)
          obtain ⟨vs', vh', vc', hR⟩ := HR.out
          have HR1 := Aside0.mk hR
          have HLT := Aside0.mk (show ∀ k, F' k → B ≤ k from fun k hk => (hR.lt k hk).1)
          have hyc := HYC.out
          clear hR
          go_wp2_with (first | (go_at_call 70; refine HT.out.mono ?_; rintro e w3 ⟨v3, xs, rfl, hxl, hr3, hb3⟩; obtain ⟨A3, c3, rfl⟩ := Kd.R_slice hr3; have HR3 := Aside0.mk (HR1.out.below hb3); have HB3 := Aside0.mk hb3; have HC3 := Aside0.mk (Kd.R_reads' hr3).2.2; clear hxl hr3 hb3) | (go_at_call 54; refine (rWrite_calls HR3.out HO.out (by have := HB.out; have := HU.out.size; have := HB3.out.size; omega) (by have := HW.out; have := HN.out; omega) k' A3 c3 xs HC3.out).mono ?_; rintro e w4 ⟨n4, R4, rfl, hr4, ho4, hw4, hs4, hu4⟩; have HR4 := Aside0.mk hr4; have HO4 := Aside0.mk ho4; have HW4 := Aside0.mk hw4; have HS4 := Aside0.mk hs4; have HU4 := Aside0.mk hu4; clear hr4 ho4 hw4 hs4 hu4))
          all_goals (have HG4 : ∀ k, Grow F' w3 w4 k → F k ∨ w.heap.size ≤ k := fun k hk => hk.elim (HF.out k) (fun hk => .inr (Nat.le_trans HU.out.size (Nat.le_trans HB3.out.size hk.1))))
          all_goals (have HU5 : Upd w w4 F := (HU.out.trans (Upd.of_below (F := F') HB3.out) HF.out).trans HU4.out HF.out)
          · go_ret
            exact ⟨⟨n4, rfl⟩, R4, _, HG4, HR4.out, HO4.out, by have := HW4.out; have := HW.out; omega, HS4.out.trans HS.out, HU5⟩
          · go_roundw
            case rel => exact ⟨_, y.drop y.length, _, c' - y.length, R4, _, rfl, by rw [List.length_drop]; simp [Kd.int, Kd.scalar, Addr.add], by rw [HLD.out]; omega, ⟨by rw [HLD.out]; omega⟩, HD, ⟨HG4⟩, HR4, HO4, ⟨by rw [HLD.out]; have := HW4.out; have := HW.out; omega⟩, ⟨HS4.out.trans HS.out⟩, ⟨HU5⟩⟩
            case measure => simp; omega
        · have HT := Aside0.mk (full_take (w := wr) A' c' 64 y (by omega) (by omega) (HCy.out wr HU.out))
          have HD := Aside0.mk (show ∀ W, Upd w W F → Kd.C (Kd.int .u8) W (if c' = 64 then A' else A'.map (·.add (64 * (Kd.int .u8).sz))) (y.drop 64).length (y.drop 64) from fun W hW => Kd.C_drop (HCy.out W hW) (by omega) HYC.out)
          have HLD := Aside0.mk (show (y.drop 64).length = y.length - 64 from List.length_drop)
          obtain ⟨vs', vh', vc', hR⟩ := HR.out
          have HR1 := Aside0.mk hR
          have HLT := Aside0.mk (show ∀ k, F' k → B ≤ k from fun k hk => (hR.lt k hk).1)
          have hyc := HYC.out
          clear hR
          go_wp2_with (first | (go_at_call 70; refine HT.out.mono ?_; rintro e w3 ⟨v3, xs, rfl, hxl, hr3, hb3⟩; obtain ⟨A3, c3, rfl⟩ := Kd.R_slice hr3; have HR3 := Aside0.mk (HR1.out.below hb3); have HB3 := Aside0.mk hb3; have HC3 := Aside0.mk (Kd.R_reads' hr3).2.2; clear hxl hr3 hb3) | (go_at_call 54; refine (rWrite_calls HR3.out HO.out (by have := HB.out; have := HU.out.size; have := HB3.out.size; omega) (by have := HW.out; have := HN.out; omega) k' A3 c3 xs HC3.out).mono ?_; rintro e w4 ⟨n4, R4, rfl, hr4, ho4, hw4, hs4, hu4⟩; have HR4 := Aside0.mk hr4; have HO4 := Aside0.mk ho4; have HW4 := Aside0.mk hw4; have HS4 := Aside0.mk hs4; have HU4 := Aside0.mk hu4; clear hr4 ho4 hw4 hs4 hu4))
          all_goals (have HG4 : ∀ k, Grow F' w3 w4 k → F k ∨ w.heap.size ≤ k := fun k hk => hk.elim (HF.out k) (fun hk => .inr (Nat.le_trans HU.out.size (Nat.le_trans HB3.out.size hk.1))))
          all_goals (have HU5 : Upd w w4 F := (HU.out.trans (Upd.of_below (F := F') HB3.out) HF.out).trans HU4.out HF.out)
          · go_ret
            exact ⟨⟨n4, rfl⟩, R4, _, HG4, HR4.out, HO4.out, by have := HW4.out; have := HW.out; omega, HS4.out.trans HS.out, HU5⟩
          · go_roundw
            case rel => exact ⟨_, y.drop 64, _, c' - 64, R4, _, rfl, by rw [List.length_drop]; simp [Kd.int, Kd.scalar, Addr.add], by rw [HLD.out]; omega, ⟨by rw [HLD.out]; omega⟩, HD, ⟨HG4⟩, HR4, HO4, ⟨by rw [HLD.out]; have := HW4.out; have := HW.out; omega⟩, ⟨HS4.out.trans HS.out⟩, ⟨HU5⟩⟩
            case measure => simp; omega
  · obtain ⟨q, hq0⟩ : ∃ q, rspanM R k x.length = q := ⟨_, rfl⟩
    have HA := Lib.hid hq0
    rw [hq0] at ha
    clear hq0
    go_enter Tryd.func73, Tryd.ntmps73
    go_wp2_with (first | (go_at_call 87; refine (rspan_calls H.out HOK.out k _).mono ?_; rintro e w' ⟨rfl, rfl⟩; rw [HA.out]))
    go_ret
    exact ⟨⟨q, rfl⟩, R, F, fun _ h => .inl h, ⟨_, _, _, H.out⟩, HOK.out, by omega, rfl, Upd.refl _ _⟩
end Go.Proofs.YtmblnflfklmmkaaDoor.Dk
/- The reference's New. -/
namespace Go.Proofs.YtmblnflfklmmkaaDoor.Dk
open Go.RowKit Go.Proofs.YtmblnflfklmmkaaDoorW.PrintWords Go.Proofs.YtmblnflfklmmkaaDoorW.PrintLast Go.Proofs.YtmblnflfklmmkaaDoorW.PrintMore
set_option linter.unusedVariables false
set_option linter.unusedSimpArgs false
set_option maxRecDepth 30000
variable {w w1 : World} {B g : Nat} {F G : Nat → Prop} {R : RM} {vs vh vc : Value}
theorem info22 : (Tryd.prog.info? 22).map (fun i => (i.zero, i.size, i.bytes)) = some (some (.slice none 0 0), 1, 24) := by kernel_rfl
theorem buildSlice70 (v : Value) (w : World) (hv : ∃ A n c, v = .slice A n c) : (Instr.buildSlice 110 1 #[(0, v)]).run Tryd.prog w = .ok (.slice (some ⟨w.heap.size, 0, none⟩) 1 1) (w.alloc (.cells #[v] 22)) := by
  obtain ⟨A, n, c, rfl⟩ := hv
  obtain ⟨ie, hie, hz⟩ := Option.map_eq_some_iff.1 info22
  injection hz with hz1 hz2
  injection hz2 with hz2 hz3
  refine run_buildSlice w 110 22 1 _ _ ie _ Tryd.underlying110 hie hz1 (by rw [hz2]; decide) (by rw [hz2]; decide) ?_
  rw [hz2]
  have := Great.fill_whole (s := 1) (by decide) [.slice A n c] ((Array.range (1 * 1)).map (fun i => (Value.slice none 0 0).cells[i % (Value.slice none 0 0).cells.size]!)) (by simp [Value.cells]) (by simp)
  simpa [Value.cells] using this
def rnewM (L : List (List Int)) : RM := { sec := L, wait := [], down := false, strokes := 0, left := -1, choice := [] }
set_option maxHeartbeats 8000000 in
theorem rNew_fails (A : Option Addr) (c : Nat) (x : List Int) (n : Int) (hx : x.length ≤ 1000000000) (hbad : newBad x n) :
    Calls Tryd.prog 47 #[.slice A x.length c, .int .i64 n] w fun e w' => e = .returned (.tuple #[.pointer none, .int .i64 1]) ∧ w = w' := by
  by_cases h1 : n < 1
  · clear hbad
    go_enter Tryd.func47, Tryd.ntmps47
    go_wp2
    refine bodyPost_ret (results_tmp2 rfl _ _ _) rfl ?_
    exact ⟨rfl, rfl⟩
  · by_cases h2 : 16384 < n
    · clear hbad
      go_enter Tryd.func47, Tryd.ntmps47
      go_wp2
      refine bodyPost_ret (results_tmp2 rfl _ _ _) rfl ?_
      exact ⟨rfl, rfl⟩
    · have h3 : 64 * n < (x.length : Int) := by unfold newBad at hbad; omega
      clear hbad
      go_enter Tryd.func47, Tryd.ntmps47
      go_wp2
      refine bodyPost_ret (results_tmp2 rfl _ _ _) rfl ?_
      exact ⟨rfl, rfl⟩
def NewRef (w w' : World) (n : Nat) (e : Ending) : Prop := ∃ g R, e = .returned (.tuple #[.pointer (some ⟨g, 0, none⟩), .int .i64 0]) ∧ RefAt w' w.heap.size g (fun k => w.heap.size ≤ k ∧ k < w'.heap.size) R ∧ ROk R ∧ R.wait = [] ∧ R.choice = [] ∧ R.sec.length = n ∧ Below w.heap.size w w'
set_option maxHeartbeats 8000000 in
theorem rNew_calls (A : Option Addr) (c : Nat) (x : List Int) (n : Nat) (hx : x.length ≤ 1000000000) (hxc : x.length ≤ c) (hC : Kd.C (Kd.int .u8) w A x.length x) (hok : ¬ newBad x n) :
    Calls Tryd.prog 47 #[.slice A x.length c, .int .i64 n] w fun e w' => NewRef w w' n e := by
  have HC := Aside0.mk hC
  have HX := Aside0.mk hxc
  have hn1 : 1 ≤ n := by unfold newBad at hok; omega
  have hn2 : n ≤ 16384 := by unfold newBad at hok; omega
  have hn3 : x.length ≤ n * 64 := by unfold newBad at hok; omega
  clear hok hC hxc
  go_enter Tryd.func47, Tryd.ntmps47
  go_wp2
  have hb0 := heap_alloc_new w (.cells #[.slice none 0 0, .slice none 0 0, .bool false, .int .i64 0, .int .i64 (-1), .slice none 0 0] 113)
  have HR0 := Aside0.mk (show RAt (w.alloc (.cells #[.slice none 0 0, .slice none 0 0, .bool false, .int .i64 0, .int .i64 (-1), .slice none 0 0] 113)) w.heap.size w.heap.size (fun k => w.heap.size ≤ k ∧ k < (w.alloc (.cells #[.slice none 0 0, .slice none 0 0, .bool false, .int .i64 0, .int .i64 (-1), .slice none 0 0] 113)).heap.size) (rnewM []) (.slice none 0 0) (.slice none 0 0) (.slice none 0 0) from
    ⟨hb0, Kd.R_nil _ _ _ _ _, Kd.R_nil _ _ _ _ _, ⟨none, 0, rfl, Nat.le_refl _, fun W hW => Kd.C_nil _ _⟩, ⟨Nat.le_refl _, blk_lt hb0⟩, fun k hk => hk⟩)
  have HB0 := Aside0.mk (below_alloc (Below.refl w.heap.size w) (.cells #[.slice none 0 0, .slice none 0 0, .bool false, .int .i64 0, .int .i64 (-1), .slice none 0 0] 113))
  have HC0 := Aside0.mk (show ∀ W, Below w.heap.size w W → Kd.C (Kd.int .u8) W A x.length x from fun W hW => Kd.C_below HC.out hW)
  clear hb0
  go_loopw [0, 7] (fun v0 v7 w' => ∃ (i : Nat) (y : List Int) (A' : Option Addr) (c' : Nat) (L : List (List Int)) (As : Option Addr) (cs : Nat), v0 = .slice A' y.length c' ∧ v7 = .int .i64 i ∧ i ≤ n ∧ y.length ≤ x.length ∧ Aside0 (y.length ≤ c') ∧ Aside0 (∀ W, Below w.heap.size w W → Kd.C (Kd.int .u8) W A' y.length y) ∧ Aside0 (L.length = i) ∧ Aside0 (∀ s ∈ L, s.length = 64) ∧ Aside0 (RAt w' w.heap.size w.heap.size (fun k => w.heap.size ≤ k ∧ k < w'.heap.size) (rnewM L) (.slice As L.length cs) (.slice none 0 0) (.slice none 0 0)) ∧ Aside0 (Below w.heap.size w w')) (fun _ v7 _ => n - (intOf v7).toNat)
  case atStart => exact ⟨0, x, A, c, [], none, 0, rfl, rfl, Nat.zero_le _, Nat.le_refl _, HX, HC0, ⟨rfl⟩, ⟨fun _ h => absurd h (by simp)⟩, HR0, HB0⟩
  case round =>
    obtain ⟨i, y, A', c', L, As, cs, rfl, rfl, hi, hy, HYC, HCy, HL, HL64, HD, HB⟩ := hrel
    have h0 := HD.out.c0
    have hLn : L.length ≤ 16384 := by have := HL.out; omega
    by_cases hlt : i < n
    · by_cases hy64 : y.length > 64
      · have HT := Aside0.mk (full_take (w := wr.drew) A' c' 64 y (by omega) (by omega) (Kd.C_below (HCy.out wr HB.out) (below_drew (Below.refl _ _))))
        have hyc := HYC.out
        go_wp2
        refine start_ (n := 13) (S := fun w' => w'.cell? ⟨w.heap.size, 0, none⟩ = some (.slice As L.length cs)) (ds := [12]) #[false, false, false, false, false, false, false, false, false, false, false, false, false] (by kernel_rfl) rfl rfl (h0) (fun hHeld => ?_)
        refine pure_ (i := 0) (N := some 31) (v := ?_) (a' := ?_) #[true, false, false, false, false, false, false, false, false, false, false, false, false] rfl rfl (by kernel_rfl) (fun _ _ _ h => h) (Or.inl ⟨by rfl, ?_⟩) ?_ ?_
        rotate_left
        · intro w'
          go_simp
          with_reducible rfl
        rotate_left
        · simp only [Act.put, List.setIfInBounds_toArray, List.set_cons_zero, List.set_cons_succ, i64_w, i32_w]
          rfl
        refine pure_ (i := 1) (N := some 32) (v := ?_) (a' := ?_) #[true, true, false, false, false, false, false, false, false, false, false, false, false] rfl rfl (by kernel_rfl) (fun _ _ _ h => h) (Or.inl ⟨by rfl, ?_⟩) ?_ ?_
        rotate_left
        · intro w'
          go_simp
          with_reducible rfl
        rotate_left
        · simp only [Act.put, List.setIfInBounds_toArray, List.set_cons_zero, List.set_cons_succ, i64_w, i32_w]
          rfl
        refine pure_ (i := 2) (N := some 33) (v := ?_) (a' := ?_) #[true, true, true, false, false, false, false, false, false, false, false, false, false] rfl rfl (by kernel_rfl) (fun _ _ _ h => h) (Or.inl ⟨by rfl, ?_⟩) ?_ ?_
        rotate_left
        · intro w'
          go_simp
          with_reducible rfl
        rotate_left
        · simp only [Act.put, List.setIfInBounds_toArray, List.set_cons_zero, List.set_cons_succ, i64_w, i32_w]
          rfl
        refine pure_ (i := 3) (N := some 34) (v := ?_) (a' := ?_) #[true, true, true, true, false, false, false, false, false, false, false, false, false] rfl rfl (by kernel_rfl) (fun _ _ _ h => h) (Or.inl ⟨by rfl, ?_⟩) ?_ ?_
        rotate_left
        · intro w'
          go_simp
          with_reducible rfl
        rotate_left
        · simp only [Act.put, List.setIfInBounds_toArray, List.set_cons_zero, List.set_cons_succ, i64_w, i32_w]
          rfl
        refine pure_ (i := 5) (N := some 36) (v := ?_) (a' := ?_) #[true, true, true, true, false, true, false, false, false, false, false, false, false] rfl rfl (by kernel_rfl) (fun _ _ _ h => h) (Or.inl ⟨by rfl, ?_⟩) ?_ ?_
        rotate_left
        · intro w'
          go_simp
          with_reducible rfl
        rotate_left
        · simp only [Act.put, List.setIfInBounds_toArray, List.set_cons_zero, List.set_cons_succ, i64_w, i32_w]
          rfl
        refine pure_ (i := 6) (N := some 37) (v := ?_) (a' := ?_) #[true, true, true, true, false, true, true, false, false, false, false, false, false] rfl rfl (by kernel_rfl) (fun _ _ _ h => h) (Or.inl ⟨by rfl, ?_⟩) ?_ ?_
        rotate_left
        · intro w'
          go_simp
          rw [if_pos (by omega)]
          (try with_reducible rfl)
        rotate_left
        · simp only [Act.put, List.setIfInBounds_toArray, List.set_cons_zero, List.set_cons_succ, i64_w, i32_w]
          rfl
        refine take_ (i := 4) (N := some 35) (v := ?_) (a' := ?_) #[true, true, true, true, true, true, true, false, false, false, false, false, false] rfl rfl (by kernel_rfl) (fun _ _ _ h => h) (Or.inl ⟨by rfl, ?_⟩) hHeld ?_ ?_
        rotate_left
        · intro w' s0
          go_simp
          with_reducible rfl
        rotate_left
        · simp only [Act.put, List.setIfInBounds_toArray, List.set_cons_zero, List.set_cons_succ, i64_w, i32_w]
          rfl
        refine one_ (i := 7) (N := some 38) #[true, true, true, true, true, true, true, true, false, false, false, false, false] rfl rfl (by kernel_rfl) (by decide) (fun K hK => ?_)
        refine goes_ Tryd.func70 (by kernel_rfl) rfl #[.slice A' 64 c'] (by rfl) rfl rfl (by simp only [List.map_toArray, List.map_cons, List.map_nil]; rfl) ?_
        with_reducible refine (HT.out).mono ?_
        rintro e w3 ⟨v3, xs, rfl, hxl, hr3, hb3⟩
        refine ⟨_, rfl, ?_⟩
        obtain ⟨A3, c3, rfl⟩ := Kd.R_slice hr3
        have hbw3 : Below wr.heap.size wr w3 := ⟨hb3.os, hb3.tape, hb3.output, hb3.size, hb3.block⟩
        have HBW3 := Aside0.mk hbw3
        have H3A := Aside0.mk (HD.out.below hbw3)
        have HXL := Aside0.mk hxl
        have HXS := Aside0.mk (Kd.R_mono (Kd.R_lower (Kd.R_bound hr3) (show w.heap.size ≤ wr.drew.heap.size from HB.out.size)) (ok' := fun k => wr.heap.size ≤ k ∧ k < w3.heap.size ∧ ∃ cells, w3.heap[k]? = some (.cells cells 5 (0, 0))) (fun k hk => ⟨hk.1, hk.2.2.1, by obtain ⟨q, hq, hc⟩ := hk.2.2.2; simp only [Kd.int, Kd.scalar, List.mem_cons, List.not_mem_nil, or_false] at hq; rw [hq] at hc; exact hc⟩))
        clear hr3 hb3 hxl hbw3
        refine hK.out _ _ ((H3A.out.c0)) (fun hHeld => ?_)
        clear hK K
        refine norm_ (a' := ?_) ?_ ?_
        rotate_left
        · show Act.put _ (some 38) _ = _
          simp only [Act.put, List.setIfInBounds_toArray, List.set_cons_zero, List.set_cons_succ, i64_w, i32_w]
          rfl
        refine one_ (i := 8) (N := some 39) #[true, true, true, true, true, true, true, true, true, false, false, false, false] rfl rfl (by kernel_rfl) (by decide) (fun K hK => ?_)
        refine value_ (w1 := w3.alloc (.cells #[.slice A3 xs.length c3] 22)) (v := .slice (some ⟨w3.heap.size, 0, none⟩) 1 1) (by rfl) rfl ?hbs ?_
        case hbs =>
          refine exec_buildSlice (t := 110) (n := 1) (parts := #[(0, .tmp 38)]) (args := #[(0, .slice A3 xs.length c3)]) ?ho ?he ?hr
          case ho => rfl
          case he => kernel_rfl
          case hr => exact buildSlice70 _ w3 ⟨_, _, _, rfl⟩
        refine hK.out _ _ (((H3A.out.below (below_alloc (Below.refl _ _) _)).c0)) (fun hHeld => ?_)
        clear hK K
        refine norm_ (a' := ?_) ?_ ?_
        rotate_left
        · show Act.put _ (some 39) _ = _
          simp only [Act.put, List.setIfInBounds_toArray, List.set_cons_zero, List.set_cons_succ, i64_w, i32_w]
          rfl
        refine one_ (i := 9) (N := some 40) #[true, true, true, true, true, true, true, true, true, true, false, false, false] rfl rfl (by kernel_rfl) (by decide) (fun K hK => ?_)
        refine Kd.R_append_step kBy (w0 := w) (W := w3) w.heap.size (by rfl) (.tmp 35) (.tmp 39) 110 22 (.slice none 0 0) 24 rfl Tryd.underlying110 info22 rfl (by decide) (by decide) (.slice As L.length cs) L xs [.slice A3 xs.length c3] (fun k => w.heap.size ≤ k) (fun k => wr.heap.size ≤ k ∧ k < w3.heap.size ∧ ∃ cells, w3.heap[k]? = some (.cells cells 5 (0, 0))) rfl rfl ⟨_, rfl, HXS.out⟩ (fun k hk => ⟨Nat.le_trans HB.out.size hk.1, row_ne H3A.out.sec hk.2.2 (by decide)⟩) (fun k hk => Nat.le_trans HB.out.size (Nat.le_trans HBW3.out.size hk)) (Kd.R_mono H3A.out.sec (fun _ h => h.1)) (Upd.below ((Upd.of_below (F := fun _ => False) HB.out).trans (Upd.of_below (F := fun _ => False) HBW3.out) (fun _ h => h.elim)) (fun _ h => h.elim)) (Nat.le_trans HB.out.size HBW3.out.size) (by omega) ?_
        intro v1 w1 hr1 hb1 hg1 _
        obtain ⟨A1, c1, rfl⟩ := Kd.R_slice hr1
        have HR1 := Aside0.mk hr1
        have HG1 := Aside0.mk hg1
        have HB1 := Aside0.mk hb1
        have hb1k := blk_other H3A.out.blk H3A.out.sec (by decide) hg1
        have h1b : w1.cell? ⟨w.heap.size, 0, none⟩ = some (.slice As L.length cs) := by simp [World.cell?, hb1k]
        have hf1 : ∀ j, w1.frozen? ⟨w.heap.size, j, none⟩ = false := fun j => by simp [World.frozen?, hb1k]
        have HBK := Aside0.mk hb1k
        clear hr1 hb1 hg1 hb1k
        refine hK.out _ _ ((h1b)) (fun hHeld => ?_)
        clear hK K
        refine norm_ (a' := ?_) ?_ ?_
        rotate_left
        · show Act.put _ (some 40) _ = _
          simp only [Act.put, List.setIfInBounds_toArray, List.set_cons_zero, List.set_cons_succ, i64_w, i32_w]
          rfl
        refine pure_ (i := 10) (N := some 41) (v := ?_) (a' := ?_) #[true, true, true, true, true, true, true, true, true, true, true, false, false] rfl rfl (by kernel_rfl) (fun _ _ _ h => h) (Or.inl ⟨by rfl, ?_⟩) ?_ ?_
        rotate_left
        · intro w'
          go_simp
          with_reducible rfl
        rotate_left
        · simp only [Act.put, List.setIfInBounds_toArray, List.set_cons_zero, List.set_cons_succ, i64_w, i32_w]
          rfl
        refine pure_ (i := 11) (N := some 42) (v := ?_) (a' := ?_) #[true, true, true, true, true, true, true, true, true, true, true, true, false] rfl rfl (by kernel_rfl) (fun _ _ _ h => h) (Or.inl ⟨by rfl, ?_⟩) ?_ ?_
        rotate_left
        · intro w'
          go_simp
          with_reducible rfl
        rotate_left
        · simp only [Act.put, List.setIfInBounds_toArray, List.set_cons_zero, List.set_cons_succ, i64_w, i32_w]
          rfl
        refine last_ (i := 12) (N := none) #[true, true, true, true, true, true, true, true, true, true, true, true, true] rfl rfl (by kernel_rfl) (by decide) (fun K hK => ?_)
        refine skip_ (w1 := ?_) (by rfl) rfl ?_ ?_
        rotate_left
        · go_simp
          rfl
        refine hK.out _ _ ?_
        clear hK K
        refine done_ (by kernel_rfl) ?_
        have H2 := Aside0.mk (show RAt (w1.setCell ⟨w.heap.size, 0, none⟩ (.slice A1 (L.length + 1) c1)) w.heap.size w.heap.size (fun k => w.heap.size ≤ k ∧ k < (w1.setCell ⟨w.heap.size, 0, none⟩ (.slice A1 (L.length + 1) c1)).heap.size) (rnewM (L ++ [xs])) (.slice A1 (L ++ [xs]).length c1) (.slice none 0 0) (.slice none 0 0) from
          { blk := by rw [heap_setCell_same w1 w.heap.size 0 _ 113 _ HBK.out, show (L ++ [xs]).length = L.length + 1 by simp]; rfl
            sec := Kd.R_set (Kd.R_mono (Kd.R_bound HR1.out) (fun k hk => ⟨hk.1, by simpa [World.setCell] using hk.2.2.1⟩)) HBK.out (by simp [kBy, Kd.slice, Kd.int, Kd.scalar]) 0 _
            wait := Kd.R_nil _ _ _ _ _
            choice := ⟨none, 0, rfl, Nat.le_refl _, fun W hW => Kd.C_nil _ _⟩
            own := ⟨Nat.le_refl _, by simpa [World.setCell] using blk_lt HBK.out⟩
            lt := fun k hk => hk })
        have HU1 := (Upd.of_below (F := fun _ => False) HB.out).trans (Upd.of_below (F := fun _ => False) HBW3.out) (fun _ h => h.elim)
        have HB2 := Aside0.mk (show Below w.heap.size w (w1.setCell ⟨w.heap.size, 0, none⟩ (.slice A1 (L.length + 1) c1)) from below_set HB1.out (Nat.le_refl _))
        have HC2 := Aside0.mk (show ∀ W, Below w.heap.size w W → Kd.C (Kd.int .u8) W (if c' = 64 then A' else A'.map (·.add (64 * (Kd.int .u8).sz))) (y.drop 64).length (y.drop 64) from fun W hW => Kd.C_drop (HCy.out W hW) (by omega) HYC.out)
        have HLn := Aside0.mk (show (L ++ [xs]).length = i + 1 by rw [List.length_append, HL.out]; rfl)
        have HL6 := Aside0.mk (show ∀ s ∈ L ++ [xs], s.length = 64 from fun s hs => by
          rcases List.mem_append.1 hs with hs | hs
          · exact HL64.out s hs
          · rw [List.mem_singleton.1 hs]; exact HXL.out)
        clear HU1 hf1 h1b h0
        go_wp2
        go_roundw
        case rel => exact ⟨i + 1, y.drop 64, _, c' - 64, L ++ [xs], A1, c1, by rw [List.length_drop]; simp [Kd.int, Kd.scalar, Addr.add] <;> (intro h; have := HYC.out; omega), by go_num, by omega, by rw [List.length_drop]; omega, ⟨by rw [List.length_drop]; omega⟩, HC2, HLn, HL6, H2, HB2⟩
        case measure => simp [intOf]; omega
      · have HT := Aside0.mk (full_calls (w := wr.drew) A' c' y (by omega) (Kd.C_below (HCy.out wr HB.out) (below_drew (Below.refl _ _))))
        go_wp2
        refine start_ (n := 12) (S := fun w' => w'.cell? ⟨w.heap.size, 0, none⟩ = some (.slice As L.length cs)) (ds := [11]) #[false, false, false, false, false, false, false, false, false, false, false, false] (by kernel_rfl) rfl rfl (h0) (fun hHeld => ?_)
        refine pure_ (i := 0) (N := some 45) (v := ?_) (a' := ?_) #[true, false, false, false, false, false, false, false, false, false, false, false] rfl rfl (by kernel_rfl) (fun _ _ _ h => h) (Or.inl ⟨by rfl, ?_⟩) ?_ ?_
        rotate_left
        · intro w'
          go_simp
          with_reducible rfl
        rotate_left
        · simp only [Act.put, List.setIfInBounds_toArray, List.set_cons_zero, List.set_cons_succ, i64_w, i32_w]
          rfl
        refine pure_ (i := 1) (N := some 46) (v := ?_) (a' := ?_) #[true, true, false, false, false, false, false, false, false, false, false, false] rfl rfl (by kernel_rfl) (fun _ _ _ h => h) (Or.inl ⟨by rfl, ?_⟩) ?_ ?_
        rotate_left
        · intro w'
          go_simp
          with_reducible rfl
        rotate_left
        · simp only [Act.put, List.setIfInBounds_toArray, List.set_cons_zero, List.set_cons_succ, i64_w, i32_w]
          rfl
        refine pure_ (i := 2) (N := some 47) (v := ?_) (a' := ?_) #[true, true, true, false, false, false, false, false, false, false, false, false] rfl rfl (by kernel_rfl) (fun _ _ _ h => h) (Or.inl ⟨by rfl, ?_⟩) ?_ ?_
        rotate_left
        · intro w'
          go_simp
          with_reducible rfl
        rotate_left
        · simp only [Act.put, List.setIfInBounds_toArray, List.set_cons_zero, List.set_cons_succ, i64_w, i32_w]
          rfl
        refine pure_ (i := 3) (N := some 48) (v := ?_) (a' := ?_) #[true, true, true, true, false, false, false, false, false, false, false, false] rfl rfl (by kernel_rfl) (fun _ _ _ h => h) (Or.inl ⟨by rfl, ?_⟩) ?_ ?_
        rotate_left
        · intro w'
          go_simp
          with_reducible rfl
        rotate_left
        · simp only [Act.put, List.setIfInBounds_toArray, List.set_cons_zero, List.set_cons_succ, i64_w, i32_w]
          rfl
        refine pure_ (i := 5) (N := some 50) (v := ?_) (a' := ?_) #[true, true, true, true, false, true, false, false, false, false, false, false] rfl rfl (by kernel_rfl) (fun _ _ _ h => h) (Or.inl ⟨by rfl, ?_⟩) ?_ ?_
        rotate_left
        · intro w'
          go_simp
          with_reducible rfl
        rotate_left
        · simp only [Act.put, List.setIfInBounds_toArray, List.set_cons_zero, List.set_cons_succ, i64_w, i32_w]
          rfl
        refine take_ (i := 4) (N := some 49) (v := ?_) (a' := ?_) #[true, true, true, true, true, true, false, false, false, false, false, false] rfl rfl (by kernel_rfl) (fun _ _ _ h => h) (Or.inl ⟨by rfl, ?_⟩) hHeld ?_ ?_
        rotate_left
        · intro w' s0
          go_simp
          with_reducible rfl
        rotate_left
        · simp only [Act.put, List.setIfInBounds_toArray, List.set_cons_zero, List.set_cons_succ, i64_w, i32_w]
          rfl
        refine one_ (i := 6) (N := some 51) #[true, true, true, true, true, true, true, false, false, false, false, false] rfl rfl (by kernel_rfl) (by decide) (fun K hK => ?_)
        refine goes_ Tryd.func70 (by kernel_rfl) rfl #[.slice A' y.length c'] (by rfl) rfl rfl (by simp only [List.map_toArray, List.map_cons, List.map_nil]; rfl) ?_
        with_reducible refine (HT.out).mono ?_
        rintro e w3 ⟨v3, xs, rfl, hxl, hr3, hb3⟩
        refine ⟨_, rfl, ?_⟩
        obtain ⟨A3, c3, rfl⟩ := Kd.R_slice hr3
        have hbw3 : Below wr.heap.size wr w3 := ⟨hb3.os, hb3.tape, hb3.output, hb3.size, hb3.block⟩
        have HBW3 := Aside0.mk hbw3
        have H3A := Aside0.mk (HD.out.below hbw3)
        have HXL := Aside0.mk hxl
        have HXS := Aside0.mk (Kd.R_mono (Kd.R_lower (Kd.R_bound hr3) (show w.heap.size ≤ wr.drew.heap.size from HB.out.size)) (ok' := fun k => wr.heap.size ≤ k ∧ k < w3.heap.size ∧ ∃ cells, w3.heap[k]? = some (.cells cells 5 (0, 0))) (fun k hk => ⟨hk.1, hk.2.2.1, by obtain ⟨q, hq, hc⟩ := hk.2.2.2; simp only [Kd.int, Kd.scalar, List.mem_cons, List.not_mem_nil, or_false] at hq; rw [hq] at hc; exact hc⟩))
        clear hr3 hb3 hxl hbw3
        refine hK.out _ _ ((H3A.out.c0)) (fun hHeld => ?_)
        clear hK K
        refine norm_ (a' := ?_) ?_ ?_
        rotate_left
        · show Act.put _ (some 51) _ = _
          simp only [Act.put, List.setIfInBounds_toArray, List.set_cons_zero, List.set_cons_succ, i64_w, i32_w]
          rfl
        refine one_ (i := 7) (N := some 52) #[true, true, true, true, true, true, true, true, false, false, false, false] rfl rfl (by kernel_rfl) (by decide) (fun K hK => ?_)
        refine value_ (w1 := w3.alloc (.cells #[.slice A3 xs.length c3] 22)) (v := .slice (some ⟨w3.heap.size, 0, none⟩) 1 1) (by rfl) rfl ?hbs ?_
        case hbs =>
          refine exec_buildSlice (t := 110) (n := 1) (parts := #[(0, .tmp 51)]) (args := #[(0, .slice A3 xs.length c3)]) ?ho ?he ?hr
          case ho => rfl
          case he => kernel_rfl
          case hr => exact buildSlice70 _ w3 ⟨_, _, _, rfl⟩
        refine hK.out _ _ (((H3A.out.below (below_alloc (Below.refl _ _) _)).c0)) (fun hHeld => ?_)
        clear hK K
        refine norm_ (a' := ?_) ?_ ?_
        rotate_left
        · show Act.put _ (some 52) _ = _
          simp only [Act.put, List.setIfInBounds_toArray, List.set_cons_zero, List.set_cons_succ, i64_w, i32_w]
          rfl
        refine one_ (i := 8) (N := some 53) #[true, true, true, true, true, true, true, true, true, false, false, false] rfl rfl (by kernel_rfl) (by decide) (fun K hK => ?_)
        refine Kd.R_append_step kBy (w0 := w) (W := w3) w.heap.size (by rfl) (.tmp 49) (.tmp 52) 110 22 (.slice none 0 0) 24 rfl Tryd.underlying110 info22 rfl (by decide) (by decide) (.slice As L.length cs) L xs [.slice A3 xs.length c3] (fun k => w.heap.size ≤ k) (fun k => wr.heap.size ≤ k ∧ k < w3.heap.size ∧ ∃ cells, w3.heap[k]? = some (.cells cells 5 (0, 0))) rfl rfl ⟨_, rfl, HXS.out⟩ (fun k hk => ⟨Nat.le_trans HB.out.size hk.1, row_ne H3A.out.sec hk.2.2 (by decide)⟩) (fun k hk => Nat.le_trans HB.out.size (Nat.le_trans HBW3.out.size hk)) (Kd.R_mono H3A.out.sec (fun _ h => h.1)) (Upd.below ((Upd.of_below (F := fun _ => False) HB.out).trans (Upd.of_below (F := fun _ => False) HBW3.out) (fun _ h => h.elim)) (fun _ h => h.elim)) (Nat.le_trans HB.out.size HBW3.out.size) (by omega) ?_
        intro v1 w1 hr1 hb1 hg1 _
        obtain ⟨A1, c1, rfl⟩ := Kd.R_slice hr1
        have HR1 := Aside0.mk hr1
        have HG1 := Aside0.mk hg1
        have HB1 := Aside0.mk hb1
        have hb1k := blk_other H3A.out.blk H3A.out.sec (by decide) hg1
        have h1b : w1.cell? ⟨w.heap.size, 0, none⟩ = some (.slice As L.length cs) := by simp [World.cell?, hb1k]
        have hf1 : ∀ j, w1.frozen? ⟨w.heap.size, j, none⟩ = false := fun j => by simp [World.frozen?, hb1k]
        have HBK := Aside0.mk hb1k
        clear hr1 hb1 hg1 hb1k
        refine hK.out _ _ ((h1b)) (fun hHeld => ?_)
        clear hK K
        refine norm_ (a' := ?_) ?_ ?_
        rotate_left
        · show Act.put _ (some 53) _ = _
          simp only [Act.put, List.setIfInBounds_toArray, List.set_cons_zero, List.set_cons_succ, i64_w, i32_w]
          rfl
        refine pure_ (i := 9) (N := some 54) (v := ?_) (a' := ?_) #[true, true, true, true, true, true, true, true, true, true, false, false] rfl rfl (by kernel_rfl) (fun _ _ _ h => h) (Or.inl ⟨by rfl, ?_⟩) ?_ ?_
        rotate_left
        · intro w'
          go_simp
          with_reducible rfl
        rotate_left
        · simp only [Act.put, List.setIfInBounds_toArray, List.set_cons_zero, List.set_cons_succ, i64_w, i32_w]
          rfl
        refine pure_ (i := 10) (N := some 55) (v := ?_) (a' := ?_) #[true, true, true, true, true, true, true, true, true, true, true, false] rfl rfl (by kernel_rfl) (fun _ _ _ h => h) (Or.inl ⟨by rfl, ?_⟩) ?_ ?_
        rotate_left
        · intro w'
          go_simp
          with_reducible rfl
        rotate_left
        · simp only [Act.put, List.setIfInBounds_toArray, List.set_cons_zero, List.set_cons_succ, i64_w, i32_w]
          rfl
        refine last_ (i := 11) (N := none) #[true, true, true, true, true, true, true, true, true, true, true, true] rfl rfl (by kernel_rfl) (by decide) (fun K hK => ?_)
        refine skip_ (w1 := ?_) (by rfl) rfl ?_ ?_
        rotate_left
        · go_simp
          rfl
        refine hK.out _ _ ?_
        clear hK K
        refine done_ (by kernel_rfl) ?_
        have H2 := Aside0.mk (show RAt (w1.setCell ⟨w.heap.size, 0, none⟩ (.slice A1 (L.length + 1) c1)) w.heap.size w.heap.size (fun k => w.heap.size ≤ k ∧ k < (w1.setCell ⟨w.heap.size, 0, none⟩ (.slice A1 (L.length + 1) c1)).heap.size) (rnewM (L ++ [xs])) (.slice A1 (L ++ [xs]).length c1) (.slice none 0 0) (.slice none 0 0) from
          { blk := by rw [heap_setCell_same w1 w.heap.size 0 _ 113 _ HBK.out, show (L ++ [xs]).length = L.length + 1 by simp]; rfl
            sec := Kd.R_set (Kd.R_mono (Kd.R_bound HR1.out) (fun k hk => ⟨hk.1, by simpa [World.setCell] using hk.2.2.1⟩)) HBK.out (by simp [kBy, Kd.slice, Kd.int, Kd.scalar]) 0 _
            wait := Kd.R_nil _ _ _ _ _
            choice := ⟨none, 0, rfl, Nat.le_refl _, fun W hW => Kd.C_nil _ _⟩
            own := ⟨Nat.le_refl _, by simpa [World.setCell] using blk_lt HBK.out⟩
            lt := fun k hk => hk })
        have HU1 := (Upd.of_below (F := fun _ => False) HB.out).trans (Upd.of_below (F := fun _ => False) HBW3.out) (fun _ h => h.elim)
        have HB2 := Aside0.mk (show Below w.heap.size w (w1.setCell ⟨w.heap.size, 0, none⟩ (.slice A1 (L.length + 1) c1)) from below_set HB1.out (Nat.le_refl _))
        have HC2 := Aside0.mk (show ∀ W, Below w.heap.size w W → Kd.C (Kd.int .u8) W none ([] : List Int).length [] from fun W hW => Kd.C_nil _ _)
        have HLn := Aside0.mk (show (L ++ [xs]).length = i + 1 by rw [List.length_append, HL.out]; rfl)
        have HL6 := Aside0.mk (show ∀ s ∈ L ++ [xs], s.length = 64 from fun s hs => by
          rcases List.mem_append.1 hs with hs | hs
          · exact HL64.out s hs
          · rw [List.mem_singleton.1 hs]; exact HXL.out)
        clear HU1 hf1 h1b h0
        go_wp2
        go_roundw
        case rel => exact ⟨i + 1, [], none, 0, L ++ [xs], A1, c1, rfl, by go_num, by omega, Nat.zero_le _, ⟨Nat.le_refl _⟩, HC2, HLn, HL6, H2, HB2⟩
        case measure => simp [intOf]; omega
    · obtain rfl : i = n := by omega
      go_wp2
      refine bodyPost_ret (results_tmp2 rfl _ _ _) rfl ?_
      exact ⟨w.heap.size, rnewM L, rfl, ⟨_, _, _, HD.out⟩, ⟨fun _ h => absurd h (by simp [rnewM]), HL64.out, fun _ h => absurd h (by simp [rnewM]), by have := HL.out; show L.length ≤ _; omega, Nat.zero_le _, by show (-1 : Int) ≤ -1; omega, by show (-1 : Int) ≤ _; omega⟩, rfl, rfl, HL.out, HB.out⟩
end Go.Proofs.YtmblnflfklmmkaaDoor.Dk
/- The laws' small functions: SameBytes, Among, long. Operations in memory. -/
namespace Go.Proofs.YtmblnflfklmmkaaDoor.Dk
open Go.RowKit Go.Proofs.YtmblnflfklmmkaaDoorW.PrintWords Go.Proofs.YtmblnflfklmmkaaDoorW.PrintLast Go.Proofs.YtmblnflfklmmkaaDoorW.PrintMore
set_option linter.unusedVariables false
set_option linter.unusedSimpArgs false
set_option maxRecDepth 30000
variable {w W W' : World}
def sameM (x y : List Int) : Bool := (strOfNums x).toList == (strOfNums y).toList
theorem sameM_refl (x : List Int) : sameM x x = true := by simp [sameM]
theorem Same_calls (A : Option Addr) (c : Nat) (x : List Int) (A2 : Option Addr) (c2 : Nat) (y : List Int) (hx : Kd.C (Kd.int .u8) w A x.length x) (hy : Kd.C (Kd.int .u8) w A2 y.length y) :
    Calls Tryd.prog 16 #[.slice A x.length c, .slice A2 y.length c2] w fun e w' => e = .returned (.bool (sameM x y)) ∧ w = w' := by
  have h1 := Kd.C_string (P := Tryd.prog) (A := A) (c := c) Tryd.underlying22 Tryd.underlying5 Tryd.underlying9 hx
  have h2 := Kd.C_string (P := Tryd.prog) (A := A2) (c := c2) Tryd.underlying22 Tryd.underlying5 Tryd.underlying9 hy
  clear hx hy
  go_enter Tryd.func16, Tryd.ntmps16
  go_wp2
  go_ret
  exact ⟨by first | rfl | simp [sameM], rfl⟩
theorem tmod_lt (k n : Int) (hn : 0 < n) : -n < k.tmod n ∧ k.tmod n < n := by
  constructor
  · have := Int.lt_tmod_of_pos k hn
    omega
  · exact Int.tmod_lt_of_pos k hn
def amongM (k n : Int) : Int := if k.tmod n < 0 then k.tmod n + n else k.tmod n
theorem amongM_lt (k n : Int) (hn : 0 < n) : 0 ≤ amongM k n ∧ amongM k n < n := by
  obtain ⟨h1, h2⟩ := tmod_lt k n hn
  unfold amongM
  split <;> omega
theorem Among_calls (k n : Int) (h1 : 1 ≤ n) (h2 : n ≤ 1000000) : Calls Tryd.prog 21 #[.int .i64 k, .int .i64 n] w fun e w' => e = .returned (.int .i64 (amongM k n)) ∧ w = w' := by
  obtain ⟨t1, t2⟩ := tmod_lt k n (by omega)
  by_cases ht : k.tmod n < 0
  · have hq := Lib.hid (show amongM k n = k.tmod n + n by simp [amongM, ht])
    go_enter Tryd.func21, Tryd.ntmps21
    go_wp2
    go_ret
    exact ⟨by rw [hq.out] <;> rfl, rfl⟩
  · have hq := Lib.hid (show amongM k n = k.tmod n by simp [amongM, ht])
    go_enter Tryd.func21, Tryd.ntmps21
    go_wp2
    go_ret
    exact ⟨by rw [hq.out] <;> rfl, rfl⟩
/-- An operation. -/
structure OpM where
  kind : Int
  at_ : Int
  n : Int
  b : List Int
  ch : List Bool
/-- An operation's five cells; its bytes and its choice can be read. -/
def OpIs (w : World) (o : OpM) (cs : List Value) : Prop :=
  ∃ ab cb ac cc, cs = [.int .i64 o.kind, .int .i64 o.at_, .int .i64 o.n, .slice ab o.b.length cb, .slice ac o.ch.length cc] ∧ o.b.length ≤ cb ∧ o.ch.length ≤ cc ∧ Kd.C (Kd.int .u8) w ab o.b.length o.b ∧ Kd.C Kd.bool w ac o.ch.length o.ch ∧ o.b.length ≤ 140737488351232 ∧ o.ch.length ≤ 140737488351232 ∧ -9223372036854775808 ≤ o.at_ ∧ o.at_ ≤ 9223372036854775807 ∧ -9223372036854775808 ≤ o.n ∧ o.n ≤ 9223372036854775807
theorem OpIs.below {o : OpM} {cs : List Value} (h : OpIs w o cs) (hb : Below w.heap.size w W) : OpIs W o cs := by
  obtain ⟨ab, cb, ac, cc, h1, h2, h3, h4, h5, h6⟩ := h
  exact ⟨ab, cb, ac, cc, h1, h2, h3, Kd.C_below h4 hb, Kd.C_below h5 hb, h6⟩
/-- A row of operations. -/
def Ops (w : World) (A : Option Addr) (l : List OpM) : Prop := ReadsRow (OpIs w) 5 w A l.length l
theorem Ops.below {A : Option Addr} {l : List OpM} (h : Ops w A l) (hb : Below w.heap.size w W) : Ops W A l := ReadsRow.imp_ h hb (fun _ _ hp => OpIs.below hp hb)
theorem add5 (ad : Addr) (i j : Nat) (hj : 0 < j) : ad.add (i * 5 + j) = ⟨(ad.add (i * 5)).block, (ad.add (i * 5)).off + j, none⟩ := by
  rw [← Addr.add_add]
  unfold Addr.add
  rw [if_neg (by omega)]
theorem Ops.get {A : Option Addr} {l : List OpM} (h : Ops w A l) (i : Nat) (hi : i < l.length) : ∃ ad ab cb ac cc o, A = some ad ∧ l[i]? = some o ∧
    w.cell? (ad.add (i * 5)) = some (.int .i64 o.kind) ∧ w.cell? ⟨(ad.add (i * 5)).block, (ad.add (i * 5)).off + 1, none⟩ = some (.int .i64 o.at_) ∧ w.cell? ⟨(ad.add (i * 5)).block, (ad.add (i * 5)).off + 2, none⟩ = some (.int .i64 o.n) ∧
    w.cell? ⟨(ad.add (i * 5)).block, (ad.add (i * 5)).off + 3, none⟩ = some (.slice ab o.b.length cb) ∧ w.cell? ⟨(ad.add (i * 5)).block, (ad.add (i * 5)).off + 4, none⟩ = some (.slice ac o.ch.length cc) ∧ OpIs w o [.int .i64 o.kind, .int .i64 o.at_, .int .i64 o.n, .slice ab o.b.length cb, .slice ac o.ch.length cc] := by
  obtain ⟨ad, rfl, hc⟩ := h.2.2 (by omega)
  obtain ⟨cs, hl, hR, hx⟩ := hc i _ (List.getElem?_eq_getElem hi)
  have hR' := hR
  obtain ⟨ab, cb, ac, cc, rfl, h1⟩ := hR
  refine ⟨ad, ab, cb, ac, cc, l[i], rfl, List.getElem?_eq_getElem hi, hx 0 _ rfl, ?_, ?_, ?_, ?_, hR'⟩
  · rw [← add5 ad i 1 (by decide)]; exact hx 1 _ rfl
  · rw [← add5 ad i 2 (by decide)]; exact hx 2 _ rfl
  · rw [← add5 ad i 3 (by decide)]; exact hx 3 _ rfl
  · rw [← add5 ad i 4 (by decide)]; exact hx 4 _ rfl
end Go.Proofs.YtmblnflfklmmkaaDoor.Dk
/- The law's long. -/
namespace Go.Proofs.YtmblnflfklmmkaaDoor.Dk
open Go.RowKit Go.Proofs.YtmblnflfklmmkaaDoorW.PrintWords Go.Proofs.YtmblnflfklmmkaaDoorW.PrintLast Go.Proofs.YtmblnflfklmmkaaDoorW.PrintMore
set_option linter.unusedVariables false
set_option linter.unusedSimpArgs false
set_option maxRecDepth 30000
variable {w W W' : World}
def wOp (o : OpM) : Nat := 1 + o.b.length + o.ch.length
def wsum (l : List OpM) : Nat := (l.map wOp).sum
theorem wsum_take {l : List OpM} {i : Nat} {o : OpM} (h : l[i]? = some o) : wsum (l.take (i + 1)) = wsum (l.take i) + wOp o := by
  obtain ⟨hi, rfl⟩ := List.getElem?_eq_some_iff.1 h
  rw [List.take_succ_eq_append_getElem hi, wsum, wsum, List.map_append, List.sum_append]
  simp
def LongPost (w w' : World) (l : List OpM) (e : Ending) : Prop := ∃ b, e = .returned (.bool b) ∧ (∃ m, w' = w.drewN m) ∧ (b = false → wsum l ≤ 3000)
end Go.Proofs.YtmblnflfklmmkaaDoor.Dk
/- The law's plays: an operation on both disks. -/
namespace Go.Proofs.YtmblnflfklmmkaaDoor.Dk
open Go.RowKit Go.Proofs.YtmblnflfklmmkaaDoorW.PrintWords Go.Proofs.YtmblnflfklmmkaaDoorW.PrintLast Go.Proofs.YtmblnflfklmmkaaDoorW.PrintMore
set_option linter.unusedVariables false
set_option linter.unusedSimpArgs false
set_option maxRecDepth 30000
variable {w W W' : World} {B g g2 : Nat} {F F2 : Nat → Prop} {D : DM} {R : RM}
def playM (D : DM) (o : OpM) : DM :=
  if o.kind = 1 then (writeM D o.at_ o.b).1 else if o.kind = 2 then (flushM D).1 else if o.kind = 3 then (setM D o.n o.ch).1 else if o.kind = 4 then loseM o.ch D else if o.kind = 5 then startM D else if o.kind = 8 then (saveM D o.at_ o.b).1 else D
/-- Two disks beside each other. -/
structure Two (w : World) (B g : Nat) (F : Nat → Prop) (D : DM) (g2 : Nat) (F2 : Nat → Prop) (R : RM) : Prop where
  d : DiskAt w B g F D
  r : RefAt w B g2 F2 R
  ap : ∀ k, F k → ¬ F2 k
def PlayPost (w w' : World) (B g : Nat) (F : Nat → Prop) (D' : DM) (g2 : Nat) (F2 : Nat → Prop) (R : RM) (n : Nat) : Prop :=
  ∃ F' F2' R', (∀ k, F' k → F k ∨ w.heap.size ≤ k) ∧ (∀ k, F2' k → F2 k ∨ w.heap.size ≤ k) ∧ Two w' B g F' D' g2 F2' R' ∧ ROk R' ∧ R'.wait.length ≤ R.wait.length + n ∧ Upd w w' (fun k => F k ∨ F2 k)
def Bl (e : Ending) : Prop := ∃ b, e = .returned (.bool b)
def opV (o : OpM) (ab : Option Addr) (cb : Nat) (ac : Option Addr) (cc : Nat) : Array Value := #[.int .i64 o.kind, .int .i64 o.at_, .int .i64 o.n, .slice ab o.b.length cb, .slice ac o.ch.length cc]
theorem RefAt.lo (h : RefAt w B g F R) : ∀ k, F k → B ≤ k ∧ k < w.heap.size := by
  obtain ⟨_, _, _, h⟩ := h
  exact h.lt
theorem RefAt.frame {G : Nat → Prop} (h : RefAt w B g F R) (hu : Upd w W G) (hd : ∀ k, F k → ¬ G k) (hG : ∀ k, G k → B ≤ k) : RefAt W B g F R := by
  obtain ⟨_, _, _, h⟩ := h
  exact ⟨_, _, _, h.frame hu hd hG⟩
/-- The disk was worked on. -/
theorem Two.onD {F' : Nat → Prop} {D' : DM} (h : Two w B g F D g2 F2 R) (hd : DiskAt W B g F' D') (hF : ∀ k, F' k → F k ∨ w.heap.size ≤ k) (hu : Upd w W F) : Two W B g F' D' g2 F2 R := by
  refine ⟨hd, h.r.frame hu (fun k h2 h1 => h.ap k h1 h2) h.d.lo, fun k h1 h2 => ?_⟩
  rcases hF k h1 with h1 | h1
  · exact h.ap k h1 h2
  · have := (h.r.lo k h2).2
    omega
/-- The reference was worked on. -/
theorem Two.onR {F' : Nat → Prop} {R' : RM} (h : Two w B g F D g2 F2 R) (hr : RefAt W B g2 F' R') (hF : ∀ k, F' k → F2 k ∨ w.heap.size ≤ k) (hu : Upd w W F2) : Two W B g F D g2 F' R' := by
  refine ⟨h.d.frame hu (fun k _ h1 h2 => h.ap k h1 h2), hr, fun k h1 h2 => ?_⟩
  rcases hF k h2 with h2 | h2
  · exact h.ap k h1 h2
  · have := h.d.lt k h1
    omega
theorem Two.below (h : Two w B g F D g2 F2 R) (hb : Below w.heap.size w W) : Two W B g F D g2 F2 R :=
  ⟨h.d.frame (Upd.of_below (F := fun _ => False) hb) (fun _ _ _ h => h), h.r.frame (Upd.of_below (F := fun _ => False) hb) (fun _ _ h => h) (fun _ h => h.elim), h.ap⟩
end Go.Proofs.YtmblnflfklmmkaaDoor.Dk
/- What an operation leaves of a disk; the calls of package disk, on a disk of any form. -/
namespace Go.Proofs.YtmblnflfklmmkaaDoor.Dk
open Go.RowKit Go.Proofs.YtmblnflfklmmkaaDoorW.PrintWords Go.Proofs.YtmblnflfklmmkaaDoorW.PrintLast Go.Proofs.YtmblnflfklmmkaaDoorW.PrintMore
set_option linter.unusedVariables false
set_option linter.unusedSimpArgs false
set_option maxRecDepth 30000
variable {w W W' : World} {B g g2 : Nat} {F F2 : Nat → Prop} {D : DM} {R : RM}
theorem setM_ok {n : Int} {l : List Bool} (h : DOk D) (hn : n ≤ 9223372036854775807) : DOk (setM D n l).1 := by
  unfold setM
  split
  · exact h
  · split
    · exact h
    · exact ⟨h.at_, h.n1, h.n2, by simp only; omega, hn⟩
theorem goesM_hs : (goesM D).1.held = D.held ∧ (goesM D).1.sec = D.sec := by
  unfold goesM
  split
  · exact ⟨rfl, rfl⟩
  · split <;> exact ⟨rfl, rfl⟩
theorem loseM_hs (l : List Bool) : (loseM l D).held.length ≤ D.held.length ∧ (loseM l D).sec.length = D.sec.length := by
  unfold loseM
  split
  · exact ⟨Nat.le_refl _, rfl⟩
  · exact ⟨Nat.zero_le _, putsTo_length _ _ _ _⟩
theorem flushM_hs : (flushM D).1.held.length ≤ D.held.length ∧ (flushM D).1.sec.length = D.sec.length := by
  unfold flushM
  split
  · exact ⟨Nat.le_refl _, rfl⟩
  · split
    · have := loseM_hs (D := (goesM D).1) (goesM D).1.choice
      rw [goesM_hs.1, goesM_hs.2] at this
      exact this
    · exact ⟨Nat.zero_le _, by show (putsTo _ _ _ _).length = _; rw [putsTo_length, goesM_hs.2]⟩
theorem writeM_hs (k : Int) (x : List Int) : (writeM D k x).1.held.length ≤ D.held.length + 1 ∧ (writeM D k x).1.sec.length = D.sec.length := by
  have h1 : (holdM D k x).held.length = D.held.length + 1 := by simp [holdM]
  unfold writeM
  split
  · exact ⟨Nat.le_succ _, rfl⟩
  · split
    · exact ⟨Nat.le_succ _, rfl⟩
    · split
      · have := loseM_hs (D := (goesM (holdM D k x)).1) (goesM (holdM D k x)).1.choice
        rw [goesM_hs.1, goesM_hs.2, h1] at this
        exact this
      · show (goesM (holdM D k x)).1.held.length ≤ _ ∧ _
        rw [goesM_hs.1, goesM_hs.2, h1]
        exact ⟨Nat.le_refl _, rfl⟩
theorem saveFrom_hs (x : List Int) (k : Int) : ∀ m i (D : DM), (saveFrom x k m i D).1.held.length ≤ D.held.length + m ∧ (saveFrom x k m i D).1.sec.length = D.sec.length
  | 0, _, _ => ⟨Nat.le_refl _, rfl⟩
  | m + 1, i, D => by
    unfold saveFrom
    have hw := writeM_hs (D := D) (k + i) (secAt x i)
    split
    · exact ⟨by omega, hw.2⟩
    · have := saveFrom_hs x k m (i + 1) (writeM D (k + i) (secAt x i)).1
      exact ⟨by omega, this.2.trans hw.2⟩
theorem saveFrom_ok (x : List Int) (k : Int) : ∀ m i (D : DM), DOk D → D.held.length + m ≤ 10000000 → DOk (saveFrom x k m i D).1
  | 0, _, _, h, _ => h
  | m + 1, i, D, h, hn => by
    unfold saveFrom
    have hw := writeM_hs (D := D) (k + i) (secAt x i)
    have ho := writeM_ok (k := k + i) (x := secAt x i) h (by omega)
    split
    · exact ho
    · exact saveFrom_ok x k m (i + 1) _ ho (by omega)
theorem saveM_hs (k : Int) (x : List Int) : (saveM D k x).1.held.length ≤ D.held.length + x.length ∧ (saveM D k x).1.sec.length = D.sec.length := by
  unfold saveM
  split
  · exact ⟨Nat.le_add_right _ _, rfl⟩
  · have := saveFrom_hs x k ((x.length + 63) / 64) 0 D
    exact ⟨by omega, this.2⟩
theorem saveM_ok {k : Int} {x : List Int} (h : DOk D) (hn : D.held.length + x.length ≤ 10000000) : DOk (saveM D k x).1 := by
  unfold saveM
  split
  · exact h
  · exact saveFrom_ok x k _ 0 D h (by omega)
theorem playM_hs (o : OpM) : (playM D o).held.length ≤ D.held.length + wOp o ∧ (playM D o).sec.length = D.sec.length := by
  unfold playM wOp
  split
  · have := writeM_hs (D := D) o.at_ o.b; exact ⟨by omega, this.2⟩
  · split
    · have := flushM_hs (D := D); exact ⟨by omega, this.2⟩
    · split
      · unfold setM
        split
        · exact ⟨by simp only; omega, rfl⟩
        · split <;> exact ⟨by simp only; omega, rfl⟩
      · split
        · have := loseM_hs (D := D) o.ch; exact ⟨by omega, this.2⟩
        · split
          · exact ⟨by simp only [startM]; omega, rfl⟩
          · split
            · have := saveM_hs (D := D) o.at_ o.b; exact ⟨by omega, this.2⟩
            · exact ⟨by omega, rfl⟩
theorem playM_ok (o : OpM) (h : DOk D) (hn : D.held.length + wOp o ≤ 10000000) (hn2 : o.n ≤ 9223372036854775807) : DOk (playM D o) := by
  unfold playM
  unfold wOp at hn
  split
  · exact writeM_ok h (by omega)
  · split
    · exact flushM_ok h
    · split
      · exact setM_ok h hn2
      · split
        · exact loseM_ok _ h
        · split
          · exact startM_ok h
          · split
            · exact saveM_ok h (by omega)
            · exact h
def DPost (w w' : World) (B g : Nat) (F : Nat → Prop) (D' : DM) : Prop := ∃ F', (∀ k, F' k → F k ∨ w.heap.size ≤ k) ∧ DiskAt w' B g F' D' ∧ Upd w w' F
theorem DPost.of_grow {D' : DM} (h : DiskAt W B g (Grow F w W) D') (hu : Upd w W F) : DPost w W B g F D' := ⟨_, fun _ => Grow.out, h, hu⟩
theorem DPost.of_same {D' : DM} (h : DiskAt W B g F D') (hu : Upd w W F) : DPost w W B g F D' := ⟨F, fun _ h => .inl h, h, hu⟩
theorem dWrite (h : DiskAt w B g F D) (hok : DOk D) (hn : D.held.length < 10000000) (k : Int) (A : Option Addr) (c : Nat) (x : List Int) (hC : Kd.C (Kd.int .u8) w A x.length x) :
    Calls Tryd.prog 53 #[.pointer (some ⟨g, 0, none⟩), .int .i64 k, .slice A x.length c] w fun e w' => e = .returned (.int .i64 (writeM D k x).2) ∧ DPost w w' B g F (writeM D k x).1 := by
  obtain ⟨_, _, _, h⟩ := h
  exact (Write_calls h hok hn k A c x hC).mono fun e w' ⟨he, hd, hu⟩ => ⟨he, .of_grow hd hu⟩
theorem dFlush (h : DiskAt w B g F D) (hok : DOk D) :
    Calls Tryd.prog 19 #[.pointer (some ⟨g, 0, none⟩)] w fun e w' => e = .returned (.int .i64 (flushM D).2) ∧ DPost w w' B g F (flushM D).1 := by
  obtain ⟨_, _, _, h⟩ := h
  exact (Flush_calls h hok).mono fun e w' ⟨he, hd, hu⟩ => ⟨he, .of_same hd hu⟩
theorem dSet (h : DiskAt w B g F D) (n : Int) (A : Option Addr) (c : Nat) (l : List Bool) (hC : Kd.C Kd.bool w A l.length l) :
    Calls Tryd.prog 20 #[.pointer (some ⟨g, 0, none⟩), .int .i64 n, .slice A l.length c] w fun e w' => e = .returned (.int .i64 (setM D n l).2) ∧ DPost w w' B g F (setM D n l).1 := by
  obtain ⟨_, _, _, h⟩ := h
  exact (Set_calls h n A c l hC).mono fun e w' ⟨he, hd, hu⟩ => ⟨he, .of_grow hd hu⟩
theorem dLose (h : DiskAt w B g F D) (hok : DOk D) (A : Option Addr) (c : Nat) (l : List Bool) (hc : l.length ≤ c) (hC : ∀ W', Upd w W' F → Kd.C Kd.bool W' A l.length l) :
    Calls Tryd.prog 22 #[.pointer (some ⟨g, 0, none⟩), .slice A l.length c] w fun e w' => e = .returned (.tuple #[]) ∧ DPost w w' B g F (loseM l D) := by
  obtain ⟨_, _, _, h⟩ := h
  exact (Lose_calls h hok A c l hc (fun W hW _ => hC W hW)).mono fun e w' ⟨he, hd, hu⟩ => ⟨he, .of_same hd hu⟩
theorem dStart (h : DiskAt w B g F D) : Calls Tryd.prog 23 #[.pointer (some ⟨g, 0, none⟩)] w fun e w' => e = .returned (.tuple #[]) ∧ DPost w w' B g F (startM D) := by
  obtain ⟨_, _, _, h⟩ := h
  exact (Start_calls h).mono fun e w' ⟨he, hd, hu⟩ => ⟨he, .of_same hd hu⟩
theorem dSave (h : DiskAt w B g F D) (hok : DOk D) (hn : D.held.length + 20000 ≤ 10000000) (k : Int) (A : Option Addr) (c : Nat) (x : List Int) (hx : x.length ≤ 1000000000) (hxc : x.length ≤ c) (hC : ∀ W, Upd w W F → Kd.C (Kd.int .u8) W A x.length x) :
    Calls Tryd.prog 43 #[.pointer (some ⟨g, 0, none⟩), .int .i64 k, .slice A x.length c] w fun e w' => e = .returned (.int .i64 (saveM D k x).2) ∧ DPost w w' B g F (saveM D k x).1 := by
  obtain ⟨_, _, _, h⟩ := h
  exact (Save_calls h hok hn k A c x hx hxc hC).mono fun e w' ⟨he, hd, hu⟩ => ⟨he, .of_grow hd hu⟩
theorem Reads.block {b : Nat} {x : List Int} {e : TypeId} {m : Nat × Nat} {c : Nat} (h : w.heap[b]? = some (.cells (nums .u8 x).toArray e m)) (hx : x.length ≤ 1000000) (hc : x.length ≤ c) : Reads w (.slice (some ⟨b, 0, none⟩) x.length c) x := ⟨_, _, rfl, hc, C_block h hx⟩
theorem dRead (h : DiskAt w B g F D) (hok : DOk D) (k : Int) : Calls Tryd.prog 56 #[.pointer (some ⟨g, 0, none⟩), .int .i64 k] w fun e w' => TwoRead w w' e := by
  obtain ⟨_, _, _, h⟩ := h
  by_cases hk : atM D k = 0
  · refine (Read_calls h hok k hk).mono ?_
    rintro e w' ⟨rfl, hl, hb, hB⟩
    have := Reads.block (c := 64) hb (by omega) (by omega)
    rw [hl] at this
    exact ⟨_, _, _, rfl, this, hB⟩
  · refine (Read_fails h k hk).mono ?_
    rintro e w' ⟨rfl, rfl⟩
    exact ⟨_, [], _, rfl, Reads.nil _, Below.refl _ _⟩
theorem dLoad (h : DiskAt w B g F D) (hok : DOk D) (k n : Int) (h1 : -9223372036854775808 ≤ n) (h2 : n ≤ 9223372036854775807) : Calls Tryd.prog 58 #[.pointer (some ⟨g, 0, none⟩), .int .i64 k, .int .i64 n] w fun e w' => TwoRead w w' e := by
  obtain ⟨_, _, _, h⟩ := h
  by_cases hk : loadE D k n = 0
  · have hn : 0 ≤ n := by
      unfold loadE at hk
      split at hk
      · omega
      · split at hk <;> omega
    obtain ⟨n0, rfl⟩ : ∃ m : Nat, n = m := ⟨n.toNat, by omega⟩
    refine (Load_calls h hok k n0 h2 hk).mono ?_
    rintro e w' ⟨A, rfl, hC, hB⟩
    have hl : ((readsTo D k ((n0 + 63) / 64)).take n0).length = n0 := hC.1
    refine ⟨_, (readsTo D k ((n0 + 63) / 64)).take n0, _, rfl, ⟨A, n0, by rw [hl], by omega, by rw [hl]; exact hC⟩, hB⟩
  · refine (Load_fails h hok k n h1 h2 hk).mono ?_
    rintro e w' ⟨rfl, m, rfl⟩
    exact ⟨_, [], _, rfl, Reads.nil _, pw_below_drewN (Below.refl _ _) m⟩
/-- The reference's calls, in the same form. -/
theorem rPost_write (h : RefAt w B g2 F2 R) (hok : ROk R) (hB : B ≤ w.heap.size) (hn : R.wait.length < 9000000) (k : Int) (A : Option Addr) (c : Nat) (x : List Int) (hC : Kd.C (Kd.int .u8) w A x.length x) :
    Calls Tryd.prog 54 #[.pointer (some ⟨g2, 0, none⟩), .int .i64 k, .slice A x.length c] w fun e w' => Num e ∧ RefPost w w' B g2 F2 R 1 := by
  obtain ⟨_, _, _, h⟩ := h
  exact (rWrite_calls h hok hB hn k A c x hC).mono fun e w' ⟨n, R', he, h1, h2, h3, h4, h5⟩ => ⟨⟨n, he⟩, R', _, fun _ => Grow.out, h1, h2, h3, h4, h5⟩
theorem rPost_flush (h : RefAt w B g2 F2 R) (hok : ROk R) : Calls Tryd.prog 55 #[.pointer (some ⟨g2, 0, none⟩)] w fun e w' => Num e ∧ RefPost w w' B g2 F2 R 0 := by
  obtain ⟨_, _, _, h⟩ := h
  exact (rFlush_calls h hok).mono fun e w' ⟨n, R', he, h1, h2, h3, h4, h5⟩ => ⟨⟨n, he⟩, R', _, fun _ h => .inl h, h1, h2, h3, h4, h5⟩
theorem rPost_set (h : RefAt w B g2 F2 R) (hok : ROk R) (n : Int) (hn : n ≤ 9223372036854775807) (A : Option Addr) (c : Nat) (l : List Bool) (hc : l.length ≤ c) (hC : ∀ W, Upd w W (fun k => B ≤ k) → Kd.C Kd.bool W A l.length l) :
    Calls Tryd.prog 50 #[.pointer (some ⟨g2, 0, none⟩), .int .i64 n, .slice A l.length c] w fun e w' => Num e ∧ RefPost w w' B g2 F2 R 0 := by
  obtain ⟨_, _, _, h⟩ := h
  refine (rSet_calls h n A c l hc hC).mono fun e w' ⟨he, ⟨vc', h1⟩, h2⟩ => ⟨⟨_, he⟩, _, _, fun _ h => .inl h, ⟨_, _, _, h1⟩, ?_, ?_, ?_, h2⟩
  · unfold rsetM
    split
    · exact hok
    · split
      · exact hok
      · exact ⟨hok.at_, hok.s64, hok.w64, hok.n1, hok.n2, by simp only; omega, hn⟩
  · unfold rsetM
    split
    · exact Nat.le_refl _
    · split <;> exact Nat.le_refl _
  · unfold rsetM
    split
    · rfl
    · split <;> rfl
theorem rPost_lose (h : RefAt w B g2 F2 R) (hok : ROk R) (A : Option Addr) (c : Nat) (l : List Bool) (hC : ∀ W, Upd w W F2 → Kd.C Kd.bool W A l.length l) :
    Calls Tryd.prog 51 #[.pointer (some ⟨g2, 0, none⟩), .slice A l.length c] w fun e w' => e = .returned (.tuple #[]) ∧ RefPost w w' B g2 F2 R 0 := by
  obtain ⟨_, _, _, h⟩ := h
  exact (rLose_calls h hok A c l hC).mono fun e w' ⟨he, ⟨_, h1⟩, h2⟩ => ⟨he, _, _, fun _ h => .inl h, ⟨_, _, _, h1⟩, rloseM_ok l hok, (rloseM_same l).2.1, (rloseM_same l).1, h2⟩
theorem rPost_start (h : RefAt w B g2 F2 R) (hok : ROk R) : Calls Tryd.prog 52 #[.pointer (some ⟨g2, 0, none⟩)] w fun e w' => e = .returned (.tuple #[]) ∧ RefPost w w' B g2 F2 R 0 := by
  obtain ⟨_, _, _, h⟩ := h
  exact (rStart_calls h).mono fun e w' ⟨he, h1, h2⟩ => ⟨he, _, _, fun _ h => .inl h, ⟨_, _, _, h1⟩, ⟨hok.at_, hok.s64, hok.w64, hok.n1, hok.n2, by simp [rstartM], by simp [rstartM]⟩, Nat.le_refl _, rfl, h2⟩
theorem rPost_save (h : RefAt w B g2 F2 R) (hok : ROk R) (hB : B ≤ w.heap.size) (k : Int) (A : Option Addr) (c : Nat) (x : List Int) (hx : x.length ≤ 1000000000) (hxc : x.length ≤ c) (hn : R.wait.length + x.length < 9000000) (hC : ∀ W, Upd w W F2 → Kd.C (Kd.int .u8) W A x.length x) :
    Calls Tryd.prog 73 #[.pointer (some ⟨g2, 0, none⟩), .int .i64 k, .slice A x.length c] w fun e w' => Num e ∧ RefPost w w' B g2 F2 R x.length := by
  obtain ⟨_, _, _, h⟩ := h
  exact rSave_calls h hok hB k A c x hx hxc hn hC
theorem rRead (h : RefAt w B g2 F2 R) (hok : ROk R) (k : Int) : Calls Tryd.prog 96 #[.pointer (some ⟨g2, 0, none⟩), .int .i64 k] w fun e w' => TwoRead w w' e := by
  obtain ⟨_, _, _, h⟩ := h
  refine (rRead_calls h hok k).mono ?_
  rintro e w' ⟨v, b, n, rfl, hr, rfl, _⟩
  exact ⟨v, b, n, rfl, hr, Below.refl _ _⟩
theorem rLoad (h : RefAt w B g2 F2 R) (hok : ROk R) (k n : Int) : Calls Tryd.prog 98 #[.pointer (some ⟨g2, 0, none⟩), .int .i64 k, .int .i64 n] w fun e w' => TwoRead w w' e := by
  obtain ⟨_, _, _, h⟩ := h
  exact rLoad_calls h hok k n
end Go.Proofs.YtmblnflfklmmkaaDoor.Dk
/- The law's plays. -/
namespace Go.Proofs.YtmblnflfklmmkaaDoor.Dk
open Go.RowKit Go.Proofs.YtmblnflfklmmkaaDoorW.PrintWords Go.Proofs.YtmblnflfklmmkaaDoorW.PrintLast Go.Proofs.YtmblnflfklmmkaaDoorW.PrintMore
set_option linter.unusedVariables false
set_option linter.unusedSimpArgs false
set_option maxRecDepth 30000
variable {w W W' wa w2 w3 : World} {B g g2 : Nat} {F F2 : Nat → Prop} {D D' : DM} {R : RM}
theorem cellB {b t : Nat} {cs : Array Value} {m : Nat × Nat} (h : w.heap[b]? = some (.cells cs t m)) (j : Nat) (v : Value) (hj : cs[j]? = some v) : w.cell? ⟨b, j, none⟩ = some v := by simp [World.cell?, h, hj]
theorem DPost.upd (h : DPost w W B g F D') : Upd w W F := by
  obtain ⟨_, _, _, h⟩ := h
  exact h
theorem DPost.cell {b : Nat} {o : Obj} (h : DPost w W B g F D') (hb : ¬ F b) (ho : w.heap[b]? = some o) : W.heap[b]? = some o := (h.upd.block b (by
  rcases Nat.lt_or_ge b w.heap.size with h | h
  · exact h
  · rw [Array.getElem?_eq_none h] at ho; cases ho) hb).trans ho
theorem RefPost.cell {b n : Nat} {o : Obj} (h : RefPost w W B g2 F2 R n) (hb : ¬ F2 b) (ho : w.heap[b]? = some o) : W.heap[b]? = some o := by
  obtain ⟨_, _, _, _, _, _, _, hu⟩ := h
  refine (hu.block b ?_ hb).trans ho
  rcases Nat.lt_or_ge b w.heap.size with h | h
  · exact h
  · rw [Array.getElem?_eq_none h] at ho; cases ho
theorem Two.stepD (h : Two w B g F D g2 F2 R) (hd : DPost w W B g F D') : RefAt W B g2 F2 R ∧ ∃ F', Two W B g F' D' g2 F2 R := by
  obtain ⟨F', hF, hd, hu⟩ := hd
  exact ⟨(h.onD hd hF hu).r, F', h.onD hd hF hu⟩
theorem PlayPost.of {n : Nat} (hb : Below w.heap.size w wa) (h : Two wa B g F D g2 F2 R) (hd : DPost wa w2 B g F D') (hr : RefPost w2 w3 B g2 F2 R n) : PlayPost w w3 B g F D' g2 F2 R n := by
  obtain ⟨F', hF, hd, hu⟩ := hd
  obtain ⟨R', F2', hF2, hr, ho, hw, hs, hu2⟩ := hr
  have hu1 : Upd w wa (fun k => F k ∨ F2 k) := Upd.of_below hb
  exact ⟨F', F2', R', fun k hk => (hF k hk).imp id (fun h => Nat.le_trans hb.size h), fun k hk => (hF2 k hk).imp id (fun h => Nat.le_trans hb.size (Nat.le_trans hu.size h)), (h.onD hd hF hu).onR hr hF2 hu2, ho, hw,
    (hu1.trans (hu.mono (fun _ h => .inl h)) (fun _ h => .inl h)).trans (hu2.mono (fun _ h => .inr h)) (fun _ h => .inl h)⟩
theorem PlayPost.below {n : Nat} (h : PlayPost w w2 B g F D' g2 F2 R n) (hb : Below w2.heap.size w2 W) : PlayPost w W B g F D' g2 F2 R n := by
  obtain ⟨F', F2', R', h1, h2, h3, h4, h5, h6⟩ := h
  exact ⟨F', F2', R', h1, h2, h3.below hb, h4, h5, h6.trans (Upd.of_below (F := fun _ => False) hb) (fun _ h => h.elim)⟩
theorem PlayPost.le {n m : Nat} (h : PlayPost w w2 B g F D' g2 F2 R n) (hm : n ≤ m) : PlayPost w w2 B g F D' g2 F2 R m := by
  obtain ⟨F', F2', R', h1, h2, h3, h4, h5, h6⟩ := h
  exact ⟨F', F2', R', h1, h2, h3, h4, by omega, h6⟩
theorem PlayPost.same (h : Two w B g F D g2 F2 R) (hok : ROk R) (hb : Below w.heap.size w W) (n : Nat) : PlayPost w W B g F D g2 F2 R n :=
  ⟨F, F2, R, fun _ h => .inl h, fun _ h => .inl h, h.below hb, hok, Nat.le_add_right _ _, Upd.of_below hb⟩
theorem OpIs.C {o : OpM} {ab ac : Option Addr} {cb cc : Nat} (h : OpIs w o [.int .i64 o.kind, .int .i64 o.at_, .int .i64 o.n, .slice ab o.b.length cb, .slice ac o.ch.length cc]) :
    o.b.length ≤ cb ∧ o.ch.length ≤ cc ∧ Kd.C (Kd.int .u8) w ab o.b.length o.b ∧ Kd.C Kd.bool w ac o.ch.length o.ch ∧ -9223372036854775808 ≤ o.n ∧ o.n ≤ 9223372036854775807 := by
  obtain ⟨ab', cb', ac', cc', e, h1, h2, h3, h4, h5, h6, h7⟩ := h
  injection e with _ e
  injection e with _ e
  injection e with _ e
  injection e with e1 e
  injection e with e2 _
  injection e1 with e1 _ e3
  injection e2 with e2 _ e4
  subst e1; subst e2; subst e3; subst e4
  exact ⟨h1, h2, h3, h4, h7.2.2⟩
def PlaysPost (w w' : World) (B g : Nat) (F : Nat → Prop) (D' : DM) (g2 : Nat) (F2 : Nat → Prop) (R : RM) (n : Nat) (e : Ending) : Prop := Bl e ∧ PlayPost w w' B g F D' g2 F2 R n
end Go.Proofs.YtmblnflfklmmkaaDoor.Dk
/- The law's made. -/
namespace Go.Proofs.YtmblnflfklmmkaaDoor.Dk
open Go.RowKit Go.Proofs.YtmblnflfklmmkaaDoorW.PrintWords Go.Proofs.YtmblnflfklmmkaaDoorW.PrintLast Go.Proofs.YtmblnflfklmmkaaDoorW.PrintMore
set_option linter.unusedVariables false
set_option linter.unusedSimpArgs false
set_option maxRecDepth 30000
variable {w W W' : World} {B g g2 : Nat} {F F2 : Nat → Prop} {D : DM} {R : RM}
/-- An operation is read out of its row, whole. -/
theorem load_op {p : Addr} {v0 v1 v2 v3 v4 : Value} (h0 : w.cell? p = some v0) (h1 : w.cell? ⟨p.block, p.off + 1, none⟩ = some v1) (h2 : w.cell? ⟨p.block, p.off + 2, none⟩ = some v2) (h3 : w.cell? ⟨p.block, p.off + 3, none⟩ = some v3) (h4 : w.cell? ⟨p.block, p.off + 4, none⟩ = some v4) :
    (Instr.loadAt 76 (.pointer (some p))).run Tryd.prog w = .ok (.agg #[v0, v1, v2, v3, v4]) w := by
  refine run_loadAt_at 76 Tryd.underlying76 rfl p [v0, v1, v2, v3, v4] (by kernel_rfl) (fun j u hj => ?_)
  match j with
  | 0 => injection hj with hj; subst hj; exact h0
  | 1 => injection hj with hj; subst hj; exact h1
  | 2 => injection hj with hj; subst hj; exact h2
  | 3 => injection hj with hj; subst hj; exact h3
  | 4 => injection hj with hj; subst hj; exact h4
  | j + 5 => simp at hj
def Made (w w' : World) (e : Ending) : Prop := Below w.heap.size w w' ∧ (e = .returned (.pointer none) ∨ ∃ g F D, e = .returned (.pointer (some ⟨g, 0, none⟩)) ∧ DiskAt w' w.heap.size g F D ∧ DOk D ∧ D.held.length ≤ 3000 ∧ 1 ≤ D.sec.length ∧ D.sec.length ≤ 100)
theorem RAt.lower {B' : Nat} {vs vh vc : Value} (h : RAt w B g F R vs vh vc) (hb : B' ≤ B) (hc : R.choice = []) : RAt w B' g F R vs vh vc where
  blk := h.blk
  sec := Kd.R_lower h.sec hb
  wait := Kd.R_lower h.wait hb
  choice := by
    obtain ⟨A, c, h1, h2, _⟩ := h.choice
    refine ⟨A, c, h1, h2, fun W _ => ?_⟩
    rw [hc]
    exact ⟨rfl, by decide, fun h => absurd h (by decide)⟩
  own := h.own
  lt := fun k hk => ⟨Nat.le_trans hb (h.lt k hk).1, (h.lt k hk).2⟩
theorem wsum_le (l : List OpM) : ∀ i, wsum (l.take i) ≤ wsum l := fun i => by
  have : wsum l = wsum (l.take i) + wsum (l.drop i) := by
    rw [wsum, wsum, wsum, ← List.sum_append, ← List.map_append, List.take_append_drop]
  omega
end Go.Proofs.YtmblnflfklmmkaaDoor.Dk
/- Words for the laws about disks: what a call leaves beside it. -/
namespace Go.Proofs.YtmblnflfklmmkaaDoor.Dk
open Go.RowKit Go.Proofs.YtmblnflfklmmkaaDoorW.PrintWords Go.Proofs.YtmblnflfklmmkaaDoorW.PrintLast Go.Proofs.YtmblnflfklmmkaaDoorW.PrintMore
set_option linter.unusedVariables false
set_option linter.unusedSimpArgs false
set_option maxRecDepth 30000
variable {w0 w w' W W' w1 w2 : World} {B g g2 : Nat} {F F' F2 : Nat → Prop} {D D' : DM} {v : Value} {xs : List Int}
theorem below_trans (h : Below w0.heap.size w0 w1) (h2 : Below w1.heap.size w1 w2) : Below w0.heap.size w0 w2 := Upd.below (F := fun _ => False) ((Upd.of_below (F := fun _ => False) h).trans (Upd.of_below (F := fun _ => False) h2) (fun _ h => h.elim)) (fun _ h => h.elim)
theorem below_upd (h : Below w0.heap.size w0 w1) (h2 : Upd w1 w2 F) (hlo : ∀ k, F k → w0.heap.size ≤ k) : Below w0.heap.size w0 w2 := Upd.below (F := fun k => w0.heap.size ≤ k) ((Upd.of_below (F := fun k => w0.heap.size ≤ k) h).trans h2 (fun k hk => .inl (hlo k hk))) (fun k hk => hk)
theorem Row.post (h : Row w F v xs) (hF : ∀ k, F' k → F k ∨ w.heap.size ≤ k) (hu : Upd w w' F) : Row w' F' v xs := by
  obtain ⟨G, h1, h2⟩ := h.row
  exact ⟨G, Kd.R_kept h1 hu.kept (fun k hk => (h2 k hk).2), fun k hk => ⟨Nat.lt_of_lt_of_le (h2 k hk).1 hu.size, fun hf => by
    rcases hF k hf with hf | hf
    · exact (h2 k hk).2 hf
    · have := (h2 k hk).1
      omega⟩⟩
/-- A disk of the law's own (its blocks are younger than w0), and that all older blocks are as they were. -/
structure St (w0 w : World) (g : Nat) (F : Nat → Prop) (D : DM) : Prop where
  d : DiskAt w w0.heap.size g F D
  b : Below w0.heap.size w0 w
theorem St.call (h : St w0 w g F D) (hp : DPost w w' w0.heap.size g F D') : ∃ F', St w0 w' g F' D' ∧ ∀ v xs, Row w F v xs → Row w' F' v xs := by
  obtain ⟨F', hF, hd, hu⟩ := hp
  exact ⟨F', ⟨hd, below_upd h.b hu h.d.lo⟩, fun v xs hr => hr.post hF hu⟩
theorem St.below (h : St w0 w g F D) (hb : Below w.heap.size w w') : St w0 w' g F D := ⟨h.d.frame (Upd.of_below (F := fun _ => False) hb) (fun _ _ _ h => h), below_trans h.b hb⟩
theorem Row.below (h : Row w F v xs) (hb : Below w.heap.size w w') : Row w' F v xs := h.same (Upd.of_below hb)
/-- The calls, on such a disk. -/
theorem sUp (h : St w0 w g F D) : Calls Tryd.prog 40 #[.pointer (some ⟨g, 0, none⟩)] w fun e w' => e = .returned (.bool (!D.down)) ∧ w = w' := UpD h.d
theorem sSize (h : St w0 w g F D) : Calls Tryd.prog 26 #[.pointer (some ⟨g, 0, none⟩)] w fun e w' => e = .returned (.int .i64 (D.sec.length : Int)) ∧ w = w' := by
  obtain ⟨⟨_, _, _, h⟩, _⟩ := h
  exact Size_calls h
def SPost (w0 w w' : World) (g : Nat) (F : Nat → Prop) (D' : DM) : Prop := ∃ F', St w0 w' g F' D' ∧ ∀ v xs, Row w F v xs → Row w' F' v xs
theorem sStart (h : St w0 w g F D) : Calls Tryd.prog 23 #[.pointer (some ⟨g, 0, none⟩)] w fun e w' => e = .returned (.tuple #[]) ∧ SPost w0 w w' g F (startM D) := (dStart h.d).mono fun e w' ⟨he, hp⟩ => ⟨he, h.call hp⟩
theorem sFlush (h : St w0 w g F D) (hok : DOk D) : Calls Tryd.prog 19 #[.pointer (some ⟨g, 0, none⟩)] w fun e w' => e = .returned (.int .i64 (flushM D).2) ∧ SPost w0 w w' g F (flushM D).1 := (dFlush h.d hok).mono fun e w' ⟨he, hp⟩ => ⟨he, h.call hp⟩
theorem sLose (h : St w0 w g F D) (hok : DOk D) (A : Option Addr) (c : Nat) (l : List Bool) (hc : l.length ≤ c) (hC : ∀ W, Below w0.heap.size w0 W → Kd.C Kd.bool W A l.length l) :
    Calls Tryd.prog 22 #[.pointer (some ⟨g, 0, none⟩), .slice A l.length c] w fun e w' => e = .returned (.tuple #[]) ∧ SPost w0 w w' g F (loseM l D) :=
  (dLose h.d hok A c l hc (fun W hW => hC W (below_upd h.b hW h.d.lo))).mono fun e w' ⟨he, hp⟩ => ⟨he, h.call hp⟩
theorem sBytes (h : St w0 w g F D) (hok : DOk D) : Calls Tryd.prog 17 #[.pointer (some ⟨g, 0, none⟩)] w fun e w' => ∃ A c, e = .returned (.slice A (bytesM D).length c) ∧ Row w' F (.slice A (bytesM D).length c) (bytesM D) ∧ Below w.heap.size w w' := by
  have hl := h.d.lt
  obtain ⟨⟨_, _, _, h⟩, _⟩ := h
  refine (Bytes_calls h hok).mono ?_
  rintro e w' ⟨v, rfl, hr, hb⟩
  obtain ⟨A, c, rfl⟩ := Kd.R_slice hr
  exact ⟨A, c, rfl, Row.new hr hl, hb⟩
theorem Row.C {A : Option Addr} {c : Nat} (h : Row w F (.slice A xs.length c) xs) : Kd.C (Kd.int .u8) w A xs.length xs := by
  obtain ⟨G, h1, _⟩ := h.row
  exact (Kd.R_reads' h1).2.2
/-- What the law is called with. -/
structure Args (w : World) (A : Option Addr) (c : Nat) (x : List Int) (A2 : Option Addr) (l : List OpM) : Prop where
  xc : x.length ≤ c
  C : Kd.C (Kd.int .u8) w A x.length x
  O : Ops w A2 l
  l : l.length ≤ 140737488351232
def Tru (w w' : World) (e : Ending) : Prop := e = .returned (.bool true) ∧ Below w.heap.size w w'
end Go.Proofs.YtmblnflfklmmkaaDoor.Dk
/- A store in memory; contracts of package store: place, Room, ready. -/
namespace Go.Proofs.YtmblnflfklmmkaaDoor.Sh
open Go.Proofs.YtmblnflfklmmkaaDoor.Dk
open Go.RowKit Go.Proofs.YtmblnflfklmmkaaDoorW.PrintWords Go.Proofs.YtmblnflfklmmkaaDoorW.PrintLast Go.Proofs.YtmblnflfklmmkaaDoorW.PrintMore
set_option linter.unusedVariables false
set_option linter.unusedSimpArgs false
set_option maxRecDepth 30000

section
variable {P : Program} (w : World)
theorem all_range_eqI : ∀ (xs ys : List Int), xs.length = ys.length → ((List.range xs.length).all fun i => xs.getD i 0 == ys.getD i 0) = (xs == ys)
  | [], [], _ => rfl
  | x :: xs, y :: ys, h => by
    have ih := all_range_eqI xs ys (by simpa using h)
    rw [List.length_cons, List.range_succ_eq_map, List.all_cons, List.all_map]
    simp only [List.getD_cons_zero, Function.comp_def, List.getD_cons_succ, ih]
    simp [List.cons_beq_cons]
  | [], _ :: _, h => by simp at h
  | _ :: _, [], h => by simp at h
theorem run_equalIn_nums (d : Nat) (t e : TypeId) (n : Nat) (ht : P.underlying t = some (.array n e)) (he : P.underlying e = some (.int .u8)) (hsz : ∀ w, (sizeOf e).run P w = .ok 1 w)
    (xs ys : List Int) (hx : xs.length = n) (hy : ys.length = n) :
    (Op.equalIn (d + 2) t (.agg (nums .u8 xs).toArray) (.agg (nums .u8 ys).toArray)).run P w = .ok (xs == ys) w := by
  rw [← all_range_eqI xs ys (hx.trans hy.symm), hx, List.range_eq_range', Op.equalIn]
  simp only [Sem.run_bind, run_underlying ht, Result.andThen_ok, hsz, Std.Legacy.Range.forIn_eq_forIn_range', Std.Legacy.Range.size, Nat.sub_zero, Nat.add_sub_cancel, Nat.div_one]
  have hl : ∀ i ∈ List.range' 0 n 1, i < n := fun i hi => by simpa using (List.mem_range'_1.1 hi).2
  generalize List.range' 0 n 1 = l at hl ⊢
  induction l with
  | nil => simp
  | cons i l ih =>
    have hi : i < n := hl i (by simp)
    have px : (part e (nums .u8 xs).toArray (i * 1)).run P w = .ok (.int .u8 (xs.getD i 0)) w := by
      simp [part, isAgg, run_underlying he, nums, List.getD, List.getElem?_eq_getElem (show i < xs.length by omega)]
    have py : (part e (nums .u8 ys).toArray (i * 1)).run P w = .ok (.int .u8 (ys.getD i 0)) w := by
      simp [part, isAgg, run_underlying he, nums, List.getD, List.getElem?_eq_getElem (show i < ys.length by omega)]
    have pe : (Op.equalIn (d + 1) e (.int .u8 (xs.getD i 0)) (.int .u8 (ys.getD i 0))).run P w = .ok (xs.getD i 0 == ys.getD i 0) w := by
      rw [run_equalIn_int w d e .u8 .u8 _ _ he]
    simp only [List.forIn_cons, Sem.run_bind, px, py, pe, Result.andThen_ok, List.all_cons]
    cases hb : (xs.getD i 0 == ys.getD i 0)
    · simp
    · simp only [Bool.not_true, Bool.false_eq_true, if_false, Sem.run_pure, Result.andThen_ok, Bool.true_and]
      exact ih fun j hj => hl j (by simp [hj])
/-- Two arrays of bytes are held against each other. -/
theorem run_neq_nums (t e : TypeId) (n : Nat) (ht : P.underlying t = some (.array n e)) (he : P.underlying e = some (.int .u8)) (hsz : ∀ w, (sizeOf e).run P w = .ok 1 w)
    (xs ys : List Int) (hx : xs.length = n) (hy : ys.length = n) :
    (binOp .neq t (.agg (nums .u8 xs).toArray) (.agg (nums .u8 ys).toArray)).run P w = .ok (.bool (!(xs == ys))) w := by
  rw [run_neq_struct, run_equalIn_nums w 9998 t e n ht he hsz xs ys hx hy]
  rfl
end
variable {w w0 w1 w2 wr : World} {B s g : Nat} {F : Nat → Prop} {D D' : DM} {fr n : Int} {xs hs : List Int}
/-- A store in memory: its struct in block s, its disk. -/
structure SAt (w : World) (B s g : Nat) (F : Nat → Prop) (D : DM) (fr n : Int) : Prop where
  blk : w.heap[s]? = some (.cells #[.pointer (some ⟨g, 0, none⟩), .int .i64 fr, .int .i64 n] 56 (0, 0))
  d : DiskAt w B g F D
  nF : ¬ F s
theorem SAt.c0 (h : SAt w B s g F D fr n) : w.cell? ⟨s, 0, none⟩ = some (.pointer (some ⟨g, 0, none⟩)) := by rw [cell_of_row _ _ _ _ _ _ h.blk]; rfl
theorem SAt.c1 (h : SAt w B s g F D fr n) : w.cell? ⟨s, 1, none⟩ = some (.int .i64 fr) := by rw [cell_of_row _ _ _ _ _ _ h.blk]; rfl
theorem SAt.c2 (h : SAt w B s g F D fr n) : w.cell? ⟨s, 2, none⟩ = some (.int .i64 n) := by rw [cell_of_row _ _ _ _ _ _ h.blk]; rfl
theorem SAt.below (h : SAt w B s g F D fr n) (hb : Below w.heap.size w w1) : SAt w1 B s g F D fr n := ⟨blk_below h.blk hb, DiskAt.frame h.d (G := fun _ => False) (Upd.of_below hb) (fun _ _ _ h => h), h.nF⟩
theorem SAt.post (h : SAt w B s g F D fr n) (hp : DPost w w1 B g F D') : ∃ F', (∀ k, F' k → F k ∨ w.heap.size ≤ k) ∧ SAt w1 B s g F' D' fr n ∧ Upd w w1 F := by
  obtain ⟨F', hF, hd, hu⟩ := hp
  have hlt := blk_lt h.blk
  refine ⟨F', hF, ⟨(hu.block s hlt h.nF).trans h.blk, hd, fun hs => ?_⟩, hu⟩
  rcases hF s hs with h1 | h1
  · exact h.nF h1
  · omega
/-- A store that fits its disk. -/
structure SOk (D : DM) (fr n : Int) : Prop where
  d : DOk D
  hf : 0 ≤ fr
  hn : 2 ≤ n
  hl : fr + 2 * n ≤ (D.sec.length : Int)
  hz : D.sec.length ≤ 1000
theorem place_calls (h : SAt w B s g F D fr n) (hk : SOk D fr n) (k : Int) (hk0 : 0 ≤ k) (hk1 : k ≤ 1) : Calls Tryd.prog 27 #[.pointer (some ⟨s, 0, none⟩), .int .i64 k] w fun e w' => e = .returned (.int .i64 (fr + k * n)) ∧ Below w.heap.size w w' := by
  have hn := hk.hn
  have hf := hk.hf
  have hl := hk.hl
  have hz := hk.hz
  obtain ⟨kn, hkn⟩ : ∃ kn, k * n = kn := ⟨_, rfl⟩
  have hkn1 : 0 ≤ kn ∧ kn ≤ n := by
    obtain rfl | rfl : k = 0 ∨ k = 1 := by omega
    · simp at hkn; omega
    · simp at hkn; omega
  obtain ⟨q, hq⟩ : ∃ q, fr + kn = q := ⟨_, rfl⟩
  have HQ := Lib.hid (show fr + k * n = q by rw [hkn, hq])
  have h1 : wrap64 (k * n) = kn := by rw [hkn]; unfold wrap64; omega
  have h1' : IntKind.i64.wrap (k * n) = kn := (i64_w _).trans h1
  have h2 : wrap64 (fr + kn) = q := by rw [hq]; unfold wrap64; omega
  have h2' : IntKind.i64.wrap (fr + kn) = q := (i64_w _).trans h2
  have c1 := h.c1
  have c2 := h.c2
  clear h hk hkn hkn1 hq hl hz hn hf
  go_enter Tryd.func27, Tryd.ntmps27
  go_wp2
  go_quiet (fail)
  go_wp2
  go_ret
  exact ⟨by rw [HQ.out] <;> rfl, pw_below_drewN (Below.refl _ _) _⟩
theorem room_calls (h : SAt w B s g F D fr n) (hk : SOk D fr n) : Calls Tryd.prog 11 #[.pointer (some ⟨s, 0, none⟩)] w fun e w' => e = .returned (.int .i64 (64 * (n - 1))) ∧ w = w' := by
  have hn := hk.hn
  have hf := hk.hf
  have hl := hk.hl
  have hz := hk.hz
  have c2 := h.c2
  clear h hk
  go_enter Tryd.func11, Tryd.ntmps11
  go_wp2
  go_ret
  exact ⟨rfl, rfl⟩
theorem sready_calls (h : SAt w B s g F D fr n) : Calls Tryd.prog 24 #[.pointer (some ⟨s, 0, none⟩)] w fun e w' => e = .returned (.int .i64 (if D.down = true then 60 else 0)) ∧ w = w' := by
  have H := Aside0.mk h
  have c0 := h.c0
  clear h
  cases hd : D.down with
  | true =>
    have HD := Lib.hid hd
    clear hd
    go_enter Tryd.func24, Tryd.ntmps24
    go_wp2_with (first | (go_at_call 40; (with_reducible refine (UpD H.out.d).mono ?_); rintro e w' ⟨rfl, rfl⟩; rw [HD.out]))
    go_ret
    exact ⟨rfl, rfl⟩
  | false =>
    have HD := Lib.hid hd
    clear hd
    go_enter Tryd.func24, Tryd.ntmps24
    go_wp2_with (first | (go_at_call 40; (with_reducible refine (UpD H.out.d).mono ?_); rintro e w' ⟨rfl, rfl⟩; rw [HD.out]))
    go_ret
    exact ⟨rfl, rfl⟩

end Go.Proofs.YtmblnflfklmmkaaDoor.Sh
/- Contracts of package store: area. -/
namespace Go.Proofs.YtmblnflfklmmkaaDoor.Sh
open Go.Proofs.YtmblnflfklmmkaaDoor.Dk
open Go.RowKit Go.Proofs.YtmblnflfklmmkaaDoorW.PrintWords Go.Proofs.YtmblnflfklmmkaaDoorW.PrintLast Go.Proofs.YtmblnflfklmmkaaDoorW.PrintMore
set_option linter.unusedVariables false
set_option linter.unusedSimpArgs false
set_option maxRecDepth 30000

variable {w w0 w1 w2 wr : World} {B s g : Nat} {F : Nat → Prop} {D D' : DM} {fr n : Int} {xs hs b : List Int}
theorem readS (h : SAt w B s g F D fr n) (hk : SOk D fr n) (q : Int) (ha : atM D q = 0) : Calls Tryd.prog 56 #[.pointer (some ⟨g, 0, none⟩), .int .i64 q] w fun e w' => ∃ N, e = .returned (.tuple #[.slice (some ⟨N, 0, none⟩) 64 64, .int .i64 0]) ∧ (readM D q).length = 64 ∧ w'.heap[N]? = some (.cells (nums .u8 (readM D q)).toArray 68 (0, 0)) ∧ Below w.heap.size w w' := by
  obtain ⟨_, _, _, hd⟩ := h.d
  refine (Read_calls hd hk.d q ha).mono ?_
  rintro e w' ⟨he, h1, h2, h3⟩
  exact ⟨_, he, h1, h2, h3⟩
theorem arr59 (a : Option Addr) (c : Nat) (w : World) : (Instr.arrayAt 59 (.slice a 64 c)).run Tryd.prog w = .ok (.pointer a) w := by
  simp [Instr.arrayAt, run_underlying Tryd.underlying59]
theorem arr_at {P : Program} {ops : Array Oper} {o : Oper} {rest : List Oper} {a : Act} {w : World} {Q : Exit → Act → World → Prop} {t : TypeId} {p v : Value} (x : Operand) (hg : o.guard = none) (ho : o.op = .sliceToArrayPointer t x) (hrun : (Instr.arrayAt t p).run P w = .ok v w) (hx : a.eval x = p)
    (h : wpList P ops Q rest (a.put o.dst v) w) : wpList P ops Q (o :: rest) a w := by
  refine wpList_plain hg fun K hK => ?_
  have he : (execOp a.eval o).run P w = .ok (.value v) w := by
    subst hx
    unfold execOp
    simp [ho, hrun]
  unfold Oper.wp
  rw [he, Oper.upon_value]
  exact hK _ _ h
theorem wrap_u64 (x : Int) : 0 ≤ IntKind.u64.wrap x ∧ IntKind.u64.wrap x ≤ 18446744073709551615 := by
  have e : IntKind.u64.wrap x = x % 18446744073709551616 := by simp [IntKind.wrap, IntKind.signed, IntKind.bits]
  rw [e]
  omega
theorem bits_u64 (op : BinOp) (a b : Int) : 0 ≤ Go.bits op .u64 a b ∧ Go.bits op .u64 a b ≤ 18446744073709551615 := by
  unfold Go.bits
  split <;> first | exact wrap_u64 _ | exact ⟨by decide, by decide⟩
theorem num1_range (a c : Int) : 0 ≤ num1 a c ∧ num1 a c ≤ 18446744073709551615 := bits_u64 _ _ _
theorem numM_range (xs : List Int) : 0 ≤ numM xs ∧ numM xs ≤ 18446744073709551615 := by
  unfold numM
  rw [← List.reverse_reverse xs]
  generalize xs.reverse = ys
  cases ys with
  | nil => exact ⟨by decide, by decide⟩
  | cons y ys =>
    rw [List.reverse_cons, List.foldl_append]
    exact num1_range _ _
theorem blk_bys {t : Nat} {h o m : Nat} (hb : w.heap[h]? = some (.cells (nums .u8 b).toArray t (0, 0))) (hl : b.length = 64) (hm : o + m ≤ 64) : Bys w h o ((b.drop o).take m) := fun j hj => by
  rw [List.length_take, List.length_drop, hl] at hj
  rw [cell_nums hb (i := o + j) (by rw [hl]; omega)]
  simp [List.getD_eq_getElem?_getD, List.getElem?_take, show j < m by omega]
theorem blk_range {t h : Nat} (hb : w.heap[h]? = some (.cells (nums .u8 b).toArray t (0, 0))) : w.rangeAt h 0 (nums .u8 b) := fun j v hj => by
  rw [Nat.zero_add, cell_of_row _ _ j _ _ _ hb]
  simpa using hj
theorem loadS (h : SAt w B s g F D fr n) (hk : SOk D fr n) (q : Int) (m : Nat) (hl : loadE D q m = 0 ∧ m ≤ 1000000) : Calls Tryd.prog 58 #[.pointer (some ⟨g, 0, none⟩), .int .i64 q, .int .i64 m] w fun e w' => ∃ A, e = .returned (.tuple #[.slice A m m, .int .i64 0]) ∧ Kd.C (Kd.int .u8) w' A m ((readsTo D q ((m + 63) / 64)).take m) ∧ Below w.heap.size w w' ∧ ∀ a, A = some a → w.heap.size ≤ a.block ∧ a.block < w'.heap.size := by
  obtain ⟨_, _, _, hd⟩ := h.d
  exact Load_own hd hk.d q m (by omega) hl.1
def hdG (b : List Int) : Int := numM ((b.drop 4).take 8)
def hdN (b : List Int) : Int := numM ((b.drop 12).take 4)
def recM (D : DM) (q : Int) (b : List Int) : List Int := (readsTo D (q + 1) (((hdN b).toNat + 63) / 64)).take (hdN b).toNat
def areaM (D : DM) (fr n k : Int) : Option (Int × List Int) :=
  if hdG (readM D (fr + k * n)) = 0 then none
  else if 64 * (n - 1) < hdN (readM D (fr + k * n)) then none
  else if readM D (fr + k * n) = headM (hdG (readM D (fr + k * n))) (recM D (fr + k * n) (readM D (fr + k * n))) then some (hdG (readM D (fr + k * n)), recM D (fr + k * n) (readM D (fr + k * n)))
  else none
def AreaPost (w w' : World) (o : Option (Int × List Int)) (e : Ending) : Prop :=
  Below w.heap.size w w' ∧ match o with
  | none => e = .returned (.tuple #[.int .u64 0, .slice none 0 0, .bool false])
  | some (g', r) => ∃ A c, e = .returned (.tuple #[.int .u64 g', .slice A r.length c, .bool true]) ∧ Fr8 w w' A r
set_option maxHeartbeats 16000000 in
theorem area_calls (hg : Glob w) (h : SAt w B s g F D fr n) (hk : SOk D fr n) (hd : D.down = false) (k : Int) (hk0 : 0 ≤ k) (hk1 : k ≤ 1) : Calls Tryd.prog 42 #[.pointer (some ⟨s, 0, none⟩), .int .i64 k] w fun e w' => AreaPost w w' (areaM D fr n k) e := by
  have HG := Aside0.mk hg
  have HS := Aside0.mk h
  have HK := Aside0.mk hk
  have HD := Lib.hid hd
  have hkn : 0 ≤ k * n ∧ k * n ≤ n := by
    have := hk.hn
    obtain rfl | rfl : k = 0 ∨ k = 1 := by omega
    · simp; omega
    · simp; omega
  have hq01 : 0 ≤ fr + k * n ∧ fr + k * n + n ≤ (D.sec.length : Int) := by have := hk.hf; have := hk.hl; omega
  obtain ⟨q, hq⟩ : ∃ q, fr + k * n = q := ⟨_, rfl⟩
  rw [hq] at hq01
  have HP := Lib.hid hq
  have hq1000 : q ≤ 1000 := by have := hk.hz; have := hk.hn; omega
  have HQ01 := Aside0.mk hq01
  have HAT := Aside0.mk (show atM D q = 0 by unfold atM; rw [hd, if_neg (by decide), if_neg (by have := hk.hn; omega)])
  have HS1 := Aside0.mk (h.below (below_drew (Below.refl _ _)))
  clear hg h hk hd hkn hq
  go_enter Tryd.func42, Tryd.ntmps42
  repeat (first | go_step | go_guarded | go_upon)
  refine start_ (n := 13) (S := fun w' => w'.cell? ⟨s, 0, none⟩ = some (.pointer (some ⟨g, 0, none⟩))) (ds := []) #[false, false, false, false, false, false, false, false, false, false, false, false, false] (by kernel_rfl) rfl rfl (HS1.out.c0) (fun hHeld => ?_)
  refine pure_ (i := 0) (N := some 14) (v := ?_) (a' := ?_) #[true, false, false, false, false, false, false, false, false, false, false, false, false] rfl rfl (by kernel_rfl) (fun _ _ _ h => h) (Or.inl ⟨by rfl, ?_⟩) ?_ ?_
  rotate_left
  · intro w'
    go_simp
    with_reducible rfl
  rotate_left
  · simp only [Act.put, List.setIfInBounds_toArray, List.set_cons_zero, List.set_cons_succ, i64_w, i32_w]
    rfl
  refine pure_ (i := 1) (N := some 15) (v := ?_) (a' := ?_) #[true, true, false, false, false, false, false, false, false, false, false, false, false] rfl rfl (by kernel_rfl) (fun _ _ _ h => h) (Or.inl ⟨by rfl, ?_⟩) ?_ ?_
  rotate_left
  · intro w'
    go_simp
    with_reducible rfl
  rotate_left
  · simp only [Act.put, List.setIfInBounds_toArray, List.set_cons_zero, List.set_cons_succ, i64_w, i32_w]
    rfl
  refine pure_ (i := 2) (N := some 16) (v := ?_) (a' := ?_) #[true, true, true, false, false, false, false, false, false, false, false, false, false] rfl rfl (by kernel_rfl) (fun _ _ _ h => h) (Or.inl ⟨by rfl, ?_⟩) ?_ ?_
  rotate_left
  · intro w'
    go_simp
    with_reducible rfl
  rotate_left
  · simp only [Act.put, List.setIfInBounds_toArray, List.set_cons_zero, List.set_cons_succ, i64_w, i32_w]
    rfl
  refine pure_ (i := 4) (N := some 18) (v := ?_) (a' := ?_) #[true, true, true, false, true, false, false, false, false, false, false, false, false] rfl rfl (by kernel_rfl) (fun _ _ _ h => h) (Or.inl ⟨by rfl, ?_⟩) ?_ ?_
  rotate_left
  · intro w'
    go_simp
    with_reducible rfl
  rotate_left
  · simp only [Act.put, List.setIfInBounds_toArray, List.set_cons_zero, List.set_cons_succ, i64_w, i32_w]
    rfl
  refine pure_ (i := 5) (N := some 19) (v := ?_) (a' := ?_) #[true, true, true, false, true, true, false, false, false, false, false, false, false] rfl rfl (by kernel_rfl) (fun _ _ _ h => h) (Or.inl ⟨by rfl, ?_⟩) ?_ ?_
  rotate_left
  · intro w'
    go_simp
    with_reducible rfl
  rotate_left
  · simp only [Act.put, List.setIfInBounds_toArray, List.set_cons_zero, List.set_cons_succ, i64_w, i32_w]
    rfl
  refine take_ (i := 3) (N := some 17) (v := ?_) (a' := ?_) #[true, true, true, true, true, true, false, false, false, false, false, false, false] rfl rfl (by kernel_rfl) (fun _ _ _ h => h) (Or.inl ⟨by rfl, ?_⟩) hHeld ?_ ?_
  rotate_left
  · intro w' s0
    go_simp
    with_reducible rfl
  rotate_left
  · simp only [Act.put, List.setIfInBounds_toArray, List.set_cons_zero, List.set_cons_succ, i64_w, i32_w]
    rfl
  refine one_ (i := 6) (N := some 20) #[true, true, true, true, true, true, true, false, false, false, false, false, false] rfl rfl (by kernel_rfl) (by decide) (fun K hK => ?_)
  refine goes_ Tryd.func27 (by kernel_rfl) rfl #[.pointer (some ⟨s, 0, none⟩), .int .i64 k] (by rfl) rfl rfl (by simp only [List.map_toArray, List.map_cons, List.map_nil]; rfl) ?_
  with_reducible refine (place_calls HS1.out HK.out k hk0 hk1).mono ?_
  rintro e w2 ⟨rfl, hb2⟩
  refine ⟨_, rfl, ?_⟩
  rw [HP.out]
  have HS2 := Aside0.mk (HS1.out.below hb2)
  have HB2 := Aside0.mk ((below_drew (Below.refl w.heap.size w)).trans (hb2.mono (Nat.le_refl _)))
  clear hb2
  refine hK.out _ _ (HS2.out.c0) (fun hHeld => ?_)
  clear hK K
  refine norm_ (a' := ?_) ?_ ?_
  rotate_left
  · show Act.put _ (some 20) _ = _
    simp only [Act.put, List.setIfInBounds_toArray, List.set_cons_zero, List.set_cons_succ, i64_w, i32_w]
    rfl
  refine one_ (i := 7) (N := some 21) #[true, true, true, true, true, true, true, true, false, false, false, false, false] rfl rfl (by kernel_rfl) (by decide) (fun K hK => ?_)
  refine goes_ Tryd.func56 (by kernel_rfl) rfl #[.pointer (some ⟨g, 0, none⟩), .int .i64 q] (by rfl) rfl rfl (by simp only [List.map_toArray, List.map_cons, List.map_nil]; rfl) ?_
  with_reducible refine (readS HS2.out HK.out q HAT.out).mono ?_
  rintro e w3 ⟨N, rfl, hl3, hb3, hbb3⟩
  refine ⟨_, rfl, ?_⟩
  have HS3 := Aside0.mk (HS2.out.below hbb3)
  have HB3 := Aside0.mk (HB2.out.trans (hbb3.mono HB2.out.size))
  have HL3 := Aside0.mk hl3
  have HC3 := Aside0.mk hb3
  clear hl3 hb3 hbb3
  refine hK.out _ _ (HS3.out.c0) (fun hHeld => ?_)
  clear hK K
  refine norm_ (a' := ?_) ?_ ?_
  rotate_left
  · show Act.put _ (some 21) _ = _
    simp only [Act.put, List.setIfInBounds_toArray, List.set_cons_zero, List.set_cons_succ, i64_w, i32_w]
    rfl
  refine pure_ (i := 8) (N := some 13) (v := ?_) (a' := ?_) #[true, true, true, true, true, true, true, true, true, false, false, false, false] rfl rfl (by kernel_rfl) (fun _ _ _ h => h) (Or.inl ⟨by rfl, ?_⟩) ?_ ?_
  rotate_left
  · intro w'
    go_simp
    with_reducible rfl
  rotate_left
  · simp only [Act.put, List.setIfInBounds_toArray, List.set_cons_zero, List.set_cons_succ, i64_w, i32_w]
    rfl
  refine pure_ (i := 9) (N := some 22) (v := ?_) (a' := ?_) #[true, true, true, true, true, true, true, true, true, true, false, false, false] rfl rfl (by kernel_rfl) (fun _ _ _ h => h) (Or.inl ⟨by rfl, ?_⟩) ?_ ?_
  rotate_left
  · intro w'
    go_simp
    with_reducible rfl
  rotate_left
  · simp only [Act.put, List.setIfInBounds_toArray, List.set_cons_zero, List.set_cons_succ, i64_w, i32_w]
    rfl
  refine pure_ (i := 10) (N := some 23) (v := ?_) (a' := ?_) #[true, true, true, true, true, true, true, true, true, true, true, false, false] rfl rfl (by kernel_rfl) (fun _ _ _ h => h) (Or.inl ⟨by rfl, ?_⟩) ?_ ?_
  rotate_left
  · intro w'
    go_simp
    with_reducible rfl
  rotate_left
  · simp only [Act.put, List.setIfInBounds_toArray, List.set_cons_zero, List.set_cons_succ, i64_w, i32_w]
    rfl
  refine pure_ (i := 11) (N := some 7) (v := ?_) (a' := ?_) #[true, true, true, true, true, true, true, true, true, true, true, true, false] rfl rfl (by kernel_rfl) (fun _ _ _ h => h) (Or.inl ⟨by rfl, ?_⟩) ?_ ?_
  rotate_left
  · intro w'
    go_simp
    with_reducible rfl
  rotate_left
  · simp only [Act.put, List.setIfInBounds_toArray, List.set_cons_zero, List.set_cons_succ, i64_w, i32_w]
    rfl
  refine pure_ (i := 12) (N := some 8) (v := ?_) (a' := ?_) #[true, true, true, true, true, true, true, true, true, true, true, true, true] rfl rfl (by kernel_rfl) (fun _ _ _ h => h) (Or.inl ⟨by rfl, ?_⟩) ?_ ?_
  rotate_left
  · intro w'
    go_simp
    with_reducible rfl
  rotate_left
  · simp only [Act.put, List.setIfInBounds_toArray, List.set_cons_zero, List.set_cons_succ, i64_w, i32_w]
    rfl
  refine done_ (by kernel_rfl) ?_
  clear hHeld
  obtain ⟨b, hb⟩ : ∃ b, readM D q = b := ⟨_, rfl⟩
  rw [hb] at HL3 HC3
  have HBB := Lib.hid hb
  clear hb
  have HLD := Aside0.mk (run_loadAt_cells (P := Tryd.prog) (w := w3) 59 Tryd.underlying59 rfl N 0 (nums .u8 b) (by rw [nums_length, HL3.out]; kernel_rfl) (fun j u hu => by rw [Nat.zero_add, cell_of_row _ _ j _ _ _ HC3.out]; simpa using hu))
  have HST := Aside0.mk (run_storeAt_new (P := Tryd.prog) w3 59 z59 (nums .u8 b).toArray (info59 _ HL3.out) (by simp [z59, nums_length, HL3.out]) (u8_one _))
  have HS4 := Aside0.mk (HS3.out.below (below_alloc (Below.refl _ _) (.cells (nums .u8 b).toArray 59)))
  have HB4 := Aside0.mk (HB3.out.trans ((below_alloc (Below.refl _ _) (.cells (nums .u8 b).toArray 59)).mono HB3.out.size))
  have HC4 := Aside0.mk (heap_alloc_new w3 (.cells (nums .u8 b).toArray 59))
  go_wp2_with (first | ((with_reducible refine arr_at (t := 59) (.tmp 26) ?_ ?_ (arr59 (some ⟨N, 0, none⟩) 64 _) ?_ ?_); exact rfl; exact rfl; exact rfl) | ((with_reducible refine load_at (ty := 59) (.tmp 27) ?_ ?_ HLD.out ?_ ?_); exact rfl; exact rfl; exact rfl) | ((with_reducible refine alloc_at (e := 59) ?_ ?_ (run_alloc59 _) ?_); exact rfl; exact rfl) | ((with_reducible refine store_at (ty := 59) (.tmp 9) (.tmp 28) ?_ ?_ ?_ HST.out ?_ ?_ ?_); exact rfl; exact rfl; exact rfl; exact rfl; exact rfl; generalize w3.alloc (.cells (nums .u8 b).toArray 59) = w4 at HS4 HB4 HC4 ⊢; generalize w3.heap.size = h at HC4 ⊢; clear HLD HST))
  have HBY4 := Aside0.mk (show Bys w4.drew h 4 ((b.drop 4).take 8) from blk_bys HC4.out HL3.out (o := 4) (m := 8) (by decide))
  have HBY12 := Aside0.mk (show Bys w4.drew h 12 ((b.drop 12).take 4) from blk_bys HC4.out HL3.out (o := 12) (m := 4) (by decide))
  have HG8 := Aside0.mk (show ((b.drop 4).take 8).length = 8 by rw [List.length_take, List.length_drop, HL3.out]; rfl)
  have HG4 := Aside0.mk (show ((b.drop 12).take 4).length = 4 by rw [List.length_take, List.length_drop, HL3.out]; rfl)
  repeat (first | go_step | go_guarded | go_upon)
  refine start_ (n := 6) (S := fun w' => True) (ds := []) #[false, false, false, false, false, false] (by kernel_rfl) rfl rfl trivial (fun hHeld => ?_)
  refine pure_ (i := 0) (N := some 29) (v := ?_) (a' := ?_) #[true, false, false, false, false, false] rfl rfl (by kernel_rfl) (fun _ _ _ h => h) (Or.inl ⟨by rfl, ?_⟩) ?_ ?_
  rotate_left
  · intro w'
    go_simp
    with_reducible rfl
  rotate_left
  · simp only [Act.put, List.setIfInBounds_toArray, List.set_cons_zero, List.set_cons_succ, i64_w, i32_w]
    rfl
  refine pure_ (i := 2) (N := some 31) (v := ?_) (a' := ?_) #[true, false, true, false, false, false] rfl rfl (by kernel_rfl) (fun _ _ _ h => h) (Or.inl ⟨by rfl, ?_⟩) ?_ ?_
  rotate_left
  · intro w'
    go_simp
    with_reducible rfl
  rotate_left
  · simp only [Act.put, List.setIfInBounds_toArray, List.set_cons_zero, List.set_cons_succ, i64_w, i32_w]
    rfl
  refine one_ (i := 1) (N := some 30) #[true, true, true, false, false, false] rfl rfl (by kernel_rfl) (by decide) (fun K hK => ?_)
  refine goes_ Tryd.func57 (by kernel_rfl) rfl #[.slice (some ⟨h, 4, none⟩) 8 60] (by rfl) rfl rfl (by simp only [List.map_toArray, List.map_cons, List.map_nil]; rfl) ?_
  with_reducible refine (calls_of_args (args' := #[.slice (some ⟨h, 4, none⟩) ((b.drop 4).take 8).length 60]) (by rw [HG8.out]) (number_calls HBY4.out (by rw [HG8.out]; decide) (by rw [HG8.out]; decide))).mono ?_
  rintro e w5 ⟨rfl, rfl⟩
  refine ⟨_, rfl, ?_⟩
  refine hK.out _ _ trivial (fun hHeld => ?_)
  clear hK K
  refine norm_ (a' := ?_) ?_ ?_
  rotate_left
  · show Act.put _ (some 30) _ = _
    simp only [Act.put, List.setIfInBounds_toArray, List.set_cons_zero, List.set_cons_succ, i64_w, i32_w]
    rfl
  refine one_ (i := 3) (N := some 32) #[true, true, true, true, false, false] rfl rfl (by kernel_rfl) (by decide) (fun K hK => ?_)
  refine goes_ Tryd.func57 (by kernel_rfl) rfl #[.slice (some ⟨h, 12, none⟩) 4 52] (by rfl) rfl rfl (by simp only [List.map_toArray, List.map_cons, List.map_nil]; rfl) ?_
  with_reducible refine (calls_of_args (args' := #[.slice (some ⟨h, 12, none⟩) ((b.drop 12).take 4).length 52]) (by rw [HG4.out]) (number_calls HBY12.out (by rw [HG4.out]; decide) (by rw [HG4.out]; decide))).mono ?_
  rintro e w5 ⟨rfl, rfl⟩
  refine ⟨_, rfl, ?_⟩
  refine hK.out _ _ trivial (fun hHeld => ?_)
  clear hK K
  refine norm_ (a' := ?_) ?_ ?_
  rotate_left
  · show Act.put _ (some 32) _ = _
    simp only [Act.put, List.setIfInBounds_toArray, List.set_cons_zero, List.set_cons_succ, i64_w, i32_w]
    rfl
  refine pure_ (i := 4) (N := some 10) (v := ?_) (a' := ?_) #[true, true, true, true, true, false] rfl rfl (by kernel_rfl) (fun _ _ _ h => h) (Or.inl ⟨by rfl, ?_⟩) ?_ ?_
  rotate_left
  · intro w'
    go_simp
    with_reducible rfl
  rotate_left
  · simp only [Act.put, List.setIfInBounds_toArray, List.set_cons_zero, List.set_cons_succ, i64_w, i32_w]
    rfl
  refine pure_ (i := 5) (N := some 11) (v := ?_) (a' := ?_) #[true, true, true, true, true, true] rfl rfl (by kernel_rfl) (fun _ _ _ h => h) (Or.inl ⟨by rfl, ?_⟩) ?_ ?_
  rotate_left
  · intro w'
    go_simp
    with_reducible rfl
  rotate_left
  · simp only [Act.put, List.setIfInBounds_toArray, List.set_cons_zero, List.set_cons_succ, i64_w, i32_w]
    rfl
  refine done_ (by kernel_rfl) ?_
  clear hHeld HBY4 HBY12 HG8 HG4
  have HS5 := Aside0.mk (HS4.out.below (below_drew (Below.refl _ _)))
  have HB5 := Aside0.mk (below_drew HB4.out)
  have HC5 := Aside0.mk (show w4.drew.heap[h]? = some (.cells (nums .u8 b).toArray 59 (0, 0)) from HC4.out)
  clear HS4 HB4 HC4
  generalize w4.drew = w5 at HS5 HB5 HC5 ⊢
  have hgr := numM_range ((b.drop 4).take 8)
  have hnr := numM_range ((b.drop 12).take 4)
  obtain ⟨gg, hgg⟩ : ∃ gg, numM ((b.drop 4).take 8) = gg := ⟨_, rfl⟩
  obtain ⟨nn, hnn⟩ : ∃ nn, numM ((b.drop 12).take 4) = nn := ⟨_, rfl⟩
  rw [hgg] at hgr ⊢
  rw [hnn] at hnr ⊢
  have HGG := Lib.hid (show hdG b = gg from hgg)
  have HNN := Lib.hid (show hdN b = nn from hnn)
  clear hgg hnn
  by_cases hg0 : gg = 0
  · have HO := Lib.hid (show areaM D fr n k = none by simp [areaM, HP.out, HBB.out, HGG.out, hg0])
    subst hg0
    go_wp2_with (fail)
    refine bodyPost_ret (results_tmp3 rfl _ _ _) rfl ?_
    rw [HO.out]
    exact ⟨HB5.out, rfl⟩
  have hgb : (gg == 0) = false := by simpa using hg0
  have hgd : decide (gg = 0) = false := decide_eq_false hg0
  have hn2 := HK.out.hn
  have hn3 : n ≤ 1000 := by have := HK.out.hz; have := HQ01.out; omega
  have HG0 := Aside0.mk hg0
  clear hg0
  by_cases hroom : 64 * (n - 1) < nn
  · have HO := Lib.hid (show areaM D fr n k = none by simp only [areaM, HP.out, HBB.out, HGG.out, HNN.out]; rw [if_neg HG0.out, if_pos hroom])
    have hrd : decide (64 * (n - 1) < nn) = true := decide_eq_true hroom
    go_wp2_with (first | (go_at_call 11; (with_reducible refine (room_calls HS5.out HK.out).mono ?_); rintro e w6 ⟨rfl, rfl⟩))
    refine bodyPost_ret (results_tmp3 rfl _ _ _) rfl ?_
    rw [HO.out]
    exact ⟨HB5.out, rfl⟩
  · have hrd : decide (64 * (n - 1) < nn) = false := decide_eq_false hroom
    obtain ⟨m, rfl⟩ : ∃ m : Nat, nn = m := ⟨nn.toNat, by omega⟩
    have hm : m ≤ 64000 := by omega
    obtain ⟨q1, hq1⟩ : ∃ q1, q + 1 = q1 := ⟨_, rfl⟩
    have hw1 : wrap64 (q + 1) = q1 := by rw [hq1]; unfold wrap64; omega
    have hw1' : IntKind.i64.wrap (q + 1) = q1 := (i64_w _).trans hw1
    have hw2 : wrap64 (m : Int) = m := by unfold wrap64; omega
    have hw2' : IntKind.i64.wrap (m : Int) = m := (i64_w _).trans hw2
    have HQ1 := Lib.hid hq1
    have HLE := Aside0.mk (show loadE D q1 m = 0 ∧ m ≤ 1000000 from by
      refine ⟨?_, by omega⟩
      unfold loadE
      rw [HD.out, if_neg (by decide), if_neg (by omega)]
      unfold spanM
      rw [HD.out, if_neg (by decide), need_nat, if_neg (by have := HQ01.out; omega)])
    obtain ⟨y, hy⟩ : ∃ y, (readsTo D q1 ((m + 63) / 64)).take m = y := ⟨_, rfl⟩
    have HREC := Lib.hid (show recM D q b = y by rw [recM, HNN.out, HQ1.out, ← hy]; simp)
    have HRM := Lib.hid hroom
    clear hq1 hroom
    go_wp2_with (first | (go_at_call 11; (with_reducible refine (room_calls HS5.out HK.out).mono ?_); rintro e w6 ⟨rfl, rfl⟩))
    have HS6 := Aside0.mk (HS5.out.below (below_drew (Below.refl _ _)))
    have HB6 := Aside0.mk (below_drew HB5.out)
    have HC6 := Aside0.mk (show w5.drew.heap[h]? = some (.cells (nums .u8 b).toArray 59 (0, 0)) from HC5.out)
    clear hrd
    refine start_ (n := 16) (S := fun w' => w'.cell? ⟨s, 0, none⟩ = some (.pointer (some ⟨g, 0, none⟩))) (ds := []) #[false, false, false, false, false, false, false, false, false, false, false, false, false, false, false, false] (by kernel_rfl) rfl rfl (HS6.out.c0) (fun hHeld => ?_)
    refine pure_ (i := 0) (N := some 43) (v := ?_) (a' := ?_) #[true, false, false, false, false, false, false, false, false, false, false, false, false, false, false, false] rfl rfl (by kernel_rfl) (fun _ _ _ h => h) (Or.inl ⟨by rfl, ?_⟩) ?_ ?_
    rotate_left
    · intro w'
      go_simp
      with_reducible rfl
    rotate_left
    · simp only [Act.put, List.setIfInBounds_toArray, List.set_cons_zero, List.set_cons_succ, i64_w, i32_w]
      rfl
    refine pure_ (i := 1) (N := some 44) (v := ?_) (a' := ?_) #[true, true, false, false, false, false, false, false, false, false, false, false, false, false, false, false] rfl rfl (by kernel_rfl) (fun _ _ _ h => h) (Or.inl ⟨by rfl, ?_⟩) ?_ ?_
    rotate_left
    · intro w'
      go_simp
      with_reducible rfl
    rotate_left
    · simp only [Act.put, List.setIfInBounds_toArray, List.set_cons_zero, List.set_cons_succ, i64_w, i32_w]
      rfl
    refine pure_ (i := 2) (N := some 45) (v := ?_) (a' := ?_) #[true, true, true, false, false, false, false, false, false, false, false, false, false, false, false, false] rfl rfl (by kernel_rfl) (fun _ _ _ h => h) (Or.inl ⟨by rfl, ?_⟩) ?_ ?_
    rotate_left
    · intro w'
      go_simp
      with_reducible rfl
    rotate_left
    · simp only [Act.put, List.setIfInBounds_toArray, List.set_cons_zero, List.set_cons_succ, i64_w, i32_w]
      rfl
    refine pure_ (i := 4) (N := some 47) (v := ?_) (a' := ?_) #[true, true, true, false, true, false, false, false, false, false, false, false, false, false, false, false] rfl rfl (by kernel_rfl) (fun _ _ _ h => h) (Or.inl ⟨by rfl, ?_⟩) ?_ ?_
    rotate_left
    · intro w'
      go_simp
      with_reducible rfl
    rotate_left
    · simp only [Act.put, List.setIfInBounds_toArray, List.set_cons_zero, List.set_cons_succ, i64_w, i32_w]
      rfl
    refine pure_ (i := 5) (N := some 48) (v := ?_) (a' := ?_) #[true, true, true, false, true, true, false, false, false, false, false, false, false, false, false, false] rfl rfl (by kernel_rfl) (fun _ _ _ h => h) (Or.inl ⟨by rfl, ?_⟩) ?_ ?_
    rotate_left
    · intro w'
      go_simp
      with_reducible rfl
    rotate_left
    · simp only [Act.put, List.setIfInBounds_toArray, List.set_cons_zero, List.set_cons_succ, i64_w, i32_w]
      rfl
    refine pure_ (i := 8) (N := some 51) (v := ?_) (a' := ?_) #[true, true, true, false, true, true, false, false, true, false, false, false, false, false, false, false] rfl rfl (by kernel_rfl) (fun _ _ _ h => h) (Or.inl ⟨by rfl, ?_⟩) ?_ ?_
    rotate_left
    · intro w'
      go_simp
      with_reducible rfl
    rotate_left
    · simp only [Act.put, List.setIfInBounds_toArray, List.set_cons_zero, List.set_cons_succ, i64_w, i32_w]
      rfl
    refine pure_ (i := 9) (N := some 52) (v := ?_) (a' := ?_) #[true, true, true, false, true, true, false, false, true, true, false, false, false, false, false, false] rfl rfl (by kernel_rfl) (fun _ _ _ h => h) (Or.inl ⟨by rfl, ?_⟩) ?_ ?_
    rotate_left
    · intro w'
      go_simp
      with_reducible rfl
    rotate_left
    · simp only [Act.put, List.setIfInBounds_toArray, List.set_cons_zero, List.set_cons_succ, i64_w, i32_w]
      rfl
    refine take_ (i := 3) (N := some 46) (v := ?_) (a' := ?_) #[true, true, true, true, true, true, false, false, true, true, false, false, false, false, false, false] rfl rfl (by kernel_rfl) (fun _ _ _ h => h) (Or.inl ⟨by rfl, ?_⟩) hHeld ?_ ?_
    rotate_left
    · intro w' s0
      go_simp
      with_reducible rfl
    rotate_left
    · simp only [Act.put, List.setIfInBounds_toArray, List.set_cons_zero, List.set_cons_succ, i64_w, i32_w]
      rfl
    refine one_ (i := 6) (N := some 49) #[true, true, true, true, true, true, true, false, true, true, false, false, false, false, false, false] rfl rfl (by kernel_rfl) (by decide) (fun K hK => ?_)
    refine goes_ Tryd.func27 (by kernel_rfl) rfl #[.pointer (some ⟨s, 0, none⟩), .int .i64 k] (by rfl) rfl rfl (by simp only [List.map_toArray, List.map_cons, List.map_nil]; rfl) ?_
    with_reducible refine (place_calls HS6.out HK.out k hk0 hk1).mono ?_
    rintro e w7 ⟨rfl, hb7⟩
    refine ⟨_, rfl, ?_⟩
    rw [HP.out]
    have HS7 := Aside0.mk (HS6.out.below hb7)
    have HB7 := Aside0.mk (HB6.out.trans (hb7.mono HB6.out.size))
    have HC7 := Aside0.mk (blk_below HC6.out hb7)
    clear hb7
    refine hK.out _ _ (HS7.out.c0) (fun hHeld => ?_)
    clear hK K
    refine norm_ (a' := ?_) ?_ ?_
    rotate_left
    · show Act.put _ (some 49) _ = _
      simp only [Act.put, List.setIfInBounds_toArray, List.set_cons_zero, List.set_cons_succ, i64_w, i32_w]
      rfl
    refine pure_ (i := 7) (N := some 50) (v := ?_) (a' := ?_) #[true, true, true, true, true, true, true, true, true, true, false, false, false, false, false, false] rfl rfl (by kernel_rfl) (fun _ _ _ h => h) (Or.inl ⟨by rfl, ?_⟩) ?_ ?_
    rotate_left
    · intro w'
      go_simp
      with_reducible rfl
    rotate_left
    · simp only [Act.put, List.setIfInBounds_toArray, List.set_cons_zero, List.set_cons_succ, i64_w, i32_w]
      rfl
    refine one_ (i := 10) (N := some 53) #[true, true, true, true, true, true, true, true, true, true, true, false, false, false, false, false] rfl rfl (by kernel_rfl) (by decide) (fun K hK => ?_)
    refine goes_ Tryd.func58 (by kernel_rfl) rfl #[.pointer (some ⟨g, 0, none⟩), .int .i64 q1, .int .i64 m] (by rfl) rfl rfl (by simp only [List.map_toArray, List.map_cons, List.map_nil]; rfl) ?_
    with_reducible refine (loadS HS7.out HK.out q1 m HLE.out).mono ?_
    rintro e w8 ⟨A8, rfl, hc8, hb8, how8⟩
    refine ⟨_, rfl, ?_⟩
    have HS8 := Aside0.mk (HS7.out.below hb8)
    have HB8 := Aside0.mk (HB7.out.trans (hb8.mono HB7.out.size))
    have HC8 := Aside0.mk (blk_below HC7.out hb8)
    have HY8 := Aside0.mk hc8
    have HOW8 := Aside0.mk (show ∀ a, A8 = some a → w.heap.size ≤ a.block ∧ a.block < w8.heap.size from fun a ha => ⟨Nat.le_trans HB7.out.size (how8 a ha).1, (how8 a ha).2⟩)
    clear hc8 hb8 how8
    refine hK.out _ _ (HS8.out.c0) (fun hHeld => ?_)
    clear hK K
    refine norm_ (a' := ?_) ?_ ?_
    rotate_left
    · show Act.put _ (some 53) _ = _
      simp only [Act.put, List.setIfInBounds_toArray, List.set_cons_zero, List.set_cons_succ, i64_w, i32_w]
      rfl
    refine pure_ (i := 11) (N := some 42) (v := ?_) (a' := ?_) #[true, true, true, true, true, true, true, true, true, true, true, true, false, false, false, false] rfl rfl (by kernel_rfl) (fun _ _ _ h => h) (Or.inl ⟨by rfl, ?_⟩) ?_ ?_
    rotate_left
    · intro w'
      go_simp
      with_reducible rfl
    rotate_left
    · simp only [Act.put, List.setIfInBounds_toArray, List.set_cons_zero, List.set_cons_succ, i64_w, i32_w]
      rfl
    refine pure_ (i := 12) (N := some 54) (v := ?_) (a' := ?_) #[true, true, true, true, true, true, true, true, true, true, true, true, true, false, false, false] rfl rfl (by kernel_rfl) (fun _ _ _ h => h) (Or.inl ⟨by rfl, ?_⟩) ?_ ?_
    rotate_left
    · intro w'
      go_simp
      with_reducible rfl
    rotate_left
    · simp only [Act.put, List.setIfInBounds_toArray, List.set_cons_zero, List.set_cons_succ, i64_w, i32_w]
      rfl
    refine pure_ (i := 13) (N := some 55) (v := ?_) (a' := ?_) #[true, true, true, true, true, true, true, true, true, true, true, true, true, true, false, false] rfl rfl (by kernel_rfl) (fun _ _ _ h => h) (Or.inl ⟨by rfl, ?_⟩) ?_ ?_
    rotate_left
    · intro w'
      go_simp
      with_reducible rfl
    rotate_left
    · simp only [Act.put, List.setIfInBounds_toArray, List.set_cons_zero, List.set_cons_succ, i64_w, i32_w]
      rfl
    refine pure_ (i := 14) (N := some 12) (v := ?_) (a' := ?_) #[true, true, true, true, true, true, true, true, true, true, true, true, true, true, true, false] rfl rfl (by kernel_rfl) (fun _ _ _ h => h) (Or.inl ⟨by rfl, ?_⟩) ?_ ?_
    rotate_left
    · intro w'
      go_simp
      with_reducible rfl
    rotate_left
    · simp only [Act.put, List.setIfInBounds_toArray, List.set_cons_zero, List.set_cons_succ, i64_w, i32_w]
      rfl
    refine pure_ (i := 15) (N := some 8) (v := ?_) (a' := ?_) #[true, true, true, true, true, true, true, true, true, true, true, true, true, true, true, true] rfl rfl (by kernel_rfl) (fun _ _ _ h => h) (Or.inl ⟨by rfl, ?_⟩) ?_ ?_
    rotate_left
    · intro w'
      go_simp
      with_reducible rfl
    rotate_left
    · simp only [Act.put, List.setIfInBounds_toArray, List.set_cons_zero, List.set_cons_succ, i64_w, i32_w]
      rfl
    refine done_ (by kernel_rfl) ?_
    clear hHeld hw1 hw1' hw2 hw2'
    rw [hy] at HY8
    have HYL := Aside0.mk (show y.length = m from HY8.out.1)
    have HY8 := Aside0.mk (show C8 w8 A8 y from by show Kd.C (Kd.int .u8) w8 A8 y.length y; rw [HYL.out]; exact HY8.out)
    clear hy
    have HYN := fun ww : World => run_equalIn_nums (P := Tryd.prog) ww 9998 59 5 64 Tryd.underlying59 Tryd.underlying5 (fun w => by kernel_rfl) b (headM gg y) HL3.out (headM_length _ _)
    have HS9 := Aside0.mk (HS8.out.below (below_drew (Below.refl _ _)))
    have HB9 := Aside0.mk (below_drew HB8.out)
    have HC9 := Aside0.mk (show w8.drew.heap[h]? = some (.cells (nums .u8 b).toArray 59 (0, 0)) from HC8.out)
    have HY9 := Aside0.mk (show C8 w8.drew A8 y from Kd.C_below HY8.out (below_drew (Below.refl _ _)))
    obtain ⟨bb, hbb⟩ : ∃ bb, (b == headM gg y) = bb := ⟨_, rfl⟩
    rw [hbb] at HYN
    have HBE := Lib.hid hbb
    clear hbb
    repeat (first | go_step | go_guarded | go_upon)
    refine start_ (n := 9) (S := fun w' => w'.rangeAt h 0 (nums .u8 b)) (ds := []) #[false, false, false, false, false, false, false, false, false] (by kernel_rfl) rfl rfl ((blk_range HC9.out)) (fun hHeld => ?_)
    refine pure_ (i := 0) (N := some 56) (v := ?_) (a' := ?_) #[true, false, false, false, false, false, false, false, false] rfl rfl (by kernel_rfl) (fun _ _ _ h => h) (Or.inl ⟨by rfl, ?_⟩) ?_ ?_
    rotate_left
    · intro w'
      go_simp
      with_reducible rfl
    rotate_left
    · simp only [Act.put, List.setIfInBounds_toArray, List.set_cons_zero, List.set_cons_succ, i64_w, i32_w]
      rfl
    refine pure_ (i := 1) (N := some 57) (v := ?_) (a' := ?_) #[true, true, false, false, false, false, false, false, false] rfl rfl (by kernel_rfl) (fun _ _ _ h => h) (Or.inl ⟨by rfl, ?_⟩) ?_ ?_
    rotate_left
    · intro w'
      go_simp
      with_reducible rfl
    rotate_left
    · simp only [Act.put, List.setIfInBounds_toArray, List.set_cons_zero, List.set_cons_succ, i64_w, i32_w]
      rfl
    refine pure_ (i := 2) (N := some 58) (v := ?_) (a' := ?_) #[true, true, true, false, false, false, false, false, false] rfl rfl (by kernel_rfl) (fun _ _ _ h => h) (Or.inl ⟨by rfl, ?_⟩) ?_ ?_
    rotate_left
    · intro w'
      go_simp
      with_reducible rfl
    rotate_left
    · simp only [Act.put, List.setIfInBounds_toArray, List.set_cons_zero, List.set_cons_succ, i64_w, i32_w]
      rfl
    refine pure_ (i := 4) (N := some 60) (v := ?_) (a' := ?_) #[true, true, true, false, true, false, false, false, false] rfl rfl (by kernel_rfl) (fun _ _ _ h => h) (Or.inl ⟨by rfl, ?_⟩) ?_ ?_
    rotate_left
    · intro w'
      go_simp
      with_reducible rfl
    rotate_left
    · simp only [Act.put, List.setIfInBounds_toArray, List.set_cons_zero, List.set_cons_succ, i64_w, i32_w]
      rfl
    refine pure_ (i := 5) (N := some 61) (v := ?_) (a' := ?_) #[true, true, true, false, true, true, false, false, false] rfl rfl (by kernel_rfl) (fun _ _ _ h => h) (Or.inl ⟨by rfl, ?_⟩) ?_ ?_
    rotate_left
    · intro w'
      go_simp
      with_reducible rfl
    rotate_left
    · simp only [Act.put, List.setIfInBounds_toArray, List.set_cons_zero, List.set_cons_succ, i64_w, i32_w]
      rfl
    refine take_ (i := 3) (N := some 59) (v := .agg (nums .u8 b).toArray) (a' := ?_) #[true, true, true, true, true, true, false, false, false] rfl rfl (by kernel_rfl) (fun _ _ _ h => h) (yieldsIf_load_mid (by rfl) 59 (.tmp 9) rfl h 0 (by rfl) (nums .u8 b) _ (fun w' h => h) Tryd.underlying59 rfl (by rw [nums_length, HL3.out]; kernel_rfl)) hHeld ?_ ?_
    rotate_left
    · simp only [Act.put, List.setIfInBounds_toArray, List.set_cons_zero, List.set_cons_succ, i64_w, i32_w]
      rfl
    refine one_ (i := 6) (N := some 62) #[true, true, true, true, true, true, true, false, false] rfl rfl (by kernel_rfl) (by decide) (fun K hK => ?_)
    refine goes_ Tryd.func29 (by kernel_rfl) rfl #[.int .u64 gg, .slice A8 m m] (by rfl) rfl rfl (by simp only [List.map_toArray, List.map_cons, List.map_nil]; rfl) ?_
    with_reducible refine (calls_of_args (args' := #[.int .u64 gg, .slice A8 y.length m]) (by rw [HYL.out]) (headOf_calls (HG.out.below HB9.out) gg hgr.1 hgr.2 A8 m y HY9.out (by rw [HYL.out]; omega))).mono ?_
    rintro e w10 ⟨rfl, hb10⟩
    refine ⟨_, rfl, ?_⟩
    have HS10 := Aside0.mk (HS9.out.below hb10)
    have HB10 := Aside0.mk (HB9.out.trans (hb10.mono HB9.out.size))
    have HC10 := Aside0.mk (blk_below HC9.out hb10)
    have HY10 := Aside0.mk (Kd.C_below HY9.out hb10)
    have HZ10 := Aside0.mk (show w8.heap.size ≤ w10.heap.size from hb10.size)
    clear hb10
    refine hK.out _ _ ((blk_range HC10.out)) (fun hHeld => ?_)
    clear hK K
    refine norm_ (a' := ?_) ?_ ?_
    rotate_left
    · show Act.put _ (some 62) _ = _
      simp only [Act.put, List.setIfInBounds_toArray, List.set_cons_zero, List.set_cons_succ, i64_w, i32_w]
      rfl
    refine pure_ (i := 7) (N := some 63) (v := ?_) (a' := ?_) #[true, true, true, true, true, true, true, true, false] rfl rfl (by kernel_rfl) (fun _ _ _ h => h) (Or.inl ⟨by rfl, ?_⟩) ?_ ?_
    rotate_left
    · intro w'
      go_simp
      with_reducible rfl
    rotate_left
    · simp only [Act.put, List.setIfInBounds_toArray, List.set_cons_zero, List.set_cons_succ, i64_w, i32_w]
      rfl
    refine pure_ (i := 8) (N := some 64) (v := ?_) (a' := ?_) #[true, true, true, true, true, true, true, true, true] rfl rfl (by kernel_rfl) (fun _ _ _ h => h) (Or.inl ⟨by rfl, ?_⟩) ?_ ?_
    rotate_left
    · intro w'
      go_simp
      with_reducible rfl
    rotate_left
    · simp only [Act.put, List.setIfInBounds_toArray, List.set_cons_zero, List.set_cons_succ, i64_w, i32_w]
      rfl
    refine done_ (by kernel_rfl) ?_
    clear hHeld HYN
    cases bb with
    | false =>
      have HO := Lib.hid (show areaM D fr n k = none by simp only [areaM, HP.out, HBB.out, HGG.out, HNN.out, HREC.out]; rw [if_neg HG0.out, if_neg (Int.not_lt.2 HRM.out), if_neg (by intro e; have := HBE.out; rw [← e] at this; simp at this)])
      go_wp2_with (fail)
      refine bodyPost_ret (results_tmp3 rfl _ _ _) rfl ?_
      rw [HO.out]
      exact ⟨HB10.out, rfl⟩
    | true =>
      have HO := Lib.hid (show areaM D fr n k = some (gg, y) by simp only [areaM, HP.out, HBB.out, HGG.out, HNN.out, HREC.out]; rw [if_neg HG0.out, if_neg (Int.not_lt.2 HRM.out), if_pos (by have := HBE.out; simpa using this)])
      go_wp2_with (fail)
      refine bodyPost_ret (results_tmp3 rfl _ _ _) rfl ?_
      rw [HO.out]
      exact ⟨HB10.out, A8, m, by rw [HYL.out] <;> rfl, HY10.out, fun a ha => ⟨(HOW8.out a ha).1, by have := (HOW8.out a ha).2; have := HZ10.out; omega⟩⟩

end Go.Proofs.YtmblnflfklmmkaaDoor.Sh
/- Contracts of package store: step, newest, Newest, Get. -/
namespace Go.Proofs.YtmblnflfklmmkaaDoor.Sh
open Go.Proofs.YtmblnflfklmmkaaDoor.Dk
open Go.RowKit Go.Proofs.YtmblnflfklmmkaaDoorW.PrintWords Go.Proofs.YtmblnflfklmmkaaDoorW.PrintLast Go.Proofs.YtmblnflfklmmkaaDoorW.PrintMore
set_option linter.unusedVariables false
set_option linter.unusedSimpArgs false
set_option maxRecDepth 30000

variable {w w0 w1 w2 wr : World} {B s g : Nat} {F : Nat → Prop} {D D' : DM} {fr n : Int} {xs hs b : List Int}
/-- What a call leaves of a store: its disk turned. -/
def SPo (w w' : World) (B s g : Nat) (F : Nat → Prop) (D' : DM) (fr n : Int) : Prop := ∃ F', (∀ k, F' k → F k ∨ w.heap.size ≤ k) ∧ SAt w' B s g F' D' fr n ∧ Upd w w' F
theorem SAt.po (h : SAt w B s g F D fr n) (hp : DPost w w1 B g F D') : SPo w w1 B s g F D' fr n := h.post hp
theorem SPo.then {D2 : DM} {F' : Nat → Prop} (hF : ∀ k, F' k → F k ∨ w.heap.size ≤ k) (hu : Upd w w1 F) (h2 : SPo w1 w2 B s g F' D2 fr n) : SPo w w2 B s g F D2 fr n := by
  obtain ⟨F2, hF2, h3, h4⟩ := h2
  refine ⟨F2, fun k hk => ?_, h3, hu.trans h4 hF⟩
  rcases hF2 k hk with h | h
  · exact hF k h
  · exact .inr (Nat.le_trans hu.size h)
theorem SPo.pre (hb : Below w.heap.size w w1) (h2 : SPo w1 w2 B s g F D' fr n) : SPo w w2 B s g F D' fr n := SPo.then (F' := F) (fun _ h => .inl h) (Upd.of_below hb) h2
theorem SPo.below (h : SPo w w1 B s g F D' fr n) (hb : Below w1.heap.size w1 w2) : SPo w w2 B s g F D' fr n := by
  obtain ⟨F', hF, h1, h2⟩ := h
  exact ⟨F', hF, h1.below hb, h2.trans (Upd.of_below (F := F) hb) (fun _ h => .inl h)⟩
theorem SPo.same (h : SAt w B s g F D fr n) (hb : Below w.heap.size w w1) : SPo w w1 B s g F D fr n := ⟨F, fun _ h => .inl h, h.below hb, Upd.of_below hb⟩
def stepM (D : DM) (k : Int) (x : List Int) : DM × Int := if (saveM D k x).2 ≠ 0 then saveM D k x else flushM (saveM D k x).1
set_option maxHeartbeats 16000000 in
theorem step_calls (h : SAt w B s g F D fr n) (hok : DOk D) (hn : D.held.length + 20000 ≤ 10000000) (k : Int) (A : Option Addr) (c : Nat) (x : List Int) (hx : x.length ≤ 20000) (hxc : x.length ≤ c) (hC : ∀ W, Upd w W F → Kd.C (Kd.int .u8) W A x.length x) :
    Calls Tryd.prog 28 #[.pointer (some ⟨s, 0, none⟩), .int .i64 k, .slice A x.length c] w fun e w' => e = .returned (.int .i64 (stepM D k x).2) ∧ SPo w w' B s g F (stepM D k x).1 fr n := by
  have HS := Aside0.mk h
  have HSV := Aside0.mk (dSave h.d hok hn k A c x (by omega) hxc hC)
  have c0 := h.c0
  have HK := Aside0.mk (saveM_ok (k := k) (x := x) hok (by omega))
  clear h hok hn hC hxc
  obtain ⟨D1, e1, hs⟩ : ∃ D1 e1, saveM D k x = (D1, e1) := ⟨_, _, rfl⟩
  rw [hs] at HSV HK
  by_cases he : e1 = 0
  · have HM := Lib.hid (show stepM D k x = flushM D1 by rw [stepM, hs]; simp [he])
    subst he
    clear hs
    go_enter Tryd.func28, Tryd.ntmps28
    go_wp2_with (first | (go_at_call 43; (with_reducible refine HSV.out.mono ?_); rintro e w1 ⟨rfl, hp⟩; obtain ⟨F1, hF1, hs1, hu1⟩ := HS.out.post hp; have HS1 := Aside0.mk hs1; have HF1 := Aside0.mk hF1; have HU1 := Aside0.mk hu1; have c01 := hs1.c0; clear hp hs1 hF1 hu1) | (go_at_call 19; (with_reducible refine (dFlush HS1.out.d HK.out).mono ?_); rintro e w2 ⟨rfl, hp2⟩; have HP2 := Aside0.mk (SPo.then HF1.out HU1.out (HS1.out.po hp2)); clear hp2))
    go_ret
    exact ⟨by rw [HM.out] <;> rfl, by rw [HM.out]; exact HP2.out⟩
  · have HM := Lib.hid (show stepM D k x = (D1, e1) by rw [stepM, hs]; simp [he])
    have hq1 : (e1 == 0) = false := by simpa using he
    have hq2 : (e1 != 0) = true := by simpa using he
    have hq3 : decide (e1 = 0) = false := decide_eq_false he
    clear hs he
    go_enter Tryd.func28, Tryd.ntmps28
    go_wp2_with (first | (go_at_call 43; (with_reducible refine HSV.out.mono ?_); rintro e w1 ⟨rfl, hp⟩; have HP1 := Aside0.mk (HS.out.po hp); clear hp))
    go_ret
    exact ⟨by rw [HM.out] <;> rfl, by rw [HM.out]; exact HP1.out⟩
/-- The newest so far. -/
def nextM (st : Int × Int × List Int) (k : Int) (o : Option (Int × List Int)) : Int × Int × List Int := match o with
  | none => st
  | some (g', r) => if st.2.1 < g' then (k, g', r) else st
def newestM (D : DM) (fr n : Int) : Int × Int × List Int := nextM (nextM (-1, 0, []) 0 (areaM D fr n 0)) 1 (areaM D fr n 1)
def nsT (D : DM) (fr n : Int) : Nat → Int × Int × List Int
  | 0 => (-1, 0, [])
  | k + 1 => nextM (nsT D fr n k) k (areaM D fr n k)
theorem nsT_two : nsT D fr n 2 = newestM D fr n := rfl
def NewPo (w w' : World) (st : Int × Int × List Int) (e : Ending) : Prop := ∃ A c, e = .returned (.tuple #[.int .i64 st.1, .int .u64 st.2.1, .slice A st.2.2.length c]) ∧ Fr8 w w' A st.2.2 ∧ Below w.heap.size w w'
set_option maxHeartbeats 16000000 in
theorem newest_calls (hg : Glob w) (h : SAt w B s g F D fr n) (hk : SOk D fr n) (hd : D.down = false) : Calls Tryd.prog 25 #[.pointer (some ⟨s, 0, none⟩)] w fun e w' => NewPo w w' (newestM D fr n) e := by
  have HG := Aside0.mk hg
  have HS := Aside0.mk h
  have HK := Aside0.mk hk
  have HD := Lib.hid hd
  clear hg h hk hd
  go_enter Tryd.func25, Tryd.ntmps25
  go_wp2_with (fail)
  go_loopw [5, 6, 7, 8, 9, 10, 11, 12] (fun v5 v6 v7 v8 v9 v10 v11 v12 w' => ∃ (k : Nat) (at_ mo : Int) (r : List Int) (A : Option Addr) (c : Nat), v12 = .int .i64 k ∧ k ≤ 2 ∧ v5 = .int .i64 at_ ∧ v6 = .int .u64 mo ∧ v7 = .slice A r.length c ∧ Aside0 (nsT D fr n k = (at_, mo, r)) ∧ Aside0 (Fr8 w w' A r) ∧ Aside0 (SAt w' B s g F D fr n) ∧ Aside0 (Below w.heap.size w w')) (fun v5 v6 v7 v8 v9 v10 v11 v12 _ => 2 - (intOf v12).toNat)
  case atStart => exact ⟨0, -1, 0, [], none, 0, rfl, by decide, rfl, rfl, rfl, ⟨rfl⟩, ⟨Fr8.nil _ _⟩, HS, ⟨Below.refl _ _⟩⟩
  case round =>
    clear HS
    obtain ⟨k, at_, mo, r, A, c, rfl, hk2, rfl, rfl, rfl, HN, HC, HS, HB⟩ := hrel
    by_cases hlt : k < 2
    · have hq : decide ((k : Int) < 2) = true := decide_eq_true (by omega)
      have HAR := Aside0.mk (area_calls (HG.out.below HB.out) HS.out HK.out HD.out k (by omega) (by omega))
      cases hA : areaM D fr n k with
      | none =>
        rw [hA] at HAR
        have HN1 := Aside0.mk (show nsT D fr n (k + 1) = (at_, mo, r) by rw [nsT, HN.out, hA]; rfl)
        clear hA
        go_wp2_with (first | (go_at_call 42; (with_reducible refine HAR.out.mono ?_); rintro e w1 ⟨hb1, rfl⟩; have HS1 := Aside0.mk (HS.out.below hb1); have HB1 := Aside0.mk (HB.out.trans (hb1.mono HB.out.size)); have HC1 := Aside0.mk (HC.out.below hb1); clear hb1))
        go_roundw
        case rel => exact ⟨k + 1, at_, mo, r, A, c, by go_num, by omega, rfl, rfl, rfl, HN1, HC1, HS1, HB1⟩
        case measure => simp [intOf]; omega
      | some p =>
        obtain ⟨g', r'⟩ := p
        rw [hA] at HAR
        by_cases hgt : mo < g'
        · have HN1 := Aside0.mk (show nsT D fr n (k + 1) = ((k : Int), g', r') by rw [nsT, HN.out, hA]; exact if_pos hgt)
          have hqg : decide (mo < g') = true := decide_eq_true hgt
          clear hA hgt
          go_wp2_with (first | (go_at_call 42; (with_reducible refine HAR.out.mono ?_); rintro e w1 ⟨hb1, A', c', rfl, hc1⟩; have HS1 := Aside0.mk (HS.out.below hb1); have HB1 := Aside0.mk (HB.out.trans (hb1.mono HB.out.size)); have HC1 := Aside0.mk (hc1.elder HB.out.size); clear hb1 hc1))
          go_roundw
          case rel => exact ⟨k + 1, k, g', r', A', c', by go_num, by omega, rfl, rfl, rfl, HN1, HC1, HS1, HB1⟩
          case measure => simp [intOf]; omega
        · have HN1 := Aside0.mk (show nsT D fr n (k + 1) = (at_, mo, r) by rw [nsT, HN.out, hA]; exact if_neg hgt)
          have hqg : decide (mo < g') = false := decide_eq_false hgt
          clear hA hgt
          go_wp2_with (first | (go_at_call 42; (with_reducible refine HAR.out.mono ?_); rintro e w1 ⟨hb1, A', c', rfl, hc1⟩; have HS1 := Aside0.mk (HS.out.below hb1); have HB1 := Aside0.mk (HB.out.trans (hb1.mono HB.out.size)); have HC1 := Aside0.mk (HC.out.below hb1); clear hb1 hc1))
          go_roundw
          case rel => exact ⟨k + 1, at_, mo, r, A, c, by go_num, by omega, rfl, rfl, rfl, HN1, HC1, HS1, HB1⟩
          case measure => simp [intOf]; omega
    · obtain rfl : k = 2 := by omega
      have hq : decide (((2 : Nat) : Int) < 2) = false := rfl
      have HN2 := Aside0.mk (show newestM D fr n = (at_, mo, r) from HN.out)
      go_wp2_with (fail)
      refine bodyPost_ret (results_tmp3 rfl _ _ _) rfl ?_
      rw [HN2.out]
      exact ⟨A, c, rfl, HC.out, HB.out⟩
/-- What Newest and Get tell. -/
def NwPo (w w' : World) (D : DM) (fr n : Int) (e : Ending) : Prop :=
  Below w.heap.size w w' ∧ e = .returned (.tuple (if D.down = true then #[.int .i64 0, .int .u64 0, .int .i64 60] else if (newestM D fr n).1 < 0 then #[.int .i64 0, .int .u64 0, .int .i64 70] else #[.int .i64 (newestM D fr n).1, .int .u64 (newestM D fr n).2.1, .int .i64 0]))
set_option maxHeartbeats 16000000 in
theorem Newest_calls (hg : Glob w) (h : SAt w B s g F D fr n) (hk : SOk D fr n) : Calls Tryd.prog 9 #[.pointer (some ⟨s, 0, none⟩)] w fun e w' => NwPo w w' D fr n e := by
  have HG := Aside0.mk hg
  have HS := Aside0.mk h
  have HK := Aside0.mk hk
  clear hg h hk
  cases hd : D.down with
  | true =>
    have HD := Lib.hid hd
    have HRD := Aside0.mk (sready_calls HS.out)
    rw [hd, if_pos rfl] at HRD
    clear hd
    go_enter Tryd.func9, Tryd.ntmps9
    go_wp2_with (first | (go_at_call 24; (with_reducible refine HRD.out.mono ?_); rintro e w1 ⟨rfl, rfl⟩))
    refine bodyPost_ret (results_tmp3 rfl _ _ _) rfl ?_
    exact ⟨Below.refl _ _, by rw [HD.out, if_pos rfl] <;> rfl⟩
  | false =>
    have HD := Lib.hid hd
    have HRD := Aside0.mk (sready_calls HS.out)
    rw [hd, if_neg (by decide)] at HRD
    have HN := Aside0.mk (newest_calls HG.out HS.out HK.out hd)
    obtain ⟨at_, mo, r, hst⟩ : ∃ at_ mo r, newestM D fr n = (at_, mo, r) := ⟨_, _, _, rfl⟩
    rw [hst] at HN
    have HST := Lib.hid hst
    clear hd hst
    by_cases h0 : at_ < 0
    · have hq : decide (at_ < 0) = true := decide_eq_true h0
      have H0 := Aside0.mk h0
      clear h0
      go_enter Tryd.func9, Tryd.ntmps9
      go_wp2_with (first | (go_at_call 24; (with_reducible refine HRD.out.mono ?_); rintro e w1 ⟨rfl, rfl⟩) | (go_at_call 25; (with_reducible refine HN.out.mono ?_); rintro e w2 ⟨A2, c2, rfl, _, hb2⟩))
      refine bodyPost_ret (results_tmp3 rfl _ _ _) rfl ?_
      exact ⟨hb2, by rw [HD.out, if_neg (by decide), HST.out, if_pos H0.out] <;> rfl⟩
    · have hq : decide (at_ < 0) = false := decide_eq_false h0
      have H0 := Aside0.mk h0
      clear h0
      go_enter Tryd.func9, Tryd.ntmps9
      go_wp2_with (first | (go_at_call 24; (with_reducible refine HRD.out.mono ?_); rintro e w1 ⟨rfl, rfl⟩) | (go_at_call 25; (with_reducible refine HN.out.mono ?_); rintro e w2 ⟨A2, c2, rfl, _, hb2⟩))
      refine bodyPost_ret (results_tmp3 rfl _ _ _) rfl ?_
      exact ⟨hb2, by rw [HD.out, if_neg (by decide), HST.out, if_neg (Int.not_lt.2 H0.out)] <;> rfl⟩
def getE (D : DM) (fr n : Int) : Int := if D.down = true then 60 else if (newestM D fr n).1 < 0 then 70 else 0
def getR (D : DM) (fr n : Int) : List Int := if getE D fr n = 0 then (newestM D fr n).2.2 else []
def GtPo (w w' : World) (D : DM) (fr n : Int) (e : Ending) : Prop := ∃ A c, e = .returned (.tuple #[.slice A (getR D fr n).length c, .int .i64 (getE D fr n)]) ∧ Fr8 w w' A (getR D fr n) ∧ Below w.heap.size w w'
set_option maxHeartbeats 16000000 in
theorem Get_calls (hg : Glob w) (h : SAt w B s g F D fr n) (hk : SOk D fr n) : Calls Tryd.prog 8 #[.pointer (some ⟨s, 0, none⟩)] w fun e w' => GtPo w w' D fr n e := by
  have HG := Aside0.mk hg
  have HS := Aside0.mk h
  have HK := Aside0.mk hk
  clear hg h hk
  cases hd : D.down with
  | true =>
    have HE := Lib.hid (show getE D fr n = 60 by simp [getE, hd])
    have HR := Lib.hid (show getR D fr n = [] by simp [getR, HE.out])
    have HRD := Aside0.mk (sready_calls HS.out)
    rw [hd, if_pos rfl] at HRD
    clear hd
    go_enter Tryd.func8, Tryd.ntmps8
    go_wp2_with (first | (go_at_call 24; (with_reducible refine HRD.out.mono ?_); rintro e w1 ⟨rfl, rfl⟩))
    refine bodyPost_ret (results_tmp2 rfl _ _ _) rfl ?_
    exact ⟨none, 0, by rw [HR.out, HE.out] <;> rfl, by rw [HR.out]; exact Fr8.nil _ _, Below.refl _ _⟩
  | false =>
    have HD := Lib.hid hd
    have HRD := Aside0.mk (sready_calls HS.out)
    rw [hd, if_neg (by decide)] at HRD
    have HN := Aside0.mk (newest_calls HG.out HS.out HK.out hd)
    obtain ⟨at_, mo, r, hst⟩ : ∃ at_ mo r, newestM D fr n = (at_, mo, r) := ⟨_, _, _, rfl⟩
    rw [hst] at HN
    by_cases h0 : at_ < 0
    · have hq : decide (at_ < 0) = true := decide_eq_true h0
      have HE := Lib.hid (show getE D fr n = 70 by simp [getE, hd, hst, h0])
      have HR := Lib.hid (show getR D fr n = [] by simp [getR, HE.out])
      clear h0 hd hst
      go_enter Tryd.func8, Tryd.ntmps8
      go_wp2_with (first | (go_at_call 24; (with_reducible refine HRD.out.mono ?_); rintro e w1 ⟨rfl, rfl⟩) | (go_at_call 25; (with_reducible refine HN.out.mono ?_); rintro e w2 ⟨A2, c2, rfl, _, hb2⟩))
      refine bodyPost_ret (results_tmp2 rfl _ _ _) rfl ?_
      exact ⟨none, 0, by rw [HR.out, HE.out] <;> rfl, by rw [HR.out]; exact Fr8.nil _ _, hb2⟩
    · have hq : decide (at_ < 0) = false := decide_eq_false h0
      have HE := Lib.hid (show getE D fr n = 0 by simp [getE, hd, hst, h0])
      have HR := Lib.hid (show getR D fr n = r by simp [getR, HE.out, hst])
      clear h0 hd hst
      go_enter Tryd.func8, Tryd.ntmps8
      go_wp2_with (first | (go_at_call 24; (with_reducible refine HRD.out.mono ?_); rintro e w1 ⟨rfl, rfl⟩) | (go_at_call 25; (with_reducible refine HN.out.mono ?_); rintro e w2 ⟨A2, c2, rfl, hc2, hb2⟩))
      refine bodyPost_ret (results_tmp2 rfl _ _ _) rfl ?_
      exact ⟨A2, c2, by rw [HR.out, HE.out] <;> rfl, by rw [HR.out]; exact hc2, hb2⟩

end Go.Proofs.YtmblnflfklmmkaaDoor.Sh
/- Contracts of package store: Put. -/
namespace Go.Proofs.YtmblnflfklmmkaaDoor.Sh
open Go.Proofs.YtmblnflfklmmkaaDoor.Dk
open Go.RowKit Go.Proofs.YtmblnflfklmmkaaDoorW.PrintWords Go.Proofs.YtmblnflfklmmkaaDoorW.PrintLast Go.Proofs.YtmblnflfklmmkaaDoorW.PrintMore
set_option linter.unusedVariables false
set_option linter.unusedSimpArgs false
set_option maxRecDepth 30000

variable {w w0 w1 w2 wr : World} {B s g : Nat} {F : Nat → Prop} {D D' : DM} {fr n : Int} {xs hs b : List Int}
theorem areaM_range {k g' : Int} {r : List Int} (h : areaM D fr n k = some (g', r)) : 0 ≤ g' ∧ g' ≤ 18446744073709551615 := by
  unfold areaM at h
  split at h
  · cases h
  · split at h
    · cases h
    · split at h
      · injection h with h
        injection h with h1 h2
        rw [← h1]
        exact numM_range _
      · cases h
theorem nextM_range {st : Int × Int × List Int} {k : Int} {o : Option (Int × List Int)} (h : 0 ≤ st.2.1 ∧ st.2.1 ≤ 18446744073709551615) (ho : ∀ g' r, o = some (g', r) → 0 ≤ g' ∧ g' ≤ 18446744073709551615) : 0 ≤ (nextM st k o).2.1 ∧ (nextM st k o).2.1 ≤ 18446744073709551615 := by
  cases o with
  | none => exact h
  | some q =>
    obtain ⟨g', r⟩ := q
    unfold nextM
    dsimp only
    split
    · exact ho g' r rfl
    · exact h
theorem newestM_range : 0 ≤ (newestM D fr n).2.1 ∧ (newestM D fr n).2.1 ≤ 18446744073709551615 :=
  nextM_range (nextM_range ⟨by decide, by decide⟩ (fun _ _ h => areaM_range h)) (fun _ _ h => areaM_range h)
theorem stepM_hs (k : Int) (x : List Int) : (stepM D k x).1.held.length ≤ D.held.length + x.length ∧ (stepM D k x).1.sec.length = D.sec.length := by
  have h1 := saveM_hs (D := D) k x
  unfold stepM
  split
  · exact h1
  · have h2 := flushM_hs (D := (saveM D k x).1)
    exact ⟨by omega, h2.2.trans h1.2⟩
theorem stepM_ok {k : Int} {x : List Int} (h : DOk D) (hn : D.held.length + x.length ≤ 10000000) : DOk (stepM D k x).1 := by
  have h1 := saveM_ok (k := k) (x := x) h hn
  unfold stepM
  split
  · exact h1
  · exact flushM_ok h1
theorem step64 (h : SAt w B s g F D fr n) (hok : DOk D) (hn : D.held.length + 20000 ≤ 10000000) (k : Int) (A : Option Addr) (c : Nat) (x : List Int) (hx : x.length = 64) (hxc : 64 ≤ c) (hC : ∀ W, Upd w W F → C8 W A x) :
    Calls Tryd.prog 28 #[.pointer (some ⟨s, 0, none⟩), .int .i64 k, .slice A 64 c] w fun e w' => e = .returned (.int .i64 (stepM D k x).2) ∧ SPo w w' B s g F (stepM D k x).1 fr n := by
  have := step_calls h hok hn k A c x (by omega) (by omega) hC
  rwa [hx] at this
theorem DiskAt.hi (h : DiskAt w B g F D) : ∀ k, F k → k < w.heap.size := by
  obtain ⟨_, _, _, h⟩ := h
  exact fun k hk => (h.lt k hk).2
/-- A block that is younger than the disk's blocks. -/
theorem C8_young {q t : Nat} {x : List Int} (hF : ∀ k, F k → k < q) (hb : w.heap[q]? = some (.cells (nums .u8 x).toArray t (0, 0))) (hx : x.length ≤ 1000000) : ∀ W, Upd w W F → C8 W (some ⟨q, 0, none⟩) x := fun W hW =>
  C_block ((hW.block q (blk_lt hb) (fun h => by have := hF q h; omega)).trans hb) hx
def zer64 : List Int := List.replicate 64 0
theorem headM_le (g : Int) (y : List Int) : (headM g y).length ≤ 1000000 := by rw [headM_length]; decide
theorem zer64_len : zer64.length = 64 := by simp [zer64]
theorem zer64_le : zer64.length ≤ 1000000 := by simp [zer64]
def toM (fr n : Int) (at_ : Int) : Int := if at_ = 0 then fr + 1 * n else fr + 0 * n
def put3 (D : DM) (q : Int) (x h : List Int) : DM × Int :=
  if (stepM D q zer64).2 ≠ 0 then stepM D q zer64
  else if (stepM (stepM D q zer64).1 (q + 1) x).2 ≠ 0 then stepM (stepM D q zer64).1 (q + 1) x
  else stepM (stepM (stepM D q zer64).1 (q + 1) x).1 q h
def putM (D : DM) (fr n : Int) (x : List Int) : DM × Int :=
  if D.down = true then (D, 60)
  else if 64 * (n - 1) < (x.length : Int) then (D, 2)
  else if (newestM D fr n).2.1 = 18446744073709551615 then (D, 2)
  else put3 D (toM fr n (newestM D fr n).1) x (headM ((newestM D fr n).2.1 + 1) x)

set_option maxHeartbeats 16000000 in
theorem Put_calls (hg : Glob w) (hgF : ¬ F 0 ∧ ¬ F 1) (h : SAt w B s g F D fr n) (hk : SOk D fr n) (hnh : D.held.length ≤ 5000000) (A : Option Addr) (c : Nat) (x : List Int) (hx : x.length ≤ 20000) (hxc : x.length ≤ c) (hC : ∀ W, Upd w W F → C8 W A x) :
    Calls Tryd.prog 12 #[.pointer (some ⟨s, 0, none⟩), .slice A x.length c] w fun e w' => e = .returned (.int .i64 (putM D fr n x).2) ∧ SPo w w' B s g F (putM D fr n x).1 fr n := by
  have HG := Aside0.mk hg
  have HNF := Aside0.mk hgF
  have HS := Aside0.mk h
  have HK := Aside0.mk hk
  have HC := Aside0.mk hC
  have HXC := Aside0.mk hxc
  have HNH := Aside0.mk (show D.held.length + 20000 ≤ 10000000 by omega)
  have HNH0 := Aside0.mk hnh
  have hn2 := hk.hn
  have hn3 : n ≤ 1000 := by have := hk.hz; have := hk.hl; have := hk.hf; omega
  have hf0 := hk.hf
  have hf1 : fr ≤ 1000 := by have := hk.hz; have := hk.hl; omega
  clear hg hgF h hk hnh hxc hC
  cases hd : D.down with
  | true =>
    have HM := Lib.hid (show putM D fr n x = (D, 60) by simp [putM, hd])
    have HRD := Aside0.mk (sready_calls HS.out)
    rw [hd, if_pos rfl] at HRD
    clear hd
    go_enter Tryd.func12, Tryd.ntmps12
    go_wp2_with (first | (go_at_call 24; (with_reducible refine HRD.out.mono ?_); rintro e w1 ⟨rfl, rfl⟩))
    go_ret
    exact ⟨by rw [HM.out] <;> rfl, by rw [HM.out]; exact SPo.same HS.out (Below.refl _ _)⟩
  | false =>
    have HD := Lib.hid hd
    have HRD := Aside0.mk (sready_calls HS.out)
    rw [hd, if_neg (by decide)] at HRD
    have HN := Aside0.mk (newest_calls HG.out HS.out HK.out hd)
    have hmr := newestM_range (D := D) (fr := fr) (n := n)
    obtain ⟨at_, mo, r, hst⟩ : ∃ at_ mo r, newestM D fr n = (at_, mo, r) := ⟨_, _, _, rfl⟩
    rw [hst] at HN hmr
    dsimp only at hmr
    have HST := Lib.hid hst
    clear hst hd
    by_cases hlen : 64 * (n - 1) < (x.length : Int)
    · have HM := Lib.hid (show putM D fr n x = (D, 2) by rw [putM, HD.out, if_neg (by decide), if_pos hlen])
      have hq : decide (64 * (n - 1) < (x.length : Int)) = true := decide_eq_true hlen
      clear hlen
      go_enter Tryd.func12, Tryd.ntmps12
      go_wp2_with (first | (go_at_call 24; (with_reducible refine HRD.out.mono ?_); rintro e w1 ⟨rfl, rfl⟩) | (go_at_call 25; (with_reducible refine HN.out.mono ?_); rintro e w2 ⟨A2, c2, rfl, _, hb2⟩; have HB2 := Aside0.mk hb2; have HS2 := Aside0.mk (HS.out.below hb2); clear hb2) | (go_at_call 11; (with_reducible refine (room_calls HS2.out HK.out).mono ?_); rintro e w3 ⟨rfl, rfl⟩))
      go_ret
      exact ⟨by rw [HM.out] <;> rfl, by rw [HM.out]; exact SPo.same HS.out HB2.out⟩
    by_cases hmx : mo = 18446744073709551615
    · have HM := Lib.hid (show putM D fr n x = (D, 2) by rw [putM, HD.out, if_neg (by decide), if_neg hlen, HST.out, if_pos hmx])
      have hq : decide (64 * (n - 1) < (x.length : Int)) = false := decide_eq_false hlen
      subst hmx
      clear hlen
      go_enter Tryd.func12, Tryd.ntmps12
      go_wp2_with (first | (go_at_call 24; (with_reducible refine HRD.out.mono ?_); rintro e w1 ⟨rfl, rfl⟩) | (go_at_call 25; (with_reducible refine HN.out.mono ?_); rintro e w2 ⟨A2, c2, rfl, _, hb2⟩; have HB2 := Aside0.mk hb2; have HS2 := Aside0.mk (HS.out.below hb2); clear hb2) | (go_at_call 11; (with_reducible refine (room_calls HS2.out HK.out).mono ?_); rintro e w3 ⟨rfl, rfl⟩))
      go_ret
      exact ⟨by rw [HM.out] <;> rfl, by rw [HM.out]; exact SPo.same HS.out HB2.out⟩
    have hmo : mo < 18446744073709551615 := by omega
    have hqm : (mo == 18446744073709551615) = false := by simpa using hmx
    have hqm2 : decide (mo = 18446744073709551615) = false := decide_eq_false hmx
    have HPM := Lib.hid (show putM D fr n x = put3 D (toM fr n at_) x (headM (mo + 1) x) by rw [putM, HD.out, if_neg (by decide), if_neg hlen, HST.out, if_neg hmx])
    have hq : decide (64 * (n - 1) < (x.length : Int)) = false := decide_eq_false hlen
    clear hlen hmx
    by_cases hat : at_ = 0
    · subst hat
      obtain ⟨q, hqq⟩ : ∃ q, fr + 1 * n = q := ⟨_, rfl⟩
      have HTM := Lib.hid (show toM fr n 0 = q by rw [toM, if_pos rfl, hqq])
      have HTO := Lib.hid hqq
      have hq0 : 0 ≤ q ∧ q ≤ 2000 := by omega
      obtain ⟨hq00, hq01⟩ := hq0
      clear hqq
      obtain ⟨D1, h1a⟩ : ∃ D1, (stepM D q zer64).1 = D1 := ⟨_, rfl⟩
      obtain ⟨e1, h1b⟩ : ∃ e1, (stepM D q zer64).2 = e1 := ⟨_, rfl⟩
      have HE1a := Lib.hid h1a
      have HE1b := Lib.hid h1b
      have HOK1 := Aside0.mk (show DOk D1 from h1a ▸ stepM_ok HK.out.d (by have := HNH0.out; simp [zer64]; omega))
      have HL1 := Aside0.mk (show D1.held.length ≤ 5000064 from by have := (stepM_hs (D := D) q zer64).1; rw [h1a] at this; simp [zer64] at this; have := HNH0.out; omega)
      have HNH1 := Aside0.mk (show D1.held.length + 20000 ≤ 10000000 by have := HL1.out; omega)
      have h1c : stepM D q zer64 = (D1, e1) := Prod.ext h1a h1b
      by_cases he1 : e1 = 0
      · obtain ⟨D2, h2a⟩ : ∃ D2, (stepM D1 (q + 1) x).1 = D2 := ⟨_, rfl⟩
        obtain ⟨e2, h2b⟩ : ∃ e2, (stepM D1 (q + 1) x).2 = e2 := ⟨_, rfl⟩
        have HE2a := Lib.hid h2a
        have HE2b := Lib.hid h2b
        have h2c : stepM D1 (q + 1) x = (D2, e2) := Prod.ext h2a h2b
        have HOK2 := Aside0.mk (show DOk D2 from h2a ▸ stepM_ok HOK1.out (by have := HL1.out; omega))
        have HNH2 := Aside0.mk (show D2.held.length + 20000 ≤ 10000000 from by have := (stepM_hs (D := D1) (q + 1) x).1; rw [h2a] at this; have := HL1.out; omega)
        by_cases he2 : e2 = 0
        · have HM := Lib.hid (show putM D fr n x = stepM D2 q (headM (mo + 1) x) by rw [HPM.out, HTM.out, put3, h1c]; simp [he1, h2c, he2])
          subst he1
          subst he2
          clear h1a h1b h1c h2a h2b h2c
          go_enter Tryd.func12, Tryd.ntmps12
          go_wp2_with (first | (go_at_call 24; (with_reducible refine HRD.out.mono ?_); rintro e w1 ⟨rfl, rfl⟩) | (go_at_call 25; (with_reducible refine HN.out.mono ?_); rintro e w2 ⟨A2, c2, rfl, _, hb2⟩; have HB2 := Aside0.mk hb2; have HS2 := Aside0.mk (HS.out.below hb2); clear hb2) | (go_at_call 11; (with_reducible refine (room_calls HS2.out HK.out).mono ?_); rintro e w3 ⟨rfl, rfl⟩) | (go_at_call 27; (with_reducible refine (place_calls HS2.out HK.out 0 (by decide) (by decide)).mono ?_); rintro e w3 ⟨rfl, hb3⟩; have HB3 := Aside0.mk (HB2.out.trans (hb3.mono HB2.out.size)); have HS3 := Aside0.mk (HS2.out.below hb3); clear hb3) | (go_at_call 27; (with_reducible refine (place_calls HS3.out HK.out 1 (by decide) (by decide)).mono ?_); rintro e w4 ⟨rfl, hb4⟩; rw [HTO.out]; have HB4 := Aside0.mk (HB3.out.trans (hb4.mono HB3.out.size)); have HS4 := Aside0.mk (HS3.out.below hb4); clear hb4) | ((with_reducible refine gate_dst (N := 10) ?_ ?_); exact rfl; ((with_reducible refine alloc_at (e := 59) ?_ ?_ (run_alloc59 _) ?_); exact rfl; exact rfl; have HF5 := Aside0.mk (DiskAt.hi HS4.out.d); have HZ5 := Aside0.mk (show (w4.alloc (.cells z59 59)).heap[w4.heap.size]? = some (.cells (nums .u8 zer64).toArray 59 (0, 0)) from heap_alloc_new w4 (.cells z59 59)); have HB5 := Aside0.mk (HB4.out.trans ((below_alloc (Below.refl _ _) (.cells z59 59)).mono HB4.out.size)); have HS5 := Aside0.mk (HS4.out.below (below_alloc (Below.refl _ _) (.cells z59 59))); generalize w4.alloc (.cells z59 59) = w5 at HZ5 HB5 HS5 ⊢; generalize w4.heap.size = q5 at HF5 HZ5 ⊢)) | (go_at_call 28; (with_reducible refine (step64 HS5.out HK.out.d HNH.out q (some ⟨q5, 0, none⟩) 64 zer64 zer64_len (Nat.le_refl _) (C8_young HF5.out HZ5.out zer64_le)).mono ?_); rintro e w6 ⟨rfl, hp6⟩; rw [HE1b.out]; rw [HE1a.out] at hp6; obtain ⟨F6, hF6, hs6, hu6⟩ := SPo.pre (F := F) HB5.out hp6; have HF6 := Aside0.mk hF6; have HS6 := Aside0.mk hs6; have HU6 := Aside0.mk hu6; clear hp6 hF6 hs6 hu6) | (go_at_call 28; (with_reducible refine (step_calls HS6.out HOK1.out HNH1.out (q + 1) A c x (by omega) HXC.out (fun W hW => HC.out W (HU6.out.trans hW HF6.out))).mono ?_); rintro e w7 ⟨rfl, hp7⟩; rw [HE2b.out]; rw [HE2a.out] at hp7; obtain ⟨F7, hF7, hs7, hu7⟩ := SPo.then HF6.out HU6.out hp7; have HF7 := Aside0.mk hF7; have HS7 := Aside0.mk hs7; have HU7 := Aside0.mk hu7; clear hp7 hF7 hs7 hu7) | (go_at_call 29; (with_reducible refine (headOf_calls (HG.out.upd HU7.out HNF.out.1 HNF.out.2) (mo + 1) (by omega) (by omega) A c x (HC.out _ HU7.out) (by omega)).mono ?_); rintro e w8 ⟨rfl, hb8⟩; have HS8 := Aside0.mk (HS7.out.below hb8); have HU8 := Aside0.mk (HU7.out.trans (Upd.of_below (F := F) hb8) (fun _ h => .inl h)); have HF8 := Aside0.mk (show ∀ k, F7 k → F k ∨ w.heap.size ≤ k from HF7.out); have HST := Aside0.mk (run_storeAt_new (P := Tryd.prog) w8 59 z59 (nums .u8 (headM (mo + 1) x)).toArray (info59 _ (headM_length _ _)) (by simp [z59, nums_length, headM_length]) (u8_one _)); clear hb8) | ((with_reducible refine gate_dst (N := 13) ?_ ?_); exact rfl; ((with_reducible refine alloc_at (e := 59) ?_ ?_ (run_alloc59 _) ?_); exact rfl; exact rfl)) | ((with_reducible refine store_at (ty := 59) (.tmp 13) (.tmp 58) ?_ ?_ ?_ HST.out ?_ ?_ ?_); exact rfl; exact rfl; exact rfl; exact rfl; exact rfl; have HF9 := Aside0.mk (DiskAt.hi HS8.out.d); have HZ9 := Aside0.mk (heap_alloc_new w8 (.cells (nums .u8 (headM (mo + 1) x)).toArray 59)); have HU9 := Aside0.mk (HU8.out.trans (Upd.of_below (F := F) (below_alloc (Below.refl w8.heap.size w8) (.cells (nums .u8 (headM (mo + 1) x)).toArray 59))) (fun _ h => .inl h)); have HS9 := Aside0.mk (HS8.out.below (below_alloc (Below.refl _ _) (.cells (nums .u8 (headM (mo + 1) x)).toArray 59))); clear HST; generalize w8.alloc (.cells (nums .u8 (headM (mo + 1) x)).toArray 59) = w9 at HZ9 HU9 HS9 ⊢; generalize w8.heap.size = q9 at HF9 HZ9 ⊢) | (go_at_call 28; (with_reducible refine (step64 HS9.out HOK2.out HNH2.out q (some ⟨q9, 0, none⟩) 64 (headM (mo + 1) x) (headM_length _ _) (Nat.le_refl _) (C8_young HF9.out HZ9.out (headM_le _ _))).mono ?_); rintro e w10 ⟨rfl, hp10⟩; have HP10 := Aside0.mk (SPo.then HF8.out HU9.out hp10); clear hp10))
          go_ret
          exact ⟨by rw [HM.out] <;> rfl, by rw [HM.out]; exact HP10.out⟩
        · have HM := Lib.hid (show putM D fr n x = (D2, e2) by rw [HPM.out, HTM.out, put3, h1c]; simp [he1, h2c, he2])
          have hx1 : (e2 == 0) = false := by simpa using he2
          have hx2 : (e2 != 0) = true := by simpa using he2
          have hx3 : decide (e2 = 0) = false := decide_eq_false he2
          subst he1
          clear h1a h1b h1c h2a h2b h2c he2
          go_enter Tryd.func12, Tryd.ntmps12
          go_wp2_with (first | (go_at_call 24; (with_reducible refine HRD.out.mono ?_); rintro e w1 ⟨rfl, rfl⟩) | (go_at_call 25; (with_reducible refine HN.out.mono ?_); rintro e w2 ⟨A2, c2, rfl, _, hb2⟩; have HB2 := Aside0.mk hb2; have HS2 := Aside0.mk (HS.out.below hb2); clear hb2) | (go_at_call 11; (with_reducible refine (room_calls HS2.out HK.out).mono ?_); rintro e w3 ⟨rfl, rfl⟩) | (go_at_call 27; (with_reducible refine (place_calls HS2.out HK.out 0 (by decide) (by decide)).mono ?_); rintro e w3 ⟨rfl, hb3⟩; have HB3 := Aside0.mk (HB2.out.trans (hb3.mono HB2.out.size)); have HS3 := Aside0.mk (HS2.out.below hb3); clear hb3) | (go_at_call 27; (with_reducible refine (place_calls HS3.out HK.out 1 (by decide) (by decide)).mono ?_); rintro e w4 ⟨rfl, hb4⟩; rw [HTO.out]; have HB4 := Aside0.mk (HB3.out.trans (hb4.mono HB3.out.size)); have HS4 := Aside0.mk (HS3.out.below hb4); clear hb4) | ((with_reducible refine gate_dst (N := 10) ?_ ?_); exact rfl; ((with_reducible refine alloc_at (e := 59) ?_ ?_ (run_alloc59 _) ?_); exact rfl; exact rfl; have HF5 := Aside0.mk (DiskAt.hi HS4.out.d); have HZ5 := Aside0.mk (show (w4.alloc (.cells z59 59)).heap[w4.heap.size]? = some (.cells (nums .u8 zer64).toArray 59 (0, 0)) from heap_alloc_new w4 (.cells z59 59)); have HB5 := Aside0.mk (HB4.out.trans ((below_alloc (Below.refl _ _) (.cells z59 59)).mono HB4.out.size)); have HS5 := Aside0.mk (HS4.out.below (below_alloc (Below.refl _ _) (.cells z59 59))); generalize w4.alloc (.cells z59 59) = w5 at HZ5 HB5 HS5 ⊢; generalize w4.heap.size = q5 at HF5 HZ5 ⊢)) | (go_at_call 28; (with_reducible refine (step64 HS5.out HK.out.d HNH.out q (some ⟨q5, 0, none⟩) 64 zer64 zer64_len (Nat.le_refl _) (C8_young HF5.out HZ5.out zer64_le)).mono ?_); rintro e w6 ⟨rfl, hp6⟩; rw [HE1b.out]; rw [HE1a.out] at hp6; obtain ⟨F6, hF6, hs6, hu6⟩ := SPo.pre (F := F) HB5.out hp6; have HF6 := Aside0.mk hF6; have HS6 := Aside0.mk hs6; have HU6 := Aside0.mk hu6; clear hp6 hF6 hs6 hu6) | (go_at_call 28; (with_reducible refine (step_calls HS6.out HOK1.out HNH1.out (q + 1) A c x (by omega) HXC.out (fun W hW => HC.out W (HU6.out.trans hW HF6.out))).mono ?_); rintro e w7 ⟨rfl, hp7⟩; rw [HE2b.out]; rw [HE2a.out] at hp7; obtain ⟨F7, hF7, hs7, hu7⟩ := SPo.then HF6.out HU6.out hp7; have HF7 := Aside0.mk hF7; have HS7 := Aside0.mk hs7; have HU7 := Aside0.mk hu7; clear hp7 hF7 hs7 hu7))
          go_ret
          exact ⟨by rw [HM.out] <;> rfl, by rw [HM.out]; exact ⟨F7, HF7.out, HS7.out, HU7.out⟩⟩
      · have HM := Lib.hid (show putM D fr n x = (D1, e1) by rw [HPM.out, HTM.out, put3, h1c]; simp [he1])
        have hx1 : (e1 == 0) = false := by simpa using he1
        have hx2 : (e1 != 0) = true := by simpa using he1
        have hx3 : decide (e1 = 0) = false := decide_eq_false he1
        clear h1a h1b h1c he1
        go_enter Tryd.func12, Tryd.ntmps12
        go_wp2_with (first | (go_at_call 24; (with_reducible refine HRD.out.mono ?_); rintro e w1 ⟨rfl, rfl⟩) | (go_at_call 25; (with_reducible refine HN.out.mono ?_); rintro e w2 ⟨A2, c2, rfl, _, hb2⟩; have HB2 := Aside0.mk hb2; have HS2 := Aside0.mk (HS.out.below hb2); clear hb2) | (go_at_call 11; (with_reducible refine (room_calls HS2.out HK.out).mono ?_); rintro e w3 ⟨rfl, rfl⟩) | (go_at_call 27; (with_reducible refine (place_calls HS2.out HK.out 0 (by decide) (by decide)).mono ?_); rintro e w3 ⟨rfl, hb3⟩; have HB3 := Aside0.mk (HB2.out.trans (hb3.mono HB2.out.size)); have HS3 := Aside0.mk (HS2.out.below hb3); clear hb3) | (go_at_call 27; (with_reducible refine (place_calls HS3.out HK.out 1 (by decide) (by decide)).mono ?_); rintro e w4 ⟨rfl, hb4⟩; rw [HTO.out]; have HB4 := Aside0.mk (HB3.out.trans (hb4.mono HB3.out.size)); have HS4 := Aside0.mk (HS3.out.below hb4); clear hb4) | ((with_reducible refine gate_dst (N := 10) ?_ ?_); exact rfl; ((with_reducible refine alloc_at (e := 59) ?_ ?_ (run_alloc59 _) ?_); exact rfl; exact rfl; have HF5 := Aside0.mk (DiskAt.hi HS4.out.d); have HZ5 := Aside0.mk (show (w4.alloc (.cells z59 59)).heap[w4.heap.size]? = some (.cells (nums .u8 zer64).toArray 59 (0, 0)) from heap_alloc_new w4 (.cells z59 59)); have HB5 := Aside0.mk (HB4.out.trans ((below_alloc (Below.refl _ _) (.cells z59 59)).mono HB4.out.size)); have HS5 := Aside0.mk (HS4.out.below (below_alloc (Below.refl _ _) (.cells z59 59))); generalize w4.alloc (.cells z59 59) = w5 at HZ5 HB5 HS5 ⊢; generalize w4.heap.size = q5 at HF5 HZ5 ⊢)) | (go_at_call 28; (with_reducible refine (step64 HS5.out HK.out.d HNH.out q (some ⟨q5, 0, none⟩) 64 zer64 zer64_len (Nat.le_refl _) (C8_young HF5.out HZ5.out zer64_le)).mono ?_); rintro e w6 ⟨rfl, hp6⟩; rw [HE1b.out]; rw [HE1a.out] at hp6; obtain ⟨F6, hF6, hs6, hu6⟩ := SPo.pre (F := F) HB5.out hp6; have HF6 := Aside0.mk hF6; have HS6 := Aside0.mk hs6; have HU6 := Aside0.mk hu6; clear hp6 hF6 hs6 hu6))
        go_ret
        exact ⟨by rw [HM.out] <;> rfl, by rw [HM.out]; exact ⟨F6, HF6.out, HS6.out, HU6.out⟩⟩
    · have hat1 : (at_ == 0) = false := by simpa using hat
      have hat2 : decide (at_ = 0) = false := decide_eq_false hat
      obtain ⟨q, hqq⟩ : ∃ q, fr + 0 * n = q := ⟨_, rfl⟩
      have HTM := Lib.hid (show toM fr n at_ = q by rw [toM, if_neg hat, hqq])
      clear hat
      have HTO := Lib.hid hqq
      have hq0 : 0 ≤ q ∧ q ≤ 2000 := by omega
      obtain ⟨hq00, hq01⟩ := hq0
      clear hqq
      obtain ⟨D1, h1a⟩ : ∃ D1, (stepM D q zer64).1 = D1 := ⟨_, rfl⟩
      obtain ⟨e1, h1b⟩ : ∃ e1, (stepM D q zer64).2 = e1 := ⟨_, rfl⟩
      have HE1a := Lib.hid h1a
      have HE1b := Lib.hid h1b
      have HOK1 := Aside0.mk (show DOk D1 from h1a ▸ stepM_ok HK.out.d (by have := HNH0.out; simp [zer64]; omega))
      have HL1 := Aside0.mk (show D1.held.length ≤ 5000064 from by have := (stepM_hs (D := D) q zer64).1; rw [h1a] at this; simp [zer64] at this; have := HNH0.out; omega)
      have HNH1 := Aside0.mk (show D1.held.length + 20000 ≤ 10000000 by have := HL1.out; omega)
      have h1c : stepM D q zer64 = (D1, e1) := Prod.ext h1a h1b
      by_cases he1 : e1 = 0
      · obtain ⟨D2, h2a⟩ : ∃ D2, (stepM D1 (q + 1) x).1 = D2 := ⟨_, rfl⟩
        obtain ⟨e2, h2b⟩ : ∃ e2, (stepM D1 (q + 1) x).2 = e2 := ⟨_, rfl⟩
        have HE2a := Lib.hid h2a
        have HE2b := Lib.hid h2b
        have h2c : stepM D1 (q + 1) x = (D2, e2) := Prod.ext h2a h2b
        have HOK2 := Aside0.mk (show DOk D2 from h2a ▸ stepM_ok HOK1.out (by have := HL1.out; omega))
        have HNH2 := Aside0.mk (show D2.held.length + 20000 ≤ 10000000 from by have := (stepM_hs (D := D1) (q + 1) x).1; rw [h2a] at this; have := HL1.out; omega)
        by_cases he2 : e2 = 0
        · have HM := Lib.hid (show putM D fr n x = stepM D2 q (headM (mo + 1) x) by rw [HPM.out, HTM.out, put3, h1c]; simp [he1, h2c, he2])
          subst he1
          subst he2
          clear h1a h1b h1c h2a h2b h2c
          go_enter Tryd.func12, Tryd.ntmps12
          go_wp2_with (first | (go_at_call 24; (with_reducible refine HRD.out.mono ?_); rintro e w1 ⟨rfl, rfl⟩) | (go_at_call 25; (with_reducible refine HN.out.mono ?_); rintro e w2 ⟨A2, c2, rfl, _, hb2⟩; have HB2 := Aside0.mk hb2; have HS2 := Aside0.mk (HS.out.below hb2); clear hb2) | (go_at_call 11; (with_reducible refine (room_calls HS2.out HK.out).mono ?_); rintro e w3 ⟨rfl, rfl⟩) | (go_at_call 27; (with_reducible refine (place_calls HS2.out HK.out 0 (by decide) (by decide)).mono ?_); rintro e w3 ⟨rfl, hb3⟩; have HB3 := Aside0.mk (HB2.out.trans (hb3.mono HB2.out.size)); have HS3 := Aside0.mk (HS2.out.below hb3); clear hb3; rw [HTO.out]) | ((with_reducible refine gate_dst (N := 10) ?_ ?_); exact rfl; ((with_reducible refine alloc_at (e := 59) ?_ ?_ (run_alloc59 _) ?_); exact rfl; exact rfl; have HF5 := Aside0.mk (DiskAt.hi HS3.out.d); have HZ5 := Aside0.mk (show (w3.alloc (.cells z59 59)).heap[w3.heap.size]? = some (.cells (nums .u8 zer64).toArray 59 (0, 0)) from heap_alloc_new w3 (.cells z59 59)); have HB5 := Aside0.mk (HB3.out.trans ((below_alloc (Below.refl _ _) (.cells z59 59)).mono HB3.out.size)); have HS5 := Aside0.mk (HS3.out.below (below_alloc (Below.refl _ _) (.cells z59 59))); generalize w3.alloc (.cells z59 59) = w5 at HZ5 HB5 HS5 ⊢; generalize w3.heap.size = q5 at HF5 HZ5 ⊢)) | (go_at_call 28; (with_reducible refine (step64 HS5.out HK.out.d HNH.out q (some ⟨q5, 0, none⟩) 64 zer64 zer64_len (Nat.le_refl _) (C8_young HF5.out HZ5.out zer64_le)).mono ?_); rintro e w6 ⟨rfl, hp6⟩; rw [HE1b.out]; rw [HE1a.out] at hp6; obtain ⟨F6, hF6, hs6, hu6⟩ := SPo.pre (F := F) HB5.out hp6; have HF6 := Aside0.mk hF6; have HS6 := Aside0.mk hs6; have HU6 := Aside0.mk hu6; clear hp6 hF6 hs6 hu6) | (go_at_call 28; (with_reducible refine (step_calls HS6.out HOK1.out HNH1.out (q + 1) A c x (by omega) HXC.out (fun W hW => HC.out W (HU6.out.trans hW HF6.out))).mono ?_); rintro e w7 ⟨rfl, hp7⟩; rw [HE2b.out]; rw [HE2a.out] at hp7; obtain ⟨F7, hF7, hs7, hu7⟩ := SPo.then HF6.out HU6.out hp7; have HF7 := Aside0.mk hF7; have HS7 := Aside0.mk hs7; have HU7 := Aside0.mk hu7; clear hp7 hF7 hs7 hu7) | (go_at_call 29; (with_reducible refine (headOf_calls (HG.out.upd HU7.out HNF.out.1 HNF.out.2) (mo + 1) (by omega) (by omega) A c x (HC.out _ HU7.out) (by omega)).mono ?_); rintro e w8 ⟨rfl, hb8⟩; have HS8 := Aside0.mk (HS7.out.below hb8); have HU8 := Aside0.mk (HU7.out.trans (Upd.of_below (F := F) hb8) (fun _ h => .inl h)); have HF8 := Aside0.mk (show ∀ k, F7 k → F k ∨ w.heap.size ≤ k from HF7.out); have HST := Aside0.mk (run_storeAt_new (P := Tryd.prog) w8 59 z59 (nums .u8 (headM (mo + 1) x)).toArray (info59 _ (headM_length _ _)) (by simp [z59, nums_length, headM_length]) (u8_one _)); clear hb8) | ((with_reducible refine gate_dst (N := 13) ?_ ?_); exact rfl; ((with_reducible refine alloc_at (e := 59) ?_ ?_ (run_alloc59 _) ?_); exact rfl; exact rfl)) | ((with_reducible refine store_at (ty := 59) (.tmp 13) (.tmp 58) ?_ ?_ ?_ HST.out ?_ ?_ ?_); exact rfl; exact rfl; exact rfl; exact rfl; exact rfl; have HF9 := Aside0.mk (DiskAt.hi HS8.out.d); have HZ9 := Aside0.mk (heap_alloc_new w8 (.cells (nums .u8 (headM (mo + 1) x)).toArray 59)); have HU9 := Aside0.mk (HU8.out.trans (Upd.of_below (F := F) (below_alloc (Below.refl w8.heap.size w8) (.cells (nums .u8 (headM (mo + 1) x)).toArray 59))) (fun _ h => .inl h)); have HS9 := Aside0.mk (HS8.out.below (below_alloc (Below.refl _ _) (.cells (nums .u8 (headM (mo + 1) x)).toArray 59))); clear HST; generalize w8.alloc (.cells (nums .u8 (headM (mo + 1) x)).toArray 59) = w9 at HZ9 HU9 HS9 ⊢; generalize w8.heap.size = q9 at HF9 HZ9 ⊢) | (go_at_call 28; (with_reducible refine (step64 HS9.out HOK2.out HNH2.out q (some ⟨q9, 0, none⟩) 64 (headM (mo + 1) x) (headM_length _ _) (Nat.le_refl _) (C8_young HF9.out HZ9.out (headM_le _ _))).mono ?_); rintro e w10 ⟨rfl, hp10⟩; have HP10 := Aside0.mk (SPo.then HF8.out HU9.out hp10); clear hp10))
          go_ret
          exact ⟨by rw [HM.out] <;> rfl, by rw [HM.out]; exact HP10.out⟩
        · have HM := Lib.hid (show putM D fr n x = (D2, e2) by rw [HPM.out, HTM.out, put3, h1c]; simp [he1, h2c, he2])
          have hx1 : (e2 == 0) = false := by simpa using he2
          have hx2 : (e2 != 0) = true := by simpa using he2
          have hx3 : decide (e2 = 0) = false := decide_eq_false he2
          subst he1
          clear h1a h1b h1c h2a h2b h2c he2
          go_enter Tryd.func12, Tryd.ntmps12
          go_wp2_with (first | (go_at_call 24; (with_reducible refine HRD.out.mono ?_); rintro e w1 ⟨rfl, rfl⟩) | (go_at_call 25; (with_reducible refine HN.out.mono ?_); rintro e w2 ⟨A2, c2, rfl, _, hb2⟩; have HB2 := Aside0.mk hb2; have HS2 := Aside0.mk (HS.out.below hb2); clear hb2) | (go_at_call 11; (with_reducible refine (room_calls HS2.out HK.out).mono ?_); rintro e w3 ⟨rfl, rfl⟩) | (go_at_call 27; (with_reducible refine (place_calls HS2.out HK.out 0 (by decide) (by decide)).mono ?_); rintro e w3 ⟨rfl, hb3⟩; have HB3 := Aside0.mk (HB2.out.trans (hb3.mono HB2.out.size)); have HS3 := Aside0.mk (HS2.out.below hb3); clear hb3; rw [HTO.out]) | ((with_reducible refine gate_dst (N := 10) ?_ ?_); exact rfl; ((with_reducible refine alloc_at (e := 59) ?_ ?_ (run_alloc59 _) ?_); exact rfl; exact rfl; have HF5 := Aside0.mk (DiskAt.hi HS3.out.d); have HZ5 := Aside0.mk (show (w3.alloc (.cells z59 59)).heap[w3.heap.size]? = some (.cells (nums .u8 zer64).toArray 59 (0, 0)) from heap_alloc_new w3 (.cells z59 59)); have HB5 := Aside0.mk (HB3.out.trans ((below_alloc (Below.refl _ _) (.cells z59 59)).mono HB3.out.size)); have HS5 := Aside0.mk (HS3.out.below (below_alloc (Below.refl _ _) (.cells z59 59))); generalize w3.alloc (.cells z59 59) = w5 at HZ5 HB5 HS5 ⊢; generalize w3.heap.size = q5 at HF5 HZ5 ⊢)) | (go_at_call 28; (with_reducible refine (step64 HS5.out HK.out.d HNH.out q (some ⟨q5, 0, none⟩) 64 zer64 zer64_len (Nat.le_refl _) (C8_young HF5.out HZ5.out zer64_le)).mono ?_); rintro e w6 ⟨rfl, hp6⟩; rw [HE1b.out]; rw [HE1a.out] at hp6; obtain ⟨F6, hF6, hs6, hu6⟩ := SPo.pre (F := F) HB5.out hp6; have HF6 := Aside0.mk hF6; have HS6 := Aside0.mk hs6; have HU6 := Aside0.mk hu6; clear hp6 hF6 hs6 hu6) | (go_at_call 28; (with_reducible refine (step_calls HS6.out HOK1.out HNH1.out (q + 1) A c x (by omega) HXC.out (fun W hW => HC.out W (HU6.out.trans hW HF6.out))).mono ?_); rintro e w7 ⟨rfl, hp7⟩; rw [HE2b.out]; rw [HE2a.out] at hp7; obtain ⟨F7, hF7, hs7, hu7⟩ := SPo.then HF6.out HU6.out hp7; have HF7 := Aside0.mk hF7; have HS7 := Aside0.mk hs7; have HU7 := Aside0.mk hu7; clear hp7 hF7 hs7 hu7))
          go_ret
          exact ⟨by rw [HM.out] <;> rfl, by rw [HM.out]; exact ⟨F7, HF7.out, HS7.out, HU7.out⟩⟩
      · have HM := Lib.hid (show putM D fr n x = (D1, e1) by rw [HPM.out, HTM.out, put3, h1c]; simp [he1])
        have hx1 : (e1 == 0) = false := by simpa using he1
        have hx2 : (e1 != 0) = true := by simpa using he1
        have hx3 : decide (e1 = 0) = false := decide_eq_false he1
        clear h1a h1b h1c he1
        go_enter Tryd.func12, Tryd.ntmps12
        go_wp2_with (first | (go_at_call 24; (with_reducible refine HRD.out.mono ?_); rintro e w1 ⟨rfl, rfl⟩) | (go_at_call 25; (with_reducible refine HN.out.mono ?_); rintro e w2 ⟨A2, c2, rfl, _, hb2⟩; have HB2 := Aside0.mk hb2; have HS2 := Aside0.mk (HS.out.below hb2); clear hb2) | (go_at_call 11; (with_reducible refine (room_calls HS2.out HK.out).mono ?_); rintro e w3 ⟨rfl, rfl⟩) | (go_at_call 27; (with_reducible refine (place_calls HS2.out HK.out 0 (by decide) (by decide)).mono ?_); rintro e w3 ⟨rfl, hb3⟩; have HB3 := Aside0.mk (HB2.out.trans (hb3.mono HB2.out.size)); have HS3 := Aside0.mk (HS2.out.below hb3); clear hb3; rw [HTO.out]) | ((with_reducible refine gate_dst (N := 10) ?_ ?_); exact rfl; ((with_reducible refine alloc_at (e := 59) ?_ ?_ (run_alloc59 _) ?_); exact rfl; exact rfl; have HF5 := Aside0.mk (DiskAt.hi HS3.out.d); have HZ5 := Aside0.mk (show (w3.alloc (.cells z59 59)).heap[w3.heap.size]? = some (.cells (nums .u8 zer64).toArray 59 (0, 0)) from heap_alloc_new w3 (.cells z59 59)); have HB5 := Aside0.mk (HB3.out.trans ((below_alloc (Below.refl _ _) (.cells z59 59)).mono HB3.out.size)); have HS5 := Aside0.mk (HS3.out.below (below_alloc (Below.refl _ _) (.cells z59 59))); generalize w3.alloc (.cells z59 59) = w5 at HZ5 HB5 HS5 ⊢; generalize w3.heap.size = q5 at HF5 HZ5 ⊢)) | (go_at_call 28; (with_reducible refine (step64 HS5.out HK.out.d HNH.out q (some ⟨q5, 0, none⟩) 64 zer64 zer64_len (Nat.le_refl _) (C8_young HF5.out HZ5.out zer64_le)).mono ?_); rintro e w6 ⟨rfl, hp6⟩; rw [HE1b.out]; rw [HE1a.out] at hp6; obtain ⟨F6, hF6, hs6, hu6⟩ := SPo.pre (F := F) HB5.out hp6; have HF6 := Aside0.mk hF6; have HS6 := Aside0.mk hs6; have HU6 := Aside0.mk hu6; clear hp6 hF6 hs6 hu6))
        go_ret
        exact ⟨by rw [HM.out] <;> rfl, by rw [HM.out]; exact ⟨F6, HF6.out, HS6.out, HU6.out⟩⟩

end Go.Proofs.YtmblnflfklmmkaaDoor.Sh
/- Contracts of package store: Open; a store that is not there. -/
namespace Go.Proofs.YtmblnflfklmmkaaDoor.Sh
open Go.Proofs.YtmblnflfklmmkaaDoor.Dk
open Go.RowKit Go.Proofs.YtmblnflfklmmkaaDoorW.PrintWords Go.Proofs.YtmblnflfklmmkaaDoorW.PrintLast Go.Proofs.YtmblnflfklmmkaaDoorW.PrintMore
set_option linter.unusedVariables false
set_option linter.unusedSimpArgs false
set_option maxRecDepth 30000

variable {w w0 w1 w2 wr : World} {B s g : Nat} {F : Nat → Prop} {D D' : DM} {fr n : Int} {xs hs b : List Int}
theorem sizeS (h : DiskAt w B g F D) : Calls Tryd.prog 26 #[.pointer (some ⟨g, 0, none⟩)] w fun e w' => e = .returned (.int .i64 (D.sec.length : Int)) ∧ w = w' := by
  obtain ⟨_, _, _, h⟩ := h
  exact Size_calls h
def OpenPo (w w' : World) (B g : Nat) (F : Nat → Prop) (D : DM) (fr n : Int) (e : Ending) : Prop :=
  (¬ (2 ≤ n ∧ 0 ≤ fr ∧ fr + 2 * n ≤ (D.sec.length : Int)) ∧ e = .returned (.tuple #[.pointer none, .int .i64 1]) ∧ Below w.heap.size w w') ∨
  ((2 ≤ n ∧ 0 ≤ fr ∧ fr + 2 * n ≤ (D.sec.length : Int)) ∧ ∃ s, e = .returned (.tuple #[.pointer (some ⟨s, 0, none⟩), .int .i64 0]) ∧ SAt w' B s g F D fr n ∧ w.heap.size ≤ s ∧ Below w.heap.size w w')
theorem build56 (g : Nat) (fr n : Int) (w : World) : (Instr.build 56 #[(0, .pointer (some ⟨g, 0, none⟩)), (1, .int .i64 fr), (2, .int .i64 n)]).run Tryd.prog w = .ok (.agg #[.pointer (some ⟨g, 0, none⟩), .int .i64 fr, .int .i64 n]) w := by kernel_rfl
set_option maxHeartbeats 16000000 in
theorem Open_calls (h : DiskAt w B g F D) (hl : D.sec.length ≤ 1000) (fr n : Int) : Calls Tryd.prog 10 #[.pointer (some ⟨g, 0, none⟩), .int .i64 fr, .int .i64 n] w fun e w' => OpenPo w w' B g F D fr n e := by
  have HD := Aside0.mk h
  obtain ⟨S, hS⟩ : ∃ S : Nat, D.sec.length = S := ⟨_, rfl⟩
  have HSS := Lib.hid hS
  have HF := Aside0.mk (DiskAt.hi h)
  rw [hS] at hl
  clear h hS
  by_cases h1 : n < 2
  · have hq : decide (n < 2) = true := decide_eq_true h1
    have HB := Aside0.mk h1
    clear h1
    go_enter Tryd.func10, Tryd.ntmps10
    go_wp2_with (first | (go_at_call 26; (with_reducible refine (sizeS HD.out).mono ?_); rintro e w1 ⟨rfl, rfl⟩; rw [HSS.out]))
    refine bodyPost_ret (results_tmp2 rfl _ _ _) rfl ?_
    exact .inl ⟨by have := HB.out; omega, rfl, Below.refl _ _⟩
  have hq : decide (n < 2) = false := decide_eq_false h1
  by_cases h2 : fr < 0
  · have hq2 : decide (fr < 0) = true := decide_eq_true h2
    have HB := Aside0.mk h2
    clear h2 h1
    go_enter Tryd.func10, Tryd.ntmps10
    go_wp2_with (first | (go_at_call 26; (with_reducible refine (sizeS HD.out).mono ?_); rintro e w1 ⟨rfl, rfl⟩; rw [HSS.out]))
    refine bodyPost_ret (results_tmp2 rfl _ _ _) rfl ?_
    exact .inl ⟨by have := HB.out; omega, rfl, Below.refl _ _⟩
  have hq2 : decide (fr < 0) = false := decide_eq_false h2
  by_cases h3 : (S : Int) < fr
  · have hq3 : decide ((S : Int) < fr) = true := decide_eq_true h3
    have HB := Aside0.mk h3
    have HB1 := Aside0.mk h1
    clear h2 h1 h3
    go_enter Tryd.func10, Tryd.ntmps10
    go_wp2_with (first | (go_at_call 26; (with_reducible refine (sizeS HD.out).mono ?_); rintro e w1 ⟨rfl, rfl⟩; rw [HSS.out]))
    refine bodyPost_ret (results_tmp2 rfl _ _ _) rfl ?_
    exact .inl ⟨by have := HB.out; have := HB1.out; rw [HSS.out]; omega, rfl, Below.refl _ _⟩
  have hq3 : decide ((S : Int) < fr) = false := decide_eq_false h3
  obtain ⟨m, hm⟩ : ∃ m : Int, m = ((S : Int) - fr) / 2 := ⟨_, rfl⟩
  have HM := Lib.hid hm
  have hfr0 : 0 ≤ fr := by omega
  have hfrS : fr ≤ S := by omega
  by_cases h4 : ((S : Int) - fr) / 2 < n
  · have hq4 : decide (((S : Int) - fr) / 2 < n) = true := decide_eq_true h4
    have HB := Aside0.mk (show ¬ fr + 2 * n ≤ (S : Int) by omega)
    clear h2 h1 h3 h4 hm
    go_enter Tryd.func10, Tryd.ntmps10
    go_wp2_with (first | (go_at_call 26; (with_reducible refine (sizeS HD.out).mono ?_); rintro e w1 ⟨rfl, rfl⟩; rw [HSS.out]))
    refine bodyPost_ret (results_tmp2 rfl _ _ _) rfl ?_
    exact .inl ⟨by have := HB.out; rw [HSS.out]; omega, rfl, Below.refl _ _⟩
  · have hq4 : decide (((S : Int) - fr) / 2 < n) = false := decide_eq_false h4
    have HB := Aside0.mk (show 2 ≤ n ∧ 0 ≤ fr ∧ fr + 2 * n ≤ (S : Int) by omega)
    clear h2 h1 h3 h4 hm
    go_enter Tryd.func10, Tryd.ntmps10
    go_wp2_with (first | (go_at_call 26; (with_reducible refine (sizeS HD.out).mono ?_); rintro e w1 ⟨rfl, rfl⟩; rw [HSS.out]))
    refine bodyPost_ret (results_tmp2 rfl _ _ _) rfl ?_
    refine .inr ⟨by rw [HSS.out]; exact HB.out, w.heap.size, rfl, ⟨heap_alloc_new w _, HD.out.frame (G := fun _ => False) (Upd.of_below (below_alloc (Below.refl _ _) _)) (fun _ _ _ h => h), fun h => by have := HF.out _ h; omega⟩, Nat.le_refl _, below_alloc (Below.refl _ _) _⟩
theorem OpenNil_calls (fr n : Int) : Calls Tryd.prog 10 #[.pointer none, .int .i64 fr, .int .i64 n] w fun e w' => e = .returned (.tuple #[.pointer none, .int .i64 3]) ∧ w = w' := by
  go_enter Tryd.func10, Tryd.ntmps10
  go_wp2_with (fail)
  refine bodyPost_ret (results_tmp2 rfl _ _ _) rfl ?_
  exact ⟨rfl, rfl⟩
theorem RoomNil_calls : Calls Tryd.prog 11 #[.pointer none] w fun e w' => e = .returned (.int .i64 0) ∧ w = w' := by
  go_enter Tryd.func11, Tryd.ntmps11
  go_wp2_with (fail)
  go_ret
  exact ⟨rfl, rfl⟩
theorem readyNil_calls : Calls Tryd.prog 24 #[.pointer none] w fun e w' => e = .returned (.int .i64 3) ∧ w = w' := by
  go_enter Tryd.func24, Tryd.ntmps24
  go_wp2_with (fail)
  go_ret
  exact ⟨rfl, rfl⟩
theorem GetNil_calls : Calls Tryd.prog 8 #[.pointer none] w fun e w' => e = .returned (.tuple #[.slice none 0 0, .int .i64 3]) ∧ w = w' := by
  go_enter Tryd.func8, Tryd.ntmps8
  go_wp2_with (first | (go_at_call 24; (with_reducible refine readyNil_calls.mono ?_); rintro e w1 ⟨rfl, rfl⟩))
  refine bodyPost_ret (results_tmp2 rfl _ _ _) rfl ?_
  exact ⟨rfl, rfl⟩
theorem NewestNil_calls : Calls Tryd.prog 9 #[.pointer none] w fun e w' => e = .returned (.tuple #[.int .i64 0, .int .u64 0, .int .i64 3]) ∧ w = w' := by
  go_enter Tryd.func9, Tryd.ntmps9
  go_wp2_with (first | (go_at_call 24; (with_reducible refine readyNil_calls.mono ?_); rintro e w1 ⟨rfl, rfl⟩))
  refine bodyPost_ret (results_tmp3 rfl _ _ _) rfl ?_
  exact ⟨rfl, rfl⟩
theorem PutNil_calls (v : Value) : Calls Tryd.prog 12 #[.pointer none, v] w fun e w' => e = .returned (.int .i64 3) ∧ w = w' := by
  go_enter Tryd.func12, Tryd.ntmps12
  go_wp2_with (first | (go_at_call 24; (with_reducible refine readyNil_calls.mono ?_); rintro e w1 ⟨rfl, rfl⟩))
  go_ret
  exact ⟨rfl, rfl⟩

end Go.Proofs.YtmblnflfklmmkaaDoor.Sh
/- Plain facts about disks: what is written is read, flushed or not. -/
namespace Go.Proofs.YtmblnflfklmmkaaDoor.Dk
open Go.RowKit Go.Proofs.YtmblnflfklmmkaaDoorW.PrintWords Go.Proofs.YtmblnflfklmmkaaDoorW.PrintLast Go.Proofs.YtmblnflfklmmkaaDoorW.PrintMore
set_option linter.unusedVariables false
set_option linter.unusedSimpArgs false
set_option maxRecDepth 30000
variable {D D' : DM} {k : Int} {x : List Int}
/-- A disk whose power does not go. -/
structure Calm (D : DM) : Prop where
  set : D.set = false
  down : D.down = false
theorem calm_goes (h : Calm D) : goesM D = ({ D with strokes := wrap64 (D.strokes + 1) }, false) := by simp [goesM, h.set]
theorem calm_start (D : DM) : Calm (startM D) := ⟨rfl, rfl⟩
theorem calm_at (h : Calm D) (h0 : 0 ≤ k) (h1 : k < (D.sec.length : Int)) : atM D k = 0 := by
  unfold atM
  rw [h.down, if_neg (by decide), if_neg (by omega)]
theorem calm_write (h : Calm D) (h0 : 0 ≤ k) (h1 : k < (D.sec.length : Int)) (hx : x.length = 64) : (writeM D k x).2 = 0 ∧ (writeM D k x).1.held = D.held ++ [(k, x)] ∧ (writeM D k x).1.sec = D.sec ∧ Calm (writeM D k x).1 := by
  have hg := calm_goes (D := holdM D k x) ⟨h.set, h.down⟩
  have e : writeM D k x = ((goesM (holdM D k x)).1, 0) := by
    unfold writeM
    rw [if_neg (by rw [calm_at h h0 h1]; decide), if_neg (by omega), if_neg (by rw [hg]; exact Bool.false_ne_true)]
  rw [e, hg]
  exact ⟨rfl, rfl, rfl, h.set, h.down⟩
theorem calm_flush (h : Calm D) : (flushM D).2 = 0 ∧ (flushM D).1.held = [] ∧ (flushM D).1.sec = putsTo (fun _ => true) D.held D.sec D.held.length ∧ Calm (flushM D).1 := by
  have hg := calm_goes h
  have e : flushM D = (putsM (fun _ => true) (goesM D).1, 0) := by
    unfold flushM
    rw [h.down, if_neg (by decide), if_neg (by rw [hg]; exact Bool.false_ne_true)]
  rw [e, hg]
  exact ⟨rfl, rfl, rfl, h.set, h.down⟩
theorem calm_saveFrom (x : List Int) (k : Int) : ∀ (m i : Nat) (D : DM), Calm D → 0 ≤ k → k + i + m ≤ (D.sec.length : Int) →
    (saveFrom x k m i D).2 = 0 ∧ (saveFrom x k m i D).1.held = D.held ++ (List.range m).map (fun j => (k + ((i + j : Nat) : Int), secAt x (i + j))) ∧ (saveFrom x k m i D).1.sec = D.sec ∧ Calm (saveFrom x k m i D).1
  | 0, i, D, h, _, _ => ⟨rfl, by simp [saveFrom], rfl, h⟩
  | m + 1, i, D, h, h0, h1 => by
    obtain ⟨w1, w2, w3, w4⟩ := calm_write (k := k + i) (x := secAt x i) h (by omega) (by omega) (secAt_length x i)
    have e : saveFrom x k (m + 1) i D = saveFrom x k m (i + 1) (writeM D (k + i) (secAt x i)).1 := by
      rw [saveFrom, if_neg (by rw [w1]; decide)]
    obtain ⟨r1, r2, r3, r4⟩ := calm_saveFrom x k m (i + 1) _ w4 h0 (by rw [w3]; omega)
    rw [e]
    refine ⟨r1, ?_, r3.trans w3, r4⟩
    rw [r2, w2, List.range_succ_eq_map, List.map_cons, List.append_assoc]
    simp [List.map_map, Function.comp_def, Nat.add_assoc, Nat.add_comm 1]
theorem readTo_app (k0 : Int) (f : Nat → List Int) (H : List (Int × List Int)) (s : List Int) (M i : Nat) : ∀ n, n ≤ M → i < n → readTo (k0 + i) (H ++ (List.range M).map (fun j : Nat => (k0 + (j : Int), f j))) s (H.length + n) = f i
  | 0, _, h => absurd h (Nat.not_lt_zero _)
  | n + 1, hn, hi => by
    have e : (H ++ (List.range M).map (fun j : Nat => (k0 + (j : Int), f j))).getD (H.length + n) (0, []) = (k0 + (n : Int), f n) := by
      rw [List.getD_eq_getElem?_getD, List.getElem?_append_right (by omega)]
      simp [show n < M by omega]
    rw [← Nat.add_assoc, readTo, e]
    by_cases h : n = i
    · subst h
      rw [if_pos rfl]
    · rw [if_neg (by simp only; omega)]
      exact readTo_app k0 f H s M i n (by omega) (by omega)
theorem puts_read (H : List (Int × List Int)) (S : List (List Int)) (j : Nat) (hH : ∀ h ∈ H, 0 ≤ h.1 ∧ h.1 < (S.length : Int)) : ∀ n, n ≤ H.length → (putsTo (fun _ => true) H S n).getD j [] = readTo j H (S.getD j []) n
  | 0, _ => rfl
  | n + 1, hn => by
    obtain ⟨a0, a1⟩ := hH (H.getD n (0, [])) (by rw [List.getD_eq_getElem?_getD, List.getElem?_eq_getElem (by omega)]; exact List.getElem_mem (by omega))
    rw [putsTo, if_pos rfl, readTo]
    have hl := putsTo_length (fun _ => true) H S n
    by_cases h : (H.getD n (0, [])).1 = j
    · rw [if_pos h, List.getD_eq_getElem?_getD, List.getElem?_set, if_pos (by omega), if_pos (by omega)]
      rfl
    · rw [if_neg h, List.getD_eq_getElem?_getD, List.getElem?_set, if_neg (by omega), ← List.getD_eq_getElem?_getD]
      exact puts_read H S j hH n (by omega)
/-- A flush changes nothing of what is read. -/
theorem flush_read (h : Calm D) (hok : DOk D) (h0 : 0 ≤ k) : readM (flushM D).1 k = readM D k := by
  obtain ⟨_, f2, f3, _⟩ := calm_flush h
  unfold readM
  rw [f2, f3]
  show (putsTo _ _ _ _).getD k.toNat [] = _
  rw [puts_read D.held D.sec k.toNat hok.at_ _ (Nat.le_refl _), Int.toNat_of_nonneg h0]
theorem readsTo_congr (k : Int) : ∀ m : Nat, (∀ i, i < m → readM D' (k + (i : Nat)) = readM D (k + (i : Nat))) → readsTo D' k m = readsTo D k m
  | 0, _ => rfl
  | m + 1, h => by
    rw [readsTo, readsTo, readsTo_congr k m (fun i hi => h i (by omega)), h m (by omega)]
theorem reads_len (k : Int) (x : List Int) : ∀ m : Nat, (∀ i, i < m → readM D (k + (i : Nat)) = secAt x i) → (readsTo D k m).length = 64 * m
  | 0, _ => rfl
  | m + 1, h => by
    rw [readsTo, List.length_append, reads_len k x m (fun i hi => h i (by omega)), h m (by omega), secAt_length]
    omega
theorem reads_take (k : Int) (x : List Int) : ∀ m : Nat, (∀ i, i < m → readM D (k + (i : Nat)) = secAt x i) → 64 * m ≤ x.length + 63 → (readsTo D k m).take x.length = x.take (64 * m)
  | 0, _, _ => by simp [readsTo]
  | m + 1, h, hm => by
    have ih := reads_take k x m (fun i hi => h i (by omega)) (by omega)
    have hl := reads_len k x m (fun i hi => h i (by omega))
    rw [readsTo, h m (by omega), List.take_append, ih, hl, secAt, Nat.mul_comm m 64, show 64 * (m + 1) = 64 * m + 64 by omega, List.take_add]
    congr 1
    rw [List.take_append, List.take_take, List.length_take, List.length_drop, List.take_replicate]
    rw [show min (x.length - 64 * m - min 64 (x.length - 64 * m)) (64 - min (x.length - 64 * m) 64) = 0 by omega, List.replicate_zero, List.append_nil]
    by_cases h64 : x.length - 64 * m ≤ 64
    · rw [show min (x.length - 64 * m) 64 = x.length - 64 * m by omega, List.take_of_length_le (by rw [List.length_drop]; omega), List.take_of_length_le (by rw [List.length_drop]; omega)]
    · rw [show min (x.length - 64 * m) 64 = 64 by omega]
/-- A calm disk's Save: what comes of it. -/
theorem calm_save (h : Calm D) (h0 : 0 ≤ k) (h1 : k ≤ (D.sec.length : Int)) :
    (((saveM D k x).2 = 0 ∧ ((x.length + 63) / 64 : Nat) ≤ (D.sec.length : Int) - k) ∨ ((saveM D k x).2 = 61 ∧ 64 * ((D.sec.length : Int) - k) < (x.length : Int) ∧ (saveM D k x).1 = D)) := by
  have hsp : spanM D k x.length = if (D.sec.length : Int) - k < needM x.length then 61 else 0 := by
    unfold spanM
    rw [h.down, if_neg (by decide)]
    by_cases hc : (D.sec.length : Int) - k < needM x.length
    · rw [if_pos (.inr (.inr hc)), if_pos hc]
    · rw [if_neg (by omega), if_neg hc]
  rw [need_nat] at hsp
  by_cases hc : (D.sec.length : Int) - k < (((x.length + 63) / 64 : Nat) : Int)
  · rw [if_pos hc] at hsp
    right
    have e : saveM D k x = (D, 61) := by
      unfold saveM
      rw [hsp, if_pos (by decide)]
    rw [e]
    exact ⟨rfl, by omega, rfl⟩
  · rw [if_neg hc] at hsp
    left
    have e : saveM D k x = saveFrom x k ((x.length + 63) / 64) 0 D := by
      unfold saveM
      rw [hsp, if_neg (by decide)]
    rw [e]
    exact ⟨(calm_saveFrom x k _ 0 D h h0 (by omega)).1, by omega⟩
theorem calm_saved (h : Calm D) (h0 : 0 ≤ k) (h1 : k ≤ (D.sec.length : Int)) (hs : (saveM D k x).2 = 0) : Calm (saveM D k x).1 ∧ (saveM D k x).1.sec = D.sec ∧ spanM (saveM D k x).1 k x.length = 0 ∧ (∀ i, i < (x.length + 63) / 64 → readM (saveM D k x).1 (k + (i : Nat)) = secAt x i) := by
  rcases calm_save (x := x) h h0 h1 with ⟨_, hm⟩ | ⟨h2, _⟩
  · have hsp : ∀ D' : DM, D'.down = false → D'.sec = D.sec → spanM D' k x.length = 0 := fun D' hd hs' => by
      unfold spanM
      rw [hd, if_neg (by decide), hs', need_nat, if_neg (by omega)]
    have e : saveM D k x = saveFrom x k ((x.length + 63) / 64) 0 D := by
      unfold saveM
      rw [hsp D h.down rfl, if_neg (by decide)]
    obtain ⟨_, r2, r3, r4⟩ := calm_saveFrom x k ((x.length + 63) / 64) 0 D h h0 (by omega)
    rw [e]
    refine ⟨r4, r3, hsp _ r4.down r3, fun i hi => ?_⟩
    unfold readM
    rw [r2]
    have e2 : (List.range ((x.length + 63) / 64)).map (fun j => (k + ((0 + j : Nat) : Int), secAt x (0 + j))) = (List.range ((x.length + 63) / 64)).map (fun j : Nat => (k + (j : Int), secAt x j)) := by simp
    rw [e2, List.length_append, List.length_map, List.length_range]
    exact readTo_app k (secAt x) D.held _ _ i _ (Nat.le_refl _) hi
  · omega
/-- What was saved is loaded. -/
theorem saved_reads (hr : ∀ i, i < (x.length + 63) / 64 → readM D (k + (i : Nat)) = secAt x i) : (readsTo D k ((x.length + 63) / 64)).take x.length = x := by
  rw [reads_take k x _ hr (by omega), List.take_of_length_le (by omega)]
end Go.Proofs.YtmblnflfklmmkaaDoor.Dk
/- Plain facts about stores: what a Put leaves on a disk whose power does not go. -/
namespace Go.Proofs.YtmblnflfklmmkaaDoor.Sh
open Go.Proofs.YtmblnflfklmmkaaDoor.Dk
open Go.RowKit Go.Proofs.YtmblnflfklmmkaaDoorW.PrintWords Go.Proofs.YtmblnflfklmmkaaDoorW.PrintLast Go.Proofs.YtmblnflfklmmkaaDoorW.PrintMore
set_option linter.unusedVariables false
set_option linter.unusedSimpArgs false
set_option maxRecDepth 30000
variable {D D' : DM} {fr n q k g : Int} {x y b : List Int}
def secN (x : List Int) : Nat := (x.length + 63) / 64
theorem readTo_skip (k : Int) (H K : List (Int × List Int)) (s : List Int) (hK : ∀ h ∈ K, h.1 ≠ k) : ∀ j, j ≤ K.length → readTo k (H ++ K) s (H.length + j) = readTo k H s H.length
  | 0, _ => by
    have : ∀ i, i ≤ H.length → readTo k (H ++ K) s i = readTo k H s i := by
      intro i
      induction i with
      | zero => intro _; rfl
      | succ i ih =>
        intro hi
        have e : (H ++ K).getD i (0, []) = H.getD i (0, []) := by
          rw [List.getD_eq_getElem?_getD, List.getElem?_append_left (by omega), ← List.getD_eq_getElem?_getD]
        rw [readTo, readTo, e, ih (by omega)]
    exact this _ (Nat.le_refl _)
  | j + 1, hj => by
    have e : (H ++ K).getD (H.length + j) (0, []) = K.getD j (0, []) := by
      rw [List.getD_eq_getElem?_getD, List.getElem?_append_right (by omega), Nat.add_sub_cancel_left, ← List.getD_eq_getElem?_getD]
    rw [← Nat.add_assoc, readTo, e, if_neg]
    · exact readTo_skip k H K s hK j (by omega)
    · rw [List.getD_eq_getElem?_getD, List.getElem?_eq_getElem (by omega), Option.getD_some]
      exact hK _ (List.getElem_mem _)
/-- One step on a disk whose power does not go. -/
structure Stepped (D D' : DM) (q : Int) (x : List Int) : Prop where
  calm : Dk.Calm D'
  len : D'.sec.length = D.sec.length
  held : D'.held = []
  ok : DOk D'
  own : ∀ i, i < secN x → readM D' (q + (i : Nat)) = secAt x i
  other : ∀ k, 0 ≤ k → (k < q ∨ q + (secN x : Nat) ≤ k) → readM D' k = readM D k
theorem calm_step (h : Dk.Calm D) (hok : DOk D) (h0 : 0 ≤ q) (h1 : q + (secN x : Nat) ≤ (D.sec.length : Int)) (hn : D.held.length + x.length ≤ 10000000) : (stepM D q x).2 = 0 ∧ Stepped D (stepM D q x).1 q x := by
  have hsp : spanM D q x.length = 0 := by
    unfold spanM
    rw [h.down, if_neg (by decide), need_nat, if_neg (by have : ((x.length + 63) / 64 : Nat) = secN x := rfl; omega)]
  have e : saveM D q x = saveFrom x q (secN x) 0 D := by
    unfold saveM
    rw [hsp, if_neg (by decide)]
    rfl
  obtain ⟨r1, r2, r3, r4⟩ := calm_saveFrom x q (secN x) 0 D h h0 (by omega)
  rw [← e] at r1 r2 r3 r4
  have hs := calm_saved h h0 (by omega) r1
  have hok1 := saveM_ok (k := q) (x := x) hok hn
  obtain ⟨f1, f2, f3, f4⟩ := calm_flush r4
  have em : stepM D q x = flushM (saveM D q x).1 := by rw [stepM, r1, if_neg (by decide)]
  rw [em]
  refine ⟨f1, f4, by rw [f3, putsTo_length, r3], f2, flushM_ok hok1, fun i hi => ?_, fun k hk hd => ?_⟩
  · rw [flush_read r4 hok1 (by omega)]
    exact hs.2.2.2 i hi
  · rw [flush_read r4 hok1 hk]
    unfold readM
    rw [r2, r3, List.length_append, List.length_map, List.length_range]
    refine readTo_skip k D.held _ _ (fun h hh => ?_) (secN x) (by simp)
    rw [List.mem_map] at hh
    obtain ⟨j, hj, rfl⟩ := hh
    rw [List.mem_range] at hj
    simp only
    omega
theorem secAt_self (hx : x.length = 64) : secAt x 0 = x := by
  simp [secAt, hx, List.take_of_length_le]
theorem secN_64 (hx : x.length = 64) : secN x = 1 := by simp [secN, hx]
/-- All three steps. -/
structure Put3 (D D' : DM) (q : Int) (x h : List Int) : Prop where
  calm : Dk.Calm D'
  len : D'.sec.length = D.sec.length
  held : D'.held = []
  ok : DOk D'
  head : readM D' q = h
  own : ∀ i, i < secN x → readM D' (q + 1 + (i : Nat)) = secAt x i
  other : ∀ k, 0 ≤ k → (k < q ∨ q + 1 + (secN x : Nat) ≤ k) → readM D' k = readM D k
theorem calm_put3 {h : List Int} (hc : Dk.Calm D) (hok : DOk D) (h0 : 0 ≤ q) (h1 : q + 1 + (secN x : Nat) ≤ (D.sec.length : Int)) (hn : D.held.length + 100 ≤ 10000000) (hx : x.length ≤ 1000000) (hh : h.length = 64) : (put3 D q x h).2 = 0 ∧ Put3 D (put3 D q x h).1 q x h := by
  have z1 : secN zer64 = 1 := secN_64 zer64_len
  obtain ⟨a1, a2⟩ := calm_step (x := zer64) hc hok h0 (by rw [z1]; omega) (by rw [zer64_len]; omega)
  have hl1 := a2.len
  obtain ⟨b1, b2⟩ := calm_step (q := q + 1) (x := x) a2.calm a2.ok (by omega) (by rw [hl1]; omega) (by rw [a2.held]; simp; omega)
  have hl2 := b2.len
  obtain ⟨c1, c2⟩ := calm_step (q := q) (x := h) b2.calm b2.ok h0 (by rw [hl2, hl1, secN_64 hh]; omega) (by rw [b2.held, hh]; simp)
  have e : put3 D q x h = stepM (stepM (stepM D q zer64).1 (q + 1) x).1 q h := by
    unfold put3
    rw [a1, if_neg (by decide), b1, if_neg (by decide)]
  rw [e]
  have z2 := secN_64 hh
  refine ⟨c1, c2.calm, by rw [c2.len, hl2, hl1], c2.held, c2.ok, ?_, fun i hi => ?_, fun k hk hd => ?_⟩
  · have := c2.own 0 (by rw [z2]; decide)
    rw [secAt_self hh] at this
    simpa using this
  · rw [c2.other _ (by omega) (by rw [z2]; omega)]
    exact b2.own i hi
  · rw [c2.other _ hk (by rw [z2]; omega), b2.other _ hk (by omega), a2.other _ hk (by rw [z1]; omega)]
/-! ### Heads -/
theorem putR_split (hs : List Int) (o m : Nat) (n : Int) (hm : o + m ≤ hs.length) : ∀ j, j ≤ m → putR hs o m n j = hs.take (o + (m - j)) ++ beM j n ++ hs.drop (o + m)
  | 0, _ => by simp [putR, beM]
  | j + 1, hj => by
    rw [putR, putR_split hs o m n hm j (by omega)]
    have e : m - j = (m - 1 - j) + 1 := by omega
    have e2 : m - (j + 1) = m - 1 - j := by omega
    rw [e, e2, ← Nat.add_assoc, List.take_succ_eq_append_getElem (by omega)]
    have hb : beM (j + 1) n = shN n j % 256 :: beM j n := by
      have : ∀ (j : Nat) (n : Int), beM (j + 1) n = shN n j % 256 :: beM j n := by
        intro j
        induction j with
        | zero => intro n; rfl
        | succ j ih =>
          intro n
          have hsh : ∀ (j : Nat) (n : Int), shN (n / 256) j = shN n (j + 1) := by
            intro j
            induction j with
            | zero => intro n; rfl
            | succ j ih =>
              intro n
              show shN (n / 256) j / 256 = shN n (j + 1) / 256
              rw [ih]
          rw [beM, ih, hsh]
          rfl
      exact this j n
    rw [hb]
    simp only [List.append_assoc, List.singleton_append, List.cons_append]
    rw [List.set_append_right _ _ (by rw [List.length_take]; omega)]
    have e3 : o + (m - 1 - j) - (List.take (o + (m - 1 - j)) hs).length = 0 := by rw [List.length_take]; omega
    rw [e3, List.set_cons_zero]
    simp only [List.nil_append]
theorem putR_all (hs : List Int) (o m : Nat) (n : Int) (hm : o + m ≤ hs.length) : putR hs o m n m = hs.take o ++ beM m n ++ hs.drop (o + m) := by
  have := putR_split hs o m n hm m (Nat.le_refl _)
  simpa using this
theorem headM_eq (g : Int) (y : List Int) : headM g y = [73, 77, 80, 82] ++ beM 8 g ++ beM 4 y.length ++ digestM (beM 8 g) y ++ List.replicate 16 0 := by
  have h8 := beM_length 8 g
  have h4 := beM_length 4 (y.length : Int)
  have e1 : putR mark60 4 8 g 8 = [73, 77, 80, 82] ++ beM 8 g ++ List.replicate 52 0 := by
    rw [putR_all mark60 4 8 g (by decide)]
    rfl
  have e2 : headR g y = [73, 77, 80, 82] ++ beM 8 g ++ beM 4 y.length ++ List.replicate 48 0 := by
    rw [headR, e1, putR_all _ 12 4 _ (by simp [h8])]
    simp [List.take_append, List.drop_append, h8, List.take_of_length_le, List.drop_of_length_le]
  have e3 : hgen (headR g y) = beM 8 g := by
    rw [hgen, e2]
    simp [List.take_append, List.drop_append, h8, List.take_of_length_le, List.drop_of_length_le]
  rw [headM, e3, e2]
  simp [List.take_append, List.drop_append, h8, h4, List.take_of_length_le, List.drop_of_length_le]
theorem or_add (a c : Int) (h0 : 0 ≤ a) (h1 : a ≤ 72057594037927935) (h2 : 0 ≤ c) (h3 : c ≤ 255) : num1 a c = a * 256 + c := by
  obtain ⟨a, rfl⟩ := Int.eq_ofNat_of_zero_le h0
  obtain ⟨c, rfl⟩ := Int.eq_ofNat_of_zero_le h2
  have wa : IntKind.u64.wrap ((a : Int) * 256) = ((a * 256 : Nat) : Int) := by
    have e : IntKind.u64.wrap ((a : Int) * 256) = ((a : Int) * 256) % 18446744073709551616 := by simp [IntKind.wrap, IntKind.signed, IntKind.bits]
    rw [e]; omega
  have wc : IntKind.u64.wrap (c : Int) = (c : Int) := by
    have e : IntKind.u64.wrap (c : Int) = (c : Int) % 18446744073709551616 := by simp [IntKind.wrap, IntKind.signed, IntKind.bits]
    rw [e]; omega
  rw [num1, wa, wc]
  have hor : (a * 256) ||| c = a * 256 + c := by
    have := Nat.shiftLeft_add_eq_or_of_lt (b := c) (i := 8) (by omega) a
    rw [Nat.shiftLeft_eq] at this
    exact this.symm
  have e2 : IntKind.u64.wrap (((a * 256 + c : Nat) : Int)) = ((a * 256 + c : Nat) : Int) := by
    have e : IntKind.u64.wrap (((a * 256 + c : Nat) : Int)) = (((a * 256 + c : Nat) : Int)) % 18446744073709551616 := by simp [IntKind.wrap, IntKind.signed, IntKind.bits]
    rw [e]; omega
  have hb : (BitVec.ofInt IntKind.u64.bits ((a * 256 : Nat) : Int) ||| BitVec.ofInt IntKind.u64.bits (c : Int)).toNat = a * 256 + c := by
    rw [BitVec.toNat_or, BitVec.toNat_ofInt, BitVec.toNat_ofInt]
    have hbits : IntKind.u64.bits = 64 := rfl
    rw [hbits]
    have e1 : (((a * 256 : Nat) : Int) % ((2 ^ 64 : Nat) : Int)).toNat = a * 256 := by omega
    have e2 : ((c : Int) % ((2 ^ 64 : Nat) : Int)).toNat = c := by omega
    rw [e1, e2, hor]
  unfold Go.bits
  simp only [hb]
  rw [e2]
  omega
theorem numM_be : ∀ (m : Nat) (n : Int), m ≤ 8 → 0 ≤ n → n < 256 ^ m → numM (beM m n) = n
  | 0, n, _, h0, h1 => by
    have : n = 0 := by simp at h1; omega
    rw [this]; rfl
  | m + 1, n, hm, h0, h1 => by
    have hp : (256 : Int) ^ (m + 1) = 256 ^ m * 256 := by rw [Int.pow_succ]
    have ih := numM_be m (n / 256) (by omega) (by omega) (by rw [hp] at h1; omega)
    have hle : n / 256 ≤ 72057594037927935 := by
      have : (256 : Int) ^ m ≤ 256 ^ 7 := by
        have h := Nat.pow_le_pow_right (n := 256) (by decide) (show m ≤ 7 by omega)
        exact_mod_cast h
      rw [hp] at h1
      have h7 : (256 : Int) ^ 7 = 72057594037927936 := by decide
      omega
    rw [beM]
    unfold numM at ih ⊢
    rw [List.foldl_append, ih]
    show num1 (n / 256) (n % 256) = n
    rw [or_add _ _ (by omega) hle (by omega) (by omega)]
    omega
theorem hdG_head (h0 : 0 ≤ g) (h1 : g ≤ 18446744073709551615) : hdG (headM g y) = g := by
  have h8 := beM_length 8 g
  have e : ((headM g y).drop 4).take 8 = beM 8 g := by
    rw [headM_eq]
    simp [List.take_append, List.drop_append, h8, List.take_of_length_le, List.drop_of_length_le]
  rw [hdG, e]
  exact numM_be 8 g (by decide) h0 (by have : (256 : Int) ^ 8 = 18446744073709551616 := by decide
                                       omega)
theorem hdN_head (hy : y.length ≤ 1000000) : hdN (headM g y) = y.length := by
  have h8 := beM_length 8 g
  have h4 := beM_length 4 (y.length : Int)
  have e : ((headM g y).drop 12).take 4 = beM 4 y.length := by
    rw [headM_eq]
    simp [List.take_append, List.drop_append, h8, h4, List.take_of_length_le, List.drop_of_length_le]
  rw [hdN, e]
  exact numM_be 4 _ (by decide) (by omega) (by have : (256 : Int) ^ 4 = 4294967296 := by decide
                                               omega)
end Go.Proofs.YtmblnflfklmmkaaDoor.Sh
/- Plain facts about stores: what was put is the newest. -/
namespace Go.Proofs.YtmblnflfklmmkaaDoor.Sh
open Go.Proofs.YtmblnflfklmmkaaDoor.Dk
open Go.RowKit Go.Proofs.YtmblnflfklmmkaaDoorW.PrintWords Go.Proofs.YtmblnflfklmmkaaDoorW.PrintLast Go.Proofs.YtmblnflfklmmkaaDoorW.PrintMore
set_option linter.unusedVariables false
set_option linter.unusedSimpArgs false
set_option maxRecDepth 30000
variable {D D' : DM} {fr n q k g : Int} {x y b : List Int}
theorem recM_congr {q : Int} {b : List Int} (hb : ∀ k, q ≤ k → k < q + 1 + ((((hdN b).toNat + 63) / 64 : Nat) : Int) → readM D' k = readM D k) : recM D' q b = recM D q b := by
  unfold recM
  rw [readsTo_congr (q + 1) _ (fun i hi => hb _ (by omega) (by omega))]
/-- An area that no sector of which was turned. -/
theorem areaM_congr (hn : 2 ≤ n) (h : ∀ i, fr + k * n ≤ i → i < fr + k * n + n → readM D' i = readM D i) : areaM D' fr n k = areaM D fr n k := by
  have h0 := h (fr + k * n) (Int.le_refl _) (by omega)
  unfold areaM
  rw [h0]
  obtain ⟨q, hq⟩ : ∃ q, fr + k * n = q := ⟨_, rfl⟩
  rw [hq] at h ⊢
  obtain ⟨b, hb⟩ : ∃ b, readM D q = b := ⟨_, rfl⟩
  rw [hb]
  have hr := numM_range ((b.drop 12).take 4)
  by_cases h1 : hdG b = 0
  · rw [if_pos h1, if_pos h1]
  · rw [if_neg h1, if_neg h1]
    by_cases h2 : 64 * (n - 1) < hdN b
    · rw [if_pos h2, if_pos h2]
    · rw [if_neg h2, if_neg h2]
      have : recM D' q b = recM D q b := recM_congr (fun i hi hi2 => h i hi (by have : 0 ≤ hdN b := hr.1; omega))
      rw [this]
/-- An area that a head and a record were put to. -/
theorem areaM_put (hn : 2 ≤ n) (h0 : 0 < g) (h1 : g ≤ 18446744073709551615) (hx : (x.length : Int) ≤ 64 * (n - 1)) (hx2 : x.length ≤ 1000000) (hh : readM D' (fr + k * n) = headM g x) (ho : ∀ i, i < secN x → readM D' (fr + k * n + 1 + (i : Nat)) = secAt x i) : areaM D' fr n k = some (g, x) := by
  have e1 : hdG (headM g x) = g := hdG_head (by omega) h1
  have e2 : hdN (headM g x) = x.length := hdN_head hx2
  have e3 : recM D' (fr + k * n) (headM g x) = x := by
    unfold recM
    rw [e2, Int.toNat_natCast]
    exact saved_reads ho
  unfold areaM
  rw [hh, e1, if_neg (by omega), e2, if_neg (by omega), e3, if_pos rfl]
theorem areaM_gen {g' : Int} {r : List Int} (h : areaM D fr n k = some (g', r)) : 0 < g' ∧ (r.length : Int) ≤ 64 * (n - 1) := by
  unfold areaM at h
  split at h
  · cases h
  · rename_i h1
    split at h
    · cases h
    · rename_i h2
      split at h
      · injection h with h
        injection h with h3 h4
        have hr := numM_range (((readM D (fr + k * n)).drop 4).take 8)
        have hr2 := numM_range (((readM D (fr + k * n)).drop 12).take 4)
        refine ⟨by rw [← h3]; unfold hdG at h1 ⊢; omega, ?_⟩
        rw [← h4, recM, List.length_take]
        unfold hdN at h2 ⊢
        omega
      · cases h
theorem next_some (st : Int × Int × List Int) (k : Int) (p : Int × List Int) : nextM st k (some p) = if st.2.1 < p.1 then (k, p.1, p.2) else st := rfl
/-- The newest area is one of two. -/
theorem newest_at : (newestM D fr n).1 = -1 ∨ (newestM D fr n).1 = 0 ∨ (newestM D fr n).1 = 1 := by
  unfold newestM
  cases areaM D fr n 0 with
  | none =>
    cases areaM D fr n 1 with
    | none => exact .inl rfl
    | some p =>
      have e0 : nextM (-1, 0, []) 0 none = (-1, 0, []) := rfl
      rw [e0]
      rw [next_some]
      by_cases h : ((-1, 0, []) : Int × Int × List Int).2.1 < p.1
      · exact .inr (.inr (by rw [if_pos h]))
      · exact .inl (by rw [if_neg h])
  | some p0 =>
    have e0 : (nextM (-1, 0, []) 0 (some p0)).1 = -1 ∨ (nextM (-1, 0, []) 0 (some p0)).1 = 0 := by
      rw [next_some]
      by_cases h : ((-1, 0, []) : Int × Int × List Int).2.1 < p0.1
      · exact .inr (by rw [if_pos h])
      · exact .inl (by rw [if_neg h])
    generalize nextM (-1, 0, []) 0 (some p0) = st at e0 ⊢
    cases areaM D fr n 1 with
    | none => rcases e0 with e | e
              · exact .inl e
              · exact .inr (.inl e)
    | some p =>
      rw [next_some]
      by_cases h : st.2.1 < p.1
      · exact .inr (.inr (by rw [if_pos h]))
      · rw [if_neg h]
        rcases e0 with e | e
        · exact .inl e
        · exact .inr (.inl e)
theorem newest_ge {j : Int} (hj : j = 0 ∨ j = 1) {g' : Int} {r : List Int} (h : areaM D fr n j = some (g', r)) : g' ≤ (newestM D fr n).2.1 := by
  have hp := (areaM_gen h).1
  unfold newestM
  rcases hj with rfl | rfl
  · rw [h]
    have e : nextM (-1, 0, []) 0 (some (g', r)) = (0, g', r) := if_pos hp
    rw [e]
    cases areaM D fr n 1 with
    | none => exact Int.le_refl _
    | some p =>
      rw [next_some]
      by_cases hh : g' < p.1
      · rw [if_pos hh]; exact Int.le_of_lt hh
      · rw [if_neg hh]; exact Int.le_refl _
  · rw [h]
    generalize nextM (-1, 0, []) 0 (areaM D fr n 0) = st
    rw [next_some]
    by_cases hh : st.2.1 < g'
    · rw [if_pos hh]; exact Int.le_refl _
    · rw [if_neg hh]; exact Int.not_lt.mp hh
theorem newest_none (h : (newestM D fr n).1 < 0) : (newestM D fr n).2.1 = 0 ∧ areaM D fr n 0 = none ∧ areaM D fr n 1 = none := by
  have h0 : areaM D fr n 0 = none := by
    cases e : areaM D fr n 0 with
    | none => rfl
    | some p =>
      exfalso
      obtain ⟨g', r⟩ := p
      have hp := (areaM_gen e).1
      unfold newestM at h
      rw [e] at h
      have e2 : nextM (-1, 0, []) 0 (some (g', r)) = (0, g', r) := if_pos hp
      rw [e2] at h
      cases e1 : areaM D fr n 1 with
      | none => rw [e1] at h; simp [nextM] at h
      | some p =>
        rw [e1] at h
        rw [next_some] at h
        by_cases hh : g' < p.1
        · rw [if_pos hh] at h; simp at h
        · rw [if_neg hh] at h; simp at h
  have h1 : areaM D fr n 1 = none := by
    cases e : areaM D fr n 1 with
    | none => rfl
    | some p =>
      exfalso
      obtain ⟨g', r⟩ := p
      have hp := (areaM_gen e).1
      unfold newestM at h
      rw [h0, e] at h
      have e2 : nextM (nextM (-1, 0, []) 0 none) 1 (some (g', r)) = (1, g', r) := if_pos hp
      rw [e2] at h
      simp at h
  unfold newestM
  rw [h0, h1]
  exact ⟨rfl, rfl, rfl⟩
/-- Two areas, one of them newer. -/
theorem newest_new {j : Int} (hj : j = 0 ∨ j = 1) (h : areaM D' fr n j = some (g, x)) (ho : ∀ g' r, areaM D' fr n (1 - j) = some (g', r) → g' < g) : newestM D' fr n = (j, g, x) := by
  have hp := (areaM_gen h).1
  unfold newestM
  rcases hj with rfl | rfl
  · rw [h]
    have e : nextM (-1, 0, []) 0 (some (g, x)) = (0, g, x) := if_pos hp
    rw [e]
    cases e1 : areaM D' fr n 1 with
    | none => rfl
    | some p =>
      obtain ⟨g', r⟩ := p
      have := ho g' r e1
      exact if_neg (by simp only; omega)
  · rw [h]
    cases e1 : areaM D' fr n 0 with
    | none => exact if_pos hp
    | some p =>
      obtain ⟨g', r⟩ := p
      have := ho g' r e1
      have hp' := (areaM_gen e1).1
      have e : nextM (-1, 0, []) 0 (some (g', r)) = (0, g', r) := if_pos hp'
      rw [e]
      exact if_pos (by simp only; omega)
def otherM (at_ : Int) : Int := if at_ = 0 then 1 else 0
theorem toM_eq (at_ : Int) : toM fr n at_ = fr + otherM at_ * n := by
  unfold toM otherM
  split <;> rfl
/-- What a Put leaves, the power staying. -/
structure Puts (D D' : DM) (fr n : Int) (x : List Int) : Prop where
  calm : Dk.Calm D'
  len : D'.sec.length = D.sec.length
  held : D'.held = []
  ok : DOk D'
  new : newestM D' fr n = (otherM (newestM D fr n).1, (newestM D fr n).2.1 + 1, x)
  old : areaM D' fr n (1 - otherM (newestM D fr n).1) = areaM D fr n (1 - otherM (newestM D fr n).1)
  out : ∀ k, 0 ≤ k → (k < fr ∨ fr + 2 * n ≤ k) → readM D' k = readM D k
theorem calm_put (hc : Dk.Calm D) (hk : SOk D fr n) (hh : D.held.length ≤ 5000000) (hx : (x.length : Int) ≤ 64 * (n - 1)) (hg : (newestM D fr n).2.1 < 18446744073709551615) : (putM D fr n x).2 = 0 ∧ Puts D (putM D fr n x).1 fr n x := by
  have hn := hk.hn
  have hl := hk.hl
  have hz := hk.hz
  have hf := hk.hf
  have hr := newestM_range (D := D) (fr := fr) (n := n)
  obtain ⟨at_, mo, r, hst⟩ : ∃ at_ mo r, newestM D fr n = (at_, mo, r) := ⟨_, _, _, rfl⟩
  have hat := newest_at (D := D) (fr := fr) (n := n)
  have hge := fun (j : Int) (hj : j = 0 ∨ j = 1) (g' : Int) (r : List Int) => newest_ge (D := D) (fr := fr) (n := n) (r := r) (g' := g') hj
  rw [hst] at hg hr hat hge
  dsimp only at hg hr hat hge
  have hom : otherM at_ = 0 ∨ otherM at_ = 1 := by unfold otherM; split <;> simp
  have hon : 0 ≤ otherM at_ * n ∧ otherM at_ * n ≤ n := by rcases hom with h | h <;> rw [h] <;> omega
  have hsx : (secN x : Int) ≤ n - 1 := by unfold secN; omega
  have hxl : x.length ≤ 64000 := by omega
  obtain ⟨p1, p2⟩ := calm_put3 (q := fr + otherM at_ * n) (x := x) (h := headM (mo + 1) x) hc hk.d (by omega) (by omega) (by omega) (by omega) (headM_length _ _)
  have e : putM D fr n x = put3 D (fr + otherM at_ * n) x (headM (mo + 1) x) := by
    rw [putM, hc.down, if_neg (by decide), if_neg (by omega), hst, if_neg (by dsimp only; omega), toM_eq]
  rw [e]
  have hnew := areaM_put (D' := (put3 D (fr + otherM at_ * n) x (headM (mo + 1) x)).1) (k := otherM at_) hn (g := mo + 1) (by omega) (by omega) hx (by omega) p2.head p2.own
  have hold : areaM (put3 D (fr + otherM at_ * n) x (headM (mo + 1) x)).1 fr n (1 - otherM at_) = areaM D fr n (1 - otherM at_) := areaM_congr hn (fun i h1 h2 => p2.other i (by rcases hom with h | h <;> rw [h] at h1 <;> omega) (by rcases hom with h | h <;> rw [h] at h1 h2 ⊢ <;> omega))
  refine ⟨p1, p2.calm, p2.len, p2.held, p2.ok, ?_, by rw [hst]; exact hold, fun k h1 h2 => p2.other k h1 (by omega)⟩
  rw [hst]
  refine newest_new hom hnew (fun g' r hr' => ?_)
  rw [hold] at hr'
  have := hge (1 - otherM at_) (by rcases hom with h | h <;> rw [h] <;> simp) g' r hr'
  show g' < mo + 1
  omega
theorem Puts.sok (h : Puts D D' fr n x) (hk : SOk D fr n) : SOk D' fr n := ⟨h.ok, hk.hf, hk.hn, by rw [h.len]; exact hk.hl, by rw [h.len]; exact hk.hz⟩
end Go.Proofs.YtmblnflfklmmkaaDoor.Sh
/- Stores of a law's own: the calls on them; the law's known. -/
namespace Go.Proofs.YtmblnflfklmmkaaDoor.Sh
open Go.Proofs.YtmblnflfklmmkaaDoor.Dk
open Go.RowKit Go.Proofs.YtmblnflfklmmkaaDoorW.PrintWords Go.Proofs.YtmblnflfklmmkaaDoorW.PrintLast Go.Proofs.YtmblnflfklmmkaaDoorW.PrintMore
set_option linter.unusedVariables false
set_option linter.unusedSimpArgs false
set_option maxRecDepth 30000
variable {w0 w w' W W' w1 w2 : World} {B s g : Nat} {F F' : Nat → Prop} {D D' : DM} {fr n : Int} {v : Value} {xs x : List Int}
theorem put3_hs {q : Int} {h : List Int} (hh : h.length = 64) : (put3 D q x h).1.held.length ≤ D.held.length + x.length + 128 ∧ (put3 D q x h).1.sec.length = D.sec.length := by
  have h1 := stepM_hs (D := D) q zer64
  rw [zer64_len] at h1
  have h2 := stepM_hs (D := (stepM D q zer64).1) (q + 1) x
  have h3 := stepM_hs (D := (stepM (stepM D q zer64).1 (q + 1) x).1) q h
  unfold put3
  split
  · exact ⟨by omega, h1.2⟩
  · split
    · exact ⟨by omega, h2.2.trans h1.2⟩
    · exact ⟨by omega, (h3.2.trans h2.2).trans h1.2⟩
theorem put3_ok {q : Int} {h : List Int} (hd : DOk D) (hh : h.length = 64) (hn : D.held.length + x.length + 128 ≤ 10000000) : DOk (put3 D q x h).1 := by
  have h1 := stepM_hs (D := D) q zer64
  rw [zer64_len] at h1
  have h2 := stepM_hs (D := (stepM D q zer64).1) (q + 1) x
  have k1 := stepM_ok (D := D) (k := q) (x := zer64) hd (by rw [zer64_len]; omega)
  have k2 := stepM_ok (D := (stepM D q zer64).1) (k := q + 1) (x := x) k1 (by omega)
  have k3 := stepM_ok (D := (stepM (stepM D q zer64).1 (q + 1) x).1) (k := q) (x := h) k2 (by omega)
  unfold put3
  split
  · exact k1
  · split
    · exact k2
    · exact k3
theorem putM_hs : (putM D fr n x).1.held.length ≤ D.held.length + x.length + 128 ∧ (putM D fr n x).1.sec.length = D.sec.length := by
  unfold putM
  split
  · exact ⟨by dsimp only; omega, rfl⟩
  · split
    · exact ⟨by dsimp only; omega, rfl⟩
    · split
      · exact ⟨by dsimp only; omega, rfl⟩
      · exact put3_hs (headM_length _ _)
theorem putM_ok (hd : DOk D) (hn : D.held.length + x.length + 128 ≤ 10000000) : DOk (putM D fr n x).1 := by
  unfold putM
  split
  · exact hd
  · split
    · exact hd
    · split
      · exact hd
      · exact put3_ok hd (headM_length _ _) hn
theorem SOk.dm (hk : SOk D fr n) (h : DOk D') (hl : D'.sec.length = D.sec.length) : SOk D' fr n := ⟨h, hk.hf, hk.hn, by rw [hl]; exact hk.hl, by rw [hl]; exact hk.hz⟩
/-- A store of the law's own, younger than w0. -/
structure Ss (w0 w : World) (s g : Nat) (F : Nat → Prop) (D : DM) (fr n : Int) : Prop where
  S : SAt w w0.heap.size s g F D fr n
  K : SOk D fr n
  G : Glob w0
  b : Below w0.heap.size w0 w
theorem Ss.glob (h : Ss w0 w s g F D fr n) : Glob w := h.G.below h.b
theorem Ss.notF (h : Ss w0 w s g F D fr n) : ¬ F 0 ∧ ¬ F 1 :=
  ⟨fun hf => by have := h.S.d.lo _ hf; have := h.G.lt; omega, fun hf => by have := h.S.d.lo _ hf; have := h.G.lt; omega⟩
theorem Ss.below (h : Ss w0 w s g F D fr n) (hb : Below w.heap.size w w') : Ss w0 w' s g F D fr n := ⟨h.S.below hb, h.K, h.G, below_trans h.b hb⟩
theorem Ss.st (h : Ss w0 w s g F D fr n) : St w0 w g F D := ⟨h.S.d, h.b⟩
/-- Rows of bytes that were there, and are no blocks of the disk's. -/
def Keeps (w w' : World) (F F' : Nat → Prop) : Prop := (∀ A xs, (C8 w A xs ∧ ∀ a, A = some a → a.block < w.heap.size ∧ ¬ F a.block) → C8 w' A xs ∧ ∀ a, A = some a → a.block < w'.heap.size ∧ ¬ F' a.block) ∧ (∀ v xs, Row w F v xs → Row w' F' v xs)
theorem Keeps.of (hF : ∀ k, F' k → F k ∨ w.heap.size ≤ k) (hu : Upd w w' F) : Keeps w w' F F' :=
  ⟨fun A xs ⟨h1, h2⟩ => ⟨h1.upd hu h2, fun a ha => ⟨Nat.lt_of_lt_of_le (h2 a ha).1 hu.size, fun hf => by
    have := h2 a ha
    rcases hF _ hf with h | h
    · exact this.2 h
    · omega⟩⟩, fun v xs h => h.post hF hu⟩
def SsPo (w0 w w' : World) (s g : Nat) (F : Nat → Prop) (D' : DM) (fr n : Int) : Prop := ∃ F', Ss w0 w' s g F' D' fr n ∧ Keeps w w' F F'
theorem Ss.po (h : Ss w0 w s g F D fr n) (hk : SOk D' fr n) (hp : SPo w w' w0.heap.size s g F D' fr n) : SsPo w0 w w' s g F D' fr n := by
  obtain ⟨F', hF, hs, hu⟩ := hp
  exact ⟨F', ⟨hs, hk, h.G, below_upd h.b hu h.S.d.lo⟩, .of hF hu⟩
theorem Ss.dpo (h : Ss w0 w s g F D fr n) (hk : SOk D' fr n) (hp : DPost w w' w0.heap.size g F D') : SsPo w0 w w' s g F D' fr n := h.po hk (h.S.po hp)
/-- The calls, on such a store. -/
theorem ssGet (h : Ss w0 w s g F D fr n) : Calls Tryd.prog 8 #[.pointer (some ⟨s, 0, none⟩)] w fun e w' => GtPo w w' D fr n e := Get_calls h.glob h.S h.K
theorem ssNewest (h : Ss w0 w s g F D fr n) : Calls Tryd.prog 9 #[.pointer (some ⟨s, 0, none⟩)] w fun e w' => NwPo w w' D fr n e := Newest_calls h.glob h.S h.K
theorem ssRoom (h : Ss w0 w s g F D fr n) : Calls Tryd.prog 11 #[.pointer (some ⟨s, 0, none⟩)] w fun e w' => e = .returned (.int .i64 (64 * (n - 1))) ∧ w = w' := room_calls h.S h.K
theorem ssPut (h : Ss w0 w s g F D fr n) (hh : D.held.length ≤ 5000000) (A : Option Addr) (c : Nat) (x : List Int) (hx : x.length ≤ 20000) (hxc : x.length ≤ c) (hC : ∀ W, Upd w W F → C8 W A x) :
    Calls Tryd.prog 12 #[.pointer (some ⟨s, 0, none⟩), .slice A x.length c] w fun e w' => e = .returned (.int .i64 (putM D fr n x).2) ∧ SsPo w0 w w' s g F (putM D fr n x).1 fr n :=
  (Put_calls h.glob h.notF h.S h.K hh A c x hx hxc hC).mono fun e w' ⟨he, hp⟩ => ⟨he, h.po (h.K.dm (putM_ok h.K.d (by omega)) putM_hs.2) hp⟩
/-- What the law knows. -/
def nD0 : DM := newM [] 4 4
def nD1 : DM := (putM nD0 0 2 [1, 2, 3]).1
def nD2 : DM := (putM nD1 0 2 []).1
theorem nD0_calm : Dk.Calm nD0 := ⟨rfl, rfl⟩
theorem nD0_ok : SOk nD0 0 2 := ⟨newM_ok [] 4 (by decide), by decide, by decide, by decide, by decide⟩
theorem nD0_new : newestM nD0 0 2 = (-1, 0, []) := by
  have h0 : areaM nD0 0 2 0 = none := by unfold areaM; rw [if_pos (by decide)]
  have h1 : areaM nD0 0 2 1 = none := by unfold areaM; rw [if_pos (by decide)]
  unfold newestM
  rw [h0, h1]
  rfl
theorem nP1 : (putM nD0 0 2 [1, 2, 3]).2 = 0 ∧ Puts nD0 nD1 0 2 [1, 2, 3] := calm_put nD0_calm nD0_ok (by decide) (by decide) (by rw [nD0_new]; decide)
theorem nD1_new : newestM nD1 0 2 = (0, 1, [1, 2, 3]) := by
  have := nP1.2.new
  rw [nD0_new] at this
  exact this
theorem nP2 : (putM nD1 0 2 []).2 = 0 ∧ Puts nD1 nD2 0 2 [] := calm_put nP1.2.calm (nP1.2.sok nD0_ok) (by rw [nP1.2.held]; decide) (by decide) (by rw [nD1_new]; decide)
theorem nD2_new : newestM nD2 0 2 = (1, 2, []) := by
  have := nP2.2.new
  rw [nD1_new] at this
  exact this
theorem New4 : Calls Tryd.prog 15 #[.slice none 0 0, .int .i64 4] w fun e w' => ∃ g, e = .returned (.tuple #[.pointer (some ⟨g, 0, none⟩), .int .i64 0]) ∧ DiskAt w' w.heap.size g (fun k => w.heap.size ≤ k ∧ k < w'.heap.size) nD0 ∧ Below w.heap.size w w' :=
  New_calls none 0 [] 4 (by decide) (by decide) ⟨rfl, by decide, fun h => absurd h (by decide)⟩ (by unfold newBad; decide)
theorem nOpen (h : DiskAt w w0.heap.size g F nD0) (hg : Glob w0) (hb : Below w0.heap.size w0 w) : Calls Tryd.prog 10 #[.pointer (some ⟨g, 0, none⟩), .int .i64 0, .int .i64 2] w fun e w' => ∃ s, e = .returned (.tuple #[.pointer (some ⟨s, 0, none⟩), .int .i64 0]) ∧ Ss w0 w' s g F nD0 0 2 := by
  refine (Open_calls h (by decide) 0 2).mono ?_
  rintro e w' (⟨hn, _⟩ | ⟨_, s, rfl, hs, _, hb2⟩)
  · exact absurd (by decide) hn
  · exact ⟨s, rfl, hs, nD0_ok, hg, below_trans hb hb2⟩
theorem nGet (h : Ss w0 w s g F nD0 0 2) : Calls Tryd.prog 8 #[.pointer (some ⟨s, 0, none⟩)] w fun e w' => ∃ A c, e = .returned (.tuple #[.slice A 0 c, .int .i64 70]) ∧ Ss w0 w' s g F nD0 0 2 := by
  refine (ssGet h).mono ?_
  rintro e w' ⟨A, c, rfl, _, hb⟩
  have e1 : getE nD0 0 2 = 70 := by unfold getE; rw [nD0_new]; rfl
  have e2 : getR nD0 0 2 = [] := by unfold getR; rw [e1]; rfl
  rw [e1, e2]
  exact ⟨A, c, rfl, h.below hb⟩
theorem nNewest {a k : Int} {r : List Int} (h : Ss w0 w s g F D 0 2) (hd : Dk.Calm D) (hn : newestM D 0 2 = (a, k, r)) (ha : ¬ a < 0) : Calls Tryd.prog 9 #[.pointer (some ⟨s, 0, none⟩)] w fun e w' => e = .returned (.tuple #[.int .i64 a, .int .u64 k, .int .i64 0]) ∧ Ss w0 w' s g F D 0 2 := by
  refine (ssNewest h).mono ?_
  rintro e w' ⟨hb, rfl⟩
  rw [hn, hd.down, if_neg (by decide), if_neg ha]
  exact ⟨rfl, h.below hb⟩
theorem nPut1 (h : Ss w0 w s g F nD0 0 2) (hC : ∀ W, Upd w W F → C8 W (some ⟨B, 0, none⟩) [1, 2, 3]) : Calls Tryd.prog 12 #[.pointer (some ⟨s, 0, none⟩), .slice (some ⟨B, 0, none⟩) 3 3] w fun e w' => e = .returned (.int .i64 0) ∧ ∃ F', Ss w0 w' s g F' nD1 0 2 := by
  refine (ssPut h (by decide) (some ⟨B, 0, none⟩) 3 [1, 2, 3] (by decide) (by decide) hC).mono ?_
  rintro e w' ⟨rfl, F', hs, _⟩
  rw [nP1.1]
  exact ⟨rfl, F', hs⟩
theorem nPut2 (h : Ss w0 w s g F nD1 0 2) : Calls Tryd.prog 12 #[.pointer (some ⟨s, 0, none⟩), .slice none 0 0] w fun e w' => e = .returned (.int .i64 0) ∧ ∃ F', Ss w0 w' s g F' nD2 0 2 := by
  refine (ssPut h (by rw [nP1.2.held]; decide) none 0 [] (by decide) (by decide) (fun W _ => Kd.C_nil _ _)).mono ?_
  rintro e w' ⟨rfl, F', hs, _⟩
  rw [nP2.1]
  exact ⟨rfl, F', hs⟩
theorem build123 (w : World) : (Instr.buildSlice 22 3 #[(0, .int .u8 1), (1, .int .u8 2), (2, .int .u8 3)]).run Tryd.prog w = .ok (.slice (some ⟨w.heap.size, 0, none⟩) 3 3) (w.alloc (.cells (nums .u8 [1, 2, 3]).toArray 5)) := by kernel_rfl
def Kn (w0 w' : World) (e : Ending) : Prop := e = .returned (.bool true) ∧ Below w0.heap.size w0 w'
set_option maxHeartbeats 16000000 in
theorem known_calls (hg : Glob w) : Calls Tryd.prog 13 #[] w fun e w' => Kn w w' e := by
  have HG := Aside0.mk hg
  clear hg
  go_enter Tryd.func13, Tryd.ntmps13
  go_wp2_with (first | (go_at_call 15; (with_reducible refine New4.mono ?_); rintro e w1 ⟨g, rfl, hd1, hb1⟩; have HD1 := Aside0.mk hd1; have HB1 := Aside0.mk hb1; clear hd1 hb1) | (go_at_call 10; (with_reducible refine (nOpen HD1.out HG.out HB1.out).mono ?_); rintro e w2 ⟨s, rfl, hs2⟩; have HS2 := Aside0.mk hs2; clear hs2) | (go_at_call 8; (with_reducible refine (nGet HS2.out).mono ?_); rintro e w3 ⟨A3, c3, rfl, hs3⟩; have HS3 := Aside0.mk hs3; clear hs3))
  have HS4 := Aside0.mk (HS3.out.below (below_alloc (Below.refl _ _) (.cells #[.int .u8 1, .int .u8 2, .int .u8 3] 5)))
  have HC4 := Aside0.mk (C8_young (q := w3.heap.size) (x := [1, 2, 3]) (t := 5) (w := w3.alloc (.cells #[.int .u8 1, .int .u8 2, .int .u8 3] 5)) (DiskAt.hi HS3.out.S.d) (heap_alloc_new w3 _) (by decide))
  go_wp2_with (first | (go_at_call 12; (with_reducible refine (nPut1 HS4.out HC4.out).mono ?_); rintro e w5 ⟨rfl, F5, hs5⟩; have HS5 := Aside0.mk hs5; clear hs5) | (go_at_call 9; (with_reducible refine (nNewest HS5.out nP1.2.calm nD1_new (by decide)).mono ?_); rintro e w6 ⟨rfl, hs6⟩; have HS6 := Aside0.mk hs6; clear hs6) | (go_at_call 12; (with_reducible refine (nPut2 HS6.out).mono ?_); rintro e w7 ⟨rfl, F7, hs7⟩; have HS7 := Aside0.mk hs7; clear hs7) | (go_at_call 9; (with_reducible refine (nNewest HS7.out nP2.2.calm nD2_new (by decide)).mono ?_); rintro e w8 ⟨rfl, hs8⟩; have HS8 := Aside0.mk hs8; clear hs8) | (go_at_call 11; (with_reducible refine (ssRoom HS8.out).mono ?_); rintro e w9 ⟨rfl, rfl⟩))
  go_ret
  exact ⟨rfl, HS8.out.b⟩
end Go.Proofs.YtmblnflfklmmkaaDoor.Sh
/- The law StoreNil. -/
namespace Go.Proofs.YtmblnflfklmmkaaDoor.Sh
open Go.Proofs.YtmblnflfklmmkaaDoor.Dk
open Go.RowKit Go.Proofs.YtmblnflfklmmkaaDoorW.PrintWords Go.Proofs.YtmblnflfklmmkaaDoorW.PrintLast Go.Proofs.YtmblnflfklmmkaaDoorW.PrintMore
set_option linter.unusedVariables false
set_option linter.unusedSimpArgs false
set_option maxRecDepth 30000
variable {w : World}
set_option maxHeartbeats 16000000 in
theorem StoreNil_calls (hg : Glob w) (fr n : Int) (v : Value) : Calls Tryd.prog 3 #[.int .i64 fr, .int .i64 n, v] w fun e w' => Kn w w' e := by
  have HK := Aside0.mk (known_calls hg)
  clear hg
  go_enter Tryd.func3, Tryd.ntmps3
  go_wp2_with (first | (go_at_call 8; (with_reducible refine GetNil_calls.mono ?_); rintro e w1 ⟨rfl, rfl⟩) | (go_at_call 9; (with_reducible refine NewestNil_calls.mono ?_); rintro e w1 ⟨rfl, rfl⟩) | (go_at_call 10; (with_reducible refine (OpenNil_calls _ _).mono ?_); rintro e w1 ⟨rfl, rfl⟩) | (go_at_call 11; (with_reducible refine RoomNil_calls.mono ?_); rintro e w1 ⟨rfl, rfl⟩) | (go_at_call 12; (with_reducible refine (PutNil_calls _).mono ?_); rintro e w1 ⟨rfl, rfl⟩) | (go_at_call 13; (with_reducible refine HK.out.mono ?_); rintro e w2 ⟨rfl, hb2⟩))
  go_ret
  exact ⟨rfl, hb2⟩
end Go.Proofs.YtmblnflfklmmkaaDoor.Sh
/- The law StoreNil holds: called with any arguments that can be read, it returns true and leaves them as they were: the card, tied to the program's text. There is no further condition. -/
namespace Go.Proofs.YtmblnflfklmmkaaDoor.storeNil
open Go.ChangeShapes Go.WideShapes Go.ChangeAt Go.RowKit
open Go.ChangeMaps (open_string shut_string)
set_option linter.unusedVariables false
theorem own : ownKnob Tryd.prog.godebug = none := by kernel_rfl
theorem laidOut : laidOutB Tryd.prog = true := by kernel_rfl
set_option maxHeartbeats 8000000 in
set_option maxRecDepth 100000 in
theorem lifted (os : Os) (started : os.Started) (H : Type) (enc : TypeId × Value → H) :
    ReturnsInHanded {} Tryd.checked os 3 .any (fun w args => (Rows.storeNilSpec.pre enc Tryd.prog Tryd.f3 [] false w args ∧ laidMetH Tryd.prog Sh.laidTabs w) ∧ sizedMet enc Tryd.prog Tryd.f3 (OpenSpec.ofChange Rows.storeNilSpec) false w args) (Rows.storeNilSpec.post enc Tryd.prog Tryd.f3 false true false false) := by
  refine returnsInHanded_of_change_and (C := Tryd.checked) (X := fun w _ => laidMetH Tryd.prog Sh.laidTabs w) (fun _ _ _ hh h => h.of_heap hh) own started (by kernel_rfl) Tryd.func3
    (ChangeSpec.witness_shaped (enc := enc) (C := Tryd.checked) (os := os) (X := fun w _ => laidMetH Tryd.prog Sh.laidTabs w) false (World.doorLaid Tryd.prog 400 os) #[.int .i64 0, .int .i64 0, .slice none 0 0] 8 rfl (World.shaped_of_RefB (by kernel_rfl) (by kernel_rfl)) (by kernel_rfl) (by kernel_rfl) (by kernel_rfl) (Sh.door_met os _)) ?_
  intro W base args ds gs before hval0 hW hcnd hsz0 hL _
  have hG := Sh.of_laid hL
  have hsz : (DataW.weightsEach Tryd.prog (Tryd.f3.params.toList ++ Rows.storeNilSpec.plain.varTypes Tryd.prog) (ds ++ gs)).all (· ≤ reachBytes) = true := hsz0
  have hval : ∀ (j : Nat) t v, Tryd.f3.params[j]? = some t → args[j]? = some v → Value.okWide Tryd.prog W .any base t v := hval0
  have hW' := hW
  obtain ⟨p, q, hA0, hV, rfl, hfz, hnd⟩ := hW
  have hA : DataW.TrodAll enc Tryd.prog W 0 (fun _ => true) true Tryd.f3.params.toList args.toList ds p := hA0
  rw [Tryd.params3] at hA hval hsz
  obtain ⟨v0, vs0, d0, ds0, p0, q0, hargs, rfl, rfl, h0, r0⟩ := trodAll_cons hA
  obtain ⟨v1, vs1, d1, ds1, p1, q1, rfl, rfl, rfl, h1, r1⟩ := trodAll_cons r0
  obtain ⟨v2, vs2, d2, ds2, p2, q2, rfl, rfl, rfl, h2, r2⟩ := trodAll_cons r1
  obtain ⟨rfl, rfl, rfl⟩ := trodAll_nil r2
  obtain rfl : args = #[v0, v1, v2] := by cases args; simp_all
  obtain ⟨rfl, rfl⟩ := trodVars_none hV
  obtain ⟨a0, rfl, rfl, rfl, w0⟩ := open_int Tryd.underlying3 (hval 0 3 v0 rfl rfl) h0
  obtain ⟨a1, rfl, rfl, rfl, w1⟩ := open_int Tryd.underlying3 (hval 1 3 v1 rfl rfl) h1
  obtain ⟨a2, len2, cap2, rfl⟩ := okWide_slice Tryd.underlying22 (hval 2 22 v2 rfl rfl)
  have k2 := h2
  have lt2 : ∀ x ∈ p2, x.block < W.heap.size := by obtain ⟨m, hm⟩ := k2; exact DataW.trod_lt m _ _ _ hm
  clear hA0 hval0 hsz0 hsz
  refine (Sh.StoreNil_calls hG a0 a1 _).mono fun e W' ⟨he, bel⟩ => ?_
  subst he
  exact ⟨_, rfl, _, _, _, [], _, [], hW', trodAll_mk1 (shut_bool Tryd.underlying4 _), (trodAll_cons_mk (shut_int Tryd.underlying3 w0) (trodAll_cons_mk (shut_int Tryd.underlying3 w1) (trodAll_cons_mk (Below.trod laidOut (by kernel_rfl) (of_decide_eq_true (by kernel_rfl)) k2 bel lt2) trodAll_mk0))), rfl, bel.frame _, fun h => by cases h⟩
theorem over : Rows.storeNilRow.holds Tryd.pinned (OpenSpec.ofChange Rows.storeNilSpec) :=
  OpenClaim.holds_of_wide 3 Tryd.f3 rfl rfl rfl rfl rfl rfl rfl ⟨rfl, rfl, rfl, rfl, rfl⟩ rfl rfl rfl rfl rfl (by kernel_rfl) Tryd.func3 (by kernel_rfl)
    (of_decide_eq_true (by kernel_rfl)) (by unfold Func.isWrapper; first | (rw [if_pos (by decide +kernel)]; kernel_rfl) | (rw [if_neg (by decide +kernel)]; exact ⟨rfl, rfl⟩))
    (fun os started H enc _ => lifted os started H enc)
theorem proved : Rows.StoreNilSaid := over
theorem card : Rows.StoreNilCardSaid :=
  Claim7.holds_tied_plain_at .later [] [.data, .data] true (true, "1bf893c75732d78a061eda9ea6a5001f97c392aa8da06d65870c8ce54a6f5033") false
    proved (fun _ h => by cases h) (by kernel_rfl) (fun _ h => by cases h) storeNil_row_tie rfl ⟨rfl, rfl⟩ (by kernel_rfl) rfl
    (fun f fn hf hfn => by
      obtain rfl : f = 3 := Option.some.inj ((show Tryd.prog.funcNamed "imprimatur/imprimaturlaw08.StoreNil" = some 3 by kernel_rfl).symm.trans hf) |>.symm
      obtain rfl : fn = Tryd.f3 := (Option.some.inj (Tryd.func3.symm.trans hfn)).symm
      exact ⟨by kernel_rfl, fun j t ht => by
        rw [Tryd.params3] at ht
        have hm : t ∈ [3, 3, 22] := by simpa using Array.mem_of_getElem? ht
        have hall : ([3, 3, 22].all fun u => !Tryd.prog.wantsStandIn u) = true := by kernel_rfl
        exact (show Tryd.prog.wantsStandIn t = false by simpa using List.all_eq_true.1 hall t hm)⟩)
    (by kernel_rfl)
#print axioms card
end Go.Proofs.YtmblnflfklmmkaaDoor.storeNil
namespace Go.Proofs.YtmblnflfklmmkaaDoor
/-- The statement, under a short name, for the claim. -/
theorem storeNil_holds : Rows.StoreNilCardSaid := storeNil.card
end Go.Proofs.YtmblnflfklmmkaaDoor
