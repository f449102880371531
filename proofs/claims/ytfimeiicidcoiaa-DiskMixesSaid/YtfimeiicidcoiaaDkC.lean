/- Contracts of package disk: Lose, Flush, Set. -/
import Derived.Test.YtfimeiicidcoiaaDkB
namespace Go.Proofs.Ytfimeiicidcoiaa.Dk
open Go.RowKit Go.Proofs.YtfimeiicidcoiaaW.PrintWords Go.Proofs.YtfimeiicidcoiaaW.PrintLast Go.Proofs.YtfimeiicidcoiaaW.PrintMore
set_option linter.unusedVariables false
set_option linter.unusedSimpArgs false
variable {w : World} {B g : Nat} {F : Nat → Prop} {D : DM} {vs vh vc : Value}

theorem C_take {α : Type} {d : Kd α} {w : World} {A : Option Addr} {n : Nat} {xs : List α} (h : d.C w A n xs) (m : Nat) : d.C w A (xs.take m).length (xs.take m) := by
  obtain ⟨h1, h2, h3⟩ := h
  refine ⟨rfl, by simp; omega, fun hp => ?_⟩
  obtain ⟨ad, ha, hc⟩ := h3 (by simp at hp; omega)
  refine ⟨ad, ha, fun j p hj => hc j p ?_⟩
  have hj' := hj
  rw [List.getElem?_take] at hj'
  split at hj'
  · exact hj'
  · cases hj'
theorem l35 {caps : Array Value} (i : Int) (W : World) : (callFunc 35 (#[Value.int .i64 i] ++ caps)).run Try.prog W = .ok (.enter 35 (#[Value.int .i64 i] ++ caps)) W := by
  simp [callFunc, Try.func35, Try.f35]
def loseM (l : List Bool) (D : DM) : DM := if D.down = true then D else { putsM (chB (l.take 4096)) D with down := true }
/-- What Lose's closure reads. -/
structure LoseInv (w : World) (F : Nat → Prop) (A : Option Addr) (l : List Bool) (c : Nat) (W : World) : Prop where
  upd : Upd w W F
  box : W.heap[w.heap.size]? = some (.cells #[.slice A (l.take 4096).length c] 24 (0, 0))
  ch : Kd.C Kd.bool W A (l.take 4096).length (l.take 4096)
def loseInv := LoseInv
theorem loseInv_step {A : Option Addr} {c : Nat} {l : List Bool} (h : DAt w B g F D vs vh vc) (hC : ∀ W', Upd w W' F → Kd.R Kd.bool 4 W' B F vc D.choice → Kd.C Kd.bool W' A l.length l) :
    ∀ W W', loseInv w F A l c W → Upd W W' F → Kd.R Kd.bool 4 W' B F vc D.choice → loseInv w F A l c W' := fun W W' hi hu hr => by
  have hU := hi.upd.trans hu (fun _ h => .inl h)
  exact ⟨hU, (hu.block _ (blk_lt hi.box) (fun hf => by have := (h.lt _ hf).2; omega)).trans hi.box, C_take (hC W' hU hr) 4096⟩
theorem loseInv_call {A : Option Addr} {c : Nat} {l : List Bool} {W : World} (hi : loseInv w F A l c W) (i : Nat) (hle : i ≤ 1000000000) :
    Calls Try.prog 35 (#[Value.int .i64 i] ++ #[.pointer (some ⟨w.heap.size, 0, none⟩)]) W fun e W' => e = .returned (.bool (chB (l.take 4096) i)) ∧ W = W' :=
  Lose1_calls i w.heap.size A c (l.take 4096) W hle (cell_of_one hi.box) hi.ch
theorem loseInv_start {A : Option Addr} {m : Nat} {l : List Bool} (h : DAt w B g F D vs vh vc) (hC : ∀ W', Upd w W' F → Kd.R Kd.bool 4 W' B F vc D.choice → Kd.C Kd.bool W' A l.length l) (n : Nat) (hn : n = (l.take 4096).length) :
    loseInv w F A l m (w.alloc (.cells #[.slice A n m] 24)) := by
  subst hn
  have hu' : Upd w (w.alloc (.cells #[.slice A (l.take 4096).length m] 24)) F := Upd.of_below (below_alloc (Below.refl _ _) _)
  exact ⟨hu', heap_alloc_new w _, C_take (hC _ hu' (h.below (below_alloc (Below.refl _ _) _)).choice) 4096⟩
set_option maxHeartbeats 1000000 in
theorem Lose_calls (h : DAt w B g F D vs vh vc) (hok : DOk D) (A : Option Addr) (c : Nat) (l : List Bool) (hc : l.length ≤ c)
    (hC : ∀ W', Upd w W' F → Kd.R Kd.bool 4 W' B F vc D.choice → Kd.C Kd.bool W' A l.length l) :
    Calls Try.prog 15 #[.pointer (some ⟨g, 0, none⟩), .slice A l.length c] w fun e w' => e = .returned (.tuple #[]) ∧ DiskAt w' B g F (loseM l D) ∧ Upd w w' F := by
  have H := Aside0.mk h
  have HC := Aside0.mk hC
  have HOK := Aside0.mk hok
  have HL := Aside0.mk hc
  have H1 := Aside0.mk (h.below (below_alloc (Below.refl _ _) (.cells #[.slice A l.length c] 24)))
  have HUA := Aside0.mk (Upd.of_below (F := F) (below_alloc (Below.refl w.heap.size w) (.cells #[.slice A l.length c] 24)))
  clear h hC hok hc
  cases hd : D.down with
  | true =>
    have hq := Lib.hid (show loseM l D = D by simp [loseM, hd])
    have hdn := Lib.hid hd
    clear hd
    go_enter Try.func15, Try.ntmps15
    go_wp2_with (first | (go_at_call 10; refine (Up_calls H1.out).mono ?_; rintro e w' ⟨rfl, rfl⟩; rw [hdn.out]))
    refine bodyPost_ret (results_none rfl _ _ _) rfl ?_
    exact ⟨rfl, by rw [hq.out]; exact ⟨_, _, _, H1.out⟩, HUA.out⟩
  | false =>
    have hdn := Lib.hid hd
    have hq := Lib.hid (show loseM l D = { putsM (chB (l.take 4096)) D with down := true } by simp [loseM, hd])
    clear hd
    have hlc := HL.out
    by_cases h4 : l.length ≤ 4096
    · have e4 : (l.take 4096).length = l.length := by rw [List.take_of_length_le h4]
      have I2 := Aside0.mk (loseInv_start H.out HC.out (m := c) l.length e4.symm)
      clear e4
      go_enter Try.func15, Try.ntmps15
      go_wp2_with (first | (go_at_call 10; refine (Up_calls H1.out).mono ?_; rintro e w' ⟨rfl, rfl⟩; rw [hdn.out]))
      refine (puts_calls H1.out HOK.out 35 #[.pointer (some ⟨w.heap.size, 0, none⟩)] (chB (l.take 4096)) (loseInv w F A l c) (loseInv_step H.out HC.out) ?i2 l35 ?i3).mono ?_
      case i2 => exact I2.out
      case i3 => exact fun i W hW hi => loseInv_call hW i (by have := HOK.out.n2; omega)
      rintro e w3 ⟨rfl, ⟨vs', vh', vc', H3⟩, HU3⟩
      have H3' := Aside0.mk (H3.putDown true)
      have HU3' := Aside0.mk ((HUA.out.trans HU3 (fun _ h => .inl h)).trans (H3.upd 2 (.bool true)) (fun _ h => .inl h))
      have h2 := H3.c2
      have hf := H3.free
      clear H3 HU3
      go_wp2
      go_end0
      exact ⟨rfl, by rw [hq.out]; exact ⟨_, _, _, H3'.out⟩, HU3'.out⟩
    · have e4 : (l.take 4096).length = 4096 := by simp; omega
      have hc4 : 4096 ≤ c := by omega
      have hl4 : 4096 < l.length := by omega
      have H1b := Aside0.mk (H.out.below (below_alloc (Below.refl _ _) (.cells #[.slice A 4096 c] 24)))
      have HUAb := Aside0.mk (Upd.of_below (F := F) (below_alloc (Below.refl w.heap.size w) (.cells #[.slice A 4096 c] 24)))
      have I2 := Aside0.mk (loseInv_start H.out HC.out (m := c) 4096 e4.symm)
      clear e4
      go_enter Try.func15, Try.ntmps15
      go_wp2_with (first | (go_at_call 10; refine (Up_calls H1.out).mono ?_; rintro e w' ⟨rfl, rfl⟩; rw [hdn.out]))
      refine (puts_calls H1b.out HOK.out 35 #[.pointer (some ⟨w.heap.size, 0, none⟩)] (chB (l.take 4096)) (loseInv w F A l c) (loseInv_step H.out HC.out) ?i2 l35 ?i3).mono ?_
      case i2 => exact I2.out
      case i3 => exact fun i W hW hi => loseInv_call hW i (by have := HOK.out.n2; omega)
      rintro e w3 ⟨rfl, ⟨vs', vh', vc', H3⟩, HU3⟩
      have H3' := Aside0.mk (H3.putDown true)
      have HU3' := Aside0.mk ((HUAb.out.trans HU3 (fun _ h => .inl h)).trans (H3.upd 2 (.bool true)) (fun _ h => .inl h))
      have h2 := H3.c2
      have hf := H3.free
      clear H3 HU3
      go_wp2
      go_end0
      exact ⟨rfl, by rw [hq.out]; exact ⟨_, _, _, H3'.out⟩, HU3'.out⟩
theorem putsM_ok (keep : Nat → Bool) {D : DM} (h : DOk D) : DOk (putsM keep D) :=
  ⟨fun x hx => by simp [putsM] at hx, by simp only [putsM, putsTo_length]; exact h.n1, Nat.zero_le _, h.n3, h.l1⟩
theorem loseM_ok (l : List Bool) {D : DM} (h : DOk D) : DOk (loseM l D) := by
  unfold loseM
  split
  · exact h
  · have := putsM_ok (chB (l.take 4096)) h
    exact ⟨this.at_, this.n1, this.n2, this.n3, this.l1⟩
theorem goesM_ok {D : DM} (h : DOk D) : DOk (goesM D).1 := by
  unfold goesM
  split
  · exact ⟨h.at_, h.n1, h.n2, h.n3, h.l1⟩
  · split
    · exact ⟨h.at_, h.n1, h.n2, h.n3, by have := h.l1; simp only; omega⟩
    · exact ⟨h.at_, h.n1, h.n2, h.n3, h.l1⟩
theorem startM_ok {D : DM} (h : DOk D) : DOk (startM D) := ⟨h.at_, h.n1, h.n2, by simp [startM], h.l1⟩
/-- The choice of one's own, handed over. -/
theorem own_choice {A : Option Addr} {c : Nat} (h : DAt w B g F D vs vh (.slice A D.choice.length c)) : ∀ W', Upd w W' F → Kd.R Kd.bool 4 W' B F (.slice A D.choice.length c) D.choice → Kd.C Kd.bool W' A D.choice.length D.choice := fun W' _ hr => (Kd.R_reads' hr).2.2
def flushM (D : DM) : DM × Int :=
  if D.down = true then (D, 60) else if (goesM D).2 = true then (loseM (goesM D).1.choice (goesM D).1, 60) else (putsM (fun _ => true) (goesM D).1, 0)
theorem f34 (i : Int) (W : World) : (callFunc 34 (#[Value.int .i64 i] ++ #[])).run Try.prog W = .ok (.enter 34 (#[Value.int .i64 i] ++ #[])) W := by
  simp [callFunc, Try.func34, Try.f34]
set_option maxHeartbeats 1000000 in
theorem Flush_calls (h : DAt w B g F D vs vh vc) (hok : DOk D) :
    Calls Try.prog 13 #[.pointer (some ⟨g, 0, none⟩)] w fun e w' => e = .returned (.int .i64 (flushM D).2) ∧ DiskAt w' B g F (flushM D).1 ∧ Upd w w' F := by
  have H := Aside0.mk h
  have HOK := Aside0.mk hok
  clear h hok
  cases hd : D.down with
  | true =>
    have hq := Lib.hid (show flushM D = (D, 60) by simp [flushM, hd])
    have hr := Lib.hid (show readyM D = 60 by simp [readyM, hd])
    clear hd
    go_enter Try.func13, Try.ntmps13
    go_wp2_with (first | (go_at_call 31; refine (ready_calls H.out).mono ?_; rintro e w' ⟨rfl, rfl⟩; rw [hr.out]))
    go_ret
    exact ⟨by rw [hq.out] <;> rfl, by rw [hq.out]; exact ⟨_, _, _, H.out⟩, Upd.refl _ _⟩
  | false =>
    have hr := Lib.hid (show readyM D = 0 by simp [readyM, hd])
    cases hg : (goesM D).2 with
    | true =>
      have hq := Lib.hid (show flushM D = (loseM (goesM D).1.choice (goesM D).1, 60) by simp [flushM, hd, hg])
      have hg' := Lib.hid hg
      clear hd hg
      go_enter Try.func13, Try.ntmps13
      go_wp2_with (first | (go_at_call 31; refine (ready_calls H.out).mono ?_; rintro e w' ⟨rfl, rfl⟩; rw [hr.out]) | (go_at_call 32; refine (goes_calls H.out HOK.out.l1).mono ?_; rintro e w1 ⟨rfl, h1, hu1⟩; rw [hg'.out]; obtain ⟨Ac, cc, rfl, hlc, _⟩ := Kd.R_reads h1.choice; have H1 := Aside0.mk h1; have HU1 := Aside0.mk hu1; have HLC := Aside0.mk hlc; have hc6 := h1.c6; clear h1 hu1 hlc) | (go_at_call 15; refine (Lose_calls H1.out (goesM_ok HOK.out) Ac cc _ HLC.out (own_choice H1.out)).mono ?_; rintro e w2 ⟨rfl, h2, hu2⟩; have H2 := Aside0.mk h2; have HU2 := Aside0.mk hu2; clear h2 hu2))
      go_ret
      exact ⟨by rw [hq.out] <;> rfl, by rw [hq.out]; exact H2.out, HU1.out.trans HU2.out (fun _ h => .inl h)⟩
    | false =>
      have hq := Lib.hid (show flushM D = (putsM (fun _ => true) (goesM D).1, 0) by simp [flushM, hd, hg])
      have hg' := Lib.hid hg
      clear hd hg
      go_enter Try.func13, Try.ntmps13
      go_wp2_with (first | (go_at_call 31; refine (ready_calls H.out).mono ?_; rintro e w' ⟨rfl, rfl⟩; rw [hr.out]) | (go_at_call 32; refine (goes_calls H.out HOK.out.l1).mono ?_; rintro e w1 ⟨rfl, h1, hu1⟩; rw [hg'.out]; have H1 := Aside0.mk h1; have HU1 := Aside0.mk hu1; clear h1 hu1) | (go_at_call 33; refine (puts_calls H1.out (goesM_ok HOK.out) 34 #[] (fun _ => true) (fun _ => True) (fun _ _ _ _ _ => trivial) trivial f34 (fun i W _ _ => Flush1_calls i W)).mono ?_; rintro e w2 ⟨rfl, h2, hu2⟩; have H2 := Aside0.mk h2; have HU2 := Aside0.mk hu2; clear h2 hu2))
      go_ret
      exact ⟨by rw [hq.out] <;> rfl, by rw [hq.out]; exact H2.out, HU1.out.trans HU2.out (fun _ h => .inl h)⟩
theorem flushM_ok {D : DM} (h : DOk D) : DOk (flushM D).1 := by
  unfold flushM
  split
  · exact h
  · split
    · exact loseM_ok _ (goesM_ok h)
    · exact putsM_ok _ (goesM_ok h)
end Go.Proofs.Ytfimeiicidcoiaa.Dk
