/- The law's plays. -/
import Derived.Test.YtfimeiicidcoiaaLwD
namespace Go.Proofs.Ytfimeiicidcoiaa.Dk
open Go.RowKit Go.Proofs.YtfimeiicidcoiaaW.PrintWords Go.Proofs.YtfimeiicidcoiaaW.PrintLast Go.Proofs.YtfimeiicidcoiaaW.PrintMore
set_option linter.unusedVariables false
set_option linter.unusedSimpArgs false
variable {w W W' wa w2 w3 : World} {B g g2 : Nat} {F F2 : Nat → Prop} {D D' : DM} {R : RM}
theorem cellB {b t : Nat} {cs : Array Value} {m : Nat × Nat} (h : w.heap[b]? = some (.cells cs t m)) (j : Nat) (v : Value) (hj : cs[j]? = some v) : w.cell? ⟨b, j, none⟩ = some v := by simp [World.cell?, h, hj]
theorem DPost.upd (h : DPost w W B g F D') : Upd w W F := by
  obtain ⟨_, _, _, h⟩ := h
  exact h
theorem DPost.cell {b : Nat} {o : Obj} (h : DPost w W B g F D') (hb : ¬ F b) (ho : w.heap[b]? = some o) : W.heap[b]? = some o := (h.upd.block b (by
  rcases Nat.lt_or_ge b w.heap.size with h | h
  · exact h
  · rw [Array.getElem?_eq_none h] at ho; cases ho) hb).trans ho
theorem RefPost.cell {b n : Nat} {o : Obj} (h : RefPost w W B g2 F2 R n) (hb : ¬ F2 b) (ho : w.heap[b]? = some o) : W.heap[b]? = some o := by
  obtain ⟨_, _, _, _, _, _, _, hu⟩ := h
  refine (hu.block b ?_ hb).trans ho
  rcases Nat.lt_or_ge b w.heap.size with h | h
  · exact h
  · rw [Array.getElem?_eq_none h] at ho; cases ho
theorem Two.stepD (h : Two w B g F D g2 F2 R) (hd : DPost w W B g F D') : RefAt W B g2 F2 R ∧ ∃ F', Two W B g F' D' g2 F2 R := by
  obtain ⟨F', hF, hd, hu⟩ := hd
  exact ⟨(h.onD hd hF hu).r, F', h.onD hd hF hu⟩
theorem PlayPost.of {n : Nat} (hb : Below w.heap.size w wa) (h : Two wa B g F D g2 F2 R) (hd : DPost wa w2 B g F D') (hr : RefPost w2 w3 B g2 F2 R n) : PlayPost w w3 B g F D' g2 F2 R n := by
  obtain ⟨F', hF, hd, hu⟩ := hd
  obtain ⟨R', F2', hF2, hr, ho, hw, hs, hu2⟩ := hr
  have hu1 : Upd w wa (fun k => F k ∨ F2 k) := Upd.of_below hb
  exact ⟨F', F2', R', fun k hk => (hF k hk).imp id (fun h => Nat.le_trans hb.size h), fun k hk => (hF2 k hk).imp id (fun h => Nat.le_trans hb.size (Nat.le_trans hu.size h)), (h.onD hd hF hu).onR hr hF2 hu2, ho, hw,
    (hu1.trans (hu.mono (fun _ h => .inl h)) (fun _ h => .inl h)).trans (hu2.mono (fun _ h => .inr h)) (fun _ h => .inl h)⟩
theorem PlayPost.below {n : Nat} (h : PlayPost w w2 B g F D' g2 F2 R n) (hb : Below w2.heap.size w2 W) : PlayPost w W B g F D' g2 F2 R n := by
  obtain ⟨F', F2', R', h1, h2, h3, h4, h5, h6⟩ := h
  exact ⟨F', F2', R', h1, h2, h3.below hb, h4, h5, h6.trans (Upd.of_below (F := fun _ => False) hb) (fun _ h => h.elim)⟩
theorem PlayPost.le {n m : Nat} (h : PlayPost w w2 B g F D' g2 F2 R n) (hm : n ≤ m) : PlayPost w w2 B g F D' g2 F2 R m := by
  obtain ⟨F', F2', R', h1, h2, h3, h4, h5, h6⟩ := h
  exact ⟨F', F2', R', h1, h2, h3, h4, by omega, h6⟩
theorem PlayPost.same (h : Two w B g F D g2 F2 R) (hok : ROk R) (hb : Below w.heap.size w W) (n : Nat) : PlayPost w W B g F D g2 F2 R n :=
  ⟨F, F2, R, fun _ h => .inl h, fun _ h => .inl h, h.below hb, hok, Nat.le_add_right _ _, Upd.of_below hb⟩
theorem OpIs.C {o : OpM} {ab ac : Option Addr} {cb cc : Nat} (h : OpIs w o [.int .i64 o.kind, .int .i64 o.at_, .int .i64 o.n, .slice ab o.b.length cb, .slice ac o.ch.length cc]) :
    o.b.length ≤ cb ∧ o.ch.length ≤ cc ∧ Kd.C (Kd.int .u8) w ab o.b.length o.b ∧ Kd.C Kd.bool w ac o.ch.length o.ch ∧ -9223372036854775808 ≤ o.n ∧ o.n ≤ 9223372036854775807 := by
  obtain ⟨ab', cb', ac', cc', e, h1, h2, h3, h4, h5, h6, h7⟩ := h
  injection e with _ e
  injection e with _ e
  injection e with _ e
  injection e with e1 e
  injection e with e2 _
  injection e1 with e1 _ e3
  injection e2 with e2 _ e4
  subst e1; subst e2; subst e3; subst e4
  exact ⟨h1, h2, h3, h4, h7.2.2⟩
def PlaysPost (w w' : World) (B g : Nat) (F : Nat → Prop) (D' : DM) (g2 : Nat) (F2 : Nat → Prop) (R : RM) (n : Nat) (e : Ending) : Prop := Bl e ∧ PlayPost w w' B g F D' g2 F2 R n
set_option maxHeartbeats 16000000 in
theorem plays_calls (hT : Two w B g F D g2 F2 R) (hDk : DOk D) (hRk : ROk R) (hDn : D.held.length ≤ 5000000) (hRn : R.wait.length ≤ 5000000) (hB : B ≤ w.heap.size) (kd at_ n : Int) (x : List Int) (ch : List Bool) (ab ac : Option Addr) (cb cc : Nat) (hx : x.length ≤ 3000)
    (hO : ∀ W, Upd w W (fun k => B ≤ k) → OpIs W ⟨kd, at_, n, x, ch⟩ [.int .i64 kd, .int .i64 at_, .int .i64 n, .slice ab x.length cb, .slice ac ch.length cc]) :
    Calls Try.prog 29 #[.pointer (some ⟨g, 0, none⟩), .pointer (some ⟨g2, 0, none⟩), .agg #[.int .i64 kd, .int .i64 at_, .int .i64 n, .slice ab x.length cb, .slice ac ch.length cc]] w fun e w' => PlaysPost w w' B g F (playM D ⟨kd, at_, n, x, ch⟩) g2 F2 R (1 + x.length) e := by
  have HT := Aside0.mk hT
  have HDk := Aside0.mk hDk
  have HRk := Aside0.mk hRk
  have HB := Aside0.mk hB
  have HO := Aside0.mk hO
  have HDn := Aside0.mk hDn
  have HRn := Aside0.mk hRn
  have HC := Aside0.mk (show x.length ≤ cb ∧ ch.length ≤ cc ∧ -9223372036854775808 ≤ n ∧ n ≤ 9223372036854775807 from by have h := OpIs.C (o := ⟨kd, at_, n, x, ch⟩) (hO w (Upd.refl _ _)); exact ⟨h.1, h.2.1, h.2.2.2.2.1, h.2.2.2.2.2⟩)
  clear hT hDk hRk hB hO hDn hRn
  have HFB := Aside0.mk HT.out.d.lo
  have HF2B := Aside0.mk (fun k hk => (HT.out.r.lo k hk).1)
  by_cases h1 : kd = 1
  · subst h1
    have hq := Lib.hid (show playM D ⟨1, at_, n, x, ch⟩ = (writeM D at_ x).1 by simp [playM])
    have hbk := heap_alloc_new w (.cells #[.int .i64 1, .int .i64 at_, .int .i64 n, .slice ab x.length cb, .slice ac ch.length cc] 37)
    have hba := below_alloc (Below.refl w.heap.size w) (.cells #[.int .i64 1, .int .i64 at_, .int .i64 n, .slice ab x.length cb, .slice ac ch.length cc] 37)
    have HTa := Aside0.mk (HT.out.below hba)
    have HBA := Aside0.mk hba
    have HBK := Aside0.mk hbk
    have HOA := Aside0.mk (HO.out _ (Upd.of_below (F := fun k => B ≤ k) hba))
    clear hba hbk
    have HTD := Aside0.mk (HTa.out.below (below_drew (Below.refl _ _)))
    have HBKD := Aside0.mk (show (w.alloc (.cells #[.int .i64 1, .int .i64 at_, .int .i64 n, .slice ab x.length cb, .slice ac ch.length cc] 37)).drew.heap[w.heap.size]? = some (.cells #[.int .i64 1, .int .i64 at_, .int .i64 n, .slice ab x.length cb, .slice ac ch.length cc] 37 (0, 0)) from HBK.out)
    have HUD := Aside0.mk (show Upd w (w.alloc (.cells #[.int .i64 1, .int .i64 at_, .int .i64 n, .slice ab x.length cb, .slice ac ch.length cc] 37)).drew (fun k => B ≤ k) from Upd.of_below (below_drew HBA.out))
    go_enter Try.func29, Try.ntmps29
    go_wp2
    refine start_ (n := 14) (S := fun w' => w'.cell? ⟨w.heap.size, 1, none⟩ = some (.int .i64 at_) ∧ w'.cell? ⟨w.heap.size, 3, none⟩ = some (.slice ab x.length cb)) (ds := []) #[false, false, false, false, false, false, false, false, false, false, false, false, false, false] (by kernel_rfl) rfl rfl ⟨cellB HBKD.out 1 _ rfl, cellB HBKD.out 3 _ rfl⟩ (fun hHeld => ?_)
    refine pure_ (i := 0) (N := some 19) (v := ?_) (a' := ?_) #[true, false, false, false, false, false, false, false, false, false, false, false, false, false] rfl rfl (by kernel_rfl) (fun _ _ _ h => h) (Or.inl ⟨by rfl, ?_⟩) ?_ ?_
    rotate_left
    · intro w'
      go_simp
      with_reducible rfl
    rotate_left
    · simp only [Act.put, List.setIfInBounds_toArray, List.set_cons_zero, List.set_cons_succ, i64_w, i32_w]
      rfl
    refine pure_ (i := 1) (N := some 20) (v := ?_) (a' := ?_) #[true, true, false, false, false, false, false, false, false, false, false, false, false, false] rfl rfl (by kernel_rfl) (fun _ _ _ h => h) (Or.inl ⟨by rfl, ?_⟩) ?_ ?_
    rotate_left
    · intro w'
      go_simp
      with_reducible rfl
    rotate_left
    · simp only [Act.put, List.setIfInBounds_toArray, List.set_cons_zero, List.set_cons_succ, i64_w, i32_w]
      rfl
    refine pure_ (i := 3) (N := some 22) (v := ?_) (a' := ?_) #[true, true, false, true, false, false, false, false, false, false, false, false, false, false] rfl rfl (by kernel_rfl) (fun _ _ _ h => h) (Or.inl ⟨by rfl, ?_⟩) ?_ ?_
    rotate_left
    · intro w'
      go_simp
      with_reducible rfl
    rotate_left
    · simp only [Act.put, List.setIfInBounds_toArray, List.set_cons_zero, List.set_cons_succ, i64_w, i32_w]
      rfl
    refine pure_ (i := 6) (N := some 25) (v := ?_) (a' := ?_) #[true, true, false, true, false, false, true, false, false, false, false, false, false, false] rfl rfl (by kernel_rfl) (fun _ _ _ h => h) (Or.inl ⟨by rfl, ?_⟩) ?_ ?_
    rotate_left
    · intro w'
      go_simp
      with_reducible rfl
    rotate_left
    · simp only [Act.put, List.setIfInBounds_toArray, List.set_cons_zero, List.set_cons_succ, i64_w, i32_w]
      rfl
    refine pure_ (i := 7) (N := some 26) (v := ?_) (a' := ?_) #[true, true, false, true, false, false, true, true, false, false, false, false, false, false] rfl rfl (by kernel_rfl) (fun _ _ _ h => h) (Or.inl ⟨by rfl, ?_⟩) ?_ ?_
    rotate_left
    · intro w'
      go_simp
      with_reducible rfl
    rotate_left
    · simp only [Act.put, List.setIfInBounds_toArray, List.set_cons_zero, List.set_cons_succ, i64_w, i32_w]
      rfl
    refine pure_ (i := 9) (N := some 28) (v := ?_) (a' := ?_) #[true, true, false, true, false, false, true, true, false, true, false, false, false, false] rfl rfl (by kernel_rfl) (fun _ _ _ h => h) (Or.inl ⟨by rfl, ?_⟩) ?_ ?_
    rotate_left
    · intro w'
      go_simp
      with_reducible rfl
    rotate_left
    · simp only [Act.put, List.setIfInBounds_toArray, List.set_cons_zero, List.set_cons_succ, i64_w, i32_w]
      rfl
    refine take_ (i := 2) (N := some 21) (v := ?_) (a' := ?_) #[true, true, true, true, false, false, true, true, false, true, false, false, false, false] rfl rfl (by kernel_rfl) (fun _ _ _ h => h) (Or.inl ⟨by rfl, ?_⟩) hHeld ?_ ?_
    rotate_left
    · rintro w' ⟨s0, s1⟩
      go_simp
      with_reducible rfl
    rotate_left
    · simp only [Act.put, List.setIfInBounds_toArray, List.set_cons_zero, List.set_cons_succ, i64_w, i32_w]
      rfl
    refine take_ (i := 4) (N := some 23) (v := ?_) (a' := ?_) #[true, true, true, true, true, false, true, true, false, true, false, false, false, false] rfl rfl (by kernel_rfl) (fun _ _ _ h => h) (Or.inl ⟨by rfl, ?_⟩) hHeld ?_ ?_
    rotate_left
    · rintro w' ⟨s0, s1⟩
      go_simp
      with_reducible rfl
    rotate_left
    · simp only [Act.put, List.setIfInBounds_toArray, List.set_cons_zero, List.set_cons_succ, i64_w, i32_w]
      rfl
    refine take_ (i := 8) (N := some 27) (v := ?_) (a' := ?_) #[true, true, true, true, true, false, true, true, true, true, false, false, false, false] rfl rfl (by kernel_rfl) (fun _ _ _ h => h) (Or.inl ⟨by rfl, ?_⟩) hHeld ?_ ?_
    rotate_left
    · rintro w' ⟨s0, s1⟩
      go_simp
      with_reducible rfl
    rotate_left
    · simp only [Act.put, List.setIfInBounds_toArray, List.set_cons_zero, List.set_cons_succ, i64_w, i32_w]
      rfl
    refine take_ (i := 10) (N := some 29) (v := ?_) (a' := ?_) #[true, true, true, true, true, false, true, true, true, true, true, false, false, false] rfl rfl (by kernel_rfl) (fun _ _ _ h => h) (Or.inl ⟨by rfl, ?_⟩) hHeld ?_ ?_
    rotate_left
    · rintro w' ⟨s0, s1⟩
      go_simp
      with_reducible rfl
    rotate_left
    · simp only [Act.put, List.setIfInBounds_toArray, List.set_cons_zero, List.set_cons_succ, i64_w, i32_w]
      rfl
    refine one_ (i := 5) (N := some 24) #[true, true, true, true, true, true, true, true, true, true, true, false, false, false] rfl rfl (by kernel_rfl) (by decide) (fun K hK => ?_)
    refine goes_ Try.func19 (by kernel_rfl) rfl #[.pointer (some ⟨g, 0, none⟩), .int .i64 at_, .slice ab x.length cb] (by rfl) rfl rfl (by simp only [List.map_toArray, List.map_cons, List.map_nil]; rfl) ?_
    with_reducible refine (dWrite HTD.out.d HDk.out (by have := HDn.out; omega) at_ ab cb x (OpIs.C (o := ⟨1, at_, n, x, ch⟩) (HO.out _ HUD.out)).2.2.1).mono ?_
    rintro e w2 ⟨rfl, hd⟩
    refine ⟨_, rfl, ?_⟩
    have HD2 := Aside0.mk hd
    have HT2 := Aside0.mk (HTD.out.stepD hd)
    have HBK2 := Aside0.mk (hd.cell (fun hk => Nat.lt_irrefl _ (HT.out.d.lt _ hk)) HBKD.out)
    have HU2 := Aside0.mk hd.upd
    clear hd
    refine hK.out _ _ ⟨cellB HBK2.out 1 _ rfl, cellB HBK2.out 3 _ rfl⟩ (fun hHeld => ?_)
    clear hK K
    refine norm_ (a' := ?_) ?_ ?_
    rotate_left
    · show Act.put _ (some 24) _ = _
      simp only [Act.put, List.setIfInBounds_toArray, List.set_cons_zero, List.set_cons_succ, i64_w, i32_w]
      rfl
    refine one_ (i := 11) (N := some 30) #[true, true, true, true, true, true, true, true, true, true, true, true, false, false] rfl rfl (by kernel_rfl) (by decide) (fun K hK => ?_)
    refine goes_ Try.func40 (by kernel_rfl) rfl #[.pointer (some ⟨g2, 0, none⟩), .int .i64 at_, .slice ab x.length cb] (by rfl) rfl rfl (by simp only [List.map_toArray, List.map_cons, List.map_nil]; rfl) ?_
    with_reducible refine (rPost_write HT2.out.1 HRk.out (by have := HB.out; have := HBA.out.size; have := HU2.out.size; have hh : (w.alloc (.cells #[.int .i64 1, .int .i64 at_, .int .i64 n, .slice ab x.length cb, .slice ac ch.length cc] 37)).drew.heap.size = (w.alloc (.cells #[.int .i64 1, .int .i64 at_, .int .i64 n, .slice ab x.length cb, .slice ac ch.length cc] 37)).heap.size := rfl; omega) (by have := HRn.out; omega) at_ ab cb x (OpIs.C (o := ⟨1, at_, n, x, ch⟩) (HO.out _ (HUD.out.trans HU2.out (fun k hk => .inl (HFB.out k hk))))).2.2.1).mono ?_
    rintro e w3 ⟨⟨n3, rfl⟩, hr⟩
    refine ⟨_, rfl, ?_⟩
    have HR3 := Aside0.mk hr
    have HBK3 := Aside0.mk (hr.cell (fun hk => Nat.lt_irrefl _ (HT.out.r.lo _ hk).2) HBK2.out)
    clear hr
    refine hK.out _ _ ⟨cellB HBK3.out 1 _ rfl, cellB HBK3.out 3 _ rfl⟩ (fun hHeld => ?_)
    clear hK K
    refine norm_ (a' := ?_) ?_ ?_
    rotate_left
    · show Act.put _ (some 30) _ = _
      simp only [Act.put, List.setIfInBounds_toArray, List.set_cons_zero, List.set_cons_succ, i64_w, i32_w]
      rfl
    refine pure_ (i := 12) (N := some 31) (v := ?_) (a' := ?_) #[true, true, true, true, true, true, true, true, true, true, true, true, true, false] rfl rfl (by kernel_rfl) (fun _ _ _ h => h) (Or.inl ⟨by rfl, ?_⟩) ?_ ?_
    rotate_left
    · intro w'
      go_simp
      with_reducible rfl
    rotate_left
    · simp only [Act.put, List.setIfInBounds_toArray, List.set_cons_zero, List.set_cons_succ, i64_w, i32_w]
      rfl
    refine pure_ (i := 13) (N := some 6) (v := ?_) (a' := ?_) #[true, true, true, true, true, true, true, true, true, true, true, true, true, true] rfl rfl (by kernel_rfl) (fun _ _ _ h => h) (Or.inl ⟨by rfl, ?_⟩) ?_ ?_
    rotate_left
    · intro w'
      go_simp
      with_reducible rfl
    rotate_left
    · simp only [Act.put, List.setIfInBounds_toArray, List.set_cons_zero, List.set_cons_succ, i64_w, i32_w]
      rfl
    refine done_ (by kernel_rfl) ?_
    clear hHeld
    go_wp2
    go_ret
    refine ⟨⟨_, rfl⟩, ?_⟩
    rw [hq.out]
    exact (PlayPost.of (below_drew HBA.out) HTD.out HD2.out HR3.out).le (by omega)
  by_cases h2 : kd = 2
  · subst h2
    clear h1
    have hq := Lib.hid (show playM D ⟨2, at_, n, x, ch⟩ = (flushM D).1 by simp [playM])
    have hbk := heap_alloc_new w (.cells #[.int .i64 2, .int .i64 at_, .int .i64 n, .slice ab x.length cb, .slice ac ch.length cc] 37)
    have hba := below_alloc (Below.refl w.heap.size w) (.cells #[.int .i64 2, .int .i64 at_, .int .i64 n, .slice ab x.length cb, .slice ac ch.length cc] 37)
    have HTa := Aside0.mk (HT.out.below hba)
    have HBA := Aside0.mk hba
    have HBK := Aside0.mk hbk
    have HOA := Aside0.mk (HO.out _ (Upd.of_below (F := fun k => B ≤ k) hba))
    clear hba hbk
    go_enter Try.func29, Try.ntmps29
    go_wp2_with (first | (go_at_call 13; refine (dFlush HTa.out.d HDk.out).mono ?_; rintro e w2 ⟨rfl, hd⟩; have HD2 := Aside0.mk hd; have HT2 := Aside0.mk (HTa.out.stepD hd); clear hd) | (go_at_call 41; refine (rPost_flush HT2.out.1 HRk.out).mono ?_; rintro e w3 ⟨⟨n3, rfl⟩, hr⟩; have HR3 := Aside0.mk hr; clear hr))
    go_ret
    refine ⟨⟨_, rfl⟩, ?_⟩
    rw [hq.out]
    exact (PlayPost.of HBA.out HTa.out HD2.out HR3.out).le (by omega)
  by_cases h3 : kd = 3
  · subst h3
    clear h1
    clear h2
    have hq := Lib.hid (show playM D ⟨3, at_, n, x, ch⟩ = (setM D n ch).1 by simp [playM])
    have hbk := heap_alloc_new w (.cells #[.int .i64 3, .int .i64 at_, .int .i64 n, .slice ab x.length cb, .slice ac ch.length cc] 37)
    have hba := below_alloc (Below.refl w.heap.size w) (.cells #[.int .i64 3, .int .i64 at_, .int .i64 n, .slice ab x.length cb, .slice ac ch.length cc] 37)
    have HTa := Aside0.mk (HT.out.below hba)
    have HBA := Aside0.mk hba
    have HBK := Aside0.mk hbk
    have HOA := Aside0.mk (HO.out _ (Upd.of_below (F := fun k => B ≤ k) hba))
    clear hba hbk
    have HTD := Aside0.mk (HTa.out.below (below_drew (Below.refl _ _)))
    have HBKD := Aside0.mk (show (w.alloc (.cells #[.int .i64 3, .int .i64 at_, .int .i64 n, .slice ab x.length cb, .slice ac ch.length cc] 37)).drew.heap[w.heap.size]? = some (.cells #[.int .i64 3, .int .i64 at_, .int .i64 n, .slice ab x.length cb, .slice ac ch.length cc] 37 (0, 0)) from HBK.out)
    have HUD := Aside0.mk (show Upd w (w.alloc (.cells #[.int .i64 3, .int .i64 at_, .int .i64 n, .slice ab x.length cb, .slice ac ch.length cc] 37)).drew (fun k => B ≤ k) from Upd.of_below (below_drew HBA.out))
    go_enter Try.func29, Try.ntmps29
    go_wp2
    refine start_ (n := 14) (S := fun w' => w'.cell? ⟨w.heap.size, 2, none⟩ = some (.int .i64 n) ∧ w'.cell? ⟨w.heap.size, 4, none⟩ = some (.slice ac ch.length cc)) (ds := []) #[false, false, false, false, false, false, false, false, false, false, false, false, false, false] (by kernel_rfl) rfl rfl ⟨cellB HBKD.out 2 _ rfl, cellB HBKD.out 4 _ rfl⟩ (fun hHeld => ?_)
    refine pure_ (i := 0) (N := some 41) (v := ?_) (a' := ?_) #[true, false, false, false, false, false, false, false, false, false, false, false, false, false] rfl rfl (by kernel_rfl) (fun _ _ _ h => h) (Or.inl ⟨by rfl, ?_⟩) ?_ ?_
    rotate_left
    · intro w'
      go_simp
      with_reducible rfl
    rotate_left
    · simp only [Act.put, List.setIfInBounds_toArray, List.set_cons_zero, List.set_cons_succ, i64_w, i32_w]
      rfl
    refine pure_ (i := 1) (N := some 42) (v := ?_) (a' := ?_) #[true, true, false, false, false, false, false, false, false, false, false, false, false, false] rfl rfl (by kernel_rfl) (fun _ _ _ h => h) (Or.inl ⟨by rfl, ?_⟩) ?_ ?_
    rotate_left
    · intro w'
      go_simp
      with_reducible rfl
    rotate_left
    · simp only [Act.put, List.setIfInBounds_toArray, List.set_cons_zero, List.set_cons_succ, i64_w, i32_w]
      rfl
    refine pure_ (i := 3) (N := some 44) (v := ?_) (a' := ?_) #[true, true, false, true, false, false, false, false, false, false, false, false, false, false] rfl rfl (by kernel_rfl) (fun _ _ _ h => h) (Or.inl ⟨by rfl, ?_⟩) ?_ ?_
    rotate_left
    · intro w'
      go_simp
      with_reducible rfl
    rotate_left
    · simp only [Act.put, List.setIfInBounds_toArray, List.set_cons_zero, List.set_cons_succ, i64_w, i32_w]
      rfl
    refine pure_ (i := 6) (N := some 47) (v := ?_) (a' := ?_) #[true, true, false, true, false, false, true, false, false, false, false, false, false, false] rfl rfl (by kernel_rfl) (fun _ _ _ h => h) (Or.inl ⟨by rfl, ?_⟩) ?_ ?_
    rotate_left
    · intro w'
      go_simp
      with_reducible rfl
    rotate_left
    · simp only [Act.put, List.setIfInBounds_toArray, List.set_cons_zero, List.set_cons_succ, i64_w, i32_w]
      rfl
    refine pure_ (i := 7) (N := some 48) (v := ?_) (a' := ?_) #[true, true, false, true, false, false, true, true, false, false, false, false, false, false] rfl rfl (by kernel_rfl) (fun _ _ _ h => h) (Or.inl ⟨by rfl, ?_⟩) ?_ ?_
    rotate_left
    · intro w'
      go_simp
      with_reducible rfl
    rotate_left
    · simp only [Act.put, List.setIfInBounds_toArray, List.set_cons_zero, List.set_cons_succ, i64_w, i32_w]
      rfl
    refine pure_ (i := 9) (N := some 50) (v := ?_) (a' := ?_) #[true, true, false, true, false, false, true, true, false, true, false, false, false, false] rfl rfl (by kernel_rfl) (fun _ _ _ h => h) (Or.inl ⟨by rfl, ?_⟩) ?_ ?_
    rotate_left
    · intro w'
      go_simp
      with_reducible rfl
    rotate_left
    · simp only [Act.put, List.setIfInBounds_toArray, List.set_cons_zero, List.set_cons_succ, i64_w, i32_w]
      rfl
    refine take_ (i := 2) (N := some 43) (v := ?_) (a' := ?_) #[true, true, true, true, false, false, true, true, false, true, false, false, false, false] rfl rfl (by kernel_rfl) (fun _ _ _ h => h) (Or.inl ⟨by rfl, ?_⟩) hHeld ?_ ?_
    rotate_left
    · rintro w' ⟨s0, s1⟩
      go_simp
      with_reducible rfl
    rotate_left
    · simp only [Act.put, List.setIfInBounds_toArray, List.set_cons_zero, List.set_cons_succ, i64_w, i32_w]
      rfl
    refine take_ (i := 4) (N := some 45) (v := ?_) (a' := ?_) #[true, true, true, true, true, false, true, true, false, true, false, false, false, false] rfl rfl (by kernel_rfl) (fun _ _ _ h => h) (Or.inl ⟨by rfl, ?_⟩) hHeld ?_ ?_
    rotate_left
    · rintro w' ⟨s0, s1⟩
      go_simp
      with_reducible rfl
    rotate_left
    · simp only [Act.put, List.setIfInBounds_toArray, List.set_cons_zero, List.set_cons_succ, i64_w, i32_w]
      rfl
    refine take_ (i := 8) (N := some 49) (v := ?_) (a' := ?_) #[true, true, true, true, true, false, true, true, true, true, false, false, false, false] rfl rfl (by kernel_rfl) (fun _ _ _ h => h) (Or.inl ⟨by rfl, ?_⟩) hHeld ?_ ?_
    rotate_left
    · rintro w' ⟨s0, s1⟩
      go_simp
      with_reducible rfl
    rotate_left
    · simp only [Act.put, List.setIfInBounds_toArray, List.set_cons_zero, List.set_cons_succ, i64_w, i32_w]
      rfl
    refine take_ (i := 10) (N := some 51) (v := ?_) (a' := ?_) #[true, true, true, true, true, false, true, true, true, true, true, false, false, false] rfl rfl (by kernel_rfl) (fun _ _ _ h => h) (Or.inl ⟨by rfl, ?_⟩) hHeld ?_ ?_
    rotate_left
    · rintro w' ⟨s0, s1⟩
      go_simp
      with_reducible rfl
    rotate_left
    · simp only [Act.put, List.setIfInBounds_toArray, List.set_cons_zero, List.set_cons_succ, i64_w, i32_w]
      rfl
    refine one_ (i := 5) (N := some 46) #[true, true, true, true, true, true, true, true, true, true, true, false, false, false] rfl rfl (by kernel_rfl) (by decide) (fun K hK => ?_)
    refine goes_ Try.func25 (by kernel_rfl) rfl #[.pointer (some ⟨g, 0, none⟩), .int .i64 n, .slice ac ch.length cc] (by rfl) rfl rfl (by simp only [List.map_toArray, List.map_cons, List.map_nil]; rfl) ?_
    with_reducible refine (dSet HTD.out.d n ac cc ch (OpIs.C (o := ⟨3, at_, n, x, ch⟩) (HO.out _ HUD.out)).2.2.2.1).mono ?_
    rintro e w2 ⟨rfl, hd⟩
    refine ⟨_, rfl, ?_⟩
    have HD2 := Aside0.mk hd
    have HT2 := Aside0.mk (HTD.out.stepD hd)
    have HBK2 := Aside0.mk (hd.cell (fun hk => Nat.lt_irrefl _ (HT.out.d.lt _ hk)) HBKD.out)
    have HU2 := Aside0.mk hd.upd
    clear hd
    refine hK.out _ _ ⟨cellB HBK2.out 2 _ rfl, cellB HBK2.out 4 _ rfl⟩ (fun hHeld => ?_)
    clear hK K
    refine norm_ (a' := ?_) ?_ ?_
    rotate_left
    · show Act.put _ (some 46) _ = _
      simp only [Act.put, List.setIfInBounds_toArray, List.set_cons_zero, List.set_cons_succ, i64_w, i32_w]
      rfl
    refine one_ (i := 11) (N := some 52) #[true, true, true, true, true, true, true, true, true, true, true, true, false, false] rfl rfl (by kernel_rfl) (by decide) (fun K hK => ?_)
    refine goes_ Try.func42 (by kernel_rfl) rfl #[.pointer (some ⟨g2, 0, none⟩), .int .i64 n, .slice ac ch.length cc] (by rfl) rfl rfl (by simp only [List.map_toArray, List.map_cons, List.map_nil]; rfl) ?_
    with_reducible refine (rPost_set HT2.out.1 HRk.out n HC.out.2.2.2 ac cc ch HC.out.2.1 (fun W hW => (OpIs.C (o := ⟨3, at_, n, x, ch⟩) (HO.out _ ((HUD.out.trans HU2.out (fun k hk => .inl (HFB.out k hk))).trans hW (fun k hk => .inl hk)))).2.2.2.1)).mono ?_
    rintro e w3 ⟨⟨n3, rfl⟩, hr⟩
    refine ⟨_, rfl, ?_⟩
    have HR3 := Aside0.mk hr
    have HBK3 := Aside0.mk (hr.cell (fun hk => Nat.lt_irrefl _ (HT.out.r.lo _ hk).2) HBK2.out)
    clear hr
    refine hK.out _ _ ⟨cellB HBK3.out 2 _ rfl, cellB HBK3.out 4 _ rfl⟩ (fun hHeld => ?_)
    clear hK K
    refine norm_ (a' := ?_) ?_ ?_
    rotate_left
    · show Act.put _ (some 52) _ = _
      simp only [Act.put, List.setIfInBounds_toArray, List.set_cons_zero, List.set_cons_succ, i64_w, i32_w]
      rfl
    refine pure_ (i := 12) (N := some 53) (v := ?_) (a' := ?_) #[true, true, true, true, true, true, true, true, true, true, true, true, true, false] rfl rfl (by kernel_rfl) (fun _ _ _ h => h) (Or.inl ⟨by rfl, ?_⟩) ?_ ?_
    rotate_left
    · intro w'
      go_simp
      with_reducible rfl
    rotate_left
    · simp only [Act.put, List.setIfInBounds_toArray, List.set_cons_zero, List.set_cons_succ, i64_w, i32_w]
      rfl
    refine pure_ (i := 13) (N := some 6) (v := ?_) (a' := ?_) #[true, true, true, true, true, true, true, true, true, true, true, true, true, true] rfl rfl (by kernel_rfl) (fun _ _ _ h => h) (Or.inl ⟨by rfl, ?_⟩) ?_ ?_
    rotate_left
    · intro w'
      go_simp
      with_reducible rfl
    rotate_left
    · simp only [Act.put, List.setIfInBounds_toArray, List.set_cons_zero, List.set_cons_succ, i64_w, i32_w]
      rfl
    refine done_ (by kernel_rfl) ?_
    clear hHeld
    go_wp2
    go_ret
    refine ⟨⟨_, rfl⟩, ?_⟩
    rw [hq.out]
    exact (PlayPost.of (below_drew HBA.out) HTD.out HD2.out HR3.out).le (by omega)
  by_cases h4 : kd = 4
  · subst h4
    clear h1
    clear h2
    clear h3
    have hq := Lib.hid (show playM D ⟨4, at_, n, x, ch⟩ = loseM ch D by simp [playM])
    have hbk := heap_alloc_new w (.cells #[.int .i64 4, .int .i64 at_, .int .i64 n, .slice ab x.length cb, .slice ac ch.length cc] 37)
    have hba := below_alloc (Below.refl w.heap.size w) (.cells #[.int .i64 4, .int .i64 at_, .int .i64 n, .slice ab x.length cb, .slice ac ch.length cc] 37)
    have HTa := Aside0.mk (HT.out.below hba)
    have HBA := Aside0.mk hba
    have HBK := Aside0.mk hbk
    have HOA := Aside0.mk (HO.out _ (Upd.of_below (F := fun k => B ≤ k) hba))
    clear hba hbk
    go_enter Try.func29, Try.ntmps29
    go_wp2_with (first | (go_at_call 15; refine (dLose HTa.out.d HDk.out ac cc ch HC.out.2.1 (fun W hW => (OpIs.C (o := ⟨4, at_, n, x, ch⟩) (HO.out _ ((Upd.of_below (F := fun k => B ≤ k) HBA.out).trans hW (fun k hk => .inl (HFB.out k hk))))).2.2.2.1)).mono ?_; rintro e w2 ⟨rfl, hd⟩; have HD2 := Aside0.mk hd; have HT2 := Aside0.mk (HTa.out.stepD hd); have HU2 := Aside0.mk hd.upd; have hbk2 := cellB (hd.cell (fun hk => Nat.lt_irrefl _ (HT.out.d.lt _ hk)) HBK.out) 4 _ rfl; clear hd) | (go_at_call 43; refine (rPost_lose HT2.out.1 HRk.out ac cc ch (fun W hW => (OpIs.C (o := ⟨4, at_, n, x, ch⟩) (HO.out _ (((Upd.of_below (F := fun k => B ≤ k) HBA.out).trans HU2.out (fun k hk => .inl (HFB.out k hk))).trans hW (fun k hk => .inl (HF2B.out k hk))))).2.2.2.1)).mono ?_; rintro e w3 ⟨rfl, hr⟩; have HR3 := Aside0.mk hr; clear hr))
    go_ret
    refine ⟨⟨_, rfl⟩, ?_⟩
    rw [hq.out]
    exact (PlayPost.of HBA.out HTa.out HD2.out HR3.out).le (by omega)
  by_cases h5 : kd = 5
  · subst h5
    clear h1
    clear h2
    clear h3
    clear h4
    have hq := Lib.hid (show playM D ⟨5, at_, n, x, ch⟩ = startM D by simp [playM])
    have hbk := heap_alloc_new w (.cells #[.int .i64 5, .int .i64 at_, .int .i64 n, .slice ab x.length cb, .slice ac ch.length cc] 37)
    have hba := below_alloc (Below.refl w.heap.size w) (.cells #[.int .i64 5, .int .i64 at_, .int .i64 n, .slice ab x.length cb, .slice ac ch.length cc] 37)
    have HTa := Aside0.mk (HT.out.below hba)
    have HBA := Aside0.mk hba
    have HBK := Aside0.mk hbk
    have HOA := Aside0.mk (HO.out _ (Upd.of_below (F := fun k => B ≤ k) hba))
    clear hba hbk
    go_enter Try.func29, Try.ntmps29
    go_wp2_with (first | (go_at_call 12; refine (dStart HTa.out.d).mono ?_; rintro e w2 ⟨rfl, hd⟩; have HD2 := Aside0.mk hd; have HT2 := Aside0.mk (HTa.out.stepD hd); clear hd) | (go_at_call 44; refine (rPost_start HT2.out.1 HRk.out).mono ?_; rintro e w3 ⟨rfl, hr⟩; have HR3 := Aside0.mk hr; clear hr))
    go_ret
    refine ⟨⟨_, rfl⟩, ?_⟩
    rw [hq.out]
    exact (PlayPost.of HBA.out HTa.out HD2.out HR3.out).le (by omega)
  by_cases h6 : kd = 6
  · subst h6
    clear h1
    clear h2
    clear h3
    clear h4
    clear h5
    have hq := Lib.hid (show playM D ⟨6, at_, n, x, ch⟩ = D by simp [playM])
    have hbk := heap_alloc_new w (.cells #[.int .i64 6, .int .i64 at_, .int .i64 n, .slice ab x.length cb, .slice ac ch.length cc] 37)
    have hba := below_alloc (Below.refl w.heap.size w) (.cells #[.int .i64 6, .int .i64 at_, .int .i64 n, .slice ab x.length cb, .slice ac ch.length cc] 37)
    have HTa := Aside0.mk (HT.out.below hba)
    have HBA := Aside0.mk hba
    have HBK := Aside0.mk hbk
    have HOA := Aside0.mk (HO.out _ (Upd.of_below (F := fun k => B ≤ k) hba))
    clear hba hbk
    go_enter Try.func29, Try.ntmps29
    go_wp2_with (first | (go_at_call 27; refine (dRead HTa.out.d HDk.out at_).mono ?_; rintro e w2 ⟨v2, b2, n2, rfl, ⟨A2, c2, rfl, hc2, hC2⟩, hb2⟩; have HC2 := Aside0.mk hC2; have HB2 := Aside0.mk hb2; have HT2 := Aside0.mk (HTa.out.below hb2); have hk1 := cellB ((hb2.block w.heap.size (blk_lt HBK.out)).trans HBK.out) 1 _ rfl; have hk2 := cellB ((hb2.block w.heap.size (blk_lt HBK.out)).trans HBK.out) 2 _ rfl; clear hC2 hb2 hc2) | (go_at_call 45; refine (rRead HT2.out.r HRk.out at_).mono ?_; rintro e w3 ⟨v3, b3, n3, rfl, ⟨A3, c3, rfl, hc3, hC3⟩, hb3⟩; have HC3 := Aside0.mk hC3; have HB3 := Aside0.mk hb3; have HC23 := Aside0.mk (Kd.C_below HC2.out hb3); clear hC3 hb3 hc3) | (go_at_call 16; refine (Same_calls A2 c2 b2 A3 c3 b3 HC23.out HC3.out).mono ?_; rintro e w4 ⟨rfl, rfl⟩))
    all_goals go_ret
    all_goals (refine ⟨⟨_, rfl⟩, ?_⟩; rw [hq.out]; exact PlayPost.same HT.out HRk.out (Upd.below (F := fun _ => False) (((Upd.of_below (F := fun _ => False) HBA.out).trans (Upd.of_below (F := fun _ => False) HB2.out) (fun _ h => h.elim)).trans (Upd.of_below (F := fun _ => False) HB3.out) (fun _ h => h.elim)) (fun _ h => h.elim)) _)
  by_cases h7 : kd = 7
  · subst h7
    clear h1
    clear h2
    clear h3
    clear h4
    clear h5
    clear h6
    have hq := Lib.hid (show playM D ⟨7, at_, n, x, ch⟩ = D by simp [playM])
    have hbk := heap_alloc_new w (.cells #[.int .i64 7, .int .i64 at_, .int .i64 n, .slice ab x.length cb, .slice ac ch.length cc] 37)
    have hba := below_alloc (Below.refl w.heap.size w) (.cells #[.int .i64 7, .int .i64 at_, .int .i64 n, .slice ab x.length cb, .slice ac ch.length cc] 37)
    have HTa := Aside0.mk (HT.out.below hba)
    have HBA := Aside0.mk hba
    have HBK := Aside0.mk hbk
    have HOA := Aside0.mk (HO.out _ (Upd.of_below (F := fun k => B ≤ k) hba))
    clear hba hbk
    go_enter Try.func29, Try.ntmps29
    go_wp2_with (first | (go_at_call 23; refine (dLoad HTa.out.d HDk.out at_ n HC.out.2.2.1 HC.out.2.2.2).mono ?_; rintro e w2 ⟨v2, b2, n2, rfl, ⟨A2, c2, rfl, hc2, hC2⟩, hb2⟩; have HC2 := Aside0.mk hC2; have HB2 := Aside0.mk hb2; have HT2 := Aside0.mk (HTa.out.below hb2); have hk1 := cellB ((hb2.block w.heap.size (blk_lt HBK.out)).trans HBK.out) 1 _ rfl; have hk2 := cellB ((hb2.block w.heap.size (blk_lt HBK.out)).trans HBK.out) 2 _ rfl; clear hC2 hb2 hc2) | (go_at_call 46; refine (rLoad HT2.out.r HRk.out at_ n).mono ?_; rintro e w3 ⟨v3, b3, n3, rfl, ⟨A3, c3, rfl, hc3, hC3⟩, hb3⟩; have HC3 := Aside0.mk hC3; have HB3 := Aside0.mk hb3; have HC23 := Aside0.mk (Kd.C_below HC2.out hb3); clear hC3 hb3 hc3) | (go_at_call 16; refine (Same_calls A2 c2 b2 A3 c3 b3 HC23.out HC3.out).mono ?_; rintro e w4 ⟨rfl, rfl⟩))
    all_goals go_ret
    all_goals (refine ⟨⟨_, rfl⟩, ?_⟩; rw [hq.out]; exact PlayPost.same HT.out HRk.out (Upd.below (F := fun _ => False) (((Upd.of_below (F := fun _ => False) HBA.out).trans (Upd.of_below (F := fun _ => False) HB2.out) (fun _ h => h.elim)).trans (Upd.of_below (F := fun _ => False) HB3.out) (fun _ h => h.elim)) (fun _ h => h.elim)) _)
  by_cases h8 : kd = 8
  · subst h8
    clear h1
    clear h2
    clear h3
    clear h4
    clear h5
    clear h6
    clear h7
    have hq := Lib.hid (show playM D ⟨8, at_, n, x, ch⟩ = (saveM D at_ x).1 by simp [playM])
    have hbk := heap_alloc_new w (.cells #[.int .i64 8, .int .i64 at_, .int .i64 n, .slice ab x.length cb, .slice ac ch.length cc] 37)
    have hba := below_alloc (Below.refl w.heap.size w) (.cells #[.int .i64 8, .int .i64 at_, .int .i64 n, .slice ab x.length cb, .slice ac ch.length cc] 37)
    have HTa := Aside0.mk (HT.out.below hba)
    have HBA := Aside0.mk hba
    have HBK := Aside0.mk hbk
    have HOA := Aside0.mk (HO.out _ (Upd.of_below (F := fun k => B ≤ k) hba))
    clear hba hbk
    have HTD := Aside0.mk (HTa.out.below (below_drew (Below.refl _ _)))
    have HBKD := Aside0.mk (show (w.alloc (.cells #[.int .i64 8, .int .i64 at_, .int .i64 n, .slice ab x.length cb, .slice ac ch.length cc] 37)).drew.heap[w.heap.size]? = some (.cells #[.int .i64 8, .int .i64 at_, .int .i64 n, .slice ab x.length cb, .slice ac ch.length cc] 37 (0, 0)) from HBK.out)
    have HUD := Aside0.mk (show Upd w (w.alloc (.cells #[.int .i64 8, .int .i64 at_, .int .i64 n, .slice ab x.length cb, .slice ac ch.length cc] 37)).drew (fun k => B ≤ k) from Upd.of_below (below_drew HBA.out))
    go_enter Try.func29, Try.ntmps29
    go_wp2
    refine start_ (n := 14) (S := fun w' => w'.cell? ⟨w.heap.size, 1, none⟩ = some (.int .i64 at_) ∧ w'.cell? ⟨w.heap.size, 3, none⟩ = some (.slice ab x.length cb)) (ds := []) #[false, false, false, false, false, false, false, false, false, false, false, false, false, false] (by kernel_rfl) rfl rfl ⟨cellB HBKD.out 1 _ rfl, cellB HBKD.out 3 _ rfl⟩ (fun hHeld => ?_)
    refine pure_ (i := 0) (N := some 124) (v := ?_) (a' := ?_) #[true, false, false, false, false, false, false, false, false, false, false, false, false, false] rfl rfl (by kernel_rfl) (fun _ _ _ h => h) (Or.inl ⟨by rfl, ?_⟩) ?_ ?_
    rotate_left
    · intro w'
      go_simp
      with_reducible rfl
    rotate_left
    · simp only [Act.put, List.setIfInBounds_toArray, List.set_cons_zero, List.set_cons_succ, i64_w, i32_w]
      rfl
    refine pure_ (i := 1) (N := some 125) (v := ?_) (a' := ?_) #[true, true, false, false, false, false, false, false, false, false, false, false, false, false] rfl rfl (by kernel_rfl) (fun _ _ _ h => h) (Or.inl ⟨by rfl, ?_⟩) ?_ ?_
    rotate_left
    · intro w'
      go_simp
      with_reducible rfl
    rotate_left
    · simp only [Act.put, List.setIfInBounds_toArray, List.set_cons_zero, List.set_cons_succ, i64_w, i32_w]
      rfl
    refine pure_ (i := 3) (N := some 127) (v := ?_) (a' := ?_) #[true, true, false, true, false, false, false, false, false, false, false, false, false, false] rfl rfl (by kernel_rfl) (fun _ _ _ h => h) (Or.inl ⟨by rfl, ?_⟩) ?_ ?_
    rotate_left
    · intro w'
      go_simp
      with_reducible rfl
    rotate_left
    · simp only [Act.put, List.setIfInBounds_toArray, List.set_cons_zero, List.set_cons_succ, i64_w, i32_w]
      rfl
    refine pure_ (i := 6) (N := some 130) (v := ?_) (a' := ?_) #[true, true, false, true, false, false, true, false, false, false, false, false, false, false] rfl rfl (by kernel_rfl) (fun _ _ _ h => h) (Or.inl ⟨by rfl, ?_⟩) ?_ ?_
    rotate_left
    · intro w'
      go_simp
      with_reducible rfl
    rotate_left
    · simp only [Act.put, List.setIfInBounds_toArray, List.set_cons_zero, List.set_cons_succ, i64_w, i32_w]
      rfl
    refine pure_ (i := 7) (N := some 131) (v := ?_) (a' := ?_) #[true, true, false, true, false, false, true, true, false, false, false, false, false, false] rfl rfl (by kernel_rfl) (fun _ _ _ h => h) (Or.inl ⟨by rfl, ?_⟩) ?_ ?_
    rotate_left
    · intro w'
      go_simp
      with_reducible rfl
    rotate_left
    · simp only [Act.put, List.setIfInBounds_toArray, List.set_cons_zero, List.set_cons_succ, i64_w, i32_w]
      rfl
    refine pure_ (i := 9) (N := some 133) (v := ?_) (a' := ?_) #[true, true, false, true, false, false, true, true, false, true, false, false, false, false] rfl rfl (by kernel_rfl) (fun _ _ _ h => h) (Or.inl ⟨by rfl, ?_⟩) ?_ ?_
    rotate_left
    · intro w'
      go_simp
      with_reducible rfl
    rotate_left
    · simp only [Act.put, List.setIfInBounds_toArray, List.set_cons_zero, List.set_cons_succ, i64_w, i32_w]
      rfl
    refine take_ (i := 2) (N := some 126) (v := ?_) (a' := ?_) #[true, true, true, true, false, false, true, true, false, true, false, false, false, false] rfl rfl (by kernel_rfl) (fun _ _ _ h => h) (Or.inl ⟨by rfl, ?_⟩) hHeld ?_ ?_
    rotate_left
    · rintro w' ⟨s0, s1⟩
      go_simp
      with_reducible rfl
    rotate_left
    · simp only [Act.put, List.setIfInBounds_toArray, List.set_cons_zero, List.set_cons_succ, i64_w, i32_w]
      rfl
    refine take_ (i := 4) (N := some 128) (v := ?_) (a' := ?_) #[true, true, true, true, true, false, true, true, false, true, false, false, false, false] rfl rfl (by kernel_rfl) (fun _ _ _ h => h) (Or.inl ⟨by rfl, ?_⟩) hHeld ?_ ?_
    rotate_left
    · rintro w' ⟨s0, s1⟩
      go_simp
      with_reducible rfl
    rotate_left
    · simp only [Act.put, List.setIfInBounds_toArray, List.set_cons_zero, List.set_cons_succ, i64_w, i32_w]
      rfl
    refine take_ (i := 8) (N := some 132) (v := ?_) (a' := ?_) #[true, true, true, true, true, false, true, true, true, true, false, false, false, false] rfl rfl (by kernel_rfl) (fun _ _ _ h => h) (Or.inl ⟨by rfl, ?_⟩) hHeld ?_ ?_
    rotate_left
    · rintro w' ⟨s0, s1⟩
      go_simp
      with_reducible rfl
    rotate_left
    · simp only [Act.put, List.setIfInBounds_toArray, List.set_cons_zero, List.set_cons_succ, i64_w, i32_w]
      rfl
    refine take_ (i := 10) (N := some 134) (v := ?_) (a' := ?_) #[true, true, true, true, true, false, true, true, true, true, true, false, false, false] rfl rfl (by kernel_rfl) (fun _ _ _ h => h) (Or.inl ⟨by rfl, ?_⟩) hHeld ?_ ?_
    rotate_left
    · rintro w' ⟨s0, s1⟩
      go_simp
      with_reducible rfl
    rotate_left
    · simp only [Act.put, List.setIfInBounds_toArray, List.set_cons_zero, List.set_cons_succ, i64_w, i32_w]
      rfl
    refine one_ (i := 5) (N := some 129) #[true, true, true, true, true, true, true, true, true, true, true, false, false, false] rfl rfl (by kernel_rfl) (by decide) (fun K hK => ?_)
    refine goes_ Try.func22 (by kernel_rfl) rfl #[.pointer (some ⟨g, 0, none⟩), .int .i64 at_, .slice ab x.length cb] (by rfl) rfl rfl (by simp only [List.map_toArray, List.map_cons, List.map_nil]; rfl) ?_
    with_reducible refine (dSave HTD.out.d HDk.out (by have := HDn.out; omega) at_ ab cb x (by omega) HC.out.1 (fun W hW => (OpIs.C (o := ⟨8, at_, n, x, ch⟩) (HO.out _ (HUD.out.trans hW (fun k hk => .inl (HFB.out k hk))))).2.2.1)).mono ?_
    rintro e w2 ⟨rfl, hd⟩
    refine ⟨_, rfl, ?_⟩
    have HD2 := Aside0.mk hd
    have HT2 := Aside0.mk (HTD.out.stepD hd)
    have HBK2 := Aside0.mk (hd.cell (fun hk => Nat.lt_irrefl _ (HT.out.d.lt _ hk)) HBKD.out)
    have HU2 := Aside0.mk hd.upd
    clear hd
    refine hK.out _ _ ⟨cellB HBK2.out 1 _ rfl, cellB HBK2.out 3 _ rfl⟩ (fun hHeld => ?_)
    clear hK K
    refine norm_ (a' := ?_) ?_ ?_
    rotate_left
    · show Act.put _ (some 129) _ = _
      simp only [Act.put, List.setIfInBounds_toArray, List.set_cons_zero, List.set_cons_succ, i64_w, i32_w]
      rfl
    refine one_ (i := 11) (N := some 135) #[true, true, true, true, true, true, true, true, true, true, true, true, false, false] rfl rfl (by kernel_rfl) (by decide) (fun K hK => ?_)
    refine goes_ Try.func47 (by kernel_rfl) rfl #[.pointer (some ⟨g2, 0, none⟩), .int .i64 at_, .slice ab x.length cb] (by rfl) rfl rfl (by simp only [List.map_toArray, List.map_cons, List.map_nil]; rfl) ?_
    with_reducible refine (rPost_save HT2.out.1 HRk.out (by have := HB.out; have := HBA.out.size; have := HU2.out.size; have hh : (w.alloc (.cells #[.int .i64 8, .int .i64 at_, .int .i64 n, .slice ab x.length cb, .slice ac ch.length cc] 37)).drew.heap.size = (w.alloc (.cells #[.int .i64 8, .int .i64 at_, .int .i64 n, .slice ab x.length cb, .slice ac ch.length cc] 37)).heap.size := rfl; omega) at_ ab cb x (by omega) HC.out.1 (by have := HRn.out; omega) (fun W hW => (OpIs.C (o := ⟨8, at_, n, x, ch⟩) (HO.out _ ((HUD.out.trans HU2.out (fun k hk => .inl (HFB.out k hk))).trans hW (fun k hk => .inl (HF2B.out k hk))))).2.2.1)).mono ?_
    rintro e w3 ⟨⟨n3, rfl⟩, hr⟩
    refine ⟨_, rfl, ?_⟩
    have HR3 := Aside0.mk hr
    have HBK3 := Aside0.mk (hr.cell (fun hk => Nat.lt_irrefl _ (HT.out.r.lo _ hk).2) HBK2.out)
    clear hr
    refine hK.out _ _ ⟨cellB HBK3.out 1 _ rfl, cellB HBK3.out 3 _ rfl⟩ (fun hHeld => ?_)
    clear hK K
    refine norm_ (a' := ?_) ?_ ?_
    rotate_left
    · show Act.put _ (some 135) _ = _
      simp only [Act.put, List.setIfInBounds_toArray, List.set_cons_zero, List.set_cons_succ, i64_w, i32_w]
      rfl
    refine pure_ (i := 12) (N := some 136) (v := ?_) (a' := ?_) #[true, true, true, true, true, true, true, true, true, true, true, true, true, false] rfl rfl (by kernel_rfl) (fun _ _ _ h => h) (Or.inl ⟨by rfl, ?_⟩) ?_ ?_
    rotate_left
    · intro w'
      go_simp
      with_reducible rfl
    rotate_left
    · simp only [Act.put, List.setIfInBounds_toArray, List.set_cons_zero, List.set_cons_succ, i64_w, i32_w]
      rfl
    refine pure_ (i := 13) (N := some 6) (v := ?_) (a' := ?_) #[true, true, true, true, true, true, true, true, true, true, true, true, true, true] rfl rfl (by kernel_rfl) (fun _ _ _ h => h) (Or.inl ⟨by rfl, ?_⟩) ?_ ?_
    rotate_left
    · intro w'
      go_simp
      with_reducible rfl
    rotate_left
    · simp only [Act.put, List.setIfInBounds_toArray, List.set_cons_zero, List.set_cons_succ, i64_w, i32_w]
      rfl
    refine done_ (by kernel_rfl) ?_
    clear hHeld
    go_wp2
    go_ret
    refine ⟨⟨_, rfl⟩, ?_⟩
    rw [hq.out]
    exact (PlayPost.of (below_drew HBA.out) HTD.out HD2.out HR3.out).le (by omega)
  have hq := Lib.hid (show playM D ⟨kd, at_, n, x, ch⟩ = D by simp [playM, h1, h2, h3, h4, h5, h8])
  have hbk := heap_alloc_new w (.cells #[.int .i64 kd, .int .i64 at_, .int .i64 n, .slice ab x.length cb, .slice ac ch.length cc] 37)
  have hba := below_alloc (Below.refl w.heap.size w) (.cells #[.int .i64 kd, .int .i64 at_, .int .i64 n, .slice ab x.length cb, .slice ac ch.length cc] 37)
  have HTa := Aside0.mk (HT.out.below hba)
  have HBA := Aside0.mk hba
  have HBK := Aside0.mk hbk
  have HOA := Aside0.mk (HO.out _ (Upd.of_below (F := fun k => B ≤ k) hba))
  clear hba hbk
  have t1 : (kd == 1) = false := by simpa using h1
  have t2 : (kd == 2) = false := by simpa using h2
  have t3 : (kd == 3) = false := by simpa using h3
  have t4 : (kd == 4) = false := by simpa using h4
  have t5 : (kd == 5) = false := by simpa using h5
  have t6 : (kd == 6) = false := by simpa using h6
  have t7 : (kd == 7) = false := by simpa using h7
  have t8 : (kd == 8) = false := by simpa using h8
  clear h1 h2 h3 h4 h5 h6 h7 h8
  go_enter Try.func29, Try.ntmps29
  go_wp2
  go_ret
  refine ⟨⟨_, rfl⟩, ?_⟩
  rw [hq.out]
  exact PlayPost.same HT.out HRk.out HBA.out _
end Go.Proofs.Ytfimeiicidcoiaa.Dk
