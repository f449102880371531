/- The law's known. -/
import Derived.Test.YtfimeiicidcoiaaDkN
namespace Go.Proofs.Ytfimeiicidcoiaa.Dk
open Go.RowKit Go.Proofs.YtfimeiicidcoiaaW.PrintWords Go.Proofs.YtfimeiicidcoiaaW.PrintLast Go.Proofs.YtfimeiicidcoiaaW.PrintMore
set_option linter.unusedVariables false
set_option linter.unusedSimpArgs false
variable {w W W' : World} {B g N : Nat} {F G : Nat → Prop} {D : DM} {vs vh vc : Value}
def kS : List Int := (List.replicate 64 0).set 0 7
def kD0 : DM := newM [] 2 2
def kD1 : DM := (writeM kD0 0 kS).1
def kD2 : DM := (flushM kD1).1
def kD3 : DM := (setM kD2 0 [true]).1
def kD4 : DM := (writeM kD3 1 kS).1
theorem k1 : (writeM kD0 0 kS).2 = 0 := by decide
theorem k2 : (flushM kD1).2 = 0 := by decide
theorem k3 : (setM kD2 0 [true]).2 = 0 := by decide
theorem k4 : (writeM kD3 1 kS).2 = 60 := by decide
theorem k5 : (bytesM kD1).length = 128 ∧ (bytesM kD1).getD 0 0 = 0 := by decide
theorem k6 : (bytesM kD2).length = 128 ∧ (bytesM kD2).getD 0 0 = 7 := by decide
theorem k7 : (bytesM kD4).length = 128 ∧ (bytesM kD4).getD 64 0 = 7 := by decide
theorem k8 : kD4.down = true ∧ kD4.strokes = 3 := ⟨by kernel_rfl, by kernel_rfl⟩
theorem New2 : Calls Try.prog 30 #[.slice none 0 0, .int .i64 2] w fun e w' => ∃ g, e = .returned (.tuple #[.pointer (some ⟨g, 0, none⟩), .int .i64 0]) ∧ DiskAt w' w.heap.size g (fun k => w.heap.size ≤ k ∧ k < w'.heap.size) kD0 ∧ Below w.heap.size w w' :=
  New_calls none 0 [] 2 (by decide) (by decide) ⟨rfl, by decide, fun h => absurd h (by decide)⟩ (by unfold newBad; decide)
theorem nat_row {v : Value} {xs : List Int} (h : Row W F v xs) (i : Nat) (hi : i < xs.length) : ∃ ad c, v = .slice (some ad) xs.length c ∧ W.cell? (ad.add i) = some (.int .u8 (xs.getD i 0)) := by
  obtain ⟨A, c, rfl, hc, h1, h2, h3⟩ := h.reads
  obtain ⟨ad, hA, hcc⟩ := h3 (by omega)
  subst hA
  refine ⟨ad, c, rfl, ?_⟩
  obtain ⟨cs, _, hK, hx1⟩ := hcc i (xs[i]) (List.getElem?_eq_getElem hi)
  have := hx1 0 (.int .u8 (xs[i])) (by rw [hK]; rfl)
  rw [List.getD_eq_getElem?_getD, List.getElem?_eq_getElem hi]
  simpa [Kd.int, Kd.scalar] using this
theorem made_cells {gs c2 b : Nat} {ok : Nat → Prop} (h : Kd.R (Kd.int .u8) 5 W b ok (.slice (some ⟨gs, 0, none⟩) 64 c2) (List.replicate 64 0)) : ∀ j u, ([.int .u8 0] : List Value)[j]? = some u → W.cell? ⟨gs, (0 : Int).toNat * (Kd.int .u8).sz + j, none⟩ = some u := fun j u hj => by
  obtain ⟨ad, c, e, hsz, hK, hx⟩ := Kd.C_get (Kd.R_reads' h).2.2 0 (0 : Int) (by decide) (by decide)
  injection e with e
  subst e
  have := hx j u (by rw [hK]; exact hj)
  rwa [add0] at this
theorem Row.C64 {A : Option Addr} {c : Nat} (h : Row W F (.slice A 64 c) kS) : Kd.C (Kd.int .u8) W A 64 kS := by
  obtain ⟨G, h1, _⟩ := h.row
  exact (Kd.R_reads' h1).2.2
theorem BytesD (h : DiskAt w B g F D) (hok : DOk D) :
    Calls Try.prog 14 #[.pointer (some ⟨g, 0, none⟩)] w fun e w' => ∃ v, e = .returned v ∧ DiskAt w' B g F D ∧ Row w' F v (bytesM D) ∧ Upd w w' F := by
  have hl := h.lt
  have hh := h
  obtain ⟨_, _, _, h⟩ := h
  refine (Bytes_calls h hok).mono ?_
  rintro e w' ⟨v, rfl, hr, hb⟩
  exact ⟨v, rfl, hh.frame (Upd.of_below (F := fun _ => False) hb) (fun _ _ _ h => h), Row.new hr hl, Upd.of_below hb⟩
theorem FlushD (h : DiskAt w B g F D) (hok : DOk D) :
    Calls Try.prog 13 #[.pointer (some ⟨g, 0, none⟩)] w fun e w' => e = .returned (.int .i64 (flushM D).2) ∧ DiskAt w' B g F (flushM D).1 ∧ Upd w w' F := by
  obtain ⟨_, _, _, h⟩ := h
  exact Flush_calls h hok
theorem SetD (h : DiskAt w B g F D) (n : Int) (A : Option Addr) (c : Nat) (l : List Bool) (hC : Kd.C Kd.bool w A l.length l) :
    Calls Try.prog 25 #[.pointer (some ⟨g, 0, none⟩), .int .i64 n, .slice A l.length c] w fun e w' => e = .returned (.int .i64 (setM D n l).2) ∧ DiskAt w' B g (Grow F w w') (setM D n l).1 ∧ Upd w w' F := by
  obtain ⟨_, _, _, h⟩ := h
  exact Set_calls h n A c l hC
theorem UpD (h : DiskAt w B g F D) : Calls Try.prog 10 #[.pointer (some ⟨g, 0, none⟩)] w fun e w' => e = .returned (.bool (!D.down)) ∧ w = w' := by
  obtain ⟨_, _, _, h⟩ := h
  exact Up_calls h
theorem StrokesD (h : DiskAt w B g F D) : Calls Try.prog 26 #[.pointer (some ⟨g, 0, none⟩)] w fun e w' => e = .returned (.int .i64 D.strokes) ∧ w = w' := by
  obtain ⟨_, _, _, h⟩ := h
  exact Strokes_calls h
theorem DiskAt.lo (h : DiskAt w B g F D) : ∀ k, F k → B ≤ k := by
  obtain ⟨_, _, _, h⟩ := h
  exact fun k hk => (h.lt k hk).1
theorem C_true (h : W.heap[N]? = some (.cells #[.bool true] 4 (0, 0))) : Kd.C Kd.bool W (some ⟨N, 0, none⟩) 1 [true] := by
  refine ⟨rfl, by decide, fun _ => ⟨_, rfl, fun j p hj => ⟨[.bool p], rfl, rfl, fun i u hu => ?_⟩⟩⟩
  cases i with
  | succ i => simp at hu
  | zero =>
    cases j with
    | succ j => simp at hj
    | zero =>
      simp only [List.getElem?_cons_zero, Option.some.injEq] at hu hj
      subst hu; subst hj
      rw [add0, World.cell?, h]
      rfl
theorem setM_okT (h : DOk D) : DOk (setM D 0 [true]).1 := by
  have : (setM D 0 [true]).1 = { D with set := true, left := 0, choice := [true] } := by simp [setM]
  rw [this]
  exact ⟨h.at_, h.n1, h.n2, by simp, by simp⟩
theorem ok0 : DOk kD0 := newM_ok [] 2 (by decide)
theorem ok1 : DOk kD1 := writeM_ok ok0 (by decide)
theorem ok2 : DOk kD2 := flushM_ok ok1
theorem ok3 : DOk kD3 := setM_okT ok2
theorem ok4 : DOk kD4 := writeM_ok ok3 (by decide)
set_option maxHeartbeats 8000000 in
theorem known_calls : Calls Try.prog 11 #[] w fun e w' => e = .returned (.bool true) ∧ Below w.heap.size w w' := by
  go_enter Try.func11, Try.ntmps11
  go_wp2_with (first | (go_at_call 30; refine New2.mono ?_; rintro e w1 ⟨g, rfl, H1, hb1⟩; have HB1 := Aside0.mk hb1; have HD1 := Aside0.mk H1; clear H1 hb1) | (refine Kd.R_make (Kd.int .u8) (w0 := w1) w1.heap.size 5 rfl (N := 21) rfl 22 (.const (.int .i64 64)) (.const (.int .i64 64)) rfl (64 : Int) rfl rfl Try.underlying22 (.int .u8 0) 1 info5 rfl (by decide) (by decide) (0 : Int) (ok := fun k => w1.heap.size ≤ k) (okp := fun _ => False) rfl (fun _ h => h.elim) (Nat.le_refl _) (by omega) (by decide) (Below.refl _ _) (Nat.le_refl _) ?_; intro v2 w2 hr2 hb2 hg2 _; have hr2' : Kd.R (Kd.int .u8) 5 w2 w1.heap.size (fun k => w1.heap.size ≤ k) v2 (List.replicate 64 0) := hr2; rcases R_cases hr2' with ⟨_, hz⟩ | ⟨gs, c2, hv2, hgs⟩; (exact absurd hz (by decide)); rw [List.length_replicate] at hv2; subst hv2; have HR2 := Aside0.mk hr2'; have HB2 := Aside0.mk hb2; clear hr2 hr2' hb2 hg2) | (refine Kd.R_store (Kd.int .u8) (w0 := w1) w1.heap.size rfl rfl 5 (.tmp 23) (.const (.int .u8 7)) rfl 5 (g := gs) (n := 64) (cap := c2) (o' := 0) (0 : Int) 0 (List.replicate 64 0) (7 : Int) (.int .u8 7) [.int .u8 7] [.int .u8 0] (fun k => w1.heap.size ≤ k) (fun _ => False) rfl rfl rfl rfl (by kernel_rfl) (by decide) HR2.out (by decide) (by decide) rfl ?hcc (by decide) rfl (fun _ h => h.elim) HB2.out ?_; (case hcc => exact made_cells HR2.out); intro w3 hr3 hb3 hg3; have HRS := Aside0.mk (show Row w3 (fun k => w.heap.size ≤ k ∧ k < w1.heap.size) (.slice (some ⟨gs, 0, none⟩) 64 c2) kS from Row.new hr3 (fun k hk => hk.2)); have HD3 := Aside0.mk (HD1.out.frame (Upd.of_below (F := fun _ => False) hb3) (fun _ _ _ h => h)); have HU3 := Aside0.mk hb3; clear hr3 hb3 hg3) | (go_at_call 19; refine (Write_calls64 HD3.out ok0 (by decide) 0 _ c2 kS rfl (Row.C64 HRS.out)).mono ?_; rintro e w4 ⟨rfl, h4, hu4⟩; rw [k1]; have HD4 := Aside0.mk (show DiskAt w4 w.heap.size g _ kD1 from h4); have HU4 := Aside0.mk hu4; have HRS4 := Aside0.mk (HRS.out.step hu4); clear h4 hu4) | (go_at_call 14; refine (BytesD HD4.out ok1).mono ?_; rintro e w5 ⟨v5, rfl, h5, hr5, hu5⟩; have HD5 := Aside0.mk h5; have HR5 := Aside0.mk hr5; have HU5 := Aside0.mk hu5; have HRS5 := Aside0.mk (HRS4.out.same hu5); clear h5 hr5 hu5) | (go_at_call 13; refine (FlushD HD5.out ok1).mono ?_; rintro e w6 ⟨rfl, h6, hu6⟩; rw [k2]; have HD6 := Aside0.mk (show DiskAt w6 w.heap.size g _ kD2 from h6); have HR6 := Aside0.mk (HR5.out.same hu6); have HU6 := Aside0.mk hu6; have HRS6 := Aside0.mk (HRS5.out.same hu6); clear h6 hu6) | (go_at_call 14; refine (BytesD HD6.out ok2).mono ?_; rintro e w7 ⟨v7, rfl, h7, hr7, hu7⟩; have HD7 := Aside0.mk h7; have HR7 := Aside0.mk hr7; have HRA7 := Aside0.mk (HR6.out.same hu7); have HU7 := Aside0.mk hu7; have HRS7 := Aside0.mk (HRS6.out.same hu7); clear h7 hr7 hu7))
  go_wp2_with (first | (go_at_call 25; have huA := Upd.of_below (F := fun _ => False) (below_alloc (Below.refl w7.heap.size w7) (.cells #[.bool true] 4)); have hDA := HD7.out.frame huA (fun _ _ _ h => h); refine (SetD hDA 0 _ 1 [true] (C_true (heap_alloc_new w7 _))).mono ?_; rintro e w8 ⟨rfl, h8, hu8⟩; rw [k3]; have HD8 := Aside0.mk (show DiskAt w8 w.heap.size g _ kD3 from h8); have HUA := Aside0.mk huA; have HU8 := Aside0.mk hu8; have HRA8 := Aside0.mk ((HRA7.out.same (Upd.of_below (below_alloc (Below.refl w7.heap.size w7) (.cells #[.bool true] 4)))).step hu8); have HR8 := Aside0.mk ((HR7.out.same (Upd.of_below (below_alloc (Below.refl w7.heap.size w7) (.cells #[.bool true] 4)))).step hu8); have HRS8 := Aside0.mk ((HRS7.out.same (Upd.of_below (below_alloc (Below.refl w7.heap.size w7) (.cells #[.bool true] 4)))).step hu8); clear h8 hu8 hDA huA) | (go_at_call 19; refine (Write_calls64 HD8.out ok3 (by decide) 1 _ c2 kS rfl (Row.C64 HRS8.out)).mono ?_; rintro e w9 ⟨rfl, h9, hu9⟩; rw [k4]; have HD9 := Aside0.mk (show DiskAt w9 w.heap.size g _ kD4 from h9); have HU9 := Aside0.mk hu9; have HRA9 := Aside0.mk (HRA8.out.step hu9); have HR9 := Aside0.mk (HR8.out.step hu9); clear h9 hu9) | (go_at_call 14; refine (BytesD HD9.out ok4).mono ?_; rintro e w10 ⟨v10, rfl, h10, hr10, hu10⟩; obtain ⟨ad5, c5, e5, hc5⟩ := nat_row (HRA9.out.same hu10) 0 (by rw [k5.1]; decide); obtain ⟨ad7, c7, e7, hc7⟩ := nat_row (HR9.out.same hu10) 0 (by rw [k6.1]; decide); obtain ⟨ad10, c10, e10, hc10⟩ := nat_row hr10 64 (by rw [k7.1]; decide); rw [k5.1] at e5; rw [k6.1] at e7; rw [k7.1] at e10; rw [k5.2] at hc5; rw [k6.2] at hc7; rw [k7.2] at hc10; have hc5' : w10.cell? ad5 = some (.int .u8 0) := hc5; have hc7' : w10.cell? ad7 = some (.int .u8 7) := hc7; have hc10' : w10.cell? ⟨ad10.block, ad10.off + 64, none⟩ = some (.int .u8 7) := hc10; subst e5; subst e7; subst e10; have HD10 := Aside0.mk h10; have HU10 := Aside0.mk hu10; clear h10 hr10 hu10))
  go_wp2_with (first | (go_at_call 10; refine (UpD HD10.out).mono ?_; rintro e w11 ⟨rfl, rfl⟩; rw [k8.1]) | (go_at_call 26; refine (StrokesD HD10.out).mono ?_; rintro e w12 ⟨rfl, rfl⟩; rw [k8.2]))
  go_ret
  refine ⟨rfl, Upd.below (F := fun _ => False) ?_ (fun _ h => h.elim)⟩
  have lo : ∀ {F : Nat → Prop} {W : World} {D : DM}, DiskAt W w.heap.size g F D → ∀ k, F k → False ∨ w.heap.size ≤ k := fun h k hk => .inr (h.lo k hk)
  have u1 := (Upd.of_below (F := fun _ => False) HB1.out).trans (Upd.of_below (F := fun _ => False) HU3.out) (fun _ h => h.elim)
  have u2 := (u1.trans HU4.out (lo HD3.out)).trans HU5.out (lo HD4.out)
  have u3 := (u2.trans HU6.out (lo HD5.out)).trans HU7.out (lo HD6.out)
  exact (((u3.trans HUA.out (fun _ h => h.elim)).trans HU8.out (lo HD7.out)).trans HU9.out (lo HD8.out)).trans HU10.out (lo HD9.out)
end Go.Proofs.Ytfimeiicidcoiaa.Dk
