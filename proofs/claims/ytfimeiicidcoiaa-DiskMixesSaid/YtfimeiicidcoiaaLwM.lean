/- Words for the law DiskMixes: a row of operations beside a disk. -/
import Derived.Test.YtfimeiicidcoiaaPlM
import Derived.Test.YtfimeiicidcoiaaWApart
namespace Go.Proofs.Ytfimeiicidcoiaa.Dk
open Go.RowKit Go.Proofs.YtfimeiicidcoiaaW.PrintWords Go.Proofs.YtfimeiicidcoiaaW.PrintLast Go.Proofs.YtfimeiicidcoiaaW.PrintMore
set_option linter.unusedVariables false
set_option linter.unusedSimpArgs false
variable {w0 w w' W w1 : World} {g : Nat} {F F' : Nat → Prop} {D D' : DM} {A : Option Addr} {c : Nat} {H : List OpM} {vw : Value} {was : List Int}
/-- A row of operations of the law's own, beside a disk; their bytes lie where the arguments lie. -/
def Hd (w0 w : World) (A : Option Addr) (c : Nat) (F : Nat → Prop) (H : List OpM) : Prop := ∃ (L : List (List Value)) (G : Nat → Prop), L.length = H.length ∧ (∀ (j : Nat) (o : OpM), H[j]? = some o → ∃ cs, L[j]? = some cs ∧ OpIs w0 o cs) ∧ Kd.R (Kd.raw 5) 37 w w0.heap.size G (.slice A H.length c) L ∧ ∀ k, G k → ¬ F k ∧ k < w.heap.size
theorem Hd.nil : Hd w0 w none 0 F [] := ⟨[], fun _ => False, rfl, fun j o h => by simp at h, Kd.R_nil _ _ _ _ _, fun _ h => h.elim⟩
theorem Hd.post (h : Hd w0 w A c F H) (hF : ∀ k, F' k → F k ∨ w.heap.size ≤ k) (hu : Upd w w' F) : Hd w0 w' A c F' H := by
  obtain ⟨L, G, h1, h2, h3, h4⟩ := h
  refine ⟨L, G, h1, h2, Kd.R_kept h3 hu.kept (fun k hk => (h4 k hk).1), fun k hk => ⟨fun hf => ?_, Nat.lt_of_lt_of_le (h4 k hk).2 hu.size⟩⟩
  rcases hF k hf with hf | hf
  · exact (h4 k hk).1 hf
  · have := (h4 k hk).2
    omega
theorem Hd.below (h : Hd w0 w A c F H) (hb : Below w.heap.size w w') : Hd w0 w' A c F H := h.post (fun _ h => .inl h) (Upd.of_below hb)
/-- The i-th operation's cells. -/
theorem Hd.get (h : Hd w0 w A c F H) (hb : Below w0.heap.size w0 w) (i : Nat) (hi : i < H.length) : ∃ (gh : Nat) (ab : Option Addr) (cb : Nat) (o : OpM), A = some ⟨gh, 0, none⟩ ∧ H[i]? = some o ∧ w.cell? ⟨gh, i * 5 + 1, none⟩ = some (.int .i64 o.at_) ∧ w.cell? ⟨gh, i * 5 + 3, none⟩ = some (.slice ab o.b.length cb) ∧ Kd.C (Kd.int .u8) w ab o.b.length o.b ∧
    -9223372036854775808 ≤ o.at_ := by
  obtain ⟨L, G, h1, h2, h3, h4⟩ := h
  rcases R_cases h3 with ⟨_, hz⟩ | ⟨gh, cap, e, _⟩
  · rw [hz] at h1; simp at h1; omega
  injection e with e1 _ _
  subst e1
  obtain ⟨cs, hcs, hO⟩ := h2 i H[i] (List.getElem?_eq_getElem hi)
  obtain ⟨c', hl, hM, hx, _⟩ := Kd.R_elem h3 [] (i : Int) (by omega) (by omega)
  rw [Int.toNat_natCast] at hM hx
  have hcc : c' = cs := by
    rw [hM.1, List.getD_eq_getElem?_getD, hcs]
    rfl
  subst hcc
  obtain ⟨ab, cb, ac, cc, rfl, _, _, hC, _, _, _, ha, _⟩ := hO
  exact ⟨gh, ab, cb, H[i], rfl, List.getElem?_eq_getElem hi, hx 1 _ rfl, hx 3 _ rfl, Kd.C_below hC hb, ha⟩
structure Mx (w0 w : World) (g : Nat) (F : Nat → Prop) (D : DM) (S : List (List Int)) (A : Option Addr) (c : Nat) (H : List OpM) (vw : Value) (was : List Int) : Prop where
  s : St w0 w g F D
  calm : Calm D
  ok : DOk D
  sec : D.sec = S
  hd : Hd w0 w A c F H
  row : Row w F vw was
theorem Mx.post {S : List (List Int)} (h : Mx w0 w g F D S A c H vw was) (hp : DPost w w' w0.heap.size g F D') : ∃ F', St w0 w' g F' D' ∧ Hd w0 w' A c F' H ∧ Row w' F' vw was := by
  obtain ⟨F', hF, hd, hu⟩ := hp
  exact ⟨F', ⟨hd, below_upd h.s.b hu h.s.d.lo⟩, h.hd.post hF hu, h.row.post hF hu⟩
theorem Mx.below {S : List (List Int)} (h : Mx w0 w g F D S A c H vw was) (hb : Below w.heap.size w w') : Mx w0 w' g F D S A c H vw was := ⟨h.s.below hb, h.calm, h.ok, h.sec, h.hd.below hb, h.row.below hb⟩
def opH (o : OpM) : Int × List Int := (o.at_, o.b)
/-- One operation more. -/
theorem Hd.append {L : List (List Value)} {G : Nat → Prop} {A1 : Option Addr} {c1 : Nat} {o : OpM} {cs : List Value} (hs : St w0 w g F D) (hrow : Row w F vw was) (h1 : L.length = H.length) (h2 : ∀ (j : Nat) (o : OpM), H[j]? = some o → ∃ cs, L[j]? = some cs ∧ OpIs w0 o cs) (h3 : Kd.R (Kd.raw 5) 37 w w0.heap.size G (.slice A H.length c) L) (h4 : ∀ k, G k → ¬ F k ∧ k < w.heap.size) (hO : OpIs w0 o cs)
    (hr : Kd.R (Kd.raw 5) 37 w1 w0.heap.size (fun k => G k ∨ w.heap.size ≤ k) (.slice A1 (L ++ [cs]).length c1) (L ++ [cs])) (hb : Below w0.heap.size w0 w1) (hg : w.grownBy w1 (Value.slice A H.length c).ownBlock) :
    St w0 w1 g F D ∧ Hd w0 w1 A1 c1 F (H ++ [o]) ∧ Row w1 F vw was := by
  have hu : Upd w w1 G := Upd.of_row h3 hg
  refine ⟨⟨hs.d.frame hu (fun k _ hf hgk => (h4 k hgk).1 hf), hb⟩, ⟨L ++ [cs], fun k => (G k ∨ w.heap.size ≤ k) ∧ k < w1.heap.size, ?_, fun j o' hj => ?_, ?_, fun k hk => ⟨fun hf => ?_, hk.2⟩⟩, ?_⟩
  · rw [List.length_append, List.length_append, h1]
    rfl
  · rw [List.getElem?_append] at hj
    split at hj
    · obtain ⟨cs', hc1, hc2⟩ := h2 j o' hj
      exact ⟨cs', by rw [List.getElem?_append_left (by omega)]; exact hc1, hc2⟩
    · rename_i hlt
      have hj0 : j = H.length := by
        have := (List.getElem?_eq_some_iff.1 hj).1
        simp at this
        omega
      subst hj0
      simp at hj
      subst hj
      exact ⟨cs, by rw [List.getElem?_append_right (by omega), h1]; simp, hO⟩
  · have := Kd.R_mono (Kd.R_bound hr) (ok' := fun k => (G k ∨ w.heap.size ≤ k) ∧ k < w1.heap.size) (fun k hk => ⟨hk.1, hk.2.2.1⟩)
    rwa [show (H ++ [o]).length = (L ++ [cs]).length by rw [List.length_append, List.length_append, h1]; rfl]
  · rcases hk.1 with h | h
    · exact (h4 k h).1 hf
    · have := hs.d.lt k hf
      omega
  · obtain ⟨Gw, r1, r2⟩ := hrow.row
    exact ⟨Gw, Kd.R_over' r1 (Kd.R_typed h3) (by simp [Kd.int, Kd.scalar]) hg, fun k hk => ⟨Nat.lt_of_lt_of_le (r2 k hk).1 hu.size, (r2 k hk).2⟩⟩
theorem Row.cap {A : Option Addr} {n c : Nat} {xs : List Int} (h : Row w F (.slice A n c) xs) : n = xs.length ∧ n ≤ c ∧ Kd.C (Kd.int .u8) w A xs.length xs := by
  obtain ⟨G, h1, _⟩ := h.row
  exact Kd.R_reads' h1
theorem Same_n (A : Option Addr) (c n : Nat) (x : List Int) (A2 : Option Addr) (c2 m : Nat) (y : List Int) (hn : x.length = n) (hm : y.length = m) (hx : Kd.C (Kd.int .u8) w A x.length x) (hy : Kd.C (Kd.int .u8) w A2 y.length y) :
    Calls Try.prog 16 #[.slice A n c, .slice A2 m c2] w fun e w' => e = .returned (.bool (sameM x y)) ∧ w = w' := by
  subst hn; subst hm
  exact Same_calls A c x A2 c2 y hx hy
end Go.Proofs.Ytfimeiicidcoiaa.Dk
