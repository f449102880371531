/- StoreApart: the texts RsD PlT StH L8B L8C L8D PlU ScA SpA LwR LawStoreApart. -/
import Derived.Test.YtmblnflfklmmkaaDoorPStoreApart5
import Derived.Test.YtmblnflfklmmkaaDoorPStoreApart2
import Derived.Deep.Slices
import Derived.Deep.Grids
import Derived.Test.YtmblnflfklmmkaaDoorRows
import Derived.Test.YtmblnflfklmmkaaDoorCards
import Derived.Test.YtmblnflfklmmkaaDoorTie
import Derived.Test.YtmblnflfklmmkaaDoorPStoreApart1
import Derived.WalkKit
import Derived.ProofKit
import Derived.OpenShut
import Derived.ShutString
import Derived.ChangeOld
import Derived.Below
import Derived.SizedLaws
import Derived.SevenTiedAt
import Derived.LaidMore
import Derived.Stop.Joined
/- Contracts of the reference's store: Put. -/
namespace Go.Proofs.YtmblnflfklmmkaaDoor.Sh
open Go.Proofs.YtmblnflfklmmkaaDoor.Dk
open Go.RowKit Go.Proofs.YtmblnflfklmmkaaDoorW.PrintWords Go.Proofs.YtmblnflfklmmkaaDoorW.PrintLast Go.Proofs.YtmblnflfklmmkaaDoorW.PrintMore
set_option linter.unusedVariables false
set_option linter.unusedSimpArgs false
set_option maxRecDepth 30000
variable {w w0 w1 w2 w' wr : World} {B t g2 : Nat} {F2 : Nat → Prop} {R R' : RM} {fr n q k : Int} {v : Value} {xs ys b : List Int}
def rstepM (R : RM) (k : Int) (x : List Int) : RM × Int := if (rsaveM R k x).2 ≠ 0 then rsaveM R k x else rflushM (rsaveM R k x).1
def rputT (ps : List (Int × List Int)) (R : RM) : RM × Int := match ps with
  | [] => (R, 0)
  | p :: ps => if (rstepM R p.1 p.2).2 ≠ 0 then rstepM R p.1 p.2 else rputT ps (rstepM R p.1 p.2).1
def rto (st : Int) (fr n : Int) : Int := if st = 0 then fr + n else fr
def rputM (R : RM) (fr n : Int) (x : List Int) : RM × Int :=
  if R.down = true then (R, 60)
  else if 64 * n - 64 < (x.length : Int) ∨ (rnewestM R fr n).2.1 = 18446744073709551615 then (R, 2)
  else rputT [(rto (rnewestM R fr n).1 fr n, zer64), (rto (rnewestM R fr n).1 fr n + 1, x), (rto (rnewestM R fr n).1 fr n, rheadM ((rnewestM R fr n).2.1 + 1) x)] R
/-- What a Put leaves. -/
def TPo (w w' : World) (B t g2 : Nat) (F2 : Nat → Prop) (R R' : RM) (fr n : Int) (m : Nat) : Prop := ∃ F', (∀ k, F' k → F2 k ∨ w.heap.size ≤ k) ∧ TAt w' B t g2 F' R' fr n ∧ TOk R' fr n ∧ R'.wait.length ≤ R.wait.length + m ∧ Upd w w' F2
theorem TPo.refl (h : TAt w B t g2 F2 R fr n) (hk : TOk R fr n) (m : Nat) : TPo w w B t g2 F2 R R fr n m := ⟨F2, fun _ h => .inl h, h, hk, Nat.le_add_right _ _, Upd.refl _ _⟩
theorem TPo.le {m m' : Nat} (h : TPo w w1 B t g2 F2 R R' fr n m) (hm : m ≤ m') : TPo w w1 B t g2 F2 R R' fr n m' := by
  obtain ⟨F', h1, h2, h3, h4, h5⟩ := h
  exact ⟨F', h1, h2, h3, by omega, h5⟩
theorem TPo.below (h : TAt w B t g2 F2 R fr n) (hk : TOk R fr n) (hb : Below w.heap.size w w1) (m : Nat) : TPo w w1 B t g2 F2 R R fr n m := ⟨F2, fun _ h => .inl h, h.below hb, hk, Nat.le_add_right _ _, Upd.of_below hb⟩
/-- What the loop over the three places reads. -/
structure Pl (W : World) (t g2 bp bt gz cz : Nat) (q : Int) (A : Option Addr) (c : Nat) (x : List Int) (gh ch : Nat) (h : List Int) : Prop where
  d : W.cell? ⟨t, 0, none⟩ = some (.pointer (some ⟨g2, 0, none⟩))
  p0 : W.cell? ⟨bp, 0, none⟩ = some (.int .i64 q)
  p1 : W.cell? ⟨bp, 1, none⟩ = some (.int .i64 (q + 1))
  p2 : W.cell? ⟨bp, 2, none⟩ = some (.int .i64 q)
  t0 : W.cell? ⟨bt, 0, none⟩ = some (.slice (some ⟨gz, 0, none⟩) 64 cz)
  t1 : W.cell? ⟨bt, 1, none⟩ = some (.slice A x.length c)
  t2 : W.cell? ⟨bt, 2, none⟩ = some (.slice (some ⟨gh, 0, none⟩) 64 ch)
  z : C8 W (some ⟨gz, 0, none⟩) zer64
  x : C8 W A x
  h : C8 W (some ⟨gh, 0, none⟩) h
theorem Pl.drew {t bp bt gz cz : Nat} {A : Option Addr} {c : Nat} {x : List Int} {gh ch : Nat} {h : List Int} (H : Pl w t g2 bp bt gz cz q A c x gh ch h) : Pl w.drew t g2 bp bt gz cz q A c x gh ch h :=
  ⟨H.d, H.p0, H.p1, H.p2, H.t0, H.t1, H.t2, Kd.C_below H.z (below_drew (Below.refl _ _)), Kd.C_below H.x (below_drew (Below.refl _ _)), Kd.C_below H.h (below_drew (Below.refl _ _))⟩
theorem max_ne : ∀ g : Int, ¬ g = 18446744073709551615 → 0 ≤ g ∧ g ≤ 18446744073709551615 → 0 ≤ g + 1 ∧ g + 1 ≤ 18446744073709551615 := fun g h1 h2 => by omega
theorem newest_range : 0 ≤ (rnewestM R fr n).2.1 ∧ (rnewestM R fr n).2.1 ≤ 18446744073709551615 := by
  have h0 := rareaM_range (R := R) (fr := fr) (n := n) 0
  have h1 := rareaM_range (R := R) (fr := fr) (n := n) 1
  unfold rnewestM pickM
  split
  · exact ⟨by decide, by decide⟩
  · split
    · exact h0
    · exact h1
/-- Bytes that can be read, in block g. -/
structure RdB (w : World) (q g : Nat) (xs : List Int) : Prop where
  C : C8 w (some ⟨g, 0, none⟩) xs
  lo : q ≤ g
  lt : g < w.heap.size
theorem rd_b {q : Nat} {v : Value} {xs : List Int} (h : Row8 w q v xs) (hl : xs.length = 64) : ∃ g c, v = .slice (some ⟨g, 0, none⟩) 64 c ∧ RdB w q g xs ∧ 64 ≤ c := by
  obtain ⟨g, c, e, h1, h2, hc, _⟩ := h.form (by omega)
  subst e
  rw [hl] at h ⊢
  exact ⟨g, c, rfl, ⟨(Row8.C h).2.2, h1, h2⟩, by omega⟩
theorem run_make64 (W : World) : (Instr.makeSlice 22 (.int .i64 64) (.int .i64 64)).run Tryd.prog W = .ok (.slice (some ⟨W.heap.size, 0, none⟩) 64 64) (W.alloc (.cells (nums .u8 zer64).toArray 5)) := by kernel_rfl
theorem build3 (v1 v2 v3 : Option Addr × Nat × Nat) (w : World) : (Instr.buildSlice 110 3 #[(0, .slice v1.1 v1.2.1 v1.2.2), (1, .slice v2.1 v2.2.1 v2.2.2), (2, .slice v3.1 v3.2.1 v3.2.2)]).run Tryd.prog w = .ok (.slice (some ⟨w.heap.size, 0, none⟩) 3 3) (w.alloc (.cells #[.slice v1.1 v1.2.1 v1.2.2, .slice v2.1 v2.2.1 v2.2.2, .slice v3.1 v3.2.1 v3.2.2] 22)) := by kernel_rfl
/-- The zeros and the head, whichever was made first. -/
structure Zh (W w' : World) (gz gh ch : Nat) (hd : List Int) : Prop where
  c : 64 ≤ ch
  z : RdB w' W.heap.size gz zer64
  h : RdB w' W.heap.size gh hd
  b : Below W.heap.size W w'
theorem RdB.below {q g : Nat} {xs : List Int} (h : RdB w q g xs) (hb : Below w.heap.size w w1) : RdB w1 q g xs := ⟨Kd.C_below h.C hb, h.lo, Nat.lt_of_lt_of_le h.lt hb.size⟩
theorem zrow (W : World) : RdB (W.alloc (.cells (nums .u8 zer64).toArray 5)) W.heap.size W.heap.size zer64 :=
  ⟨C_block (heap_alloc_new W _) zer64_le, Nat.le_refl _, blk_lt (heap_alloc_new W _)⟩
theorem zh_1 {W w6 : World} {g6 c6 : Nat} {hd : List Int} (hc : 64 ≤ c6) (hb : Below (W.drew.alloc (.cells (nums .u8 zer64).toArray 5)).heap.size (W.drew.alloc (.cells (nums .u8 zer64).toArray 5)) w6) (hk : RdB w6 (W.drew.alloc (.cells (nums .u8 zer64).toArray 5)).heap.size g6 hd) : Zh W w6 W.heap.size g6 c6 hd := by
  have hz := (zrow W.drew).below hb
  have hba : Below W.heap.size W (W.drew.alloc (.cells (nums .u8 zer64).toArray 5)) := below_alloc (below_drew (Below.refl _ _)) _
  exact ⟨hc, hz, ⟨hk.C, Nat.le_trans hba.size hk.lo, hk.lt⟩, below_trans hba hb⟩
theorem zh_2 {W w6 : World} {g6 c6 : Nat} {hd : List Int} (hc : 64 ≤ c6) (hb : Below W.drew.heap.size W.drew w6) (hk : RdB w6 W.drew.heap.size g6 hd) : Zh W (w6.alloc (.cells (nums .u8 zer64).toArray 5)) w6.heap.size g6 c6 hd := by
  have hbw : Below W.heap.size W w6 := ⟨hb.os, hb.tape, hb.output, hb.size, hb.block⟩
  have hz := zrow w6
  refine ⟨hc, ⟨hz.C, Nat.le_trans hbw.size hz.lo, hz.lt⟩, hk.below (below_alloc (Below.refl _ _) _), below_alloc hbw _⟩
def stepped (R : RM) (R' : RM) (m : Nat) : Prop := ROk R' ∧ R'.wait.length ≤ R.wait.length + m ∧ R'.sec.length = R.sec.length
/-- In the loop over the places. -/
structure Lp3 (wL W : World) (B g2 : Nat) (F2 : Nat → Prop) (R : RM) (F' : Nat → Prop) (R' : RM) (m : Nat) : Prop where
  hF : ∀ k, F' k → F2 k ∨ wL.heap.size ≤ k
  r : RefAt W B g2 F' R'
  st : stepped R R' m
  u : Upd wL W F2
theorem Lp3.next {wL W W4 : World} {F' : Nat → Prop} {R'' : RM} {m d : Nat} (h : Lp3 wL W B g2 F2 R F' R' m) (hto : RefTo W W4 B g2 F' R' d R'') : ∃ F'', Lp3 wL W4 B g2 F2 R F'' R'' (m + d) := by
  obtain ⟨F'', h1, h2, h3, h4, h5, h6⟩ := hto
  refine ⟨F'', ⟨fun k hk => ?_, h2, ⟨h3, ?_, h5.trans h.st.2.2⟩, h.u.trans h6 h.hF⟩⟩
  · rcases h1 k hk with hk | hk
    · exact h.hF k hk
    · exact .inr (Nat.le_trans h.u.size hk)
  · have := h.st.2.1
    omega
theorem Lp3.ok {wL W : World} {F' : Nat → Prop} {m : Nat} (h : Lp3 wL W B g2 F2 R F' R' m) : ROk R' := h.st.1
theorem Lp3.le {wL W : World} {F' : Nat → Prop} {m m' : Nat} (h : Lp3 wL W B g2 F2 R F' R' m) (hm : m ≤ m') : Lp3 wL W B g2 F2 R F' R' m' := ⟨h.hF, h.r, ⟨h.st.1, Nat.le_trans h.st.2.1 (by omega), h.st.2.2⟩, h.u⟩
theorem Lp3.drew {wL W : World} {F' : Nat → Prop} {m : Nat} (h : Lp3 wL W B g2 F2 R F' R' m) : Lp3 wL W.drew B g2 F2 R F' R' m := ⟨h.hF, h.r.frame (G := fun _ => False) (Upd.of_below (below_drew (Below.refl _ _))) (fun _ _ h => h) (fun _ h => h.elim), h.st, h.u.drew⟩
theorem Lp3.post {wL W : World} {F' : Nat → Prop} {m : Nat} (h : Lp3 wL W B g2 F2 R F' R' m) (HT : TAt w B t g2 F2 R fr n) (HK : TOk R fr n) (hb : Below w.heap.size w wL) : TPo w W B t g2 F2 R R' fr n m := by
  have hu : Upd w W F2 := (Upd.of_below hb).trans h.u (fun _ h => .inl h)
  refine ⟨F', fun k hk => (h.hF k hk).imp id (fun hk => Nat.le_trans hb.size hk), ⟨(hu.block t (blk_lt HT.blk) HT.nF).trans HT.blk, h.r, fun hk => ?_⟩, HK.dm h.st.1 h.st.2.2, h.st.2.1, hu⟩
  rcases h.hF t hk with hk | hk
  · exact HT.nF hk
  · have := blk_lt HT.blk
    have := hb.size
    omega
theorem rput_save {p : Int} {y : List Int} {ps : List (Int × List Int)} (h : (rsaveM R p y).2 ≠ 0) : rputT ((p, y) :: ps) R = rsaveM R p y := by
  have e : rstepM R p y = rsaveM R p y := if_pos h
  show (if (rstepM R p y).2 ≠ 0 then rstepM R p y else _) = _
  rw [e, if_pos h]
theorem rput_flush {p : Int} {y : List Int} {ps : List (Int × List Int)} (h : (rsaveM R p y).2 = 0) (h2 : (rflushM (rsaveM R p y).1).2 ≠ 0) : rputT ((p, y) :: ps) R = rflushM (rsaveM R p y).1 := by
  have e : rstepM R p y = rflushM (rsaveM R p y).1 := if_neg (by rw [h]; simp)
  show (if (rstepM R p y).2 ≠ 0 then rstepM R p y else _) = _
  rw [e, if_pos h2]
theorem rput_on {p : Int} {y : List Int} {ps : List (Int × List Int)} (h : (rsaveM R p y).2 = 0) (h2 : (rflushM (rsaveM R p y).1).2 = 0) : rputT ((p, y) :: ps) R = rputT ps (rflushM (rsaveM R p y).1).1 := by
  have e : rstepM R p y = rflushM (rsaveM R p y).1 := if_neg (by rw [h]; simp)
  show (if (rstepM R p y).2 ≠ 0 then rstepM R p y else _) = _
  rw [e, if_neg (by rw [h2]; simp)]
theorem pl_of {wL w8 wP : World} {bp gz gh ch c : Nat} {A : Option Addr} {x hd : List Int} (HT : TAt w B t g2 F2 R fr n) (HC : ∀ W, Upd w W F2 → C8 W A x) (hbp : Below w.heap.size w wP) (hp : wP.heap[bp]? = some (.cells #[.int .i64 q, .int .i64 (q + 1), .int .i64 q] 3 (0, 0))) (hps : w.heap.size ≤ bp) (hz : Zh wP w8 gz gh ch hd)
    (hL : wL = w8.alloc (.cells #[.slice (some ⟨gz, 0, none⟩) 64 64, .slice A x.length c, .slice (some ⟨gh, 0, none⟩) 64 ch] 22)) : ∀ W, Upd wL W F2 → Pl W t g2 bp w8.heap.size gz 64 q A c x gh ch hd := by
  intro W hW
  have h8L : Below w8.heap.size w8 wL := by rw [hL]; exact below_alloc (Below.refl _ _) _
  have hb8 : Below w.heap.size w w8 := below_trans hbp hz.b
  have hbL : Below w.heap.size w wL := below_trans hb8 h8L
  have hlo : ∀ k, F2 k → k < w.heap.size := fun k hk => (HT.r.lo k hk).2
  have hu : Upd w W F2 := (Upd.of_below hbL).trans hW (fun _ h => .inl h)
  have ht := (hu.block t (blk_lt HT.blk) HT.nF).trans HT.blk
  have hpW : W.heap[bp]? = some (.cells #[.int .i64 q, .int .i64 (q + 1), .int .i64 q] 3 (0, 0)) := by
    have h1 := (hz.b.block bp (blk_lt hp)).trans hp
    have h2 := (h8L.block bp (blk_lt h1)).trans h1
    exact (hW.block bp (blk_lt h2) (fun h => by have := hlo _ h; omega)).trans h2
  have htW : W.heap[w8.heap.size]? = some (.cells #[.slice (some ⟨gz, 0, none⟩) 64 64, .slice A x.length c, .slice (some ⟨gh, 0, none⟩) 64 ch] 22 (0, 0)) := by
    have h1 : wL.heap[w8.heap.size]? = some (.cells #[.slice (some ⟨gz, 0, none⟩) 64 64, .slice A x.length c, .slice (some ⟨gh, 0, none⟩) 64 ch] 22 (0, 0)) := by rw [hL]; exact heap_alloc_new _ _
    exact (hW.block _ (blk_lt h1) (fun h => by have := hlo _ h; have := hb8.size; omega)).trans h1
  have hzW : C8 W (some ⟨gz, 0, none⟩) zer64 := C8.upd (Kd.C_below hz.z.C h8L) hW (fun a ha => by
    injection ha with ha
    subst ha
    exact ⟨Nat.lt_of_lt_of_le hz.z.lt h8L.size, fun h => by have h1 : gz < _ := hlo _ h; have := hz.z.lo; have := hbp.size; omega⟩)
  have hhW : C8 W (some ⟨gh, 0, none⟩) hd := C8.upd (Kd.C_below hz.h.C h8L) hW (fun a ha => by
    injection ha with ha
    subst ha
    exact ⟨Nat.lt_of_lt_of_le hz.h.lt h8L.size, fun h => by have h1 : gh < _ := hlo _ h; have := hz.h.lo; have := hbp.size; omega⟩)
  refine ⟨by simp [World.cell?, ht], by simp [World.cell?, hpW], by simp [World.cell?, hpW], by simp [World.cell?, hpW], by simp [World.cell?, htW], by simp [World.cell?, htW], by simp [World.cell?, htW], hzW, HC W hu, hhW⟩

set_option maxHeartbeats 16000000 in
theorem rPut_calls (h : TAt w B t g2 F2 R fr n) (hk : TOk R fr n) (hB : B ≤ w.heap.size) (hw : R.wait.length ≤ 5000000) (A : Option Addr) (c : Nat) (x : List Int) (hx : x.length ≤ 20000) (hxc : x.length ≤ c) (hC : ∀ W, Upd w W F2 → C8 W A x) :
    Calls Tryd.prog 49 #[.pointer (some ⟨t, 0, none⟩), .slice A x.length c] w fun e w' => e = .returned (.int .i64 (rputM R fr n x).2) ∧ TPo w w' B t g2 F2 R (rputM R fr n x).1 fr n (3 * (x.length + 64)) := by
  have HT := Aside0.mk h
  have HK := Aside0.mk hk
  have HC := Aside0.mk hC
  have HB := Aside0.mk hB
  have HW := Aside0.mk hw
  have HXC := Aside0.mk hxc
  have hc0 := h.c0
  obtain ⟨vs, vh, vc, hR⟩ := h.r
  have hc2 := hR.c2
  clear h hk hC hB hR hw hxc
  cases hd : R.down with
  | true =>
    rw [hd] at hc2
    have HE := Aside0.mk (show rputM R fr n x = (R, 60) by rw [rputM, if_pos hd])
    rw [HE.out]
    clear hd
    go_enter Tryd.func49, Tryd.ntmps49
    go_wp2_with (fail)
    go_ret
    exact ⟨rfl, .refl HT.out HK.out _⟩
  | false =>
    rw [hd] at hc2
    have HE := Aside0.mk (show rputM R fr n x = if 64 * n - 64 < (x.length : Int) ∨ (rnewestM R fr n).2.1 = 18446744073709551615 then (R, 2) else rputT [(rto (rnewestM R fr n).1 fr n, zer64), (rto (rnewestM R fr n).1 fr n + 1, x), (rto (rnewestM R fr n).1 fr n, rheadM ((rnewestM R fr n).2.1 + 1) x)] R by rw [rputM, if_neg (by rw [hd]; simp)])
    have HD := Aside0.mk hd
    clear hd
    have n1 := HK.out.hn
    have n2 : n ≤ 500 := by have := HK.out.hf; have := HK.out.hl; have := HK.out.hz; omega
    have HNW := Aside0.mk (rNewest_calls HT.out HK.out)
    obtain ⟨st, hst⟩ : ∃ st, rnewestM R fr n = st := ⟨_, rfl⟩
    have HGR := Aside0.mk (show 0 ≤ st.2.1 ∧ st.2.1 ≤ 18446744073709551615 from by rw [← hst]; exact newest_range)
    rw [hst] at HE HNW
    obtain ⟨T, hT⟩ : ∃ T, rputM R fr n x = T := ⟨_, rfl⟩
    rw [hT] at HE ⊢
    obtain ⟨at_, mo, rr⟩ := st
    dsimp only at HE HGR
    clear hst hT
    by_cases hl : 64 * n - 64 < (x.length : Int)
    · have tl : decide (64 * n - 64 < (x.length : Int)) = true := decide_eq_true hl
      have HE2 := Aside0.mk (HE.out.trans (if_pos (.inl hl)))
      rw [HE2.out]
      clear hl HE
      go_enter Tryd.func49, Tryd.ntmps49
      go_wp2_with (first | (go_at_call 71; (with_reducible refine (HNW.out).mono ?_); rintro e w1 ⟨v1, rfl, ⟨A1, c1, rfl, hc1, hC1⟩, hb1⟩; have HB1 := Aside0.mk hb1; have HRM := Aside0.mk (rRoom_calls (HT.out.below hb1) HK.out); have h1c0 := (HT.out.below hb1).c0; have h1c1 := (HT.out.below hb1).c1; have h1c2 := (HT.out.below hb1).c2; clear hb1 hc1 hC1) | (go_at_call 72; (with_reducible refine (HRM.out).mono ?_); rintro e w2 ⟨rfl, rfl⟩; skip))
      go_ret
      exact ⟨rfl, .below HT.out HK.out HB1.out _⟩
    have tl : decide (64 * n - 64 < (x.length : Int)) = false := decide_eq_false hl
    by_cases hm : mo = 18446744073709551615
    · subst hm
      have HE2 := Aside0.mk (HE.out.trans (if_pos (.inr rfl)))
      rw [HE2.out]
      clear hl HE
      go_enter Tryd.func49, Tryd.ntmps49
      go_wp2_with (first | (go_at_call 71; (with_reducible refine (HNW.out).mono ?_); rintro e w1 ⟨v1, rfl, ⟨A1, c1, rfl, hc1, hC1⟩, hb1⟩; have HB1 := Aside0.mk hb1; have HRM := Aside0.mk (rRoom_calls (HT.out.below hb1) HK.out); have h1c0 := (HT.out.below hb1).c0; have h1c1 := (HT.out.below hb1).c1; have h1c2 := (HT.out.below hb1).c2; clear hb1 hc1 hC1) | (go_at_call 72; (with_reducible refine (HRM.out).mono ?_); rintro e w2 ⟨rfl, rfl⟩; skip))
      go_ret
      exact ⟨rfl, .below HT.out HK.out HB1.out _⟩
    have tm : (mo == 18446744073709551615) = false := by simpa using hm
    have HG1 := Aside0.mk (max_ne mo hm HGR.out)
    have HE2 := Aside0.mk (HE.out.trans (if_neg (fun h => h.elim hl hm)))
    have hwm : IntKind.u64.wrap (mo + 1) = mo + 1 := by have := HG1.out; rw [wrap64u]; omega
    clear hl hm HE
    have hf0 := HK.out.hf
    have hf1 : fr ≤ 1000 := by have := HK.out.hl; have := HK.out.hz; omega
    have HX0 := Aside0.mk (show ∀ W, Below w.heap.size w W → C8 W A x from fun W hW => HC.out W (Upd.of_below hW))
    have HHL := Aside0.mk (rheadM_length (mo + 1) x)
    obtain ⟨hd, hhd⟩ : ∃ hd, rheadM (mo + 1) x = hd := ⟨_, rfl⟩
    have HHC := Aside0.mk (show ∀ W, Below w.heap.size w W → Calls Tryd.prog 14 #[.int .u64 (mo + 1), .slice A x.length c] W fun e w' => RowPo W w' hd e from fun W hW => by rw [← hhd]; exact Head_calls HG1.out.1 HG1.out.2 A c x (by omega) (HX0.out W hW))
    rw [hhd] at HE2 HHL
    clear hhd
    by_cases hat : at_ = 0
    · subst hat
      obtain ⟨q, hq⟩ : ∃ q, q = fr + n := ⟨_, rfl⟩
      have hwq : wrap64 (fr + n) = q := by rw [hq]; simp only [wrap64]; omega
      have HE3 := Aside0.mk (show T = rputT [(q, zer64), (q + 1, x), (q, hd)] R from by rw [HE2.out, show rto 0 fr n = q from hq.symm])
      have hq0 : 0 ≤ q := by omega
      have hq1 : q ≤ 2000 := by omega
      clear hq HE2
      go_enter Tryd.func49, Tryd.ntmps49
      go_wp2_with (first | (go_at_call 71; (with_reducible refine (HNW.out).mono ?_); rintro e w1 ⟨v1, rfl, ⟨A1, c1, rfl, hc1, hC1⟩, hb1⟩; have HB1 := Aside0.mk hb1; have HRM := Aside0.mk (rRoom_calls (HT.out.below hb1) HK.out); have h1c0 := (HT.out.below hb1).c0; have h1c1 := (HT.out.below hb1).c1; have h1c2 := (HT.out.below hb1).c2; clear hb1 hc1 hC1) | (go_at_call 72; (with_reducible refine (HRM.out).mono ?_); rintro e w2 ⟨rfl, rfl⟩; skip))
      refine start_ (n := 10) (S := fun w' => w'.cell? ⟨t, 1, none⟩ = some (.int .i64 fr) ∧ w'.cell? ⟨t, 2, none⟩ = some (.int .i64 n)) (ds := []) (bz 10 0) (by kernel_rfl) rfl rfl ⟨h1c1, h1c2⟩ (fun hHeld => ?_)
      refine pz 0 (some 42) (bz 10 1) ?_
      refine pz 1 (some 43) (bz 10 3) ?_
      refine pz 2 (some 44) (bz 10 7) ?_
      refine pz 4 (some 46) (bz 10 23) ?_
      refine pz 5 (some 47) (bz 10 55) ?_
      refine pz 6 (some 48) (bz 10 119) ?_
      refine tz2 3 (some 45) (bz 10 127) hHeld ?_
      refine tz2 7 (some 49) (bz 10 255) hHeld ?_
      refine pz 8 (some 50) (bz 10 511) ?_
      refine pz 9 (some 8) (bz 10 1023) ?_
      refine done_ (by kernel_rfl) ?_
      clear hHeld
      go_wp2_with (fail)
      obtain ⟨wP, hwP⟩ : ∃ wP, wP = (World.alloc w1 (.cells #[.int .i64 q, .int .i64 (q + 1), .int .i64 q] 3)).drew := ⟨_, rfl⟩
      have HBP := Aside0.mk (show Below w.heap.size w wP from by rw [hwP]; exact below_drew (below_alloc HB1.out _))
      have HPB := Aside0.mk (show wP.heap[w1.heap.size]? = some (.cells #[.int .i64 q, .int .i64 (q + 1), .int .i64 q] 3 (0, 0)) from by rw [hwP]; exact heap_alloc_new w1 _)
      have HPS := Aside0.mk HB1.out.size
      obtain ⟨bp, hbp⟩ : ∃ bp, bp = w1.heap.size := ⟨_, rfl⟩
      simp only [← hwP, ← hbp]
      rw [← hbp] at HPB HPS
      clear hwP hbp
      have HBD := Aside0.mk (show Below w.heap.size w wP.drew from HBP.out.trans (below_drew (Below.refl _ _)))
      refine start_ (n := 8) (S := fun w' => True) (ds := []) (bz 8 0) (by kernel_rfl) rfl rfl trivial (fun hHeld => ?_)
      refine pz 1 (some 57) (bz 8 2) ?_
      refine pz 2 (some 58) (bz 8 6) ?_
      refine pz 3 (some 59) (bz 8 14) ?_
      refine pz 4 (some 60) (bz 8 30) ?_
      refine join_ (σ := Nat × Nat × Nat) 2 (bz 8 63) (fun s => [(56, .slice (some ⟨s.1, 0, none⟩) 64 64), (61, .slice (some ⟨s.2.1, 0, none⟩) 64 s.2.2)]) (fun s w' => Zh wP w' s.1 s.2.1 s.2.2 hd) ?_ ?_
      rotate_left
      · intro hCont
        refine two_ (i := 0) (j := 5) (Ni := some 56) (Nj := some 61) (bz 8 31) (bz 8 62) rfl rfl rfl rfl (by kernel_rfl) (by decide) (by decide) (fun K hK => ?_) (fun K hK => ?_)
        · skip
          refine value_ (w1 := wP.drew.alloc (.cells (nums .u8 zer64).toArray 5)) (v := .slice (some ⟨wP.heap.size, 0, none⟩) 64 64) (by rfl) rfl (exec_make (t := 22) rfl (by rfl) (by rfl) (run_make64 wP.drew)) ?_
          have HBZ := Aside0.mk (below_alloc HBD.out (.cells (nums .u8 zer64).toArray 5))
          refine hK.out _ _ trivial (fun hHeld => ?_)
          clear hK K
          refine norm_ (a' := ?_) ?_ ?_
          rotate_left
          · show Act.put _ (some 56) _ = _
            simp only [Act.put, List.setIfInBounds_toArray, List.set_cons_zero, List.set_cons_succ, i64_w, i32_w]
            rfl
          refine one_ (i := 5) (N := some 61) (bz 8 63) rfl rfl (by kernel_rfl) (by decide) (fun K hK => ?_)
          refine goes_ Tryd.func14 (by kernel_rfl) rfl #[.int .u64 (mo + 1), .slice A x.length c] (by rfl) rfl rfl (by simp only [List.map_toArray, List.map_cons, List.map_nil]; rfl) ?_
          with_reducible refine (HHC.out _ HBZ.out).mono ?_
          rintro e w6 ⟨v6, rfl, hr6, hb6⟩
          refine ⟨_, rfl, ?_⟩
          obtain ⟨g6, c6, rfl, hk6, hc6⟩ : ∃ g c, v6 = .slice (some ⟨g, 0, none⟩) 64 c ∧ RdB w6 _ g hd ∧ 64 ≤ c := rd_b hr6 HHL.out
          refine hK.out _ _ trivial (fun hHeld => ?_)
          clear hK K
          refine norm_ (a' := ?_) ?_ ?_
          rotate_left
          · show Act.put _ (some 61) _ = _
            simp only [Act.put, List.setIfInBounds_toArray, List.set_cons_zero, List.set_cons_succ, i64_w, i32_w]
            rfl
          exact norm_ (by simp only [putAll, Act.put, List.setIfInBounds_toArray, List.set_cons_zero, List.set_cons_succ]) (hCont (wP.heap.size, g6, c6) _ (zh_1 (W := wP) hc6 hb6 hk6))
        · skip
          refine goes_ Tryd.func14 (by kernel_rfl) rfl #[.int .u64 (mo + 1), .slice A x.length c] (by rfl) rfl rfl (by simp only [List.map_toArray, List.map_cons, List.map_nil]; rfl) ?_
          with_reducible refine (HHC.out _ HBD.out).mono ?_
          rintro e w6 ⟨v6, rfl, hr6, hb6⟩
          refine ⟨_, rfl, ?_⟩
          obtain ⟨g6, c6, rfl, hk6, hc6⟩ : ∃ g c, v6 = .slice (some ⟨g, 0, none⟩) 64 c ∧ RdB w6 _ g hd ∧ 64 ≤ c := rd_b hr6 HHL.out
          have HB6 := Aside0.mk (HBD.out.trans (hb6.mono HBD.out.size))
          refine hK.out _ _ trivial (fun hHeld => ?_)
          clear hK K
          refine norm_ (a' := ?_) ?_ ?_
          rotate_left
          · show Act.put _ (some 61) _ = _
            simp only [Act.put, List.setIfInBounds_toArray, List.set_cons_zero, List.set_cons_succ, i64_w, i32_w]
            rfl
          refine one_ (i := 0) (N := some 56) (bz 8 63) rfl rfl (by kernel_rfl) (by decide) (fun K hK => ?_)
          refine value_ (w1 := w6.alloc (.cells (nums .u8 zer64).toArray 5)) (v := .slice (some ⟨w6.heap.size, 0, none⟩) 64 64) (by rfl) rfl (exec_make (t := 22) rfl (by rfl) (by rfl) (run_make64 w6)) ?_
          refine hK.out _ _ trivial (fun hHeld => ?_)
          clear hK K
          refine norm_ (a' := ?_) ?_ ?_
          rotate_left
          · show Act.put _ (some 56) _ = _
            simp only [Act.put, List.setIfInBounds_toArray, List.set_cons_zero, List.set_cons_succ, i64_w, i32_w]
            rfl
          exact norm_ (by simp only [putAll, Act.put, List.setIfInBounds_toArray, List.set_cons_zero, List.set_cons_succ]) (hCont (w6.heap.size, g6, c6) _ (zh_2 (W := wP) hc6 hb6 hk6))
      rintro ⟨gz, gh, ch⟩ w8 hZ
      have hHeld : True := trivial
      have HZ := Aside0.mk hZ
      clear hZ
      dsimp only at HZ ⊢
      refine norm_ (a' := ?_) ?_ ?_
      rotate_left
      · simp only [putAll, Act.put, List.setIfInBounds_toArray, List.set_cons_zero, List.set_cons_succ]
        rfl
      refine one_ (i := 6) (N := some 62) (bz 8 127) rfl rfl (by kernel_rfl) (by decide) (fun K hK => ?_)
      refine value_ (w1 := w8.alloc (.cells #[.slice (some ⟨gz, 0, none⟩) 64 64, .slice A x.length c, .slice (some ⟨gh, 0, none⟩) 64 ch] 22)) (v := .slice (some ⟨w8.heap.size, 0, none⟩) 3 3) (by rfl) rfl ?hbs ?_
      case hbs =>
        refine exec_buildSlice (t := 110) (n := 3) (parts := #[(0, .tmp 56), (1, .tmp 57), (2, .tmp 61)]) (args := #[(0, .slice (some ⟨gz, 0, none⟩) 64 64), (1, .slice A x.length c), (2, .slice (some ⟨gh, 0, none⟩) 64 ch)]) ?ho ?he ?hr
        case ho => rfl
        case he => kernel_rfl
        case hr => exact build3 (some ⟨gz, 0, none⟩, 64, 64) (A, x.length, c) (some ⟨gh, 0, none⟩, 64, ch) w8
      refine hK.out _ _ trivial (fun hHeld => ?_)
      clear hK K
      refine norm_ (a' := ?_) ?_ ?_
      rotate_left
      · show Act.put _ (some 62) _ = _
        simp only [Act.put, List.setIfInBounds_toArray, List.set_cons_zero, List.set_cons_succ, i64_w, i32_w]
        rfl
      refine pz 7 (some 10) (bz 8 255) ?_
      refine done_ (by kernel_rfl) ?_
      clear hHeld
      obtain ⟨wL, hwL⟩ : ∃ wL, wL = w8.alloc (.cells #[.slice (some ⟨gz, 0, none⟩) 64 64, .slice A x.length c, .slice (some ⟨gh, 0, none⟩) 64 ch] 22) := ⟨_, rfl⟩
      have HPL := Aside0.mk (pl_of HT.out HC.out HBP.out HPB.out HPS.out HZ.out hwL)
      have HBL := Aside0.mk (show Below w.heap.size w wL from by rw [hwL]; exact below_alloc (below_trans HBP.out HZ.out.b) _)
      have HLP := Aside0.mk (show Lp3 wL wL B g2 F2 R F2 R 0 from ⟨fun _ h => .inl h, HT.out.r.frame (G := fun _ => False) (Upd.of_below HBL.out) (fun _ _ h => h) (fun _ h => h.elim), ⟨HK.out.d, Nat.le_refl _, rfl⟩, Upd.refl _ _⟩)
      have HCH := Aside0.mk HZ.out.c
      obtain ⟨bt, hbt⟩ : ∃ bt, bt = w8.heap.size := ⟨_, rfl⟩
      rw [← hbt] at HPL
      have HT3 := Aside0.mk HE3.out.symm
      simp only [← hwL, ← hbt]
      clear hwL hbt HZ HPB HPS HBP HBD HE3
      try simp only [hwq]
      try clear hwq
      go_wp2_with (fail)
      go_loopw [11] (fun v11 w' => ∃ (i : Nat) (R' : RM) (F' : Nat → Prop), v11 = .int .i64 i ∧ i ≤ 3 ∧ Aside0 (Lp3 wL w' B g2 F2 R F' R' (i * (x.length + 64))) ∧ Aside0 (rputT (([(q, zer64), (q + 1, x), (q, hd)] : List (Int × List Int)).drop i) R' = T)) (fun v11 _ => 3 - (intOf v11).toNat)
      case atStart => exact ⟨0, R, F2, rfl, by decide, ⟨HLP.out.le (Nat.zero_le _)⟩, HT3⟩
      case round =>
        clear HLP HT3
        obtain ⟨i, R', F', rfl, hi, HLP, HTT⟩ := hrel
        have hcase : i = 0 ∨ i = 1 ∨ i = 2 ∨ i = 3 := by omega
        have HPW := Aside0.mk (HPL.out _ HLP.out.u)
        rcases hcase with rfl | rfl | rfl | rfl
        · have HLD := Aside0.mk HLP.out.drew
          have HPD := Aside0.mk HPW.out.drew
          have HTT0 := Aside0.mk (show rputT ((q, zer64) :: [(q + 1, x), (q, hd)]) R' = T from HTT.out)
          have HSV := Aside0.mk (calls_of_args (args' := #[.pointer (some ⟨g2, 0, none⟩), .int .i64 q, .slice (some ⟨gz, 0, none⟩) zer64.length 64]) (by rw [zer64_len]) (rTo_save HLD.out.r HLD.out.st.1 (by have h1 := HB.out; have h2 := HBL.out.size; have h3 := HLD.out.u.size; omega) q (some ⟨gz, 0, none⟩) 64 zer64 (by rw [zer64_len]; decide) (by rw [zer64_len]; decide) (by have h1 := HLD.out.st.2.1; have h2 := HW.out; have h3 := hx; rw [zer64_len]; omega) (fun W hW => (HPL.out W (HLD.out.u.trans hW HLD.out.hF)).z)))
          have hp0 := HPW.out.d
          obtain ⟨sv, hsv⟩ : ∃ sv, (rsaveM R' q zer64).2 = sv := ⟨_, rfl⟩
          have HSE := Lib.hid hsv
          by_cases hs0 : sv = 0
          · subst hs0
            obtain ⟨fv, hfv⟩ : ∃ fv, (rflushM (rsaveM R' q zer64).1).2 = fv := ⟨_, rfl⟩
            have HEF := Lib.hid hfv
            by_cases hf0 : fv = 0
            · subst hf0
              have HT4 := Aside0.mk ((rput_on hsv hfv).symm.trans HTT0.out)
              clear hsv hfv
              rw [HSE.out] at HSV
              go_wp2_with (fail)
              refine start_ (n := 14) (S := fun w' => w'.cell? ⟨t, 0, none⟩ = some (.pointer (some ⟨g2, 0, none⟩)) ∧ w'.cell? ⟨bp, 0, none⟩ = some (.int .i64 q) ∧ w'.cell? ⟨bt, 0, none⟩ = some (.slice (some ⟨gz, 0, none⟩) 64 64)) (ds := []) (bz 14 0) (by kernel_rfl) rfl rfl ⟨HPD.out.d, HPD.out.p0, HPD.out.t0⟩ (fun hHeld => ?_)
              refine pz 0 (some 67) (bz 14 1) ?_
              refine pz 1 (some 68) (bz 14 3) ?_
              refine pz 2 (some 69) (bz 14 7) ?_
              refine pz 4 (some 71) (bz 14 23) ?_
              refine pz 5 (some 72) (bz 14 55) ?_
              refine pz 6 (some 73) (bz 14 119) ?_
              refine pz 8 (some 75) (bz 14 375) ?_
              refine pz 9 (some 76) (bz 14 887) ?_
              refine pz 10 (some 77) (bz 14 1911) ?_
              refine tz3 3 (some 70) (bz 14 1919) hHeld ?_
              refine tz3 7 (some 74) (bz 14 2047) hHeld ?_
              refine tz3 11 (some 78) (bz 14 4095) hHeld ?_
              refine one_ (i := 12) (N := some 79) (bz 14 8191) rfl rfl (by kernel_rfl) (by decide) (fun K hK => ?_)
              refine goes_ Tryd.func73 (by kernel_rfl) rfl #[.pointer (some ⟨g2, 0, none⟩), .int .i64 q, .slice (some ⟨gz, 0, none⟩) 64 64] (by rfl) rfl rfl (by simp only [List.map_toArray, List.map_cons, List.map_nil]; rfl) ?_
              with_reducible refine (HSV.out).mono ?_
              rintro e w4 ⟨rfl, hto⟩
              refine ⟨_, rfl, ?_⟩
              obtain ⟨F4, hl4⟩ := HLD.out.next hto
              have HL4 := Aside0.mk hl4
              have HP4 := Aside0.mk (HPL.out _ hl4.u)
              clear hto hl4
              refine hK.out _ _ ⟨HP4.out.d, HP4.out.p0, HP4.out.t0⟩ (fun hHeld => ?_)
              clear hK K
              refine norm_ (a' := ?_) ?_ ?_
              rotate_left
              · show Act.put _ (some 79) _ = _
                simp only [Act.put, List.setIfInBounds_toArray, List.set_cons_zero, List.set_cons_succ, i64_w, i32_w]
                rfl
              refine pz 13 (some 12) (bz 14 16383) ?_
              refine done_ (by kernel_rfl) ?_
              clear hHeld
              have h40 := HP4.out.d
              go_wp2_with (first | (go_at_call 55; (with_reducible refine (rTo_flush HL4.out.r HL4.out.ok).mono ?_); rintro e w5 ⟨rfl, hto5⟩; have HL5 := Aside0.mk (HL4.out.next hto5); have h5e := HEF.out; rw [h5e]; clear hto5))
              obtain ⟨F5, hl5⟩ := HL5.out
              have HL6 := Aside0.mk (hl5.le (m' := 1 * (x.length + 64)) (by rw [zer64_len]; omega))
              go_roundw
              case rel => exact ⟨1, _, F5, rfl, by decide, HL6, HT4⟩
              case measure => simp [intOf]
            · have tf : (fv == 0) = false := by simpa using hf0
              have HT4 := Aside0.mk ((rput_flush (ps := [(q + 1, x), (q, hd)]) hsv (by rw [hfv]; exact hf0)).symm.trans HTT0.out)
              have HT5 := Aside0.mk (show (rflushM (rsaveM R' q zer64).1).2 = T.2 ∧ (rflushM (rsaveM R' q zer64).1).1 = T.1 from ⟨by rw [HT4.out], by rw [HT4.out]⟩)
              clear hsv hfv hf0
              rw [HSE.out] at HSV
              go_wp2_with (fail)
              refine start_ (n := 14) (S := fun w' => w'.cell? ⟨t, 0, none⟩ = some (.pointer (some ⟨g2, 0, none⟩)) ∧ w'.cell? ⟨bp, 0, none⟩ = some (.int .i64 q) ∧ w'.cell? ⟨bt, 0, none⟩ = some (.slice (some ⟨gz, 0, none⟩) 64 64)) (ds := []) (bz 14 0) (by kernel_rfl) rfl rfl ⟨HPD.out.d, HPD.out.p0, HPD.out.t0⟩ (fun hHeld => ?_)
              refine pz 0 (some 67) (bz 14 1) ?_
              refine pz 1 (some 68) (bz 14 3) ?_
              refine pz 2 (some 69) (bz 14 7) ?_
              refine pz 4 (some 71) (bz 14 23) ?_
              refine pz 5 (some 72) (bz 14 55) ?_
              refine pz 6 (some 73) (bz 14 119) ?_
              refine pz 8 (some 75) (bz 14 375) ?_
              refine pz 9 (some 76) (bz 14 887) ?_
              refine pz 10 (some 77) (bz 14 1911) ?_
              refine tz3 3 (some 70) (bz 14 1919) hHeld ?_
              refine tz3 7 (some 74) (bz 14 2047) hHeld ?_
              refine tz3 11 (some 78) (bz 14 4095) hHeld ?_
              refine one_ (i := 12) (N := some 79) (bz 14 8191) rfl rfl (by kernel_rfl) (by decide) (fun K hK => ?_)
              refine goes_ Tryd.func73 (by kernel_rfl) rfl #[.pointer (some ⟨g2, 0, none⟩), .int .i64 q, .slice (some ⟨gz, 0, none⟩) 64 64] (by rfl) rfl rfl (by simp only [List.map_toArray, List.map_cons, List.map_nil]; rfl) ?_
              with_reducible refine (HSV.out).mono ?_
              rintro e w4 ⟨rfl, hto⟩
              refine ⟨_, rfl, ?_⟩
              obtain ⟨F4, hl4⟩ := HLD.out.next hto
              have HL4 := Aside0.mk hl4
              have HP4 := Aside0.mk (HPL.out _ hl4.u)
              clear hto hl4
              refine hK.out _ _ ⟨HP4.out.d, HP4.out.p0, HP4.out.t0⟩ (fun hHeld => ?_)
              clear hK K
              refine norm_ (a' := ?_) ?_ ?_
              rotate_left
              · show Act.put _ (some 79) _ = _
                simp only [Act.put, List.setIfInBounds_toArray, List.set_cons_zero, List.set_cons_succ, i64_w, i32_w]
                rfl
              refine pz 13 (some 12) (bz 14 16383) ?_
              refine done_ (by kernel_rfl) ?_
              clear hHeld
              have h40 := HP4.out.d
              go_wp2_with (first | (go_at_call 55; (with_reducible refine (rTo_flush HL4.out.r HL4.out.ok).mono ?_); rintro e w5 ⟨rfl, hto5⟩; have HL5 := Aside0.mk (HL4.out.next hto5); have h5e := HEF.out; rw [h5e]; clear hto5))
              obtain ⟨F5, hl5⟩ := HL5.out
              go_ret
              rw [← HT5.out.1, ← HT5.out.2, HEF.out]
              exact ⟨rfl, (hl5.post HT.out HK.out HBL.out).le (by rw [zer64_len]; omega)⟩
          · have ts : (sv == 0) = false := by simpa using hs0
            have HT4 := Aside0.mk ((rput_save (ps := [(q + 1, x), (q, hd)]) (by rw [hsv]; exact hs0)).symm.trans HTT0.out)
            have HT5 := Aside0.mk (show (rsaveM R' q zer64).2 = T.2 ∧ (rsaveM R' q zer64).1 = T.1 from ⟨by rw [HT4.out], by rw [HT4.out]⟩)
            clear hsv hs0
            rw [HSE.out] at HSV
            go_wp2_with (fail)
            refine start_ (n := 14) (S := fun w' => w'.cell? ⟨t, 0, none⟩ = some (.pointer (some ⟨g2, 0, none⟩)) ∧ w'.cell? ⟨bp, 0, none⟩ = some (.int .i64 q) ∧ w'.cell? ⟨bt, 0, none⟩ = some (.slice (some ⟨gz, 0, none⟩) 64 64)) (ds := []) (bz 14 0) (by kernel_rfl) rfl rfl ⟨HPD.out.d, HPD.out.p0, HPD.out.t0⟩ (fun hHeld => ?_)
            refine pz 0 (some 67) (bz 14 1) ?_
            refine pz 1 (some 68) (bz 14 3) ?_
            refine pz 2 (some 69) (bz 14 7) ?_
            refine pz 4 (some 71) (bz 14 23) ?_
            refine pz 5 (some 72) (bz 14 55) ?_
            refine pz 6 (some 73) (bz 14 119) ?_
            refine pz 8 (some 75) (bz 14 375) ?_
            refine pz 9 (some 76) (bz 14 887) ?_
            refine pz 10 (some 77) (bz 14 1911) ?_
            refine tz3 3 (some 70) (bz 14 1919) hHeld ?_
            refine tz3 7 (some 74) (bz 14 2047) hHeld ?_
            refine tz3 11 (some 78) (bz 14 4095) hHeld ?_
            refine one_ (i := 12) (N := some 79) (bz 14 8191) rfl rfl (by kernel_rfl) (by decide) (fun K hK => ?_)
            refine goes_ Tryd.func73 (by kernel_rfl) rfl #[.pointer (some ⟨g2, 0, none⟩), .int .i64 q, .slice (some ⟨gz, 0, none⟩) 64 64] (by rfl) rfl rfl (by simp only [List.map_toArray, List.map_cons, List.map_nil]; rfl) ?_
            with_reducible refine (HSV.out).mono ?_
            rintro e w4 ⟨rfl, hto⟩
            refine ⟨_, rfl, ?_⟩
            obtain ⟨F4, hl4⟩ := HLD.out.next hto
            have HL4 := Aside0.mk hl4
            have HP4 := Aside0.mk (HPL.out _ hl4.u)
            clear hto hl4
            refine hK.out _ _ ⟨HP4.out.d, HP4.out.p0, HP4.out.t0⟩ (fun hHeld => ?_)
            clear hK K
            refine norm_ (a' := ?_) ?_ ?_
            rotate_left
            · show Act.put _ (some 79) _ = _
              simp only [Act.put, List.setIfInBounds_toArray, List.set_cons_zero, List.set_cons_succ, i64_w, i32_w]
              rfl
            refine pz 13 (some 12) (bz 14 16383) ?_
            refine done_ (by kernel_rfl) ?_
            clear hHeld
            go_wp2_with (fail)
            go_ret
            rw [← HT5.out.1, ← HT5.out.2, HSE.out]
            exact ⟨rfl, (HL4.out.post HT.out HK.out HBL.out).le (by rw [zer64_len]; omega)⟩
        · have HLD := Aside0.mk HLP.out.drew
          have HPD := Aside0.mk HPW.out.drew
          have HTT0 := Aside0.mk (show rputT (((q + 1), x) :: [(q, hd)]) R' = T from HTT.out)
          have HSV := Aside0.mk ((rTo_save HLD.out.r HLD.out.st.1 (by have h1 := HB.out; have h2 := HBL.out.size; have h3 := HLD.out.u.size; omega) (q + 1) A c x (by omega) HXC.out (by have h1 := HLD.out.st.2.1; have h2 := HW.out; have h3 := hx; omega) (fun W hW => (HPL.out W (HLD.out.u.trans hW HLD.out.hF)).x)))
          have hp0 := HPW.out.d
          obtain ⟨sv, hsv⟩ : ∃ sv, (rsaveM R' (q + 1) x).2 = sv := ⟨_, rfl⟩
          have HSE := Lib.hid hsv
          by_cases hs0 : sv = 0
          · subst hs0
            obtain ⟨fv, hfv⟩ : ∃ fv, (rflushM (rsaveM R' (q + 1) x).1).2 = fv := ⟨_, rfl⟩
            have HEF := Lib.hid hfv
            by_cases hf0 : fv = 0
            · subst hf0
              have HT4 := Aside0.mk ((rput_on hsv hfv).symm.trans HTT0.out)
              clear hsv hfv
              rw [HSE.out] at HSV
              go_wp2_with (fail)
              refine start_ (n := 14) (S := fun w' => w'.cell? ⟨t, 0, none⟩ = some (.pointer (some ⟨g2, 0, none⟩)) ∧ w'.cell? ⟨bp, 1, none⟩ = some (.int .i64 (q + 1)) ∧ w'.cell? ⟨bt, 1, none⟩ = some (.slice A x.length c)) (ds := []) (bz 14 0) (by kernel_rfl) rfl rfl ⟨HPD.out.d, HPD.out.p1, HPD.out.t1⟩ (fun hHeld => ?_)
              refine pz 0 (some 67) (bz 14 1) ?_
              refine pz 1 (some 68) (bz 14 3) ?_
              refine pz 2 (some 69) (bz 14 7) ?_
              refine pz 4 (some 71) (bz 14 23) ?_
              refine pz 5 (some 72) (bz 14 55) ?_
              refine pz 6 (some 73) (bz 14 119) ?_
              refine pz 8 (some 75) (bz 14 375) ?_
              refine pz 9 (some 76) (bz 14 887) ?_
              refine pz 10 (some 77) (bz 14 1911) ?_
              refine tz3 3 (some 70) (bz 14 1919) hHeld ?_
              refine tz3 7 (some 74) (bz 14 2047) hHeld ?_
              refine tz3 11 (some 78) (bz 14 4095) hHeld ?_
              refine one_ (i := 12) (N := some 79) (bz 14 8191) rfl rfl (by kernel_rfl) (by decide) (fun K hK => ?_)
              refine goes_ Tryd.func73 (by kernel_rfl) rfl #[.pointer (some ⟨g2, 0, none⟩), .int .i64 (q + 1), .slice A x.length c] (by rfl) rfl rfl (by simp only [List.map_toArray, List.map_cons, List.map_nil]; rfl) ?_
              with_reducible refine (HSV.out).mono ?_
              rintro e w4 ⟨rfl, hto⟩
              refine ⟨_, rfl, ?_⟩
              obtain ⟨F4, hl4⟩ := HLD.out.next hto
              have HL4 := Aside0.mk hl4
              have HP4 := Aside0.mk (HPL.out _ hl4.u)
              clear hto hl4
              refine hK.out _ _ ⟨HP4.out.d, HP4.out.p1, HP4.out.t1⟩ (fun hHeld => ?_)
              clear hK K
              refine norm_ (a' := ?_) ?_ ?_
              rotate_left
              · show Act.put _ (some 79) _ = _
                simp only [Act.put, List.setIfInBounds_toArray, List.set_cons_zero, List.set_cons_succ, i64_w, i32_w]
                rfl
              refine pz 13 (some 12) (bz 14 16383) ?_
              refine done_ (by kernel_rfl) ?_
              clear hHeld
              have h40 := HP4.out.d
              go_wp2_with (first | (go_at_call 55; (with_reducible refine (rTo_flush HL4.out.r HL4.out.ok).mono ?_); rintro e w5 ⟨rfl, hto5⟩; have HL5 := Aside0.mk (HL4.out.next hto5); have h5e := HEF.out; rw [h5e]; clear hto5))
              obtain ⟨F5, hl5⟩ := HL5.out
              have HL6 := Aside0.mk (hl5.le (m' := 2 * (x.length + 64)) (by omega))
              go_roundw
              case rel => exact ⟨2, _, F5, rfl, by decide, HL6, HT4⟩
              case measure => simp [intOf]
            · have tf : (fv == 0) = false := by simpa using hf0
              have HT4 := Aside0.mk ((rput_flush (ps := [(q, hd)]) hsv (by rw [hfv]; exact hf0)).symm.trans HTT0.out)
              have HT5 := Aside0.mk (show (rflushM (rsaveM R' (q + 1) x).1).2 = T.2 ∧ (rflushM (rsaveM R' (q + 1) x).1).1 = T.1 from ⟨by rw [HT4.out], by rw [HT4.out]⟩)
              clear hsv hfv hf0
              rw [HSE.out] at HSV
              go_wp2_with (fail)
              refine start_ (n := 14) (S := fun w' => w'.cell? ⟨t, 0, none⟩ = some (.pointer (some ⟨g2, 0, none⟩)) ∧ w'.cell? ⟨bp, 1, none⟩ = some (.int .i64 (q + 1)) ∧ w'.cell? ⟨bt, 1, none⟩ = some (.slice A x.length c)) (ds := []) (bz 14 0) (by kernel_rfl) rfl rfl ⟨HPD.out.d, HPD.out.p1, HPD.out.t1⟩ (fun hHeld => ?_)
              refine pz 0 (some 67) (bz 14 1) ?_
              refine pz 1 (some 68) (bz 14 3) ?_
              refine pz 2 (some 69) (bz 14 7) ?_
              refine pz 4 (some 71) (bz 14 23) ?_
              refine pz 5 (some 72) (bz 14 55) ?_
              refine pz 6 (some 73) (bz 14 119) ?_
              refine pz 8 (some 75) (bz 14 375) ?_
              refine pz 9 (some 76) (bz 14 887) ?_
              refine pz 10 (some 77) (bz 14 1911) ?_
              refine tz3 3 (some 70) (bz 14 1919) hHeld ?_
              refine tz3 7 (some 74) (bz 14 2047) hHeld ?_
              refine tz3 11 (some 78) (bz 14 4095) hHeld ?_
              refine one_ (i := 12) (N := some 79) (bz 14 8191) rfl rfl (by kernel_rfl) (by decide) (fun K hK => ?_)
              refine goes_ Tryd.func73 (by kernel_rfl) rfl #[.pointer (some ⟨g2, 0, none⟩), .int .i64 (q + 1), .slice A x.length c] (by rfl) rfl rfl (by simp only [List.map_toArray, List.map_cons, List.map_nil]; rfl) ?_
              with_reducible refine (HSV.out).mono ?_
              rintro e w4 ⟨rfl, hto⟩
              refine ⟨_, rfl, ?_⟩
              obtain ⟨F4, hl4⟩ := HLD.out.next hto
              have HL4 := Aside0.mk hl4
              have HP4 := Aside0.mk (HPL.out _ hl4.u)
              clear hto hl4
              refine hK.out _ _ ⟨HP4.out.d, HP4.out.p1, HP4.out.t1⟩ (fun hHeld => ?_)
              clear hK K
              refine norm_ (a' := ?_) ?_ ?_
              rotate_left
              · show Act.put _ (some 79) _ = _
                simp only [Act.put, List.setIfInBounds_toArray, List.set_cons_zero, List.set_cons_succ, i64_w, i32_w]
                rfl
              refine pz 13 (some 12) (bz 14 16383) ?_
              refine done_ (by kernel_rfl) ?_
              clear hHeld
              have h40 := HP4.out.d
              go_wp2_with (first | (go_at_call 55; (with_reducible refine (rTo_flush HL4.out.r HL4.out.ok).mono ?_); rintro e w5 ⟨rfl, hto5⟩; have HL5 := Aside0.mk (HL4.out.next hto5); have h5e := HEF.out; rw [h5e]; clear hto5))
              obtain ⟨F5, hl5⟩ := HL5.out
              go_ret
              rw [← HT5.out.1, ← HT5.out.2, HEF.out]
              exact ⟨rfl, (hl5.post HT.out HK.out HBL.out).le (by omega)⟩
          · have ts : (sv == 0) = false := by simpa using hs0
            have HT4 := Aside0.mk ((rput_save (ps := [(q, hd)]) (by rw [hsv]; exact hs0)).symm.trans HTT0.out)
            have HT5 := Aside0.mk (show (rsaveM R' (q + 1) x).2 = T.2 ∧ (rsaveM R' (q + 1) x).1 = T.1 from ⟨by rw [HT4.out], by rw [HT4.out]⟩)
            clear hsv hs0
            rw [HSE.out] at HSV
            go_wp2_with (fail)
            refine start_ (n := 14) (S := fun w' => w'.cell? ⟨t, 0, none⟩ = some (.pointer (some ⟨g2, 0, none⟩)) ∧ w'.cell? ⟨bp, 1, none⟩ = some (.int .i64 (q + 1)) ∧ w'.cell? ⟨bt, 1, none⟩ = some (.slice A x.length c)) (ds := []) (bz 14 0) (by kernel_rfl) rfl rfl ⟨HPD.out.d, HPD.out.p1, HPD.out.t1⟩ (fun hHeld => ?_)
            refine pz 0 (some 67) (bz 14 1) ?_
            refine pz 1 (some 68) (bz 14 3) ?_
            refine pz 2 (some 69) (bz 14 7) ?_
            refine pz 4 (some 71) (bz 14 23) ?_
            refine pz 5 (some 72) (bz 14 55) ?_
            refine pz 6 (some 73) (bz 14 119) ?_
            refine pz 8 (some 75) (bz 14 375) ?_
            refine pz 9 (some 76) (bz 14 887) ?_
            refine pz 10 (some 77) (bz 14 1911) ?_
            refine tz3 3 (some 70) (bz 14 1919) hHeld ?_
            refine tz3 7 (some 74) (bz 14 2047) hHeld ?_
            refine tz3 11 (some 78) (bz 14 4095) hHeld ?_
            refine one_ (i := 12) (N := some 79) (bz 14 8191) rfl rfl (by kernel_rfl) (by decide) (fun K hK => ?_)
            refine goes_ Tryd.func73 (by kernel_rfl) rfl #[.pointer (some ⟨g2, 0, none⟩), .int .i64 (q + 1), .slice A x.length c] (by rfl) rfl rfl (by simp only [List.map_toArray, List.map_cons, List.map_nil]; rfl) ?_
            with_reducible refine (HSV.out).mono ?_
            rintro e w4 ⟨rfl, hto⟩
            refine ⟨_, rfl, ?_⟩
            obtain ⟨F4, hl4⟩ := HLD.out.next hto
            have HL4 := Aside0.mk hl4
            have HP4 := Aside0.mk (HPL.out _ hl4.u)
            clear hto hl4
            refine hK.out _ _ ⟨HP4.out.d, HP4.out.p1, HP4.out.t1⟩ (fun hHeld => ?_)
            clear hK K
            refine norm_ (a' := ?_) ?_ ?_
            rotate_left
            · show Act.put _ (some 79) _ = _
              simp only [Act.put, List.setIfInBounds_toArray, List.set_cons_zero, List.set_cons_succ, i64_w, i32_w]
              rfl
            refine pz 13 (some 12) (bz 14 16383) ?_
            refine done_ (by kernel_rfl) ?_
            clear hHeld
            go_wp2_with (fail)
            go_ret
            rw [← HT5.out.1, ← HT5.out.2, HSE.out]
            exact ⟨rfl, (HL4.out.post HT.out HK.out HBL.out).le (by omega)⟩
        · have HLD := Aside0.mk HLP.out.drew
          have HPD := Aside0.mk HPW.out.drew
          have HTT0 := Aside0.mk (show rputT ((q, hd) :: []) R' = T from HTT.out)
          have HSV := Aside0.mk (calls_of_args (args' := #[.pointer (some ⟨g2, 0, none⟩), .int .i64 q, .slice (some ⟨gh, 0, none⟩) hd.length ch]) (by rw [HHL.out]) (rTo_save HLD.out.r HLD.out.st.1 (by have h1 := HB.out; have h2 := HBL.out.size; have h3 := HLD.out.u.size; omega) q (some ⟨gh, 0, none⟩) ch hd (by rw [HHL.out]; decide) (by rw [HHL.out]; exact HCH.out) (by have h1 := HLD.out.st.2.1; have h2 := HW.out; have h3 := hx; rw [HHL.out]; omega) (fun W hW => (HPL.out W (HLD.out.u.trans hW HLD.out.hF)).h)))
          have hp0 := HPW.out.d
          obtain ⟨sv, hsv⟩ : ∃ sv, (rsaveM R' q hd).2 = sv := ⟨_, rfl⟩
          have HSE := Lib.hid hsv
          by_cases hs0 : sv = 0
          · subst hs0
            obtain ⟨fv, hfv⟩ : ∃ fv, (rflushM (rsaveM R' q hd).1).2 = fv := ⟨_, rfl⟩
            have HEF := Lib.hid hfv
            by_cases hf0 : fv = 0
            · subst hf0
              have HT4 := Aside0.mk ((rput_on hsv hfv).symm.trans HTT0.out)
              clear hsv hfv
              rw [HSE.out] at HSV
              go_wp2_with (fail)
              refine start_ (n := 14) (S := fun w' => w'.cell? ⟨t, 0, none⟩ = some (.pointer (some ⟨g2, 0, none⟩)) ∧ w'.cell? ⟨bp, 2, none⟩ = some (.int .i64 q) ∧ w'.cell? ⟨bt, 2, none⟩ = some (.slice (some ⟨gh, 0, none⟩) 64 ch)) (ds := []) (bz 14 0) (by kernel_rfl) rfl rfl ⟨HPD.out.d, HPD.out.p2, HPD.out.t2⟩ (fun hHeld => ?_)
              refine pz 0 (some 67) (bz 14 1) ?_
              refine pz 1 (some 68) (bz 14 3) ?_
              refine pz 2 (some 69) (bz 14 7) ?_
              refine pz 4 (some 71) (bz 14 23) ?_
              refine pz 5 (some 72) (bz 14 55) ?_
              refine pz 6 (some 73) (bz 14 119) ?_
              refine pz 8 (some 75) (bz 14 375) ?_
              refine pz 9 (some 76) (bz 14 887) ?_
              refine pz 10 (some 77) (bz 14 1911) ?_
              refine tz3 3 (some 70) (bz 14 1919) hHeld ?_
              refine tz3 7 (some 74) (bz 14 2047) hHeld ?_
              refine tz3 11 (some 78) (bz 14 4095) hHeld ?_
              refine one_ (i := 12) (N := some 79) (bz 14 8191) rfl rfl (by kernel_rfl) (by decide) (fun K hK => ?_)
              refine goes_ Tryd.func73 (by kernel_rfl) rfl #[.pointer (some ⟨g2, 0, none⟩), .int .i64 q, .slice (some ⟨gh, 0, none⟩) 64 ch] (by rfl) rfl rfl (by simp only [List.map_toArray, List.map_cons, List.map_nil]; rfl) ?_
              with_reducible refine (HSV.out).mono ?_
              rintro e w4 ⟨rfl, hto⟩
              refine ⟨_, rfl, ?_⟩
              obtain ⟨F4, hl4⟩ := HLD.out.next hto
              have HL4 := Aside0.mk hl4
              have HP4 := Aside0.mk (HPL.out _ hl4.u)
              clear hto hl4
              refine hK.out _ _ ⟨HP4.out.d, HP4.out.p2, HP4.out.t2⟩ (fun hHeld => ?_)
              clear hK K
              refine norm_ (a' := ?_) ?_ ?_
              rotate_left
              · show Act.put _ (some 79) _ = _
                simp only [Act.put, List.setIfInBounds_toArray, List.set_cons_zero, List.set_cons_succ, i64_w, i32_w]
                rfl
              refine pz 13 (some 12) (bz 14 16383) ?_
              refine done_ (by kernel_rfl) ?_
              clear hHeld
              have h40 := HP4.out.d
              go_wp2_with (first | (go_at_call 55; (with_reducible refine (rTo_flush HL4.out.r HL4.out.ok).mono ?_); rintro e w5 ⟨rfl, hto5⟩; have HL5 := Aside0.mk (HL4.out.next hto5); have h5e := HEF.out; rw [h5e]; clear hto5))
              obtain ⟨F5, hl5⟩ := HL5.out
              have HL6 := Aside0.mk (hl5.le (m' := 3 * (x.length + 64)) (by rw [HHL.out]; omega))
              go_roundw
              case rel => exact ⟨3, _, F5, rfl, by decide, HL6, HT4⟩
              case measure => simp [intOf]
            · have tf : (fv == 0) = false := by simpa using hf0
              have HT4 := Aside0.mk ((rput_flush (ps := []) hsv (by rw [hfv]; exact hf0)).symm.trans HTT0.out)
              have HT5 := Aside0.mk (show (rflushM (rsaveM R' q hd).1).2 = T.2 ∧ (rflushM (rsaveM R' q hd).1).1 = T.1 from ⟨by rw [HT4.out], by rw [HT4.out]⟩)
              clear hsv hfv hf0
              rw [HSE.out] at HSV
              go_wp2_with (fail)
              refine start_ (n := 14) (S := fun w' => w'.cell? ⟨t, 0, none⟩ = some (.pointer (some ⟨g2, 0, none⟩)) ∧ w'.cell? ⟨bp, 2, none⟩ = some (.int .i64 q) ∧ w'.cell? ⟨bt, 2, none⟩ = some (.slice (some ⟨gh, 0, none⟩) 64 ch)) (ds := []) (bz 14 0) (by kernel_rfl) rfl rfl ⟨HPD.out.d, HPD.out.p2, HPD.out.t2⟩ (fun hHeld => ?_)
              refine pz 0 (some 67) (bz 14 1) ?_
              refine pz 1 (some 68) (bz 14 3) ?_
              refine pz 2 (some 69) (bz 14 7) ?_
              refine pz 4 (some 71) (bz 14 23) ?_
              refine pz 5 (some 72) (bz 14 55) ?_
              refine pz 6 (some 73) (bz 14 119) ?_
              refine pz 8 (some 75) (bz 14 375) ?_
              refine pz 9 (some 76) (bz 14 887) ?_
              refine pz 10 (some 77) (bz 14 1911) ?_
              refine tz3 3 (some 70) (bz 14 1919) hHeld ?_
              refine tz3 7 (some 74) (bz 14 2047) hHeld ?_
              refine tz3 11 (some 78) (bz 14 4095) hHeld ?_
              refine one_ (i := 12) (N := some 79) (bz 14 8191) rfl rfl (by kernel_rfl) (by decide) (fun K hK => ?_)
              refine goes_ Tryd.func73 (by kernel_rfl) rfl #[.pointer (some ⟨g2, 0, none⟩), .int .i64 q, .slice (some ⟨gh, 0, none⟩) 64 ch] (by rfl) rfl rfl (by simp only [List.map_toArray, List.map_cons, List.map_nil]; rfl) ?_
              with_reducible refine (HSV.out).mono ?_
              rintro e w4 ⟨rfl, hto⟩
              refine ⟨_, rfl, ?_⟩
              obtain ⟨F4, hl4⟩ := HLD.out.next hto
              have HL4 := Aside0.mk hl4
              have HP4 := Aside0.mk (HPL.out _ hl4.u)
              clear hto hl4
              refine hK.out _ _ ⟨HP4.out.d, HP4.out.p2, HP4.out.t2⟩ (fun hHeld => ?_)
              clear hK K
              refine norm_ (a' := ?_) ?_ ?_
              rotate_left
              · show Act.put _ (some 79) _ = _
                simp only [Act.put, List.setIfInBounds_toArray, List.set_cons_zero, List.set_cons_succ, i64_w, i32_w]
                rfl
              refine pz 13 (some 12) (bz 14 16383) ?_
              refine done_ (by kernel_rfl) ?_
              clear hHeld
              have h40 := HP4.out.d
              go_wp2_with (first | (go_at_call 55; (with_reducible refine (rTo_flush HL4.out.r HL4.out.ok).mono ?_); rintro e w5 ⟨rfl, hto5⟩; have HL5 := Aside0.mk (HL4.out.next hto5); have h5e := HEF.out; rw [h5e]; clear hto5))
              obtain ⟨F5, hl5⟩ := HL5.out
              go_ret
              rw [← HT5.out.1, ← HT5.out.2, HEF.out]
              exact ⟨rfl, (hl5.post HT.out HK.out HBL.out).le (by rw [HHL.out]; omega)⟩
          · have ts : (sv == 0) = false := by simpa using hs0
            have HT4 := Aside0.mk ((rput_save (ps := []) (by rw [hsv]; exact hs0)).symm.trans HTT0.out)
            have HT5 := Aside0.mk (show (rsaveM R' q hd).2 = T.2 ∧ (rsaveM R' q hd).1 = T.1 from ⟨by rw [HT4.out], by rw [HT4.out]⟩)
            clear hsv hs0
            rw [HSE.out] at HSV
            go_wp2_with (fail)
            refine start_ (n := 14) (S := fun w' => w'.cell? ⟨t, 0, none⟩ = some (.pointer (some ⟨g2, 0, none⟩)) ∧ w'.cell? ⟨bp, 2, none⟩ = some (.int .i64 q) ∧ w'.cell? ⟨bt, 2, none⟩ = some (.slice (some ⟨gh, 0, none⟩) 64 ch)) (ds := []) (bz 14 0) (by kernel_rfl) rfl rfl ⟨HPD.out.d, HPD.out.p2, HPD.out.t2⟩ (fun hHeld => ?_)
            refine pz 0 (some 67) (bz 14 1) ?_
            refine pz 1 (some 68) (bz 14 3) ?_
            refine pz 2 (some 69) (bz 14 7) ?_
            refine pz 4 (some 71) (bz 14 23) ?_
            refine pz 5 (some 72) (bz 14 55) ?_
            refine pz 6 (some 73) (bz 14 119) ?_
            refine pz 8 (some 75) (bz 14 375) ?_
            refine pz 9 (some 76) (bz 14 887) ?_
            refine pz 10 (some 77) (bz 14 1911) ?_
            refine tz3 3 (some 70) (bz 14 1919) hHeld ?_
            refine tz3 7 (some 74) (bz 14 2047) hHeld ?_
            refine tz3 11 (some 78) (bz 14 4095) hHeld ?_
            refine one_ (i := 12) (N := some 79) (bz 14 8191) rfl rfl (by kernel_rfl) (by decide) (fun K hK => ?_)
            refine goes_ Tryd.func73 (by kernel_rfl) rfl #[.pointer (some ⟨g2, 0, none⟩), .int .i64 q, .slice (some ⟨gh, 0, none⟩) 64 ch] (by rfl) rfl rfl (by simp only [List.map_toArray, List.map_cons, List.map_nil]; rfl) ?_
            with_reducible refine (HSV.out).mono ?_
            rintro e w4 ⟨rfl, hto⟩
            refine ⟨_, rfl, ?_⟩
            obtain ⟨F4, hl4⟩ := HLD.out.next hto
            have HL4 := Aside0.mk hl4
            have HP4 := Aside0.mk (HPL.out _ hl4.u)
            clear hto hl4
            refine hK.out _ _ ⟨HP4.out.d, HP4.out.p2, HP4.out.t2⟩ (fun hHeld => ?_)
            clear hK K
            refine norm_ (a' := ?_) ?_ ?_
            rotate_left
            · show Act.put _ (some 79) _ = _
              simp only [Act.put, List.setIfInBounds_toArray, List.set_cons_zero, List.set_cons_succ, i64_w, i32_w]
              rfl
            refine pz 13 (some 12) (bz 14 16383) ?_
            refine done_ (by kernel_rfl) ?_
            clear hHeld
            go_wp2_with (fail)
            go_ret
            rw [← HT5.out.1, ← HT5.out.2, HSE.out]
            exact ⟨rfl, (HL4.out.post HT.out HK.out HBL.out).le (by rw [HHL.out]; omega)⟩
        · go_wp2_with (fail)
          go_ret
          have HTE : (R', 0) = T := HTT.out
          rw [← HTE]
          exact ⟨rfl, (HLP.out.post HT.out HK.out HBL.out).le (by omega)⟩
    · have ta : (at_ == 0) = false := by simpa using hat
      obtain ⟨q, hq⟩ : ∃ q, q = fr := ⟨_, rfl⟩
      have HE3 := Aside0.mk (show T = rputT [(q, zer64), (q + 1, x), (q, hd)] R from by rw [HE2.out, show rto at_ fr n = q from by rw [hq]; exact if_neg hat])
      subst hq
      have hq1 : q ≤ 2000 := by omega
      clear hat HE2
      go_enter Tryd.func49, Tryd.ntmps49
      go_wp2_with (first | (go_at_call 71; (with_reducible refine (HNW.out).mono ?_); rintro e w1 ⟨v1, rfl, ⟨A1, c1, rfl, hc1, hC1⟩, hb1⟩; have HB1 := Aside0.mk hb1; have HRM := Aside0.mk (rRoom_calls (HT.out.below hb1) HK.out); have h1c0 := (HT.out.below hb1).c0; have h1c1 := (HT.out.below hb1).c1; have h1c2 := (HT.out.below hb1).c2; clear hb1 hc1 hC1) | (go_at_call 72; (with_reducible refine (HRM.out).mono ?_); rintro e w2 ⟨rfl, rfl⟩; skip))
      go_wp2_with (fail)
      obtain ⟨wP, hwP⟩ : ∃ wP, wP = World.alloc w1 (.cells #[.int .i64 q, .int .i64 (q + 1), .int .i64 q] 3) := ⟨_, rfl⟩
      have HBP := Aside0.mk (show Below w.heap.size w wP from by rw [hwP]; exact below_alloc HB1.out _)
      have HPB := Aside0.mk (show wP.heap[w1.heap.size]? = some (.cells #[.int .i64 q, .int .i64 (q + 1), .int .i64 q] 3 (0, 0)) from by rw [hwP]; exact heap_alloc_new w1 _)
      have HPS := Aside0.mk HB1.out.size
      obtain ⟨bp, hbp⟩ : ∃ bp, bp = w1.heap.size := ⟨_, rfl⟩
      simp only [← hwP, ← hbp]
      rw [← hbp] at HPB HPS
      clear hwP hbp
      have HBD := Aside0.mk (show Below w.heap.size w wP.drew from HBP.out.trans (below_drew (Below.refl _ _)))
      refine start_ (n := 8) (S := fun w' => True) (ds := []) (bz 8 0) (by kernel_rfl) rfl rfl trivial (fun hHeld => ?_)
      refine pz 1 (some 57) (bz 8 2) ?_
      refine pz 2 (some 58) (bz 8 6) ?_
      refine pz 3 (some 59) (bz 8 14) ?_
      refine pz 4 (some 60) (bz 8 30) ?_
      refine join_ (σ := Nat × Nat × Nat) 2 (bz 8 63) (fun s => [(56, .slice (some ⟨s.1, 0, none⟩) 64 64), (61, .slice (some ⟨s.2.1, 0, none⟩) 64 s.2.2)]) (fun s w' => Zh wP w' s.1 s.2.1 s.2.2 hd) ?_ ?_
      rotate_left
      · intro hCont
        refine two_ (i := 0) (j := 5) (Ni := some 56) (Nj := some 61) (bz 8 31) (bz 8 62) rfl rfl rfl rfl (by kernel_rfl) (by decide) (by decide) (fun K hK => ?_) (fun K hK => ?_)
        · skip
          refine value_ (w1 := wP.drew.alloc (.cells (nums .u8 zer64).toArray 5)) (v := .slice (some ⟨wP.heap.size, 0, none⟩) 64 64) (by rfl) rfl (exec_make (t := 22) rfl (by rfl) (by rfl) (run_make64 wP.drew)) ?_
          have HBZ := Aside0.mk (below_alloc HBD.out (.cells (nums .u8 zer64).toArray 5))
          refine hK.out _ _ trivial (fun hHeld => ?_)
          clear hK K
          refine norm_ (a' := ?_) ?_ ?_
          rotate_left
          · show Act.put _ (some 56) _ = _
            simp only [Act.put, List.setIfInBounds_toArray, List.set_cons_zero, List.set_cons_succ, i64_w, i32_w]
            rfl
          refine one_ (i := 5) (N := some 61) (bz 8 63) rfl rfl (by kernel_rfl) (by decide) (fun K hK => ?_)
          refine goes_ Tryd.func14 (by kernel_rfl) rfl #[.int .u64 (mo + 1), .slice A x.length c] (by rfl) rfl rfl (by simp only [List.map_toArray, List.map_cons, List.map_nil]; rfl) ?_
          with_reducible refine (HHC.out _ HBZ.out).mono ?_
          rintro e w6 ⟨v6, rfl, hr6, hb6⟩
          refine ⟨_, rfl, ?_⟩
          obtain ⟨g6, c6, rfl, hk6, hc6⟩ : ∃ g c, v6 = .slice (some ⟨g, 0, none⟩) 64 c ∧ RdB w6 _ g hd ∧ 64 ≤ c := rd_b hr6 HHL.out
          refine hK.out _ _ trivial (fun hHeld => ?_)
          clear hK K
          refine norm_ (a' := ?_) ?_ ?_
          rotate_left
          · show Act.put _ (some 61) _ = _
            simp only [Act.put, List.setIfInBounds_toArray, List.set_cons_zero, List.set_cons_succ, i64_w, i32_w]
            rfl
          exact norm_ (by simp only [putAll, Act.put, List.setIfInBounds_toArray, List.set_cons_zero, List.set_cons_succ]) (hCont (wP.heap.size, g6, c6) _ (zh_1 (W := wP) hc6 hb6 hk6))
        · skip
          refine goes_ Tryd.func14 (by kernel_rfl) rfl #[.int .u64 (mo + 1), .slice A x.length c] (by rfl) rfl rfl (by simp only [List.map_toArray, List.map_cons, List.map_nil]; rfl) ?_
          with_reducible refine (HHC.out _ HBD.out).mono ?_
          rintro e w6 ⟨v6, rfl, hr6, hb6⟩
          refine ⟨_, rfl, ?_⟩
          obtain ⟨g6, c6, rfl, hk6, hc6⟩ : ∃ g c, v6 = .slice (some ⟨g, 0, none⟩) 64 c ∧ RdB w6 _ g hd ∧ 64 ≤ c := rd_b hr6 HHL.out
          have HB6 := Aside0.mk (HBD.out.trans (hb6.mono HBD.out.size))
          refine hK.out _ _ trivial (fun hHeld => ?_)
          clear hK K
          refine norm_ (a' := ?_) ?_ ?_
          rotate_left
          · show Act.put _ (some 61) _ = _
            simp only [Act.put, List.setIfInBounds_toArray, List.set_cons_zero, List.set_cons_succ, i64_w, i32_w]
            rfl
          refine one_ (i := 0) (N := some 56) (bz 8 63) rfl rfl (by kernel_rfl) (by decide) (fun K hK => ?_)
          refine value_ (w1 := w6.alloc (.cells (nums .u8 zer64).toArray 5)) (v := .slice (some ⟨w6.heap.size, 0, none⟩) 64 64) (by rfl) rfl (exec_make (t := 22) rfl (by rfl) (by rfl) (run_make64 w6)) ?_
          refine hK.out _ _ trivial (fun hHeld => ?_)
          clear hK K
          refine norm_ (a' := ?_) ?_ ?_
          rotate_left
          · show Act.put _ (some 56) _ = _
            simp only [Act.put, List.setIfInBounds_toArray, List.set_cons_zero, List.set_cons_succ, i64_w, i32_w]
            rfl
          exact norm_ (by simp only [putAll, Act.put, List.setIfInBounds_toArray, List.set_cons_zero, List.set_cons_succ]) (hCont (w6.heap.size, g6, c6) _ (zh_2 (W := wP) hc6 hb6 hk6))
      rintro ⟨gz, gh, ch⟩ w8 hZ
      have hHeld : True := trivial
      have HZ := Aside0.mk hZ
      clear hZ
      dsimp only at HZ ⊢
      refine norm_ (a' := ?_) ?_ ?_
      rotate_left
      · simp only [putAll, Act.put, List.setIfInBounds_toArray, List.set_cons_zero, List.set_cons_succ]
        rfl
      refine one_ (i := 6) (N := some 62) (bz 8 127) rfl rfl (by kernel_rfl) (by decide) (fun K hK => ?_)
      refine value_ (w1 := w8.alloc (.cells #[.slice (some ⟨gz, 0, none⟩) 64 64, .slice A x.length c, .slice (some ⟨gh, 0, none⟩) 64 ch] 22)) (v := .slice (some ⟨w8.heap.size, 0, none⟩) 3 3) (by rfl) rfl ?hbs ?_
      case hbs =>
        refine exec_buildSlice (t := 110) (n := 3) (parts := #[(0, .tmp 56), (1, .tmp 57), (2, .tmp 61)]) (args := #[(0, .slice (some ⟨gz, 0, none⟩) 64 64), (1, .slice A x.length c), (2, .slice (some ⟨gh, 0, none⟩) 64 ch)]) ?ho ?he ?hr
        case ho => rfl
        case he => kernel_rfl
        case hr => exact build3 (some ⟨gz, 0, none⟩, 64, 64) (A, x.length, c) (some ⟨gh, 0, none⟩, 64, ch) w8
      refine hK.out _ _ trivial (fun hHeld => ?_)
      clear hK K
      refine norm_ (a' := ?_) ?_ ?_
      rotate_left
      · show Act.put _ (some 62) _ = _
        simp only [Act.put, List.setIfInBounds_toArray, List.set_cons_zero, List.set_cons_succ, i64_w, i32_w]
        rfl
      refine pz 7 (some 10) (bz 8 255) ?_
      refine done_ (by kernel_rfl) ?_
      clear hHeld
      obtain ⟨wL, hwL⟩ : ∃ wL, wL = w8.alloc (.cells #[.slice (some ⟨gz, 0, none⟩) 64 64, .slice A x.length c, .slice (some ⟨gh, 0, none⟩) 64 ch] 22) := ⟨_, rfl⟩
      have HPL := Aside0.mk (pl_of HT.out HC.out HBP.out HPB.out HPS.out HZ.out hwL)
      have HBL := Aside0.mk (show Below w.heap.size w wL from by rw [hwL]; exact below_alloc (below_trans HBP.out HZ.out.b) _)
      have HLP := Aside0.mk (show Lp3 wL wL B g2 F2 R F2 R 0 from ⟨fun _ h => .inl h, HT.out.r.frame (G := fun _ => False) (Upd.of_below HBL.out) (fun _ _ h => h) (fun _ h => h.elim), ⟨HK.out.d, Nat.le_refl _, rfl⟩, Upd.refl _ _⟩)
      have HCH := Aside0.mk HZ.out.c
      obtain ⟨bt, hbt⟩ : ∃ bt, bt = w8.heap.size := ⟨_, rfl⟩
      rw [← hbt] at HPL
      have HT3 := Aside0.mk HE3.out.symm
      simp only [← hwL, ← hbt]
      clear hwL hbt HZ HPB HPS HBP HBD HE3
      try simp only [hwq]
      try clear hwq
      go_wp2_with (fail)
      go_loopw [11] (fun v11 w' => ∃ (i : Nat) (R' : RM) (F' : Nat → Prop), v11 = .int .i64 i ∧ i ≤ 3 ∧ Aside0 (Lp3 wL w' B g2 F2 R F' R' (i * (x.length + 64))) ∧ Aside0 (rputT (([(q, zer64), (q + 1, x), (q, hd)] : List (Int × List Int)).drop i) R' = T)) (fun v11 _ => 3 - (intOf v11).toNat)
      case atStart => exact ⟨0, R, F2, rfl, by decide, ⟨HLP.out.le (Nat.zero_le _)⟩, HT3⟩
      case round =>
        clear HLP HT3
        obtain ⟨i, R', F', rfl, hi, HLP, HTT⟩ := hrel
        have hcase : i = 0 ∨ i = 1 ∨ i = 2 ∨ i = 3 := by omega
        have HPW := Aside0.mk (HPL.out _ HLP.out.u)
        rcases hcase with rfl | rfl | rfl | rfl
        · have HLD := Aside0.mk HLP.out.drew
          have HPD := Aside0.mk HPW.out.drew
          have HTT0 := Aside0.mk (show rputT ((q, zer64) :: [(q + 1, x), (q, hd)]) R' = T from HTT.out)
          have HSV := Aside0.mk (calls_of_args (args' := #[.pointer (some ⟨g2, 0, none⟩), .int .i64 q, .slice (some ⟨gz, 0, none⟩) zer64.length 64]) (by rw [zer64_len]) (rTo_save HLD.out.r HLD.out.st.1 (by have h1 := HB.out; have h2 := HBL.out.size; have h3 := HLD.out.u.size; omega) q (some ⟨gz, 0, none⟩) 64 zer64 (by rw [zer64_len]; decide) (by rw [zer64_len]; decide) (by have h1 := HLD.out.st.2.1; have h2 := HW.out; have h3 := hx; rw [zer64_len]; omega) (fun W hW => (HPL.out W (HLD.out.u.trans hW HLD.out.hF)).z)))
          have hp0 := HPW.out.d
          obtain ⟨sv, hsv⟩ : ∃ sv, (rsaveM R' q zer64).2 = sv := ⟨_, rfl⟩
          have HSE := Lib.hid hsv
          by_cases hs0 : sv = 0
          · subst hs0
            obtain ⟨fv, hfv⟩ : ∃ fv, (rflushM (rsaveM R' q zer64).1).2 = fv := ⟨_, rfl⟩
            have HEF := Lib.hid hfv
            by_cases hf0 : fv = 0
            · subst hf0
              have HT4 := Aside0.mk ((rput_on hsv hfv).symm.trans HTT0.out)
              clear hsv hfv
              rw [HSE.out] at HSV
              go_wp2_with (fail)
              refine start_ (n := 14) (S := fun w' => w'.cell? ⟨t, 0, none⟩ = some (.pointer (some ⟨g2, 0, none⟩)) ∧ w'.cell? ⟨bp, 0, none⟩ = some (.int .i64 q) ∧ w'.cell? ⟨bt, 0, none⟩ = some (.slice (some ⟨gz, 0, none⟩) 64 64)) (ds := []) (bz 14 0) (by kernel_rfl) rfl rfl ⟨HPD.out.d, HPD.out.p0, HPD.out.t0⟩ (fun hHeld => ?_)
              refine pz 0 (some 67) (bz 14 1) ?_
              refine pz 1 (some 68) (bz 14 3) ?_
              refine pz 2 (some 69) (bz 14 7) ?_
              refine pz 4 (some 71) (bz 14 23) ?_
              refine pz 5 (some 72) (bz 14 55) ?_
              refine pz 6 (some 73) (bz 14 119) ?_
              refine pz 8 (some 75) (bz 14 375) ?_
              refine pz 9 (some 76) (bz 14 887) ?_
              refine pz 10 (some 77) (bz 14 1911) ?_
              refine tz3 3 (some 70) (bz 14 1919) hHeld ?_
              refine tz3 7 (some 74) (bz 14 2047) hHeld ?_
              refine tz3 11 (some 78) (bz 14 4095) hHeld ?_
              refine one_ (i := 12) (N := some 79) (bz 14 8191) rfl rfl (by kernel_rfl) (by decide) (fun K hK => ?_)
              refine goes_ Tryd.func73 (by kernel_rfl) rfl #[.pointer (some ⟨g2, 0, none⟩), .int .i64 q, .slice (some ⟨gz, 0, none⟩) 64 64] (by rfl) rfl rfl (by simp only [List.map_toArray, List.map_cons, List.map_nil]; rfl) ?_
              with_reducible refine (HSV.out).mono ?_
              rintro e w4 ⟨rfl, hto⟩
              refine ⟨_, rfl, ?_⟩
              obtain ⟨F4, hl4⟩ := HLD.out.next hto
              have HL4 := Aside0.mk hl4
              have HP4 := Aside0.mk (HPL.out _ hl4.u)
              clear hto hl4
              refine hK.out _ _ ⟨HP4.out.d, HP4.out.p0, HP4.out.t0⟩ (fun hHeld => ?_)
              clear hK K
              refine norm_ (a' := ?_) ?_ ?_
              rotate_left
              · show Act.put _ (some 79) _ = _
                simp only [Act.put, List.setIfInBounds_toArray, List.set_cons_zero, List.set_cons_succ, i64_w, i32_w]
                rfl
              refine pz 13 (some 12) (bz 14 16383) ?_
              refine done_ (by kernel_rfl) ?_
              clear hHeld
              have h40 := HP4.out.d
              go_wp2_with (first | (go_at_call 55; (with_reducible refine (rTo_flush HL4.out.r HL4.out.ok).mono ?_); rintro e w5 ⟨rfl, hto5⟩; have HL5 := Aside0.mk (HL4.out.next hto5); have h5e := HEF.out; rw [h5e]; clear hto5))
              obtain ⟨F5, hl5⟩ := HL5.out
              have HL6 := Aside0.mk (hl5.le (m' := 1 * (x.length + 64)) (by rw [zer64_len]; omega))
              go_roundw
              case rel => exact ⟨1, _, F5, rfl, by decide, HL6, HT4⟩
              case measure => simp [intOf]
            · have tf : (fv == 0) = false := by simpa using hf0
              have HT4 := Aside0.mk ((rput_flush (ps := [(q + 1, x), (q, hd)]) hsv (by rw [hfv]; exact hf0)).symm.trans HTT0.out)
              have HT5 := Aside0.mk (show (rflushM (rsaveM R' q zer64).1).2 = T.2 ∧ (rflushM (rsaveM R' q zer64).1).1 = T.1 from ⟨by rw [HT4.out], by rw [HT4.out]⟩)
              clear hsv hfv hf0
              rw [HSE.out] at HSV
              go_wp2_with (fail)
              refine start_ (n := 14) (S := fun w' => w'.cell? ⟨t, 0, none⟩ = some (.pointer (some ⟨g2, 0, none⟩)) ∧ w'.cell? ⟨bp, 0, none⟩ = some (.int .i64 q) ∧ w'.cell? ⟨bt, 0, none⟩ = some (.slice (some ⟨gz, 0, none⟩) 64 64)) (ds := []) (bz 14 0) (by kernel_rfl) rfl rfl ⟨HPD.out.d, HPD.out.p0, HPD.out.t0⟩ (fun hHeld => ?_)
              refine pz 0 (some 67) (bz 14 1) ?_
              refine pz 1 (some 68) (bz 14 3) ?_
              refine pz 2 (some 69) (bz 14 7) ?_
              refine pz 4 (some 71) (bz 14 23) ?_
              refine pz 5 (some 72) (bz 14 55) ?_
              refine pz 6 (some 73) (bz 14 119) ?_
              refine pz 8 (some 75) (bz 14 375) ?_
              refine pz 9 (some 76) (bz 14 887) ?_
              refine pz 10 (some 77) (bz 14 1911) ?_
              refine tz3 3 (some 70) (bz 14 1919) hHeld ?_
              refine tz3 7 (some 74) (bz 14 2047) hHeld ?_
              refine tz3 11 (some 78) (bz 14 4095) hHeld ?_
              refine one_ (i := 12) (N := some 79) (bz 14 8191) rfl rfl (by kernel_rfl) (by decide) (fun K hK => ?_)
              refine goes_ Tryd.func73 (by kernel_rfl) rfl #[.pointer (some ⟨g2, 0, none⟩), .int .i64 q, .slice (some ⟨gz, 0, none⟩) 64 64] (by rfl) rfl rfl (by simp only [List.map_toArray, List.map_cons, List.map_nil]; rfl) ?_
              with_reducible refine (HSV.out).mono ?_
              rintro e w4 ⟨rfl, hto⟩
              refine ⟨_, rfl, ?_⟩
              obtain ⟨F4, hl4⟩ := HLD.out.next hto
              have HL4 := Aside0.mk hl4
              have HP4 := Aside0.mk (HPL.out _ hl4.u)
              clear hto hl4
              refine hK.out _ _ ⟨HP4.out.d, HP4.out.p0, HP4.out.t0⟩ (fun hHeld => ?_)
              clear hK K
              refine norm_ (a' := ?_) ?_ ?_
              rotate_left
              · show Act.put _ (some 79) _ = _
                simp only [Act.put, List.setIfInBounds_toArray, List.set_cons_zero, List.set_cons_succ, i64_w, i32_w]
                rfl
              refine pz 13 (some 12) (bz 14 16383) ?_
              refine done_ (by kernel_rfl) ?_
              clear hHeld
              have h40 := HP4.out.d
              go_wp2_with (first | (go_at_call 55; (with_reducible refine (rTo_flush HL4.out.r HL4.out.ok).mono ?_); rintro e w5 ⟨rfl, hto5⟩; have HL5 := Aside0.mk (HL4.out.next hto5); have h5e := HEF.out; rw [h5e]; clear hto5))
              obtain ⟨F5, hl5⟩ := HL5.out
              go_ret
              rw [← HT5.out.1, ← HT5.out.2, HEF.out]
              exact ⟨rfl, (hl5.post HT.out HK.out HBL.out).le (by rw [zer64_len]; omega)⟩
          · have ts : (sv == 0) = false := by simpa using hs0
            have HT4 := Aside0.mk ((rput_save (ps := [(q + 1, x), (q, hd)]) (by rw [hsv]; exact hs0)).symm.trans HTT0.out)
            have HT5 := Aside0.mk (show (rsaveM R' q zer64).2 = T.2 ∧ (rsaveM R' q zer64).1 = T.1 from ⟨by rw [HT4.out], by rw [HT4.out]⟩)
            clear hsv hs0
            rw [HSE.out] at HSV
            go_wp2_with (fail)
            refine start_ (n := 14) (S := fun w' => w'.cell? ⟨t, 0, none⟩ = some (.pointer (some ⟨g2, 0, none⟩)) ∧ w'.cell? ⟨bp, 0, none⟩ = some (.int .i64 q) ∧ w'.cell? ⟨bt, 0, none⟩ = some (.slice (some ⟨gz, 0, none⟩) 64 64)) (ds := []) (bz 14 0) (by kernel_rfl) rfl rfl ⟨HPD.out.d, HPD.out.p0, HPD.out.t0⟩ (fun hHeld => ?_)
            refine pz 0 (some 67) (bz 14 1) ?_
            refine pz 1 (some 68) (bz 14 3) ?_
            refine pz 2 (some 69) (bz 14 7) ?_
            refine pz 4 (some 71) (bz 14 23) ?_
            refine pz 5 (some 72) (bz 14 55) ?_
            refine pz 6 (some 73) (bz 14 119) ?_
            refine pz 8 (some 75) (bz 14 375) ?_
            refine pz 9 (some 76) (bz 14 887) ?_
            refine pz 10 (some 77) (bz 14 1911) ?_
            refine tz3 3 (some 70) (bz 14 1919) hHeld ?_
            refine tz3 7 (some 74) (bz 14 2047) hHeld ?_
            refine tz3 11 (some 78) (bz 14 4095) hHeld ?_
            refine one_ (i := 12) (N := some 79) (bz 14 8191) rfl rfl (by kernel_rfl) (by decide) (fun K hK => ?_)
            refine goes_ Tryd.func73 (by kernel_rfl) rfl #[.pointer (some ⟨g2, 0, none⟩), .int .i64 q, .slice (some ⟨gz, 0, none⟩) 64 64] (by rfl) rfl rfl (by simp only [List.map_toArray, List.map_cons, List.map_nil]; rfl) ?_
            with_reducible refine (HSV.out).mono ?_
            rintro e w4 ⟨rfl, hto⟩
            refine ⟨_, rfl, ?_⟩
            obtain ⟨F4, hl4⟩ := HLD.out.next hto
            have HL4 := Aside0.mk hl4
            have HP4 := Aside0.mk (HPL.out _ hl4.u)
            clear hto hl4
            refine hK.out _ _ ⟨HP4.out.d, HP4.out.p0, HP4.out.t0⟩ (fun hHeld => ?_)
            clear hK K
            refine norm_ (a' := ?_) ?_ ?_
            rotate_left
            · show Act.put _ (some 79) _ = _
              simp only [Act.put, List.setIfInBounds_toArray, List.set_cons_zero, List.set_cons_succ, i64_w, i32_w]
              rfl
            refine pz 13 (some 12) (bz 14 16383) ?_
            refine done_ (by kernel_rfl) ?_
            clear hHeld
            go_wp2_with (fail)
            go_ret
            rw [← HT5.out.1, ← HT5.out.2, HSE.out]
            exact ⟨rfl, (HL4.out.post HT.out HK.out HBL.out).le (by rw [zer64_len]; omega)⟩
        · have HLD := Aside0.mk HLP.out.drew
          have HPD := Aside0.mk HPW.out.drew
          have HTT0 := Aside0.mk (show rputT (((q + 1), x) :: [(q, hd)]) R' = T from HTT.out)
          have HSV := Aside0.mk ((rTo_save HLD.out.r HLD.out.st.1 (by have h1 := HB.out; have h2 := HBL.out.size; have h3 := HLD.out.u.size; omega) (q + 1) A c x (by omega) HXC.out (by have h1 := HLD.out.st.2.1; have h2 := HW.out; have h3 := hx; omega) (fun W hW => (HPL.out W (HLD.out.u.trans hW HLD.out.hF)).x)))
          have hp0 := HPW.out.d
          obtain ⟨sv, hsv⟩ : ∃ sv, (rsaveM R' (q + 1) x).2 = sv := ⟨_, rfl⟩
          have HSE := Lib.hid hsv
          by_cases hs0 : sv = 0
          · subst hs0
            obtain ⟨fv, hfv⟩ : ∃ fv, (rflushM (rsaveM R' (q + 1) x).1).2 = fv := ⟨_, rfl⟩
            have HEF := Lib.hid hfv
            by_cases hf0 : fv = 0
            · subst hf0
              have HT4 := Aside0.mk ((rput_on hsv hfv).symm.trans HTT0.out)
              clear hsv hfv
              rw [HSE.out] at HSV
              go_wp2_with (fail)
              refine start_ (n := 14) (S := fun w' => w'.cell? ⟨t, 0, none⟩ = some (.pointer (some ⟨g2, 0, none⟩)) ∧ w'.cell? ⟨bp, 1, none⟩ = some (.int .i64 (q + 1)) ∧ w'.cell? ⟨bt, 1, none⟩ = some (.slice A x.length c)) (ds := []) (bz 14 0) (by kernel_rfl) rfl rfl ⟨HPD.out.d, HPD.out.p1, HPD.out.t1⟩ (fun hHeld => ?_)
              refine pz 0 (some 67) (bz 14 1) ?_
              refine pz 1 (some 68) (bz 14 3) ?_
              refine pz 2 (some 69) (bz 14 7) ?_
              refine pz 4 (some 71) (bz 14 23) ?_
              refine pz 5 (some 72) (bz 14 55) ?_
              refine pz 6 (some 73) (bz 14 119) ?_
              refine pz 8 (some 75) (bz 14 375) ?_
              refine pz 9 (some 76) (bz 14 887) ?_
              refine pz 10 (some 77) (bz 14 1911) ?_
              refine tz3 3 (some 70) (bz 14 1919) hHeld ?_
              refine tz3 7 (some 74) (bz 14 2047) hHeld ?_
              refine tz3 11 (some 78) (bz 14 4095) hHeld ?_
              refine one_ (i := 12) (N := some 79) (bz 14 8191) rfl rfl (by kernel_rfl) (by decide) (fun K hK => ?_)
              refine goes_ Tryd.func73 (by kernel_rfl) rfl #[.pointer (some ⟨g2, 0, none⟩), .int .i64 (q + 1), .slice A x.length c] (by rfl) rfl rfl (by simp only [List.map_toArray, List.map_cons, List.map_nil]; rfl) ?_
              with_reducible refine (HSV.out).mono ?_
              rintro e w4 ⟨rfl, hto⟩
              refine ⟨_, rfl, ?_⟩
              obtain ⟨F4, hl4⟩ := HLD.out.next hto
              have HL4 := Aside0.mk hl4
              have HP4 := Aside0.mk (HPL.out _ hl4.u)
              clear hto hl4
              refine hK.out _ _ ⟨HP4.out.d, HP4.out.p1, HP4.out.t1⟩ (fun hHeld => ?_)
              clear hK K
              refine norm_ (a' := ?_) ?_ ?_
              rotate_left
              · show Act.put _ (some 79) _ = _
                simp only [Act.put, List.setIfInBounds_toArray, List.set_cons_zero, List.set_cons_succ, i64_w, i32_w]
                rfl
              refine pz 13 (some 12) (bz 14 16383) ?_
              refine done_ (by kernel_rfl) ?_
              clear hHeld
              have h40 := HP4.out.d
              go_wp2_with (first | (go_at_call 55; (with_reducible refine (rTo_flush HL4.out.r HL4.out.ok).mono ?_); rintro e w5 ⟨rfl, hto5⟩; have HL5 := Aside0.mk (HL4.out.next hto5); have h5e := HEF.out; rw [h5e]; clear hto5))
              obtain ⟨F5, hl5⟩ := HL5.out
              have HL6 := Aside0.mk (hl5.le (m' := 2 * (x.length + 64)) (by omega))
              go_roundw
              case rel => exact ⟨2, _, F5, rfl, by decide, HL6, HT4⟩
              case measure => simp [intOf]
            · have tf : (fv == 0) = false := by simpa using hf0
              have HT4 := Aside0.mk ((rput_flush (ps := [(q, hd)]) hsv (by rw [hfv]; exact hf0)).symm.trans HTT0.out)
              have HT5 := Aside0.mk (show (rflushM (rsaveM R' (q + 1) x).1).2 = T.2 ∧ (rflushM (rsaveM R' (q + 1) x).1).1 = T.1 from ⟨by rw [HT4.out], by rw [HT4.out]⟩)
              clear hsv hfv hf0
              rw [HSE.out] at HSV
              go_wp2_with (fail)
              refine start_ (n := 14) (S := fun w' => w'.cell? ⟨t, 0, none⟩ = some (.pointer (some ⟨g2, 0, none⟩)) ∧ w'.cell? ⟨bp, 1, none⟩ = some (.int .i64 (q + 1)) ∧ w'.cell? ⟨bt, 1, none⟩ = some (.slice A x.length c)) (ds := []) (bz 14 0) (by kernel_rfl) rfl rfl ⟨HPD.out.d, HPD.out.p1, HPD.out.t1⟩ (fun hHeld => ?_)
              refine pz 0 (some 67) (bz 14 1) ?_
              refine pz 1 (some 68) (bz 14 3) ?_
              refine pz 2 (some 69) (bz 14 7) ?_
              refine pz 4 (some 71) (bz 14 23) ?_
              refine pz 5 (some 72) (bz 14 55) ?_
              refine pz 6 (some 73) (bz 14 119) ?_
              refine pz 8 (some 75) (bz 14 375) ?_
              refine pz 9 (some 76) (bz 14 887) ?_
              refine pz 10 (some 77) (bz 14 1911) ?_
              refine tz3 3 (some 70) (bz 14 1919) hHeld ?_
              refine tz3 7 (some 74) (bz 14 2047) hHeld ?_
              refine tz3 11 (some 78) (bz 14 4095) hHeld ?_
              refine one_ (i := 12) (N := some 79) (bz 14 8191) rfl rfl (by kernel_rfl) (by decide) (fun K hK => ?_)
              refine goes_ Tryd.func73 (by kernel_rfl) rfl #[.pointer (some ⟨g2, 0, none⟩), .int .i64 (q + 1), .slice A x.length c] (by rfl) rfl rfl (by simp only [List.map_toArray, List.map_cons, List.map_nil]; rfl) ?_
              with_reducible refine (HSV.out).mono ?_
              rintro e w4 ⟨rfl, hto⟩
              refine ⟨_, rfl, ?_⟩
              obtain ⟨F4, hl4⟩ := HLD.out.next hto
              have HL4 := Aside0.mk hl4
              have HP4 := Aside0.mk (HPL.out _ hl4.u)
              clear hto hl4
              refine hK.out _ _ ⟨HP4.out.d, HP4.out.p1, HP4.out.t1⟩ (fun hHeld => ?_)
              clear hK K
              refine norm_ (a' := ?_) ?_ ?_
              rotate_left
              · show Act.put _ (some 79) _ = _
                simp only [Act.put, List.setIfInBounds_toArray, List.set_cons_zero, List.set_cons_succ, i64_w, i32_w]
                rfl
              refine pz 13 (some 12) (bz 14 16383) ?_
              refine done_ (by kernel_rfl) ?_
              clear hHeld
              have h40 := HP4.out.d
              go_wp2_with (first | (go_at_call 55; (with_reducible refine (rTo_flush HL4.out.r HL4.out.ok).mono ?_); rintro e w5 ⟨rfl, hto5⟩; have HL5 := Aside0.mk (HL4.out.next hto5); have h5e := HEF.out; rw [h5e]; clear hto5))
              obtain ⟨F5, hl5⟩ := HL5.out
              go_ret
              rw [← HT5.out.1, ← HT5.out.2, HEF.out]
              exact ⟨rfl, (hl5.post HT.out HK.out HBL.out).le (by omega)⟩
          · have ts : (sv == 0) = false := by simpa using hs0
            have HT4 := Aside0.mk ((rput_save (ps := [(q, hd)]) (by rw [hsv]; exact hs0)).symm.trans HTT0.out)
            have HT5 := Aside0.mk (show (rsaveM R' (q + 1) x).2 = T.2 ∧ (rsaveM R' (q + 1) x).1 = T.1 from ⟨by rw [HT4.out], by rw [HT4.out]⟩)
            clear hsv hs0
            rw [HSE.out] at HSV
            go_wp2_with (fail)
            refine start_ (n := 14) (S := fun w' => w'.cell? ⟨t, 0, none⟩ = some (.pointer (some ⟨g2, 0, none⟩)) ∧ w'.cell? ⟨bp, 1, none⟩ = some (.int .i64 (q + 1)) ∧ w'.cell? ⟨bt, 1, none⟩ = some (.slice A x.length c)) (ds := []) (bz 14 0) (by kernel_rfl) rfl rfl ⟨HPD.out.d, HPD.out.p1, HPD.out.t1⟩ (fun hHeld => ?_)
            refine pz 0 (some 67) (bz 14 1) ?_
            refine pz 1 (some 68) (bz 14 3) ?_
            refine pz 2 (some 69) (bz 14 7) ?_
            refine pz 4 (some 71) (bz 14 23) ?_
            refine pz 5 (some 72) (bz 14 55) ?_
            refine pz 6 (some 73) (bz 14 119) ?_
            refine pz 8 (some 75) (bz 14 375) ?_
            refine pz 9 (some 76) (bz 14 887) ?_
            refine pz 10 (some 77) (bz 14 1911) ?_
            refine tz3 3 (some 70) (bz 14 1919) hHeld ?_
            refine tz3 7 (some 74) (bz 14 2047) hHeld ?_
            refine tz3 11 (some 78) (bz 14 4095) hHeld ?_
            refine one_ (i := 12) (N := some 79) (bz 14 8191) rfl rfl (by kernel_rfl) (by decide) (fun K hK => ?_)
            refine goes_ Tryd.func73 (by kernel_rfl) rfl #[.pointer (some ⟨g2, 0, none⟩), .int .i64 (q + 1), .slice A x.length c] (by rfl) rfl rfl (by simp only [List.map_toArray, List.map_cons, List.map_nil]; rfl) ?_
            with_reducible refine (HSV.out).mono ?_
            rintro e w4 ⟨rfl, hto⟩
            refine ⟨_, rfl, ?_⟩
            obtain ⟨F4, hl4⟩ := HLD.out.next hto
            have HL4 := Aside0.mk hl4
            have HP4 := Aside0.mk (HPL.out _ hl4.u)
            clear hto hl4
            refine hK.out _ _ ⟨HP4.out.d, HP4.out.p1, HP4.out.t1⟩ (fun hHeld => ?_)
            clear hK K
            refine norm_ (a' := ?_) ?_ ?_
            rotate_left
            · show Act.put _ (some 79) _ = _
              simp only [Act.put, List.setIfInBounds_toArray, List.set_cons_zero, List.set_cons_succ, i64_w, i32_w]
              rfl
            refine pz 13 (some 12) (bz 14 16383) ?_
            refine done_ (by kernel_rfl) ?_
            clear hHeld
            go_wp2_with (fail)
            go_ret
            rw [← HT5.out.1, ← HT5.out.2, HSE.out]
            exact ⟨rfl, (HL4.out.post HT.out HK.out HBL.out).le (by omega)⟩
        · have HLD := Aside0.mk HLP.out.drew
          have HPD := Aside0.mk HPW.out.drew
          have HTT0 := Aside0.mk (show rputT ((q, hd) :: []) R' = T from HTT.out)
          have HSV := Aside0.mk (calls_of_args (args' := #[.pointer (some ⟨g2, 0, none⟩), .int .i64 q, .slice (some ⟨gh, 0, none⟩) hd.length ch]) (by rw [HHL.out]) (rTo_save HLD.out.r HLD.out.st.1 (by have h1 := HB.out; have h2 := HBL.out.size; have h3 := HLD.out.u.size; omega) q (some ⟨gh, 0, none⟩) ch hd (by rw [HHL.out]; decide) (by rw [HHL.out]; exact HCH.out) (by have h1 := HLD.out.st.2.1; have h2 := HW.out; have h3 := hx; rw [HHL.out]; omega) (fun W hW => (HPL.out W (HLD.out.u.trans hW HLD.out.hF)).h)))
          have hp0 := HPW.out.d
          obtain ⟨sv, hsv⟩ : ∃ sv, (rsaveM R' q hd).2 = sv := ⟨_, rfl⟩
          have HSE := Lib.hid hsv
          by_cases hs0 : sv = 0
          · subst hs0
            obtain ⟨fv, hfv⟩ : ∃ fv, (rflushM (rsaveM R' q hd).1).2 = fv := ⟨_, rfl⟩
            have HEF := Lib.hid hfv
            by_cases hf0 : fv = 0
            · subst hf0
              have HT4 := Aside0.mk ((rput_on hsv hfv).symm.trans HTT0.out)
              clear hsv hfv
              rw [HSE.out] at HSV
              go_wp2_with (fail)
              refine start_ (n := 14) (S := fun w' => w'.cell? ⟨t, 0, none⟩ = some (.pointer (some ⟨g2, 0, none⟩)) ∧ w'.cell? ⟨bp, 2, none⟩ = some (.int .i64 q) ∧ w'.cell? ⟨bt, 2, none⟩ = some (.slice (some ⟨gh, 0, none⟩) 64 ch)) (ds := []) (bz 14 0) (by kernel_rfl) rfl rfl ⟨HPD.out.d, HPD.out.p2, HPD.out.t2⟩ (fun hHeld => ?_)
              refine pz 0 (some 67) (bz 14 1) ?_
              refine pz 1 (some 68) (bz 14 3) ?_
              refine pz 2 (some 69) (bz 14 7) ?_
              refine pz 4 (some 71) (bz 14 23) ?_
              refine pz 5 (some 72) (bz 14 55) ?_
              refine pz 6 (some 73) (bz 14 119) ?_
              refine pz 8 (some 75) (bz 14 375) ?_
              refine pz 9 (some 76) (bz 14 887) ?_
              refine pz 10 (some 77) (bz 14 1911) ?_
              refine tz3 3 (some 70) (bz 14 1919) hHeld ?_
              refine tz3 7 (some 74) (bz 14 2047) hHeld ?_
              refine tz3 11 (some 78) (bz 14 4095) hHeld ?_
              refine one_ (i := 12) (N := some 79) (bz 14 8191) rfl rfl (by kernel_rfl) (by decide) (fun K hK => ?_)
              refine goes_ Tryd.func73 (by kernel_rfl) rfl #[.pointer (some ⟨g2, 0, none⟩), .int .i64 q, .slice (some ⟨gh, 0, none⟩) 64 ch] (by rfl) rfl rfl (by simp only [List.map_toArray, List.map_cons, List.map_nil]; rfl) ?_
              with_reducible refine (HSV.out).mono ?_
              rintro e w4 ⟨rfl, hto⟩
              refine ⟨_, rfl, ?_⟩
              obtain ⟨F4, hl4⟩ := HLD.out.next hto
              have HL4 := Aside0.mk hl4
              have HP4 := Aside0.mk (HPL.out _ hl4.u)
              clear hto hl4
              refine hK.out _ _ ⟨HP4.out.d, HP4.out.p2, HP4.out.t2⟩ (fun hHeld => ?_)
              clear hK K
              refine norm_ (a' := ?_) ?_ ?_
              rotate_left
              · show Act.put _ (some 79) _ = _
                simp only [Act.put, List.setIfInBounds_toArray, List.set_cons_zero, List.set_cons_succ, i64_w, i32_w]
                rfl
              refine pz 13 (some 12) (bz 14 16383) ?_
              refine done_ (by kernel_rfl) ?_
              clear hHeld
              have h40 := HP4.out.d
              go_wp2_with (first | (go_at_call 55; (with_reducible refine (rTo_flush HL4.out.r HL4.out.ok).mono ?_); rintro e w5 ⟨rfl, hto5⟩; have HL5 := Aside0.mk (HL4.out.next hto5); have h5e := HEF.out; rw [h5e]; clear hto5))
              obtain ⟨F5, hl5⟩ := HL5.out
              have HL6 := Aside0.mk (hl5.le (m' := 3 * (x.length + 64)) (by rw [HHL.out]; omega))
              go_roundw
              case rel => exact ⟨3, _, F5, rfl, by decide, HL6, HT4⟩
              case measure => simp [intOf]
            · have tf : (fv == 0) = false := by simpa using hf0
              have HT4 := Aside0.mk ((rput_flush (ps := []) hsv (by rw [hfv]; exact hf0)).symm.trans HTT0.out)
              have HT5 := Aside0.mk (show (rflushM (rsaveM R' q hd).1).2 = T.2 ∧ (rflushM (rsaveM R' q hd).1).1 = T.1 from ⟨by rw [HT4.out], by rw [HT4.out]⟩)
              clear hsv hfv hf0
              rw [HSE.out] at HSV
              go_wp2_with (fail)
              refine start_ (n := 14) (S := fun w' => w'.cell? ⟨t, 0, none⟩ = some (.pointer (some ⟨g2, 0, none⟩)) ∧ w'.cell? ⟨bp, 2, none⟩ = some (.int .i64 q) ∧ w'.cell? ⟨bt, 2, none⟩ = some (.slice (some ⟨gh, 0, none⟩) 64 ch)) (ds := []) (bz 14 0) (by kernel_rfl) rfl rfl ⟨HPD.out.d, HPD.out.p2, HPD.out.t2⟩ (fun hHeld => ?_)
              refine pz 0 (some 67) (bz 14 1) ?_
              refine pz 1 (some 68) (bz 14 3) ?_
              refine pz 2 (some 69) (bz 14 7) ?_
              refine pz 4 (some 71) (bz 14 23) ?_
              refine pz 5 (some 72) (bz 14 55) ?_
              refine pz 6 (some 73) (bz 14 119) ?_
              refine pz 8 (some 75) (bz 14 375) ?_
              refine pz 9 (some 76) (bz 14 887) ?_
              refine pz 10 (some 77) (bz 14 1911) ?_
              refine tz3 3 (some 70) (bz 14 1919) hHeld ?_
              refine tz3 7 (some 74) (bz 14 2047) hHeld ?_
              refine tz3 11 (some 78) (bz 14 4095) hHeld ?_
              refine one_ (i := 12) (N := some 79) (bz 14 8191) rfl rfl (by kernel_rfl) (by decide) (fun K hK => ?_)
              refine goes_ Tryd.func73 (by kernel_rfl) rfl #[.pointer (some ⟨g2, 0, none⟩), .int .i64 q, .slice (some ⟨gh, 0, none⟩) 64 ch] (by rfl) rfl rfl (by simp only [List.map_toArray, List.map_cons, List.map_nil]; rfl) ?_
              with_reducible refine (HSV.out).mono ?_
              rintro e w4 ⟨rfl, hto⟩
              refine ⟨_, rfl, ?_⟩
              obtain ⟨F4, hl4⟩ := HLD.out.next hto
              have HL4 := Aside0.mk hl4
              have HP4 := Aside0.mk (HPL.out _ hl4.u)
              clear hto hl4
              refine hK.out _ _ ⟨HP4.out.d, HP4.out.p2, HP4.out.t2⟩ (fun hHeld => ?_)
              clear hK K
              refine norm_ (a' := ?_) ?_ ?_
              rotate_left
              · show Act.put _ (some 79) _ = _
                simp only [Act.put, List.setIfInBounds_toArray, List.set_cons_zero, List.set_cons_succ, i64_w, i32_w]
                rfl
              refine pz 13 (some 12) (bz 14 16383) ?_
              refine done_ (by kernel_rfl) ?_
              clear hHeld
              have h40 := HP4.out.d
              go_wp2_with (first | (go_at_call 55; (with_reducible refine (rTo_flush HL4.out.r HL4.out.ok).mono ?_); rintro e w5 ⟨rfl, hto5⟩; have HL5 := Aside0.mk (HL4.out.next hto5); have h5e := HEF.out; rw [h5e]; clear hto5))
              obtain ⟨F5, hl5⟩ := HL5.out
              go_ret
              rw [← HT5.out.1, ← HT5.out.2, HEF.out]
              exact ⟨rfl, (hl5.post HT.out HK.out HBL.out).le (by rw [HHL.out]; omega)⟩
          · have ts : (sv == 0) = false := by simpa using hs0
            have HT4 := Aside0.mk ((rput_save (ps := []) (by rw [hsv]; exact hs0)).symm.trans HTT0.out)
            have HT5 := Aside0.mk (show (rsaveM R' q hd).2 = T.2 ∧ (rsaveM R' q hd).1 = T.1 from ⟨by rw [HT4.out], by rw [HT4.out]⟩)
            clear hsv hs0
            rw [HSE.out] at HSV
            go_wp2_with (fail)
            refine start_ (n := 14) (S := fun w' => w'.cell? ⟨t, 0, none⟩ = some (.pointer (some ⟨g2, 0, none⟩)) ∧ w'.cell? ⟨bp, 2, none⟩ = some (.int .i64 q) ∧ w'.cell? ⟨bt, 2, none⟩ = some (.slice (some ⟨gh, 0, none⟩) 64 ch)) (ds := []) (bz 14 0) (by kernel_rfl) rfl rfl ⟨HPD.out.d, HPD.out.p2, HPD.out.t2⟩ (fun hHeld => ?_)
            refine pz 0 (some 67) (bz 14 1) ?_
            refine pz 1 (some 68) (bz 14 3) ?_
            refine pz 2 (some 69) (bz 14 7) ?_
            refine pz 4 (some 71) (bz 14 23) ?_
            refine pz 5 (some 72) (bz 14 55) ?_
            refine pz 6 (some 73) (bz 14 119) ?_
            refine pz 8 (some 75) (bz 14 375) ?_
            refine pz 9 (some 76) (bz 14 887) ?_
            refine pz 10 (some 77) (bz 14 1911) ?_
            refine tz3 3 (some 70) (bz 14 1919) hHeld ?_
            refine tz3 7 (some 74) (bz 14 2047) hHeld ?_
            refine tz3 11 (some 78) (bz 14 4095) hHeld ?_
            refine one_ (i := 12) (N := some 79) (bz 14 8191) rfl rfl (by kernel_rfl) (by decide) (fun K hK => ?_)
            refine goes_ Tryd.func73 (by kernel_rfl) rfl #[.pointer (some ⟨g2, 0, none⟩), .int .i64 q, .slice (some ⟨gh, 0, none⟩) 64 ch] (by rfl) rfl rfl (by simp only [List.map_toArray, List.map_cons, List.map_nil]; rfl) ?_
            with_reducible refine (HSV.out).mono ?_
            rintro e w4 ⟨rfl, hto⟩
            refine ⟨_, rfl, ?_⟩
            obtain ⟨F4, hl4⟩ := HLD.out.next hto
            have HL4 := Aside0.mk hl4
            have HP4 := Aside0.mk (HPL.out _ hl4.u)
            clear hto hl4
            refine hK.out _ _ ⟨HP4.out.d, HP4.out.p2, HP4.out.t2⟩ (fun hHeld => ?_)
            clear hK K
            refine norm_ (a' := ?_) ?_ ?_
            rotate_left
            · show Act.put _ (some 79) _ = _
              simp only [Act.put, List.setIfInBounds_toArray, List.set_cons_zero, List.set_cons_succ, i64_w, i32_w]
              rfl
            refine pz 13 (some 12) (bz 14 16383) ?_
            refine done_ (by kernel_rfl) ?_
            clear hHeld
            go_wp2_with (fail)
            go_ret
            rw [← HT5.out.1, ← HT5.out.2, HSE.out]
            exact ⟨rfl, (HL4.out.post HT.out HK.out HBL.out).le (by rw [HHL.out]; omega)⟩
        · go_wp2_with (fail)
          go_ret
          have HTE : (R', 0) = T := HTT.out
          rw [← HTE]
          exact ⟨rfl, (HLP.out.post HT.out HK.out HBL.out).le (by omega)⟩

end Go.Proofs.YtmblnflfklmmkaaDoor.Sh
/- Plain facts about stores: what was put is the newest. -/
namespace Go.Proofs.YtmblnflfklmmkaaDoor.Sh
open Go.Proofs.YtmblnflfklmmkaaDoor.Dk
open Go.RowKit Go.Proofs.YtmblnflfklmmkaaDoorW.PrintWords Go.Proofs.YtmblnflfklmmkaaDoorW.PrintLast Go.Proofs.YtmblnflfklmmkaaDoorW.PrintMore
set_option linter.unusedVariables false
set_option linter.unusedSimpArgs false
set_option maxRecDepth 30000
variable {D D' : DM} {fr n q k g : Int} {x y b : List Int}
theorem recM_congr {q : Int} {b : List Int} (hb : ∀ k, q ≤ k → k < q + 1 + ((((hdN b).toNat + 63) / 64 : Nat) : Int) → readM D' k = readM D k) : recM D' q b = recM D q b := by
  unfold recM
  rw [readsTo_congr (q + 1) _ (fun i hi => hb _ (by omega) (by omega))]
/-- An area that no sector of which was turned. -/
theorem areaM_congr (hn : 2 ≤ n) (h : ∀ i, fr + k * n ≤ i → i < fr + k * n + n → readM D' i = readM D i) : areaM D' fr n k = areaM D fr n k := by
  have h0 := h (fr + k * n) (Int.le_refl _) (by omega)
  unfold areaM
  rw [h0]
  obtain ⟨q, hq⟩ : ∃ q, fr + k * n = q := ⟨_, rfl⟩
  rw [hq] at h ⊢
  obtain ⟨b, hb⟩ : ∃ b, readM D q = b := ⟨_, rfl⟩
  rw [hb]
  have hr := numM_range ((b.drop 12).take 4)
  by_cases h1 : hdG b = 0
  · rw [if_pos h1, if_pos h1]
  · rw [if_neg h1, if_neg h1]
    by_cases h2 : 64 * (n - 1) < hdN b
    · rw [if_pos h2, if_pos h2]
    · rw [if_neg h2, if_neg h2]
      have : recM D' q b = recM D q b := recM_congr (fun i hi hi2 => h i hi (by have : 0 ≤ hdN b := hr.1; omega))
      rw [this]
/-- An area that a head and a record were put to. -/
theorem areaM_put (hn : 2 ≤ n) (h0 : 0 < g) (h1 : g ≤ 18446744073709551615) (hx : (x.length : Int) ≤ 64 * (n - 1)) (hx2 : x.length ≤ 1000000) (hh : readM D' (fr + k * n) = headM g x) (ho : ∀ i, i < secN x → readM D' (fr + k * n + 1 + (i : Nat)) = secAt x i) : areaM D' fr n k = some (g, x) := by
  have e1 : hdG (headM g x) = g := hdG_head (by omega) h1
  have e2 : hdN (headM g x) = x.length := hdN_head hx2
  have e3 : recM D' (fr + k * n) (headM g x) = x := by
    unfold recM
    rw [e2, Int.toNat_natCast]
    exact saved_reads ho
  unfold areaM
  rw [hh, e1, if_neg (by omega), e2, if_neg (by omega), e3, if_pos rfl]
theorem areaM_gen {g' : Int} {r : List Int} (h : areaM D fr n k = some (g', r)) : 0 < g' ∧ (r.length : Int) ≤ 64 * (n - 1) := by
  unfold areaM at h
  split at h
  · cases h
  · rename_i h1
    split at h
    · cases h
    · rename_i h2
      split at h
      · injection h with h
        injection h with h3 h4
        have hr := numM_range (((readM D (fr + k * n)).drop 4).take 8)
        have hr2 := numM_range (((readM D (fr + k * n)).drop 12).take 4)
        refine ⟨by rw [← h3]; unfold hdG at h1 ⊢; omega, ?_⟩
        rw [← h4, recM, List.length_take]
        unfold hdN at h2 ⊢
        omega
      · cases h
theorem next_some (st : Int × Int × List Int) (k : Int) (p : Int × List Int) : nextM st k (some p) = if st.2.1 < p.1 then (k, p.1, p.2) else st := rfl
/-- The newest area is one of two. -/
theorem newest_at : (newestM D fr n).1 = -1 ∨ (newestM D fr n).1 = 0 ∨ (newestM D fr n).1 = 1 := by
  unfold newestM
  cases areaM D fr n 0 with
  | none =>
    cases areaM D fr n 1 with
    | none => exact .inl rfl
    | some p =>
      have e0 : nextM (-1, 0, []) 0 none = (-1, 0, []) := rfl
      rw [e0]
      rw [next_some]
      by_cases h : ((-1, 0, []) : Int × Int × List Int).2.1 < p.1
      · exact .inr (.inr (by rw [if_pos h]))
      · exact .inl (by rw [if_neg h])
  | some p0 =>
    have e0 : (nextM (-1, 0, []) 0 (some p0)).1 = -1 ∨ (nextM (-1, 0, []) 0 (some p0)).1 = 0 := by
      rw [next_some]
      by_cases h : ((-1, 0, []) : Int × Int × List Int).2.1 < p0.1
      · exact .inr (by rw [if_pos h])
      · exact .inl (by rw [if_neg h])
    generalize nextM (-1, 0, []) 0 (some p0) = st at e0 ⊢
    cases areaM D fr n 1 with
    | none => rcases e0 with e | e
              · exact .inl e
              · exact .inr (.inl e)
    | some p =>
      rw [next_some]
      by_cases h : st.2.1 < p.1
      · exact .inr (.inr (by rw [if_pos h]))
      · rw [if_neg h]
        rcases e0 with e | e
        · exact .inl e
        · exact .inr (.inl e)
theorem newest_ge {j : Int} (hj : j = 0 ∨ j = 1) {g' : Int} {r : List Int} (h : areaM D fr n j = some (g', r)) : g' ≤ (newestM D fr n).2.1 := by
  have hp := (areaM_gen h).1
  unfold newestM
  rcases hj with rfl | rfl
  · rw [h]
    have e : nextM (-1, 0, []) 0 (some (g', r)) = (0, g', r) := if_pos hp
    rw [e]
    cases areaM D fr n 1 with
    | none => exact Int.le_refl _
    | some p =>
      rw [next_some]
      by_cases hh : g' < p.1
      · rw [if_pos hh]; exact Int.le_of_lt hh
      · rw [if_neg hh]; exact Int.le_refl _
  · rw [h]
    generalize nextM (-1, 0, []) 0 (areaM D fr n 0) = st
    rw [next_some]
    by_cases hh : st.2.1 < g'
    · rw [if_pos hh]; exact Int.le_refl _
    · rw [if_neg hh]; exact Int.not_lt.mp hh
/-- Two areas, one of them newer. -/
theorem newest_new {j : Int} (hj : j = 0 ∨ j = 1) (h : areaM D' fr n j = some (g, x)) (ho : ∀ g' r, areaM D' fr n (1 - j) = some (g', r) → g' < g) : newestM D' fr n = (j, g, x) := by
  have hp := (areaM_gen h).1
  unfold newestM
  rcases hj with rfl | rfl
  · rw [h]
    have e : nextM (-1, 0, []) 0 (some (g, x)) = (0, g, x) := if_pos hp
    rw [e]
    cases e1 : areaM D' fr n 1 with
    | none => rfl
    | some p =>
      obtain ⟨g', r⟩ := p
      have := ho g' r e1
      exact if_neg (by simp only; omega)
  · rw [h]
    cases e1 : areaM D' fr n 0 with
    | none => exact if_pos hp
    | some p =>
      obtain ⟨g', r⟩ := p
      have := ho g' r e1
      have hp' := (areaM_gen e1).1
      have e : nextM (-1, 0, []) 0 (some (g', r)) = (0, g', r) := if_pos hp'
      rw [e]
      exact if_pos (by simp only; omega)
def otherM (at_ : Int) : Int := if at_ = 0 then 1 else 0
theorem toM_eq (at_ : Int) : toM fr n at_ = fr + otherM at_ * n := by
  unfold toM otherM
  split <;> rfl
/-- What a Put leaves, the power staying. -/
structure Puts (D D' : DM) (fr n : Int) (x : List Int) : Prop where
  calm : Dk.Calm D'
  len : D'.sec.length = D.sec.length
  held : D'.held = []
  ok : DOk D'
  new : newestM D' fr n = (otherM (newestM D fr n).1, (newestM D fr n).2.1 + 1, x)
  old : areaM D' fr n (1 - otherM (newestM D fr n).1) = areaM D fr n (1 - otherM (newestM D fr n).1)
  out : ∀ k, 0 ≤ k → (k < fr ∨ fr + 2 * n ≤ k) → readM D' k = readM D k
theorem calm_put (hc : Dk.Calm D) (hk : SOk D fr n) (hh : D.held.length ≤ 5000000) (hx : (x.length : Int) ≤ 64 * (n - 1)) (hg : (newestM D fr n).2.1 < 18446744073709551615) : (putM D fr n x).2 = 0 ∧ Puts D (putM D fr n x).1 fr n x := by
  have hn := hk.hn
  have hl := hk.hl
  have hz := hk.hz
  have hf := hk.hf
  have hr := newestM_range (D := D) (fr := fr) (n := n)
  obtain ⟨at_, mo, r, hst⟩ : ∃ at_ mo r, newestM D fr n = (at_, mo, r) := ⟨_, _, _, rfl⟩
  have hat := newest_at (D := D) (fr := fr) (n := n)
  have hge := fun (j : Int) (hj : j = 0 ∨ j = 1) (g' : Int) (r : List Int) => newest_ge (D := D) (fr := fr) (n := n) (r := r) (g' := g') hj
  rw [hst] at hg hr hat hge
  dsimp only at hg hr hat hge
  have hom : otherM at_ = 0 ∨ otherM at_ = 1 := by unfold otherM; split <;> simp
  have hon : 0 ≤ otherM at_ * n ∧ otherM at_ * n ≤ n := by rcases hom with h | h <;> rw [h] <;> omega
  have hsx : (secN x : Int) ≤ n - 1 := by unfold secN; omega
  have hxl : x.length ≤ 64000 := by omega
  obtain ⟨p1, p2⟩ := calm_put3 (q := fr + otherM at_ * n) (x := x) (h := headM (mo + 1) x) hc hk.d (by omega) (by omega) (by omega) (by omega) (headM_length _ _)
  have e : putM D fr n x = put3 D (fr + otherM at_ * n) x (headM (mo + 1) x) := by
    rw [putM, hc.down, if_neg (by decide), if_neg (by omega), hst, if_neg (by dsimp only; omega), toM_eq]
  rw [e]
  have hnew := areaM_put (D' := (put3 D (fr + otherM at_ * n) x (headM (mo + 1) x)).1) (k := otherM at_) hn (g := mo + 1) (by omega) (by omega) hx (by omega) p2.head p2.own
  have hold : areaM (put3 D (fr + otherM at_ * n) x (headM (mo + 1) x)).1 fr n (1 - otherM at_) = areaM D fr n (1 - otherM at_) := areaM_congr hn (fun i h1 h2 => p2.other i (by rcases hom with h | h <;> rw [h] at h1 <;> omega) (by rcases hom with h | h <;> rw [h] at h1 h2 ⊢ <;> omega))
  refine ⟨p1, p2.calm, p2.len, p2.held, p2.ok, ?_, by rw [hst]; exact hold, fun k h1 h2 => p2.other k h1 (by omega)⟩
  rw [hst]
  refine newest_new hom hnew (fun g' r hr' => ?_)
  rw [hold] at hr'
  have := hge (1 - otherM at_) (by rcases hom with h | h <;> rw [h] <;> simp) g' r hr'
  show g' < mo + 1
  omega
theorem Puts.sok (h : Puts D D' fr n x) (hk : SOk D fr n) : SOk D' fr n := ⟨h.ok, hk.hf, hk.hn, by rw [h.len]; exact hk.hl, by rw [h.len]; exact hk.hz⟩
end Go.Proofs.YtmblnflfklmmkaaDoor.Sh
/- Stores of a law's own: the calls on them; the law's known. -/
namespace Go.Proofs.YtmblnflfklmmkaaDoor.Sh
open Go.Proofs.YtmblnflfklmmkaaDoor.Dk
open Go.RowKit Go.Proofs.YtmblnflfklmmkaaDoorW.PrintWords Go.Proofs.YtmblnflfklmmkaaDoorW.PrintLast Go.Proofs.YtmblnflfklmmkaaDoorW.PrintMore
set_option linter.unusedVariables false
set_option linter.unusedSimpArgs false
set_option maxRecDepth 30000
variable {w0 w w' W W' w1 w2 : World} {B s g : Nat} {F F' : Nat → Prop} {D D' : DM} {fr n : Int} {v : Value} {xs x : List Int}
theorem put3_hs {q : Int} {h : List Int} (hh : h.length = 64) : (put3 D q x h).1.held.length ≤ D.held.length + x.length + 128 ∧ (put3 D q x h).1.sec.length = D.sec.length := by
  have h1 := stepM_hs (D := D) q zer64
  rw [zer64_len] at h1
  have h2 := stepM_hs (D := (stepM D q zer64).1) (q + 1) x
  have h3 := stepM_hs (D := (stepM (stepM D q zer64).1 (q + 1) x).1) q h
  unfold put3
  split
  · exact ⟨by omega, h1.2⟩
  · split
    · exact ⟨by omega, h2.2.trans h1.2⟩
    · exact ⟨by omega, (h3.2.trans h2.2).trans h1.2⟩
theorem put3_ok {q : Int} {h : List Int} (hd : DOk D) (hh : h.length = 64) (hn : D.held.length + x.length + 128 ≤ 10000000) : DOk (put3 D q x h).1 := by
  have h1 := stepM_hs (D := D) q zer64
  rw [zer64_len] at h1
  have h2 := stepM_hs (D := (stepM D q zer64).1) (q + 1) x
  have k1 := stepM_ok (D := D) (k := q) (x := zer64) hd (by rw [zer64_len]; omega)
  have k2 := stepM_ok (D := (stepM D q zer64).1) (k := q + 1) (x := x) k1 (by omega)
  have k3 := stepM_ok (D := (stepM (stepM D q zer64).1 (q + 1) x).1) (k := q) (x := h) k2 (by omega)
  unfold put3
  split
  · exact k1
  · split
    · exact k2
    · exact k3
theorem putM_hs : (putM D fr n x).1.held.length ≤ D.held.length + x.length + 128 ∧ (putM D fr n x).1.sec.length = D.sec.length := by
  unfold putM
  split
  · exact ⟨by dsimp only; omega, rfl⟩
  · split
    · exact ⟨by dsimp only; omega, rfl⟩
    · split
      · exact ⟨by dsimp only; omega, rfl⟩
      · exact put3_hs (headM_length _ _)
theorem putM_ok (hd : DOk D) (hn : D.held.length + x.length + 128 ≤ 10000000) : DOk (putM D fr n x).1 := by
  unfold putM
  split
  · exact hd
  · split
    · exact hd
    · split
      · exact hd
      · exact put3_ok hd (headM_length _ _) hn
theorem SOk.dm (hk : SOk D fr n) (h : DOk D') (hl : D'.sec.length = D.sec.length) : SOk D' fr n := ⟨h, hk.hf, hk.hn, by rw [hl]; exact hk.hl, by rw [hl]; exact hk.hz⟩
/-- A store of the law's own, younger than w0. -/
structure Ss (w0 w : World) (s g : Nat) (F : Nat → Prop) (D : DM) (fr n : Int) : Prop where
  S : SAt w w0.heap.size s g F D fr n
  K : SOk D fr n
  G : Glob w0
  b : Below w0.heap.size w0 w
theorem Ss.glob (h : Ss w0 w s g F D fr n) : Glob w := h.G.below h.b
theorem Ss.notF (h : Ss w0 w s g F D fr n) : ¬ F 0 ∧ ¬ F 1 :=
  ⟨fun hf => by have := h.S.d.lo _ hf; have := h.G.lt; omega, fun hf => by have := h.S.d.lo _ hf; have := h.G.lt; omega⟩
theorem Ss.below (h : Ss w0 w s g F D fr n) (hb : Below w.heap.size w w') : Ss w0 w' s g F D fr n := ⟨h.S.below hb, h.K, h.G, below_trans h.b hb⟩
/-- Rows of bytes that were there, and are no blocks of the disk's. -/
def Keeps (w w' : World) (F F' : Nat → Prop) : Prop := (∀ A xs, (C8 w A xs ∧ ∀ a, A = some a → a.block < w.heap.size ∧ ¬ F a.block) → C8 w' A xs ∧ ∀ a, A = some a → a.block < w'.heap.size ∧ ¬ F' a.block) ∧ (∀ v xs, Row w F v xs → Row w' F' v xs)
theorem Keeps.of (hF : ∀ k, F' k → F k ∨ w.heap.size ≤ k) (hu : Upd w w' F) : Keeps w w' F F' :=
  ⟨fun A xs ⟨h1, h2⟩ => ⟨h1.upd hu h2, fun a ha => ⟨Nat.lt_of_lt_of_le (h2 a ha).1 hu.size, fun hf => by
    have := h2 a ha
    rcases hF _ hf with h | h
    · exact this.2 h
    · omega⟩⟩, fun v xs h => h.post hF hu⟩
def SsPo (w0 w w' : World) (s g : Nat) (F : Nat → Prop) (D' : DM) (fr n : Int) : Prop := ∃ F', Ss w0 w' s g F' D' fr n ∧ Keeps w w' F F'
theorem Ss.po (h : Ss w0 w s g F D fr n) (hk : SOk D' fr n) (hp : SPo w w' w0.heap.size s g F D' fr n) : SsPo w0 w w' s g F D' fr n := by
  obtain ⟨F', hF, hs, hu⟩ := hp
  exact ⟨F', ⟨hs, hk, h.G, below_upd h.b hu h.S.d.lo⟩, .of hF hu⟩
theorem Ss.dpo (h : Ss w0 w s g F D fr n) (hk : SOk D' fr n) (hp : DPost w w' w0.heap.size g F D') : SsPo w0 w w' s g F D' fr n := h.po hk (h.S.po hp)
/-- The calls, on such a store. -/
theorem ssGet (h : Ss w0 w s g F D fr n) : Calls Tryd.prog 8 #[.pointer (some ⟨s, 0, none⟩)] w fun e w' => GtPo w w' D fr n e := Get_calls h.glob h.S h.K
theorem ssNewest (h : Ss w0 w s g F D fr n) : Calls Tryd.prog 9 #[.pointer (some ⟨s, 0, none⟩)] w fun e w' => NwPo w w' D fr n e := Newest_calls h.glob h.S h.K
theorem ssRoom (h : Ss w0 w s g F D fr n) : Calls Tryd.prog 11 #[.pointer (some ⟨s, 0, none⟩)] w fun e w' => e = .returned (.int .i64 (64 * (n - 1))) ∧ w = w' := room_calls h.S h.K
theorem ssPut (h : Ss w0 w s g F D fr n) (hh : D.held.length ≤ 5000000) (A : Option Addr) (c : Nat) (x : List Int) (hx : x.length ≤ 20000) (hxc : x.length ≤ c) (hC : ∀ W, Upd w W F → C8 W A x) :
    Calls Tryd.prog 12 #[.pointer (some ⟨s, 0, none⟩), .slice A x.length c] w fun e w' => e = .returned (.int .i64 (putM D fr n x).2) ∧ SsPo w0 w w' s g F (putM D fr n x).1 fr n :=
  (Put_calls h.glob h.notF h.S h.K hh A c x hx hxc hC).mono fun e w' ⟨he, hp⟩ => ⟨he, h.po (h.K.dm (putM_ok h.K.d (by omega)) putM_hs.2) hp⟩
/-- What the law knows. -/
def nD0 : DM := newM [] 4 4
def nD1 : DM := (putM nD0 0 2 [1, 2, 3]).1
def nD2 : DM := (putM nD1 0 2 []).1
theorem nD0_calm : Dk.Calm nD0 := ⟨rfl, rfl⟩
theorem nD0_ok : SOk nD0 0 2 := ⟨newM_ok [] 4 (by decide), by decide, by decide, by decide, by decide⟩
theorem nD0_new : newestM nD0 0 2 = (-1, 0, []) := by
  have h0 : areaM nD0 0 2 0 = none := by unfold areaM; rw [if_pos (by decide)]
  have h1 : areaM nD0 0 2 1 = none := by unfold areaM; rw [if_pos (by decide)]
  unfold newestM
  rw [h0, h1]
  rfl
theorem nP1 : (putM nD0 0 2 [1, 2, 3]).2 = 0 ∧ Puts nD0 nD1 0 2 [1, 2, 3] := calm_put nD0_calm nD0_ok (by decide) (by decide) (by rw [nD0_new]; decide)
theorem nD1_new : newestM nD1 0 2 = (0, 1, [1, 2, 3]) := by
  have := nP1.2.new
  rw [nD0_new] at this
  exact this
theorem nP2 : (putM nD1 0 2 []).2 = 0 ∧ Puts nD1 nD2 0 2 [] := calm_put nP1.2.calm (nP1.2.sok nD0_ok) (by rw [nP1.2.held]; decide) (by decide) (by rw [nD1_new]; decide)
theorem nD2_new : newestM nD2 0 2 = (1, 2, []) := by
  have := nP2.2.new
  rw [nD1_new] at this
  exact this
theorem New4 : Calls Tryd.prog 15 #[.slice none 0 0, .int .i64 4] w fun e w' => ∃ g, e = .returned (.tuple #[.pointer (some ⟨g, 0, none⟩), .int .i64 0]) ∧ DiskAt w' w.heap.size g (fun k => w.heap.size ≤ k ∧ k < w'.heap.size) nD0 ∧ Below w.heap.size w w' :=
  New_calls none 0 [] 4 (by decide) (by decide) ⟨rfl, by decide, fun h => absurd h (by decide)⟩ (by unfold newBad; decide)
theorem nOpen (h : DiskAt w w0.heap.size g F nD0) (hg : Glob w0) (hb : Below w0.heap.size w0 w) : Calls Tryd.prog 10 #[.pointer (some ⟨g, 0, none⟩), .int .i64 0, .int .i64 2] w fun e w' => ∃ s, e = .returned (.tuple #[.pointer (some ⟨s, 0, none⟩), .int .i64 0]) ∧ Ss w0 w' s g F nD0 0 2 := by
  refine (Open_calls h (by decide) 0 2).mono ?_
  rintro e w' (⟨hn, _⟩ | ⟨_, s, rfl, hs, _, hb2⟩)
  · exact absurd (by decide) hn
  · exact ⟨s, rfl, hs, nD0_ok, hg, below_trans hb hb2⟩
theorem nGet (h : Ss w0 w s g F nD0 0 2) : Calls Tryd.prog 8 #[.pointer (some ⟨s, 0, none⟩)] w fun e w' => ∃ A c, e = .returned (.tuple #[.slice A 0 c, .int .i64 70]) ∧ Ss w0 w' s g F nD0 0 2 := by
  refine (ssGet h).mono ?_
  rintro e w' ⟨A, c, rfl, _, hb⟩
  have e1 : getE nD0 0 2 = 70 := by unfold getE; rw [nD0_new]; rfl
  have e2 : getR nD0 0 2 = [] := by unfold getR; rw [e1]; rfl
  rw [e1, e2]
  exact ⟨A, c, rfl, h.below hb⟩
theorem nNewest {a k : Int} {r : List Int} (h : Ss w0 w s g F D 0 2) (hd : Dk.Calm D) (hn : newestM D 0 2 = (a, k, r)) (ha : ¬ a < 0) : Calls Tryd.prog 9 #[.pointer (some ⟨s, 0, none⟩)] w fun e w' => e = .returned (.tuple #[.int .i64 a, .int .u64 k, .int .i64 0]) ∧ Ss w0 w' s g F D 0 2 := by
  refine (ssNewest h).mono ?_
  rintro e w' ⟨hb, rfl⟩
  rw [hn, hd.down, if_neg (by decide), if_neg ha]
  exact ⟨rfl, h.below hb⟩
theorem nPut1 (h : Ss w0 w s g F nD0 0 2) (hC : ∀ W, Upd w W F → C8 W (some ⟨B, 0, none⟩) [1, 2, 3]) : Calls Tryd.prog 12 #[.pointer (some ⟨s, 0, none⟩), .slice (some ⟨B, 0, none⟩) 3 3] w fun e w' => e = .returned (.int .i64 0) ∧ ∃ F', Ss w0 w' s g F' nD1 0 2 := by
  refine (ssPut h (by decide) (some ⟨B, 0, none⟩) 3 [1, 2, 3] (by decide) (by decide) hC).mono ?_
  rintro e w' ⟨rfl, F', hs, _⟩
  rw [nP1.1]
  exact ⟨rfl, F', hs⟩
theorem nPut2 (h : Ss w0 w s g F nD1 0 2) : Calls Tryd.prog 12 #[.pointer (some ⟨s, 0, none⟩), .slice none 0 0] w fun e w' => e = .returned (.int .i64 0) ∧ ∃ F', Ss w0 w' s g F' nD2 0 2 := by
  refine (ssPut h (by rw [nP1.2.held]; decide) none 0 [] (by decide) (by decide) (fun W _ => Kd.C_nil _ _)).mono ?_
  rintro e w' ⟨rfl, F', hs, _⟩
  rw [nP2.1]
  exact ⟨rfl, F', hs⟩
def Kn (w0 w' : World) (e : Ending) : Prop := e = .returned (.bool true) ∧ Below w0.heap.size w0 w'
set_option maxHeartbeats 16000000 in
theorem known_calls (hg : Glob w) : Calls Tryd.prog 13 #[] w fun e w' => Kn w w' e := by
  have HG := Aside0.mk hg
  clear hg
  go_enter Tryd.func13, Tryd.ntmps13
  go_wp2_with (first | (go_at_call 15; (with_reducible refine New4.mono ?_); rintro e w1 ⟨g, rfl, hd1, hb1⟩; have HD1 := Aside0.mk hd1; have HB1 := Aside0.mk hb1; clear hd1 hb1) | (go_at_call 10; (with_reducible refine (nOpen HD1.out HG.out HB1.out).mono ?_); rintro e w2 ⟨s, rfl, hs2⟩; have HS2 := Aside0.mk hs2; clear hs2) | (go_at_call 8; (with_reducible refine (nGet HS2.out).mono ?_); rintro e w3 ⟨A3, c3, rfl, hs3⟩; have HS3 := Aside0.mk hs3; clear hs3))
  have HS4 := Aside0.mk (HS3.out.below (below_alloc (Below.refl _ _) (.cells #[.int .u8 1, .int .u8 2, .int .u8 3] 5)))
  have HC4 := Aside0.mk (C8_young (q := w3.heap.size) (x := [1, 2, 3]) (t := 5) (w := w3.alloc (.cells #[.int .u8 1, .int .u8 2, .int .u8 3] 5)) (DiskAt.hi HS3.out.S.d) (heap_alloc_new w3 _) (by decide))
  go_wp2_with (first | (go_at_call 12; (with_reducible refine (nPut1 HS4.out HC4.out).mono ?_); rintro e w5 ⟨rfl, F5, hs5⟩; have HS5 := Aside0.mk hs5; clear hs5) | (go_at_call 9; (with_reducible refine (nNewest HS5.out nP1.2.calm nD1_new (by decide)).mono ?_); rintro e w6 ⟨rfl, hs6⟩; have HS6 := Aside0.mk hs6; clear hs6) | (go_at_call 12; (with_reducible refine (nPut2 HS6.out).mono ?_); rintro e w7 ⟨rfl, F7, hs7⟩; have HS7 := Aside0.mk hs7; clear hs7) | (go_at_call 9; (with_reducible refine (nNewest HS7.out nP2.2.calm nD2_new (by decide)).mono ?_); rintro e w8 ⟨rfl, hs8⟩; have HS8 := Aside0.mk hs8; clear hs8) | (go_at_call 11; (with_reducible refine (ssRoom HS8.out).mono ?_); rintro e w9 ⟨rfl, rfl⟩))
  go_ret
  exact ⟨rfl, HS8.out.b⟩
end Go.Proofs.YtmblnflfklmmkaaDoor.Sh
/- The law's plays. -/
namespace Go.Proofs.YtmblnflfklmmkaaDoor.Sh
open Go.Proofs.YtmblnflfklmmkaaDoor.Dk
open Go.RowKit Go.Proofs.YtmblnflfklmmkaaDoorW.PrintWords Go.Proofs.YtmblnflfklmmkaaDoorW.PrintLast Go.Proofs.YtmblnflfklmmkaaDoorW.PrintMore
set_option linter.unusedVariables false
set_option linter.unusedSimpArgs false
set_option maxRecDepth 30000
variable {w0 w w' W w1 w2 w3 : World} {s g t g2 : Nat} {F F2 : Nat → Prop} {D D' : DM} {R R' : RM} {fr n : Int}
/-- A store on a disk, and the document's store on the document's, beside each other; all is younger than w0. -/
structure Tri (w0 w : World) (s g : Nat) (F : Nat → Prop) (D : DM) (fr n : Int) (t g2 : Nat) (F2 : Nat → Prop) (R : RM) : Prop where
  S : SAt w w0.heap.size s g F D fr n
  T : TAt w w0.heap.size t g2 F2 R fr n
  ap : ∀ k, F k → ¬ F2 k
  sF : ¬ F2 s
  tF : ¬ F t
  G : Glob w0
  b : Below w0.heap.size w0 w
theorem Tri.glob (h : Tri w0 w s g F D fr n t g2 F2 R) : Glob w := h.G.below h.b
theorem Tri.notF (h : Tri w0 w s g F D fr n t g2 F2 R) : ¬ F 0 ∧ ¬ F 1 :=
  ⟨fun hf => by have := h.S.d.lo _ hf; have := h.G.lt; omega, fun hf => by have := h.S.d.lo _ hf; have := h.G.lt; omega⟩
theorem Tri.below (h : Tri w0 w s g F D fr n t g2 F2 R) (hb : Below w.heap.size w w1) : Tri w0 w1 s g F D fr n t g2 F2 R := ⟨h.S.below hb, h.T.below hb, h.ap, h.sF, h.tF, h.G, below_trans h.b hb⟩
theorem Tri.hi (h : Tri w0 w s g F D fr n t g2 F2 R) : (∀ k, F k → k < w.heap.size) ∧ (∀ k, F2 k → k < w.heap.size) := ⟨fun k hk => h.S.d.lt k hk, fun k hk => (h.T.r.lo k hk).2⟩
theorem TAt.upd {G : Nat → Prop} (h : TAt w w0.heap.size t g2 F2 R fr n) (hu : Upd w w1 G) (hd : ∀ k, F2 k → ¬ G k) (hG : ∀ k, G k → w0.heap.size ≤ k) (ht : ¬ G t) : TAt w1 w0.heap.size t g2 F2 R fr n := ⟨(hu.block t (blk_lt h.blk) ht).trans h.blk, h.r.frame hu hd hG, h.nF⟩
theorem SAt.upd {G : Nat → Prop} (h : SAt w w0.heap.size s g F D fr n) (hu : Upd w w1 G) (hd : ∀ k, F k → ¬ G k) (hs : ¬ G s) : SAt w1 w0.heap.size s g F D fr n := ⟨(hu.block s (blk_lt h.blk) hs).trans h.blk, h.d.frame hu (fun k _ => hd k), h.nF⟩
theorem Tri.onS (h : Tri w0 w s g F D fr n t g2 F2 R) (hp : SPo w w1 w0.heap.size s g F D' fr n) : ∃ F', (∀ k, F' k → F k ∨ w.heap.size ≤ k) ∧ Tri w0 w1 s g F' D' fr n t g2 F2 R ∧ Upd w w1 F := by
  obtain ⟨F', hF, hs, hu⟩ := hp
  refine ⟨F', hF, ⟨hs, h.T.upd hu (fun k h2 h1 => h.ap k h1 h2) (fun k hk => h.S.d.lo k hk) h.tF, fun k h1 h2 => ?_, h.sF, fun h1 => ?_, h.G, below_upd h.b hu (fun k hk => h.S.d.lo k hk)⟩, hu⟩
  · rcases hF k h1 with h1 | h1
    · exact h.ap k h1 h2
    · have := h.hi.2 k h2
      omega
  · rcases hF t h1 with h1 | h1
    · exact h.tF h1
    · have := blk_lt h.T.blk
      omega
theorem Tri.onT {m : Nat} (h : Tri w0 w s g F D fr n t g2 F2 R) (hp : TPo w w1 w0.heap.size t g2 F2 R R' fr n m) : ∃ F', (∀ k, F' k → F2 k ∨ w.heap.size ≤ k) ∧ Tri w0 w1 s g F D fr n t g2 F' R' ∧ TOk R' fr n ∧ R'.wait.length ≤ R.wait.length + m ∧ Upd w w1 F2 := by
  obtain ⟨F', hF, ht, hk, hw, hu⟩ := hp
  refine ⟨F', hF, ⟨h.S.upd hu (fun k h1 h2 => h.ap k h1 h2) h.sF, ht, fun k h1 h2 => ?_, fun h1 => ?_, h.tF, h.G, below_upd h.b hu (fun k hk => (h.T.r.lo k hk).1)⟩, hk, hw, hu⟩
  · rcases hF k h2 with h2 | h2
    · exact h.ap k h1 h2
    · have := h.hi.1 k h1
      omega
  · rcases hF s h1 with h1 | h1
    · exact h.sF h1
    · have := blk_lt h.S.blk
      omega
theorem TAt.po {m : Nat} (h : TAt w w0.heap.size t g2 F2 R fr n) (hk : TOk R fr n) (hp : RefTo w w1 w0.heap.size g2 F2 R m R') : TPo w w1 w0.heap.size t g2 F2 R R' fr n m := by
  obtain ⟨F', hF, hr, ho, hw, hl, hu⟩ := hp
  refine ⟨F', hF, ⟨(hu.block t (blk_lt h.blk) h.nF).trans h.blk, hr, fun hs => ?_⟩, hk.dm ho hl, hw, hu⟩
  rcases hF t hs with h1 | h1
  · exact h.nF h1
  · have := blk_lt h.blk
    omega
/-- An operation on both: the disks behind it, and what is told. -/
def play8 (fr n : Int) (D : DM) (R : RM) (o : OpM) : DM × RM × Bool :=
  if o.kind = 1 then ((putM D fr n o.b).1, (rputM R fr n o.b).1, (putM D fr n o.b).2 == (rputM R fr n o.b).2)
  else if o.kind = 2 then ((setM D o.n o.ch).1, rsetM R o.n o.ch, (setM D o.n o.ch).2 == rsetE o.n o.ch)
  else if o.kind = 3 then (loseM o.ch D, rloseM o.ch R, true)
  else if o.kind = 4 then (startM D, rstartM R, true)
  else if o.kind = 5 then (if (writeM D o.at_ o.b).2 = (rwriteM R o.at_ o.b).2 then ((flushM (writeM D o.at_ o.b).1).1, (rflushM (rwriteM R o.at_ o.b).1).1, (flushM (writeM D o.at_ o.b).1).2 == (rflushM (rwriteM R o.at_ o.b).1).2) else ((writeM D o.at_ o.b).1, (rwriteM R o.at_ o.b).1, false))
  else (D, R, true)
/-- What plays leaves. -/
def P8Po (w0 w w' : World) (s g : Nat) (F : Nat → Prop) (fr n : Int) (t g2 : Nat) (F2 : Nat → Prop) (R : RM) (p : DM × RM × Bool) (m : Nat) (e : Ending) : Prop :=
  e = .returned (.bool p.2.2) ∧ ∃ F' F2', (∀ k, F' k → F k ∨ w.heap.size ≤ k) ∧ (∀ k, F2' k → F2 k ∨ w.heap.size ≤ k) ∧ Tri w0 w' s g F' p.1 fr n t g2 F2' p.2.1 ∧ TOk p.2.1 fr n ∧ p.2.1.wait.length ≤ R.wait.length + m ∧ Upd w w' (fun k => F k ∨ F2 k)
theorem P8Po.of {wa : World} {m : Nat} {p : DM × RM × Bool} {F' F2' : Nat → Prop} (hb : Below w.heap.size w wa) (h1 : ∀ k, F' k → F k ∨ wa.heap.size ≤ k) (h2 : ∀ k, F2' k → F2 k ∨ wa.heap.size ≤ k) (h3 : Tri w0 w' s g F' p.1 fr n t g2 F2' p.2.1) (h4 : TOk p.2.1 fr n) (h5 : p.2.1.wait.length ≤ R.wait.length + m) (hu : Upd wa w' (fun k => F k ∨ F2 k)) : P8Po w0 w w' s g F fr n t g2 F2 R p m (.returned (.bool p.2.2)) :=
  ⟨rfl, F', F2', fun k hk => (h1 k hk).imp id (fun h => Nat.le_trans hb.size h), fun k hk => (h2 k hk).imp id (fun h => Nat.le_trans hb.size h), h3, h4, h5, (Upd.of_below hb).trans hu (fun _ h => .inl h)⟩
theorem upd_or (h1 : Upd w w1 F) (h2 : Upd w1 w2 F2) : Upd w w2 (fun k => F k ∨ F2 k) := (h1.mono (fun _ h => .inl h)).trans (h2.mono (fun _ h => .inr h)) (fun _ h => .inl h)
theorem upd_four {F' F2' : Nat → Prop} {w4 : World} (h1 : Upd w w1 F) (h2 : Upd w1 w2 F2) (h3 : Upd w2 w3 F') (h4 : Upd w3 w4 F2') (hF : ∀ k, F' k → F k ∨ w.heap.size ≤ k) (hF2 : ∀ k, F2' k → F2 k ∨ w1.heap.size ≤ k) : Upd w w4 (fun k => F k ∨ F2 k) := by
  have a := upd_or h1 h2
  have b : Upd w w3 (fun k => F k ∨ F2 k) := a.trans h3 (fun k hk => (hF k hk).imp .inl id)
  exact b.trans h4 (fun k hk => (hF2 k hk).imp .inr (fun h => Nat.le_trans h1.size h))

set_option maxHeartbeats 16000000 in
theorem plays8_calls (hT : Tri w0 w s g F D fr n t g2 F2 R) (hK : SOk D fr n) (hKR : TOk R fr n) (hDn : D.held.length ≤ 3000000) (hRn : R.wait.length ≤ 3000000) (kd at_ nn : Int) (x : List Int) (ch : List Bool) (ab ac : Option Addr) (cb cc : Nat) (hx : x.length ≤ 3000)
    (hO : ∀ W, Upd w W (fun k => w0.heap.size ≤ k) → OpIs W ⟨kd, at_, nn, x, ch⟩ [.int .i64 kd, .int .i64 at_, .int .i64 nn, .slice ab x.length cb, .slice ac ch.length cc]) :
    Calls Tryd.prog 35 #[.pointer (some ⟨s, 0, none⟩), .pointer (some ⟨g, 0, none⟩), .pointer (some ⟨t, 0, none⟩), .agg #[.int .i64 kd, .int .i64 at_, .int .i64 nn, .slice ab x.length cb, .slice ac ch.length cc]] w fun e w' => P8Po w0 w w' s g F fr n t g2 F2 R (play8 fr n D R ⟨kd, at_, nn, x, ch⟩) (3 * (x.length + 64)) e := by
  have HT := Aside0.mk hT
  have HK := Aside0.mk hK
  have HKR := Aside0.mk hKR
  have HO := Aside0.mk hO
  have HDn := Aside0.mk hDn
  have HRn := Aside0.mk (show R.wait.length ≤ 5000000 by omega)
  have HX := Aside0.mk hx
  have HC := Aside0.mk (OpIs.C (o := ⟨kd, at_, nn, x, ch⟩) (hO w (Upd.refl _ _)))
  clear hT hK hKR hO hDn hRn hx
  by_cases h1 : kd = 1
  · subst h1
    have hbk := heap_alloc_new w (.cells #[.int .i64 1, .int .i64 at_, .int .i64 nn, .slice ab x.length cb, .slice ac ch.length cc] 76)
    have hba := below_alloc (Below.refl w.heap.size w) (.cells #[.int .i64 1, .int .i64 at_, .int .i64 nn, .slice ab x.length cb, .slice ac ch.length cc] 76)
    have HTa := Aside0.mk (HT.out.below hba)
    have HBA := Aside0.mk hba
    have HBK := Aside0.mk hbk
    have HOA := Aside0.mk (fun W (hW : Upd (w.alloc (.cells #[.int .i64 1, .int .i64 at_, .int .i64 nn, .slice ab x.length cb, .slice ac ch.length cc] 76)) W (fun k => w0.heap.size ≤ k)) => OpIs.C (o := ⟨1, at_, nn, x, ch⟩) (HO.out W ((Upd.of_below (F := fun k => w0.heap.size ≤ k) hba).trans hW (fun _ h => .inl h))))
    clear hba hbk
    have hbd := below_drew HBA.out
    have HTD := Aside0.mk (HTa.out.below (below_drew (Below.refl _ _)))
    have HBKD := Aside0.mk (show (w.alloc (.cells #[.int .i64 1, .int .i64 at_, .int .i64 nn, .slice ab x.length cb, .slice ac ch.length cc] 76)).drew.heap[w.heap.size]? = some (.cells #[.int .i64 1, .int .i64 at_, .int .i64 nn, .slice ab x.length cb, .slice ac ch.length cc] 76 (0, 0)) from HBK.out)
    have HBAD := Aside0.mk hbd
    have HNS := Aside0.mk (show ¬ F w.heap.size from fun hk => by have := HT.out.hi.1 _ hk; omega)
    have HNT := Aside0.mk (show ¬ F2 w.heap.size from fun hk => by have := HT.out.hi.2 _ hk; omega)
    have HPS := Aside0.mk (Put_calls HTD.out.glob HTD.out.notF HTD.out.S HK.out (by have := HDn.out; omega) ab cb x (by have := HX.out; omega) HC.out.1 (fun W hW => (HOA.out W ((Upd.of_below (F := fun k => w0.heap.size ≤ k) (below_drew (Below.refl _ _))).trans hW (fun k hk => .inl (HTD.out.S.d.lo k hk)))).2.2.1))
    have HPR := Aside0.mk (show ∀ w2, Upd (w.alloc (.cells #[.int .i64 1, .int .i64 at_, .int .i64 nn, .slice ab x.length cb, .slice ac ch.length cc] 76)).drew w2 F → TAt w2 w0.heap.size t g2 F2 R fr n → Calls Tryd.prog 49 #[.pointer (some ⟨t, 0, none⟩), .slice ab x.length cb] w2 fun e w' => e = .returned (.int .i64 (rputM R fr n x).2) ∧ TPo w2 w' w0.heap.size t g2 F2 R (rputM R fr n x).1 fr n (3 * (x.length + 64)) from fun w2 hu2 hT => rPut_calls hT HKR.out (Nat.le_trans HTD.out.b.size hu2.size) HRn.out ab cb x (by have := HX.out; omega) HC.out.1 (fun W hW => (HOA.out W (((Upd.of_below (F := fun k => w0.heap.size ≤ k) (below_drew (Below.refl _ _))).trans hu2 (fun k hk => .inl (HTD.out.S.d.lo k hk))).trans hW (fun k hk => .inl (hT.r.lo k hk).1))).2.2.1))
    clear hbd
    have hq := Lib.hid (show play8 fr n D R ⟨1, at_, nn, x, ch⟩ = ((putM D fr n x).1, (rputM R fr n x).1, (putM D fr n x).2 == (rputM R fr n x).2) from if_pos rfl)
    rw [hq.out]
    go_enter Tryd.func35, Tryd.ntmps35
    go_wp2_with (fail)
    refine start_ (n := 10) (S := fun w' => w'.cell? ⟨w.heap.size, 3, none⟩ = some (.slice ab x.length cb)) (ds := []) (bz 10 0) (by kernel_rfl) rfl rfl (cellB HBKD.out 3 _ rfl) (fun hHeld => ?_)
    refine pz 0 (some 13) (bz 10 1) ?_
    refine pz 1 (some 14) (bz 10 3) ?_
    refine pz 4 (some 17) (bz 10 19) ?_
    refine pz 5 (some 18) (bz 10 51) ?_
    refine tz1 2 (some 15) (bz 10 55) hHeld ?_
    refine tz1 6 (some 19) (bz 10 119) hHeld ?_
    refine one_ (i := 3) (N := some 16) (bz 10 127) rfl rfl (by kernel_rfl) (by decide) (fun K hK => ?_)
    refine goes_ Tryd.func12 (by kernel_rfl) rfl #[.pointer (some ⟨s, 0, none⟩), .slice ab x.length cb] (by rfl) rfl rfl (by simp only [List.map_toArray, List.map_cons, List.map_nil]; rfl) ?_
    with_reducible refine (HPS.out).mono ?_
    rintro e w2 ⟨rfl, hp⟩
    refine ⟨_, rfl, ?_⟩
    obtain ⟨F2a, hF2a, hT2, hu2⟩ := HTD.out.onS hp
    have HT2 := Aside0.mk hT2
    have HFa := Aside0.mk hF2a
    have HU2 := Aside0.mk hu2
    have HBK2 := Aside0.mk ((hu2.block _ (blk_lt HBKD.out) (fun hk => HNS.out hk)).trans HBKD.out)
    have HPT := Aside0.mk (HPR.out w2 hu2 hT2.T)
    clear hp hF2a hT2 hu2
    refine hK.out _ _ (cellB HBK2.out 3 _ rfl) (fun hHeld => ?_)
    clear hK K
    refine norm_ (a' := ?_) ?_ ?_
    rotate_left
    · show Act.put _ (some 16) _ = _
      simp only [Act.put, List.setIfInBounds_toArray, List.set_cons_zero, List.set_cons_succ, i64_w, i32_w]
      rfl
    refine one_ (i := 7) (N := some 20) (bz 10 255) rfl rfl (by kernel_rfl) (by decide) (fun K hK => ?_)
    refine goes_ Tryd.func49 (by kernel_rfl) rfl #[.pointer (some ⟨t, 0, none⟩), .slice ab x.length cb] (by rfl) rfl rfl (by simp only [List.map_toArray, List.map_cons, List.map_nil]; rfl) ?_
    with_reducible refine (HPT.out).mono ?_
    rintro e w3 ⟨rfl, hp3⟩
    refine ⟨_, rfl, ?_⟩
    obtain ⟨F3, hF3, hT3, hk3, hw3, hu3⟩ := HT2.out.onT hp3
    have HT3 := Aside0.mk hT3
    have HF3 := Aside0.mk hF3
    have HK3 := Aside0.mk hk3
    have HW3 := Aside0.mk hw3
    have HU3 := Aside0.mk hu3
    have HBK3 := Aside0.mk ((hu3.block _ (blk_lt HBK2.out) (fun hk => HNT.out hk)).trans HBK2.out)
    clear hp3 hF3 hT3 hk3 hw3 hu3
    refine hK.out _ _ (cellB HBK3.out 3 _ rfl) (fun hHeld => ?_)
    clear hK K
    refine norm_ (a' := ?_) ?_ ?_
    rotate_left
    · show Act.put _ (some 20) _ = _
      simp only [Act.put, List.setIfInBounds_toArray, List.set_cons_zero, List.set_cons_succ, i64_w, i32_w]
      rfl
    refine pz 8 (some 21) (bz 10 511) ?_
    refine pz 9 (some 8) (bz 10 1023) ?_
    refine done_ (by kernel_rfl) ?_
    clear hHeld
    go_wp2_with (fail)
    go_ret
    exact P8Po.of HBAD.out HFa.out (fun k hk => (HF3.out k hk).imp id (fun h => Nat.le_trans HU2.out.size h)) HT3.out HK3.out (Nat.le_trans HW3.out (by omega)) (upd_or HU2.out HU3.out)
  by_cases h2 : kd = 2
  · subst h2
    have hbk := heap_alloc_new w (.cells #[.int .i64 2, .int .i64 at_, .int .i64 nn, .slice ab x.length cb, .slice ac ch.length cc] 76)
    have hba := below_alloc (Below.refl w.heap.size w) (.cells #[.int .i64 2, .int .i64 at_, .int .i64 nn, .slice ab x.length cb, .slice ac ch.length cc] 76)
    have HTa := Aside0.mk (HT.out.below hba)
    have HBA := Aside0.mk hba
    have HBK := Aside0.mk hbk
    have HOA := Aside0.mk (fun W (hW : Upd (w.alloc (.cells #[.int .i64 2, .int .i64 at_, .int .i64 nn, .slice ab x.length cb, .slice ac ch.length cc] 76)) W (fun k => w0.heap.size ≤ k)) => OpIs.C (o := ⟨2, at_, nn, x, ch⟩) (HO.out W ((Upd.of_below (F := fun k => w0.heap.size ≤ k) hba).trans hW (fun _ h => .inl h))))
    clear hba hbk h1
    have hbd := below_drew HBA.out
    have HTD := Aside0.mk (HTa.out.below (below_drew (Below.refl _ _)))
    have HBKD := Aside0.mk (show (w.alloc (.cells #[.int .i64 2, .int .i64 at_, .int .i64 nn, .slice ab x.length cb, .slice ac ch.length cc] 76)).drew.heap[w.heap.size]? = some (.cells #[.int .i64 2, .int .i64 at_, .int .i64 nn, .slice ab x.length cb, .slice ac ch.length cc] 76 (0, 0)) from HBK.out)
    have HBAD := Aside0.mk hbd
    have HNS := Aside0.mk (show ¬ F w.heap.size from fun hk => by have := HT.out.hi.1 _ hk; omega)
    have HNT := Aside0.mk (show ¬ F2 w.heap.size from fun hk => by have := HT.out.hi.2 _ hk; omega)
    have HUD := Aside0.mk (show Upd (w.alloc (.cells #[.int .i64 2, .int .i64 at_, .int .i64 nn, .slice ab x.length cb, .slice ac ch.length cc] 76)) (w.alloc (.cells #[.int .i64 2, .int .i64 at_, .int .i64 nn, .slice ab x.length cb, .slice ac ch.length cc] 76)).drew (fun k => w0.heap.size ≤ k) from Upd.of_below (below_drew (Below.refl _ _)))
    have HFS := Aside0.mk (show ∀ k, F k → w0.heap.size ≤ k from fun k hk => HT.out.S.d.lo k hk)
    have HFT := Aside0.mk (show ∀ k, F2 k → w0.heap.size ≤ k from fun k hk => (HT.out.T.r.lo k hk).1)
    clear hbd
    have hq := Lib.hid (show play8 fr n D R ⟨2, at_, nn, x, ch⟩ = ((setM D nn ch).1, rsetM R nn ch, (setM D nn ch).2 == rsetE nn ch) from by simp [play8])
    rw [hq.out]
    go_enter Tryd.func35, Tryd.ntmps35
    go_wp2_with (fail)
    refine start_ (n := 17) (S := fun w' => w'.cell? ⟨w.heap.size, 2, none⟩ = some (.int .i64 nn) ∧ w'.cell? ⟨w.heap.size, 4, none⟩ = some (.slice ac ch.length cc) ∧ w'.cell? ⟨t, 0, none⟩ = some (.pointer (some ⟨g2, 0, none⟩))) (ds := []) (bz 17 0) (by kernel_rfl) rfl rfl ⟨cellB HBKD.out 2 _ rfl, cellB HBKD.out 4 _ rfl, HTD.out.T.c0⟩ (fun hHeld => ?_)
    refine pz 0 (some 24) (bz 17 1) ?_
    refine pz 1 (some 25) (bz 17 3) ?_
    refine pz 3 (some 27) (bz 17 11) ?_
    refine pz 6 (some 30) (bz 17 75) ?_
    refine pz 7 (some 31) (bz 17 203) ?_
    refine pz 8 (some 32) (bz 17 459) ?_
    refine pz 10 (some 34) (bz 17 1483) ?_
    refine pz 12 (some 36) (bz 17 5579) ?_
    refine tz3 2 (some 26) (bz 17 5583) hHeld ?_
    refine tz3 4 (some 28) (bz 17 5599) hHeld ?_
    refine tz3 9 (some 33) (bz 17 6111) hHeld ?_
    refine tz3 11 (some 35) (bz 17 8159) hHeld ?_
    refine tz3 13 (some 37) (bz 17 16351) hHeld ?_
    refine one_ (i := 5) (N := some 29) (bz 17 16383) rfl rfl (by kernel_rfl) (by decide) (fun K hK => ?_)
    refine goes_ Tryd.func20 (by kernel_rfl) rfl #[.pointer (some ⟨g, 0, none⟩), .int .i64 nn, .slice ac ch.length cc] (by rfl) rfl rfl (by simp only [List.map_toArray, List.map_cons, List.map_nil]; rfl) ?_
    with_reducible refine (dSet HTD.out.S.d nn ac cc ch (HOA.out _ HUD.out).2.2.2.1).mono ?_
    rintro e w2 ⟨rfl, hp⟩
    refine ⟨_, rfl, ?_⟩
    obtain ⟨F2a, hF2a, hT2, hu2⟩ := HTD.out.onS (HTD.out.S.po hp)
    have HT2 := Aside0.mk hT2
    have HFa := Aside0.mk hF2a
    have HU2 := Aside0.mk hu2
    have HBK2 := Aside0.mk ((hu2.block _ (blk_lt HBKD.out) (fun hk => HNS.out hk)).trans HBKD.out)
    clear hp hF2a hT2 hu2
    refine hK.out _ _ ⟨cellB HBK2.out 2 _ rfl, cellB HBK2.out 4 _ rfl, HT2.out.T.c0⟩ (fun hHeld => ?_)
    clear hK K
    refine norm_ (a' := ?_) ?_ ?_
    rotate_left
    · show Act.put _ (some 29) _ = _
      simp only [Act.put, List.setIfInBounds_toArray, List.set_cons_zero, List.set_cons_succ, i64_w, i32_w]
      rfl
    refine one_ (i := 14) (N := some 38) (bz 17 32767) rfl rfl (by kernel_rfl) (by decide) (fun K hK => ?_)
    refine goes_ Tryd.func50 (by kernel_rfl) rfl #[.pointer (some ⟨g2, 0, none⟩), .int .i64 nn, .slice ac ch.length cc] (by rfl) rfl rfl (by simp only [List.map_toArray, List.map_cons, List.map_nil]; rfl) ?_
    with_reducible refine (rTo_set HT2.out.T.r HKR.out.d nn HC.out.2.2.2.2.2 ac cc ch HC.out.2.1 (fun W hW => (HOA.out W ((HUD.out.trans HU2.out (fun k hk => .inl (HFS.out k hk))).trans hW (fun k hk => .inl hk))).2.2.2.1)).mono ?_
    rintro e w3 ⟨rfl, hp3⟩
    refine ⟨_, rfl, ?_⟩
    obtain ⟨F3, hF3, hT3, hk3, hw3, hu3⟩ := HT2.out.onT (HT2.out.T.po HKR.out hp3)
    have HT3 := Aside0.mk hT3
    have HF3 := Aside0.mk hF3
    have HK3 := Aside0.mk hk3
    have HW3 := Aside0.mk hw3
    have HU3 := Aside0.mk hu3
    have HBK3 := Aside0.mk ((hu3.block _ (blk_lt HBK2.out) (fun hk => HNT.out hk)).trans HBK2.out)
    clear hp3 hF3 hT3 hk3 hw3 hu3
    refine hK.out _ _ ⟨cellB HBK3.out 2 _ rfl, cellB HBK3.out 4 _ rfl, HT3.out.T.c0⟩ (fun hHeld => ?_)
    clear hK K
    refine norm_ (a' := ?_) ?_ ?_
    rotate_left
    · show Act.put _ (some 38) _ = _
      simp only [Act.put, List.setIfInBounds_toArray, List.set_cons_zero, List.set_cons_succ, i64_w, i32_w]
      rfl
    refine pz 15 (some 39) (bz 17 65535) ?_
    refine pz 16 (some 8) (bz 17 131071) ?_
    refine done_ (by kernel_rfl) ?_
    clear hHeld
    go_wp2_with (fail)
    go_ret
    exact P8Po.of HBAD.out HFa.out (fun k hk => (HF3.out k hk).imp id (fun h => Nat.le_trans HU2.out.size h)) HT3.out HK3.out (Nat.le_trans HW3.out (by omega)) (upd_or HU2.out HU3.out)
  by_cases h3 : kd = 3
  · subst h3
    have hbk := heap_alloc_new w (.cells #[.int .i64 3, .int .i64 at_, .int .i64 nn, .slice ab x.length cb, .slice ac ch.length cc] 76)
    have hba := below_alloc (Below.refl w.heap.size w) (.cells #[.int .i64 3, .int .i64 at_, .int .i64 nn, .slice ab x.length cb, .slice ac ch.length cc] 76)
    have HTa := Aside0.mk (HT.out.below hba)
    have HBA := Aside0.mk hba
    have HBK := Aside0.mk hbk
    have HOA := Aside0.mk (fun W (hW : Upd (w.alloc (.cells #[.int .i64 3, .int .i64 at_, .int .i64 nn, .slice ab x.length cb, .slice ac ch.length cc] 76)) W (fun k => w0.heap.size ≤ k)) => OpIs.C (o := ⟨3, at_, nn, x, ch⟩) (HO.out W ((Upd.of_below (F := fun k => w0.heap.size ≤ k) hba).trans hW (fun _ h => .inl h))))
    clear hba hbk h1 h2
    have hbd := below_drew HBA.out
    have HTD := Aside0.mk (HTa.out.below (below_drew (Below.refl _ _)))
    have HBKD := Aside0.mk (show (w.alloc (.cells #[.int .i64 3, .int .i64 at_, .int .i64 nn, .slice ab x.length cb, .slice ac ch.length cc] 76)).drew.heap[w.heap.size]? = some (.cells #[.int .i64 3, .int .i64 at_, .int .i64 nn, .slice ab x.length cb, .slice ac ch.length cc] 76 (0, 0)) from HBK.out)
    have HBAD := Aside0.mk hbd
    have HNS := Aside0.mk (show ¬ F w.heap.size from fun hk => by have := HT.out.hi.1 _ hk; omega)
    have HNT := Aside0.mk (show ¬ F2 w.heap.size from fun hk => by have := HT.out.hi.2 _ hk; omega)
    have HUD := Aside0.mk (show Upd (w.alloc (.cells #[.int .i64 3, .int .i64 at_, .int .i64 nn, .slice ab x.length cb, .slice ac ch.length cc] 76)) (w.alloc (.cells #[.int .i64 3, .int .i64 at_, .int .i64 nn, .slice ab x.length cb, .slice ac ch.length cc] 76)).drew (fun k => w0.heap.size ≤ k) from Upd.of_below (below_drew (Below.refl _ _)))
    have HFS := Aside0.mk (show ∀ k, F k → w0.heap.size ≤ k from fun k hk => HT.out.S.d.lo k hk)
    have HFT := Aside0.mk (show ∀ k, F2 k → w0.heap.size ≤ k from fun k hk => (HT.out.T.r.lo k hk).1)
    clear hbd
    have hq := Lib.hid (show play8 fr n D R ⟨3, at_, nn, x, ch⟩ = (loseM ch D, rloseM ch R, true) from by simp [play8])
    rw [hq.out]
    go_enter Tryd.func35, Tryd.ntmps35
    go_wp2_with (first | (go_at_call 22; (with_reducible refine (dLose HTa.out.S.d HK.out.d ac cc ch HC.out.2.1 (fun W hW => (HOA.out W (hW.mono (fun k hk => HFS.out k hk))).2.2.2.1)).mono ?_); rintro e w2 ⟨rfl, hp⟩; obtain ⟨F2a, hF2a, hT2, hu2⟩ := HTa.out.onS (HTa.out.S.po hp); have HT2 := Aside0.mk hT2; have HFa := Aside0.mk hF2a; have HU2 := Aside0.mk hu2; have HBK2 := Aside0.mk ((hu2.block _ (blk_lt HBK.out) (fun hk => HNS.out hk)).trans HBK.out); clear hp hF2a hT2 hu2))
    have HT2D := Aside0.mk (HT2.out.below (below_drew (Below.refl _ _)))
    have HBK2D := Aside0.mk (show w2.drew.heap[w.heap.size]? = some (.cells #[.int .i64 3, .int .i64 at_, .int .i64 nn, .slice ab x.length cb, .slice ac ch.length cc] 76 (0, 0)) from HBK2.out)
    have HU2D := Aside0.mk HU2.out.drew
    refine start_ (n := 7) (S := fun w' => w'.cell? ⟨w.heap.size, 4, none⟩ = some (.slice ac ch.length cc) ∧ w'.cell? ⟨t, 0, none⟩ = some (.pointer (some ⟨g2, 0, none⟩))) (ds := []) (bz 7 0) (by kernel_rfl) rfl rfl ⟨cellB HBK2D.out 4 _ rfl, HT2D.out.T.c0⟩ (fun hHeld => ?_)
    refine pz 0 (some 46) (bz 7 1) ?_
    refine pz 1 (some 47) (bz 7 3) ?_
    refine pz 2 (some 48) (bz 7 7) ?_
    refine pz 4 (some 50) (bz 7 23) ?_
    refine tz2 3 (some 49) (bz 7 31) hHeld ?_
    refine tz2 5 (some 51) (bz 7 63) hHeld ?_
    refine one_ (i := 6) (N := some 52) (bz 7 127) rfl rfl (by kernel_rfl) (by decide) (fun K hK => ?_)
    refine goes_ Tryd.func51 (by kernel_rfl) rfl #[.pointer (some ⟨g2, 0, none⟩), .slice ac ch.length cc] (by rfl) rfl rfl (by simp only [List.map_toArray, List.map_cons, List.map_nil]; rfl) ?_
    with_reducible refine (rTo_lose HT2D.out.T.r HKR.out.d ac cc ch (fun W hW => (HOA.out W ((HU2D.out.mono (fun k hk => HFS.out k hk)).trans hW (fun k hk => .inl (HFT.out k hk)))).2.2.2.1)).mono ?_
    rintro e w3 ⟨rfl, hp3⟩
    refine ⟨_, rfl, ?_⟩
    obtain ⟨F3, hF3, hT3, hk3, hw3, hu3⟩ := HT2D.out.onT (HT2D.out.T.po HKR.out hp3)
    have HT3 := Aside0.mk hT3
    have HF3 := Aside0.mk hF3
    have HK3 := Aside0.mk hk3
    have HW3 := Aside0.mk hw3
    have HU3 := Aside0.mk hu3
    have HBK3 := Aside0.mk ((hu3.block _ (blk_lt HBK2D.out) (fun hk => HNT.out hk)).trans HBK2D.out)
    clear hp3 hF3 hT3 hk3 hw3 hu3
    refine hK.out _ _ ⟨cellB HBK3.out 4 _ rfl, HT3.out.T.c0⟩ (fun hHeld => ?_)
    clear hK K
    refine norm_ (a' := ?_) ?_ ?_
    rotate_left
    · show Act.put _ (some 52) _ = _
      simp only [Act.put, List.setIfInBounds_toArray, List.set_cons_zero, List.set_cons_succ, i64_w, i32_w]
      rfl
    refine done_ (by kernel_rfl) ?_
    clear hHeld
    go_wp2_with (fail)
    go_ret
    exact P8Po.of HBA.out HFa.out (fun k hk => (HF3.out k hk).imp id (fun h => Nat.le_trans HU2D.out.size h)) HT3.out HK3.out (Nat.le_trans HW3.out (by omega)) (upd_or HU2D.out HU3.out)
  by_cases h4 : kd = 4
  · subst h4
    have hbk := heap_alloc_new w (.cells #[.int .i64 4, .int .i64 at_, .int .i64 nn, .slice ab x.length cb, .slice ac ch.length cc] 76)
    have hba := below_alloc (Below.refl w.heap.size w) (.cells #[.int .i64 4, .int .i64 at_, .int .i64 nn, .slice ab x.length cb, .slice ac ch.length cc] 76)
    have HTa := Aside0.mk (HT.out.below hba)
    have HBA := Aside0.mk hba
    have HBK := Aside0.mk hbk
    have HOA := Aside0.mk (fun W (hW : Upd (w.alloc (.cells #[.int .i64 4, .int .i64 at_, .int .i64 nn, .slice ab x.length cb, .slice ac ch.length cc] 76)) W (fun k => w0.heap.size ≤ k)) => OpIs.C (o := ⟨4, at_, nn, x, ch⟩) (HO.out W ((Upd.of_below (F := fun k => w0.heap.size ≤ k) hba).trans hW (fun _ h => .inl h))))
    clear hba hbk h1 h2 h3
    have hbd := below_drew HBA.out
    have HTD := Aside0.mk (HTa.out.below (below_drew (Below.refl _ _)))
    have HBKD := Aside0.mk (show (w.alloc (.cells #[.int .i64 4, .int .i64 at_, .int .i64 nn, .slice ab x.length cb, .slice ac ch.length cc] 76)).drew.heap[w.heap.size]? = some (.cells #[.int .i64 4, .int .i64 at_, .int .i64 nn, .slice ab x.length cb, .slice ac ch.length cc] 76 (0, 0)) from HBK.out)
    have HBAD := Aside0.mk hbd
    have HNS := Aside0.mk (show ¬ F w.heap.size from fun hk => by have := HT.out.hi.1 _ hk; omega)
    have HNT := Aside0.mk (show ¬ F2 w.heap.size from fun hk => by have := HT.out.hi.2 _ hk; omega)
    have HUD := Aside0.mk (show Upd (w.alloc (.cells #[.int .i64 4, .int .i64 at_, .int .i64 nn, .slice ab x.length cb, .slice ac ch.length cc] 76)) (w.alloc (.cells #[.int .i64 4, .int .i64 at_, .int .i64 nn, .slice ab x.length cb, .slice ac ch.length cc] 76)).drew (fun k => w0.heap.size ≤ k) from Upd.of_below (below_drew (Below.refl _ _)))
    have HFS := Aside0.mk (show ∀ k, F k → w0.heap.size ≤ k from fun k hk => HT.out.S.d.lo k hk)
    have HFT := Aside0.mk (show ∀ k, F2 k → w0.heap.size ≤ k from fun k hk => (HT.out.T.r.lo k hk).1)
    clear hbd
    have hq := Lib.hid (show play8 fr n D R ⟨4, at_, nn, x, ch⟩ = (startM D, rstartM R, true) from by simp [play8])
    rw [hq.out]
    go_enter Tryd.func35, Tryd.ntmps35
    go_wp2_with (first | (go_at_call 23; (with_reducible refine (dStart HTa.out.S.d).mono ?_); rintro e w2 ⟨rfl, hp⟩; obtain ⟨F2a, hF2a, hT2, hu2⟩ := HTa.out.onS (HTa.out.S.po hp); have HT2 := Aside0.mk hT2; have HFa := Aside0.mk hF2a; have HU2 := Aside0.mk hu2; have h20 := hT2.T.c0; clear hp hF2a hT2 hu2) | (go_at_call 52; (with_reducible refine (rTo_start HT2.out.T.r HKR.out.d).mono ?_); rintro e w3 ⟨rfl, hp3⟩; obtain ⟨F3, hF3, hT3, hk3, hw3, hu3⟩ := HT2.out.onT (HT2.out.T.po HKR.out hp3); have HT3 := Aside0.mk hT3; have HF3 := Aside0.mk hF3; have HK3 := Aside0.mk hk3; have HW3 := Aside0.mk hw3; have HU3 := Aside0.mk hu3; clear hp3 hF3 hT3 hk3 hw3 hu3))
    go_ret
    exact P8Po.of HBA.out HFa.out (fun k hk => (HF3.out k hk).imp id (fun h => Nat.le_trans HU2.out.size h)) HT3.out HK3.out (Nat.le_trans HW3.out (by omega)) (upd_or HU2.out HU3.out)
  by_cases h5 : kd = 5
  · subst h5
    have hbk := heap_alloc_new w (.cells #[.int .i64 5, .int .i64 at_, .int .i64 nn, .slice ab x.length cb, .slice ac ch.length cc] 76)
    have hba := below_alloc (Below.refl w.heap.size w) (.cells #[.int .i64 5, .int .i64 at_, .int .i64 nn, .slice ab x.length cb, .slice ac ch.length cc] 76)
    have HTa := Aside0.mk (HT.out.below hba)
    have HBA := Aside0.mk hba
    have HBK := Aside0.mk hbk
    have HOA := Aside0.mk (fun W (hW : Upd (w.alloc (.cells #[.int .i64 5, .int .i64 at_, .int .i64 nn, .slice ab x.length cb, .slice ac ch.length cc] 76)) W (fun k => w0.heap.size ≤ k)) => OpIs.C (o := ⟨5, at_, nn, x, ch⟩) (HO.out W ((Upd.of_below (F := fun k => w0.heap.size ≤ k) hba).trans hW (fun _ h => .inl h))))
    clear hba hbk h1 h2 h3 h4
    have hbd := below_drew HBA.out
    have HTD := Aside0.mk (HTa.out.below (below_drew (Below.refl _ _)))
    have HBKD := Aside0.mk (show (w.alloc (.cells #[.int .i64 5, .int .i64 at_, .int .i64 nn, .slice ab x.length cb, .slice ac ch.length cc] 76)).drew.heap[w.heap.size]? = some (.cells #[.int .i64 5, .int .i64 at_, .int .i64 nn, .slice ab x.length cb, .slice ac ch.length cc] 76 (0, 0)) from HBK.out)
    have HBAD := Aside0.mk hbd
    have HNS := Aside0.mk (show ¬ F w.heap.size from fun hk => by have := HT.out.hi.1 _ hk; omega)
    have HNT := Aside0.mk (show ¬ F2 w.heap.size from fun hk => by have := HT.out.hi.2 _ hk; omega)
    have HUD := Aside0.mk (show Upd (w.alloc (.cells #[.int .i64 5, .int .i64 at_, .int .i64 nn, .slice ab x.length cb, .slice ac ch.length cc] 76)) (w.alloc (.cells #[.int .i64 5, .int .i64 at_, .int .i64 nn, .slice ab x.length cb, .slice ac ch.length cc] 76)).drew (fun k => w0.heap.size ≤ k) from Upd.of_below (below_drew (Below.refl _ _)))
    have HFS := Aside0.mk (show ∀ k, F k → w0.heap.size ≤ k from fun k hk => HT.out.S.d.lo k hk)
    have HFT := Aside0.mk (show ∀ k, F2 k → w0.heap.size ≤ k from fun k hk => (HT.out.T.r.lo k hk).1)
    clear hbd
    have HWK := Aside0.mk (show DOk (writeM D at_ x).1 from writeM_ok HK.out.d (by have := HDn.out; omega))
    obtain ⟨dv, hdv⟩ : ∃ dv, (writeM D at_ x).2 = dv := ⟨_, rfl⟩
    obtain ⟨rv, hrv⟩ : ∃ rv, (rwriteM R at_ x).2 = rv := ⟨_, rfl⟩
    have HDV := Lib.hid hdv
    have HRV := Lib.hid hrv
    by_cases he : dv = rv
    · have hq := Lib.hid (show play8 fr n D R ⟨5, at_, nn, x, ch⟩ = ((flushM (writeM D at_ x).1).1, (rflushM (rwriteM R at_ x).1).1, (flushM (writeM D at_ x).1).2 == (rflushM (rwriteM R at_ x).1).2) from by
        have e : (writeM D at_ x).2 = (rwriteM R at_ x).2 := by rw [hdv, hrv, he]
        simp [play8, e])
      rw [hq.out]
      subst he
      clear hdv hrv
      have hee : (dv == dv) = true := by simp
      go_enter Tryd.func35, Tryd.ntmps35
      go_wp2_with (fail)
      refine start_ (n := 27) (S := fun w' => w'.cell? ⟨w.heap.size, 1, none⟩ = some (.int .i64 at_) ∧ w'.cell? ⟨w.heap.size, 3, none⟩ = some (.slice ab x.length cb) ∧ w'.cell? ⟨t, 0, none⟩ = some (.pointer (some ⟨g2, 0, none⟩))) (ds := []) (bz 27 0) (by kernel_rfl) rfl rfl ⟨cellB HBKD.out 1 _ rfl, cellB HBKD.out 3 _ rfl, HTD.out.T.c0⟩ (fun hHeld => ?_)
      refine pz 0 (some 64) (bz 27 1) ?_
      refine pz 1 (some 65) (bz 27 3) ?_
      refine pz 3 (some 67) (bz 27 11) ?_
      refine pz 6 (some 70) (bz 27 75) ?_
      refine pz 7 (some 71) (bz 27 203) ?_
      refine pz 8 (some 72) (bz 27 459) ?_
      refine pz 10 (some 74) (bz 27 1483) ?_
      refine pz 12 (some 76) (bz 27 5579) ?_
      refine tz3 2 (some 66) (bz 27 5583) hHeld ?_
      refine tz3 4 (some 68) (bz 27 5599) hHeld ?_
      refine tz3 9 (some 73) (bz 27 6111) hHeld ?_
      refine tz3 11 (some 75) (bz 27 8159) hHeld ?_
      refine tz3 13 (some 77) (bz 27 16351) hHeld ?_
      refine one_ (i := 5) (N := some 69) (bz 27 16383) rfl rfl (by kernel_rfl) (by decide) (fun K hK => ?_)
      refine goes_ Tryd.func53 (by kernel_rfl) rfl #[.pointer (some ⟨g, 0, none⟩), .int .i64 at_, .slice ab x.length cb] (by rfl) rfl rfl (by simp only [List.map_toArray, List.map_cons, List.map_nil]; rfl) ?_
      with_reducible refine (dWrite HTD.out.S.d HK.out.d (by have := HDn.out; omega) at_ ab cb x (HOA.out _ HUD.out).2.2.1).mono ?_
      rintro e w2 ⟨rfl, hp⟩
      refine ⟨_, rfl, ?_⟩
      rw [HDV.out]
      obtain ⟨F2a, hF2a, hT2, hu2⟩ := HTD.out.onS (HTD.out.S.po hp)
      have HT2 := Aside0.mk hT2
      have HFa := Aside0.mk hF2a
      have HU2 := Aside0.mk hu2
      have HBK2 := Aside0.mk ((hu2.block _ (blk_lt HBKD.out) (fun hk => HNS.out hk)).trans HBKD.out)
      clear hp hF2a hT2 hu2
      refine hK.out _ _ ⟨cellB HBK2.out 1 _ rfl, cellB HBK2.out 3 _ rfl, HT2.out.T.c0⟩ (fun hHeld => ?_)
      clear hK K
      refine norm_ (a' := ?_) ?_ ?_
      rotate_left
      · show Act.put _ (some 69) _ = _
        simp only [Act.put, List.setIfInBounds_toArray, List.set_cons_zero, List.set_cons_succ, i64_w, i32_w]
        rfl
      refine one_ (i := 14) (N := some 78) (bz 27 32767) rfl rfl (by kernel_rfl) (by decide) (fun K hK => ?_)
      refine goes_ Tryd.func54 (by kernel_rfl) rfl #[.pointer (some ⟨g2, 0, none⟩), .int .i64 at_, .slice ab x.length cb] (by rfl) rfl rfl (by simp only [List.map_toArray, List.map_cons, List.map_nil]; rfl) ?_
      with_reducible refine (rTo_write HT2.out.T.r HKR.out.d (Nat.le_trans HTD.out.b.size HU2.out.size) (by have := HRn.out; omega) at_ ab cb x (HOA.out _ (HUD.out.trans HU2.out (fun k hk => .inl (HFS.out k hk)))).2.2.1).mono ?_
      rintro e w3 ⟨rfl, hp3⟩
      refine ⟨_, rfl, ?_⟩
      rw [HRV.out]
      obtain ⟨F3, hF3, hT3, hk3, hw3, hu3⟩ := HT2.out.onT (HT2.out.T.po HKR.out hp3)
      have HT3 := Aside0.mk hT3
      have HF3 := Aside0.mk hF3
      have HK3 := Aside0.mk hk3
      have HW3 := Aside0.mk hw3
      have HU3 := Aside0.mk hu3
      have HBK3 := Aside0.mk ((hu3.block _ (blk_lt HBK2.out) (fun hk => HNT.out hk)).trans HBK2.out)
      clear hp3 hF3 hT3 hk3 hw3 hu3
      refine hK.out _ _ ⟨cellB HBK3.out 1 _ rfl, cellB HBK3.out 3 _ rfl, HT3.out.T.c0⟩ (fun hHeld => ?_)
      clear hK K
      refine norm_ (a' := ?_) ?_ ?_
      rotate_left
      · show Act.put _ (some 78) _ = _
        simp only [Act.put, List.setIfInBounds_toArray, List.set_cons_zero, List.set_cons_succ, i64_w, i32_w]
        rfl
      refine pz 15 (some 79) (bz 27 65535) ?_
      refine pz 16 (some 80) (bz 27 131071) ?_
      refine pz 17 (some 81) (bz 27 262143) ?_
      refine pz 19 (some 83) (bz 27 786431) ?_
      refine pz 20 (some 84) (bz 27 1835007) ?_
      refine pz 21 (some 85) (bz 27 3932159) ?_
      refine tz3 22 (some 86) (bz 27 8126463) hHeld ?_
      refine one_ (i := 18) (N := some 82) (bz 27 8388607) rfl rfl (by kernel_rfl) (by decide) (fun K hK => ?_)
      refine goes_ Tryd.func19 (by kernel_rfl) rfl #[.pointer (some ⟨g, 0, none⟩)] (by rfl) rfl rfl (by simp only [List.map_toArray, List.map_cons, List.map_nil]; rfl) ?_
      with_reducible refine (dFlush HT3.out.S.d HWK.out).mono ?_
      rintro e w4 ⟨rfl, hp4⟩
      refine ⟨_, rfl, ?_⟩
      obtain ⟨F4, hF4, hT4, hu4⟩ := HT3.out.onS (HT3.out.S.po hp4)
      have HT4 := Aside0.mk hT4
      have HF4 := Aside0.mk hF4
      have HU4 := Aside0.mk hu4
      have HBK4 := Aside0.mk ((hu4.block _ (blk_lt HBK3.out) (fun hk => (HFa.out _ hk).elim HNS.out (fun h => by have := blk_lt HBKD.out; omega))).trans HBK3.out)
      clear hp4 hF4 hT4 hu4
      refine hK.out _ _ ⟨cellB HBK4.out 1 _ rfl, cellB HBK4.out 3 _ rfl, HT4.out.T.c0⟩ (fun hHeld => ?_)
      clear hK K
      refine norm_ (a' := ?_) ?_ ?_
      rotate_left
      · show Act.put _ (some 82) _ = _
        simp only [Act.put, List.setIfInBounds_toArray, List.set_cons_zero, List.set_cons_succ, i64_w, i32_w]
        rfl
      refine one_ (i := 23) (N := some 87) (bz 27 16777215) rfl rfl (by kernel_rfl) (by decide) (fun K hK => ?_)
      refine goes_ Tryd.func55 (by kernel_rfl) rfl #[.pointer (some ⟨g2, 0, none⟩)] (by rfl) rfl rfl (by simp only [List.map_toArray, List.map_cons, List.map_nil]; rfl) ?_
      with_reducible refine (rTo_flush HT4.out.T.r HK3.out.d).mono ?_
      rintro e w5 ⟨rfl, hp5⟩
      refine ⟨_, rfl, ?_⟩
      obtain ⟨F5, hF5, hT5, hk5, hw5, hu5⟩ := HT4.out.onT (HT4.out.T.po HK3.out hp5)
      have HT5 := Aside0.mk hT5
      have HF5 := Aside0.mk hF5
      have HK5 := Aside0.mk hk5
      have HW5 := Aside0.mk hw5
      have HU5 := Aside0.mk hu5
      have HBK5 := Aside0.mk ((hu5.block _ (blk_lt HBK4.out) (fun hk => (HF3.out _ hk).elim HNT.out (fun h => by have := blk_lt HBKD.out; have := HU2.out.size; omega))).trans HBK4.out)
      clear hp5 hF5 hT5 hk5 hw5 hu5
      refine hK.out _ _ ⟨cellB HBK5.out 1 _ rfl, cellB HBK5.out 3 _ rfl, HT5.out.T.c0⟩ (fun hHeld => ?_)
      clear hK K
      refine norm_ (a' := ?_) ?_ ?_
      rotate_left
      · show Act.put _ (some 87) _ = _
        simp only [Act.put, List.setIfInBounds_toArray, List.set_cons_zero, List.set_cons_succ, i64_w, i32_w]
        rfl
      refine pz 24 (some 88) (bz 27 33554431) ?_
      refine pz 25 (some 89) (bz 27 67108863) ?_
      refine pz 26 (some 8) (bz 27 134217727) ?_
      refine done_ (by kernel_rfl) ?_
      clear hHeld
      go_wp2_with (fail)
      go_ret
      exact P8Po.of HBAD.out (fun k hk => (HF4.out k hk).elim (fun h => HFa.out k h) (fun h => .inr (Nat.le_trans HU2.out.size (Nat.le_trans HU3.out.size h)))) (fun k hk => (HF5.out k hk).elim (fun h => (HF3.out k h).imp id (fun h => Nat.le_trans HU2.out.size h)) (fun h => .inr (Nat.le_trans HU2.out.size (Nat.le_trans HU3.out.size (Nat.le_trans HU4.out.size h))))) HT5.out HK5.out (by have h1 := HW5.out; have h2 := HW3.out; show (rflushM (rwriteM R at_ x).1).1.wait.length ≤ _; omega) (upd_four HU2.out HU3.out HU4.out HU5.out HFa.out HF3.out)
    · have hq := Lib.hid (show play8 fr n D R ⟨5, at_, nn, x, ch⟩ = ((writeM D at_ x).1, (rwriteM R at_ x).1, false) from by
        have e : ¬ (writeM D at_ x).2 = (rwriteM R at_ x).2 := by rw [hdv, hrv]; exact he
        simp [play8, e])
      rw [hq.out]
      have hee : (dv == rv) = false := by simpa using he
      clear hdv hrv he
      go_enter Tryd.func35, Tryd.ntmps35
      go_wp2_with (fail)
      refine start_ (n := 27) (S := fun w' => w'.cell? ⟨w.heap.size, 1, none⟩ = some (.int .i64 at_) ∧ w'.cell? ⟨w.heap.size, 3, none⟩ = some (.slice ab x.length cb) ∧ w'.cell? ⟨t, 0, none⟩ = some (.pointer (some ⟨g2, 0, none⟩))) (ds := []) (bz 27 0) (by kernel_rfl) rfl rfl ⟨cellB HBKD.out 1 _ rfl, cellB HBKD.out 3 _ rfl, HTD.out.T.c0⟩ (fun hHeld => ?_)
      refine pz 0 (some 64) (bz 27 1) ?_
      refine pz 1 (some 65) (bz 27 3) ?_
      refine pz 3 (some 67) (bz 27 11) ?_
      refine pz 6 (some 70) (bz 27 75) ?_
      refine pz 7 (some 71) (bz 27 203) ?_
      refine pz 8 (some 72) (bz 27 459) ?_
      refine pz 10 (some 74) (bz 27 1483) ?_
      refine pz 12 (some 76) (bz 27 5579) ?_
      refine tz3 2 (some 66) (bz 27 5583) hHeld ?_
      refine tz3 4 (some 68) (bz 27 5599) hHeld ?_
      refine tz3 9 (some 73) (bz 27 6111) hHeld ?_
      refine tz3 11 (some 75) (bz 27 8159) hHeld ?_
      refine tz3 13 (some 77) (bz 27 16351) hHeld ?_
      refine one_ (i := 5) (N := some 69) (bz 27 16383) rfl rfl (by kernel_rfl) (by decide) (fun K hK => ?_)
      refine goes_ Tryd.func53 (by kernel_rfl) rfl #[.pointer (some ⟨g, 0, none⟩), .int .i64 at_, .slice ab x.length cb] (by rfl) rfl rfl (by simp only [List.map_toArray, List.map_cons, List.map_nil]; rfl) ?_
      with_reducible refine (dWrite HTD.out.S.d HK.out.d (by have := HDn.out; omega) at_ ab cb x (HOA.out _ HUD.out).2.2.1).mono ?_
      rintro e w2 ⟨rfl, hp⟩
      refine ⟨_, rfl, ?_⟩
      rw [HDV.out]
      obtain ⟨F2a, hF2a, hT2, hu2⟩ := HTD.out.onS (HTD.out.S.po hp)
      have HT2 := Aside0.mk hT2
      have HFa := Aside0.mk hF2a
      have HU2 := Aside0.mk hu2
      have HBK2 := Aside0.mk ((hu2.block _ (blk_lt HBKD.out) (fun hk => HNS.out hk)).trans HBKD.out)
      clear hp hF2a hT2 hu2
      refine hK.out _ _ ⟨cellB HBK2.out 1 _ rfl, cellB HBK2.out 3 _ rfl, HT2.out.T.c0⟩ (fun hHeld => ?_)
      clear hK K
      refine norm_ (a' := ?_) ?_ ?_
      rotate_left
      · show Act.put _ (some 69) _ = _
        simp only [Act.put, List.setIfInBounds_toArray, List.set_cons_zero, List.set_cons_succ, i64_w, i32_w]
        rfl
      refine one_ (i := 14) (N := some 78) (bz 27 32767) rfl rfl (by kernel_rfl) (by decide) (fun K hK => ?_)
      refine goes_ Tryd.func54 (by kernel_rfl) rfl #[.pointer (some ⟨g2, 0, none⟩), .int .i64 at_, .slice ab x.length cb] (by rfl) rfl rfl (by simp only [List.map_toArray, List.map_cons, List.map_nil]; rfl) ?_
      with_reducible refine (rTo_write HT2.out.T.r HKR.out.d (Nat.le_trans HTD.out.b.size HU2.out.size) (by have := HRn.out; omega) at_ ab cb x (HOA.out _ (HUD.out.trans HU2.out (fun k hk => .inl (HFS.out k hk)))).2.2.1).mono ?_
      rintro e w3 ⟨rfl, hp3⟩
      refine ⟨_, rfl, ?_⟩
      rw [HRV.out]
      obtain ⟨F3, hF3, hT3, hk3, hw3, hu3⟩ := HT2.out.onT (HT2.out.T.po HKR.out hp3)
      have HT3 := Aside0.mk hT3
      have HF3 := Aside0.mk hF3
      have HK3 := Aside0.mk hk3
      have HW3 := Aside0.mk hw3
      have HU3 := Aside0.mk hu3
      have HBK3 := Aside0.mk ((hu3.block _ (blk_lt HBK2.out) (fun hk => HNT.out hk)).trans HBK2.out)
      clear hp3 hF3 hT3 hk3 hw3 hu3
      refine hK.out _ _ ⟨cellB HBK3.out 1 _ rfl, cellB HBK3.out 3 _ rfl, HT3.out.T.c0⟩ (fun hHeld => ?_)
      clear hK K
      refine norm_ (a' := ?_) ?_ ?_
      rotate_left
      · show Act.put _ (some 78) _ = _
        simp only [Act.put, List.setIfInBounds_toArray, List.set_cons_zero, List.set_cons_succ, i64_w, i32_w]
        rfl
      refine pz 15 (some 79) (bz 27 65535) ?_
      refine pz 16 (some 80) (bz 27 131071) ?_
      refine pu 17 (some 81) (bz 27 262143) ?_
      refine pu 18 (some 82) (bz 27 524287) ?_
      refine pu 19 (some 83) (bz 27 1048575) ?_
      refine pu 20 (some 84) (bz 27 2097151) ?_
      refine pu 21 (some 85) (bz 27 4194303) ?_
      refine pu 22 (some 86) (bz 27 8388607) ?_
      refine pu 23 (some 87) (bz 27 16777215) ?_
      refine pu 24 (some 88) (bz 27 33554431) ?_
      refine pz 25 (some 89) (bz 27 67108863) ?_
      refine pz 26 (some 8) (bz 27 134217727) ?_
      refine done_ (by kernel_rfl) ?_
      clear hHeld
      go_wp2_with (fail)
      go_ret
      exact P8Po.of HBAD.out HFa.out (fun k hk => (HF3.out k hk).imp id (fun h => Nat.le_trans HU2.out.size h)) HT3.out HK3.out (Nat.le_trans HW3.out (by omega)) (upd_or HU2.out HU3.out)
  have hq := Lib.hid (show play8 fr n D R ⟨kd, at_, nn, x, ch⟩ = (D, R, true) from by simp [play8, h1, h2, h3, h4, h5])
  rw [hq.out]
  have t1 : (kd == 1) = false := by simpa using h1
  have t2 : (kd == 2) = false := by simpa using h2
  have t3 : (kd == 3) = false := by simpa using h3
  have t4 : (kd == 4) = false := by simpa using h4
  have t5 : (kd == 5) = false := by simpa using h5
  have hba := below_alloc (Below.refl w.heap.size w) (.cells #[.int .i64 kd, .int .i64 at_, .int .i64 nn, .slice ab x.length cb, .slice ac ch.length cc] 76)
  have HBA := Aside0.mk hba
  have HTa := Aside0.mk (HT.out.below hba)
  clear h1 h2 h3 h4 h5 hba
  go_enter Tryd.func35, Tryd.ntmps35
  go_wp2_with (fail)
  go_ret
  exact P8Po.of (p := (D, R, true)) HBA.out (fun _ h => .inl h) (fun _ h => .inl h) HTa.out HKR.out (Nat.le_add_right _ _) (Upd.refl _ _)

end Go.Proofs.YtmblnflfklmmkaaDoor.Sh
/- The law's both and made. -/
namespace Go.Proofs.YtmblnflfklmmkaaDoor.Sh
open Go.Proofs.YtmblnflfklmmkaaDoor.Dk
open Go.RowKit Go.Proofs.YtmblnflfklmmkaaDoorW.PrintWords Go.Proofs.YtmblnflfklmmkaaDoorW.PrintLast Go.Proofs.YtmblnflfklmmkaaDoorW.PrintMore
set_option linter.unusedVariables false
set_option linter.unusedSimpArgs false
set_option maxRecDepth 30000
variable {w0 w w' W w1 w2 w3 : World} {s g t g2 : Nat} {F F2 : Nat → Prop} {D D' : DM} {R R' : RM} {fr n : Int}
theorem results_tmp5 {fn : Func} {a b c d e : Tmp} (h : fn.results = #[.tmp a, .tmp b, .tmp c, .tmp d, .tmp e]) (tmps : Array Value) (P : Program) (w : World) : (results fn tmps).run P w = .ok (.tuple #[tmps.getD a undef, tmps.getD b undef, tmps.getD c undef, tmps.getD d undef, tmps.getD e undef]) w := by
  simp [results, h]
/-- What an operation leaves of the program's disk. -/
theorem play8_hs (o : OpM) : (play8 fr n D R o).1.held.length ≤ D.held.length + o.b.length + 128 ∧ (play8 fr n D R o).1.sec.length = D.sec.length := by
  unfold play8
  split
  · have := putM_hs (D := D) (fr := fr) (n := n) (x := o.b); exact ⟨by dsimp only; omega, this.2⟩
  · split
    · unfold setM
      split
      · exact ⟨by simp only; omega, rfl⟩
      · split <;> exact ⟨by simp only; omega, rfl⟩
    · split
      · have := loseM_hs (D := D) o.ch; exact ⟨by dsimp only; omega, this.2⟩
      · split
        · exact ⟨by simp only [startM]; omega, rfl⟩
        · split
          · have hw := writeM_hs (D := D) o.at_ o.b
            have hf := flushM_hs (D := (writeM D o.at_ o.b).1)
            split
            · exact ⟨by dsimp only; omega, hf.2.trans hw.2⟩
            · exact ⟨by dsimp only; omega, hw.2⟩
          · exact ⟨by dsimp only; omega, rfl⟩
theorem play8_ok (o : OpM) (h : DOk D) (hn : D.held.length + o.b.length + 128 ≤ 10000000) (hn2 : o.n ≤ 9223372036854775807) : DOk (play8 fr n D R o).1 := by
  unfold play8
  split
  · exact putM_ok h hn
  · split
    · exact setM_ok h hn2
    · split
      · exact loseM_ok _ h
      · split
        · exact startM_ok h
        · split
          · have hw := writeM_ok (k := o.at_) (x := o.b) h (by omega)
            split
            · exact flushM_ok hw
            · exact hw
          · exact h
theorem ref_lower {g2 : Nat} (h : RefAt w1 w.heap.size g2 F2 R) (hb : w0.heap.size ≤ w.heap.size) (hc : R.choice = []) : RefAt w1 w0.heap.size g2 F2 R := by
  obtain ⟨_, _, _, h⟩ := h
  exact ⟨_, _, _, h.lower hb hc⟩
theorem tri_new {w4 : World} (hg : Glob w) (hb : Below w.heap.size w w4) (hs : SAt w4 w.heap.size s g (fun k => w.heap.size ≤ k ∧ k < w1.heap.size) D fr n) (ht : TAt w4 w.heap.size t g2 (fun k => w1.heap.size ≤ k ∧ k < w2.heap.size) R fr n) (h1 : w.heap.size ≤ w1.heap.size) (h2 : w.heap.size ≤ w2.heap.size) (hls : w2.heap.size ≤ s) (h13 : w1.heap.size ≤ w3.heap.size) (h23 : w2.heap.size ≤ w3.heap.size) (hlt : w3.heap.size ≤ t) : Tri w w4 s g (fun k => w.heap.size ≤ k ∧ k < w1.heap.size) D fr n t g2 (fun k => w1.heap.size ≤ k ∧ k < w2.heap.size) R :=
  ⟨hs, ht, fun k h1 h2 => by omega, fun h => by omega, fun h => by omega, hg, hb⟩
/-- What both answers. -/
def BothPo (w w' : World) (x : List Int) (sz : Int) (fr n : Int) (e : Ending) : Prop :=
  (e = .returned (.tuple #[.pointer none, .pointer none, .pointer none, .bool false, .bool true]) ∧ Below w.heap.size w w') ∨
  ∃ s g t g2 F F2 k, sz = ((k : Nat) : Int) ∧ ¬ newBad x k ∧ e = .returned (.tuple #[.pointer (some ⟨s, 0, none⟩), .pointer (some ⟨g, 0, none⟩), .pointer (some ⟨t, 0, none⟩), .bool true, .bool true]) ∧ Tri w w' s g F (newM x k k) fr n t g2 F2 (rnewM ((List.range k).map (secAt x))) ∧ SOk (newM x k k) fr n ∧ TOk (rnewM ((List.range k).map (secAt x))) fr n
set_option maxHeartbeats 16000000 in
theorem both_calls (hg : Glob w) (A : Option Addr) (c : Nat) (x : List Int) (sz fr n : Int) (hx : x.length ≤ 2000) (hxc : x.length ≤ c) (hC : C8 w A x) (hsz : sz ≤ 60) :
    Calls Tryd.prog 34 #[.slice A x.length c, .int .i64 sz, .int .i64 fr, .int .i64 n] w fun e w' => BothPo w w' x sz fr n e := by
  have HG := Aside0.mk hg
  have HC := Aside0.mk hC
  have HXC := Aside0.mk hxc
  clear hg hC hxc
  by_cases hbad : newBad x sz
  · have HBAD := Aside0.mk hbad
    clear hbad
    go_enter Tryd.func34, Tryd.ntmps34
    go_wp2_with (first | (go_at_call 15; (with_reducible refine (New_fails A c x sz (by omega) HBAD.out).mono ?_); rintro e w1 ⟨rfl, rfl⟩) | (go_at_call 47; (with_reducible refine (rNew_fails A c x sz (by omega) HBAD.out).mono ?_); rintro e w1 ⟨rfl, rfl⟩))
    refine bodyPost_ret (results_tmp5 rfl _ _ _) rfl ?_
    exact .inl ⟨rfl, Below.refl _ _⟩
  obtain ⟨k, rfl⟩ : ∃ k : Nat, sz = k := ⟨sz.toNat, by unfold newBad at hbad; omega⟩
  have hk0 : 1 ≤ k ∧ k ≤ 60 := by unfold newBad at hbad; omega
  have HBAD := Aside0.mk hbad
  have HK0 := Aside0.mk hk0
  have HKD := Aside0.mk (newM_ok x k (by omega))
  have HSL := Aside0.mk (show (newM x k k).sec.length = k from secTo_length x k k (Nat.le_refl _))
  have HRL := Aside0.mk (show (rnewM ((List.range k).map (secAt x))).sec.length = k from by simp [rnewM])
  obtain ⟨D0, hD0⟩ : ∃ D0, newM x k k = D0 := ⟨_, rfl⟩
  obtain ⟨R0, hR0⟩ : ∃ R0, rnewM ((List.range k).map (secAt x)) = R0 := ⟨_, rfl⟩
  have HR0 := Aside0.mk hR0
  have HD0 := Aside0.mk hD0
  have HRC := Aside0.mk (show R0.choice = [] from by rw [← hR0]; rfl)
  rw [hD0] at HKD HSL
  rw [hR0] at HRL
  clear hbad hk0 hD0 hR0
  by_cases hin : 2 ≤ n ∧ 0 ≤ fr ∧ fr + 2 * n ≤ (k : Int)
  · have HIN := Aside0.mk hin
    clear hin
    go_enter Tryd.func34, Tryd.ntmps34
    go_wp2_with (first | (go_at_call 15; (with_reducible refine (New_calls A c x k (by omega) HXC.out HC.out HBAD.out).mono ?_); rintro e w1 ⟨g1, rfl, hd1, hb1⟩; rw [HD0.out] at hd1; have HD1 := Aside0.mk hd1; have HB1 := Aside0.mk hb1; have HC1 := Aside0.mk (Kd.C_below HC.out hb1); clear hd1 hb1) | (go_at_call 47; (with_reducible refine (rNew_calls A c x k (by omega) HXC.out HC1.out HBAD.out).mono ?_); rintro e w2 ⟨g2, R2, rfl, hr2, hok2, hw2, hc2, hs2, hb2, he2⟩; obtain rfl := (he2.out.trans HR0.out).symm; have HR2 := Aside0.mk (ref_lower hr2 HB1.out.size hc2); have HOK2 := Aside0.mk hok2; have HB2 := Aside0.mk hb2; have HBW2 := Aside0.mk (below_trans HB1.out hb2); have HD2 := Aside0.mk (HD1.out.frame (G := fun _ => False) (Upd.of_below hb2) (fun _ _ _ h => h)); clear hr2 hok2 hw2 hc2 hs2 hb2 he2) | (go_at_call 10; (with_reducible refine (Open_calls HD2.out (by rw [HSL.out]; have := HK0.out; omega) fr n).mono ?_); rintro e w3 h3; rcases h3 with ⟨hn3, _⟩ | ⟨_, s, rfl, hs3, hlo3, hb3⟩; (exact absurd (by rw [HSL.out]; exact HIN.out) hn3); have HS3 := Aside0.mk hs3; have HLO3 := Aside0.mk hlo3; have HB3 := Aside0.mk hb3; have HR3 := Aside0.mk (HR2.out.frame (G := fun _ => False) (Upd.of_below hb3) (fun _ _ h => h) (fun _ h => h.elim)); clear hs3 hlo3 hb3) | (go_at_call 48; (with_reducible refine (rOpen_calls HR3.out (by rw [HRL.out]; have := HK0.out; omega) fr n).mono ?_); rintro e w4 h4; rcases h4 with ⟨hn4, _⟩ | ⟨_, t, rfl, ht4, hlo4, hb4⟩; (exact absurd (by rw [HRL.out]; exact HIN.out) hn4); have HTRI := Aside0.mk (tri_new HG.out (below_trans (below_trans HBW2.out HB3.out) hb4) (HS3.out.below hb4) ht4 HB1.out.size HBW2.out.size HLO3.out (Nat.le_trans HB2.out.size HB3.out.size) HB3.out.size hlo4); clear ht4 hlo4 hb4))
    refine bodyPost_ret (results_tmp5 rfl _ _ _) rfl ?_
    refine .inr ⟨s, g1, t, g2, fun k => w.heap.size ≤ k ∧ k < w1.heap.size, fun k => w1.heap.size ≤ k ∧ k < w2.heap.size, k, rfl, HBAD.out, rfl, ?_, ?_, ?_⟩
    · rw [HD0.out, HR0.out]; exact HTRI.out
    · rw [HD0.out]; exact ⟨HKD.out, HIN.out.2.1, HIN.out.1, by rw [HSL.out]; exact HIN.out.2.2, by rw [HSL.out]; have := HK0.out; omega⟩
    · rw [HR0.out]; exact ⟨HOK2.out, HIN.out.2.1, HIN.out.1, by rw [HRL.out]; exact HIN.out.2.2, by rw [HRL.out]; have := HK0.out; omega⟩
  · have HIN := Aside0.mk hin
    clear hin
    go_enter Tryd.func34, Tryd.ntmps34
    go_wp2_with (first | (go_at_call 15; (with_reducible refine (New_calls A c x k (by omega) HXC.out HC.out HBAD.out).mono ?_); rintro e w1 ⟨g1, rfl, hd1, hb1⟩; rw [HD0.out] at hd1; have HD1 := Aside0.mk hd1; have HB1 := Aside0.mk hb1; have HC1 := Aside0.mk (Kd.C_below HC.out hb1); clear hd1 hb1) | (go_at_call 47; (with_reducible refine (rNew_calls A c x k (by omega) HXC.out HC1.out HBAD.out).mono ?_); rintro e w2 ⟨g2, R2, rfl, hr2, hok2, hw2, hc2, hs2, hb2, he2⟩; obtain rfl := (he2.out.trans HR0.out).symm; have HR2 := Aside0.mk (ref_lower hr2 HB1.out.size hc2); have HOK2 := Aside0.mk hok2; have HB2 := Aside0.mk hb2; have HBW2 := Aside0.mk (below_trans HB1.out hb2); have HD2 := Aside0.mk (HD1.out.frame (G := fun _ => False) (Upd.of_below hb2) (fun _ _ _ h => h)); clear hr2 hok2 hw2 hc2 hs2 hb2 he2) | (go_at_call 10; (with_reducible refine (Open_calls HD2.out (by rw [HSL.out]; have := HK0.out; omega) fr n).mono ?_); rintro e w3 h3; rcases h3 with ⟨_, rfl, hb3⟩ | ⟨hn3, _⟩; rotate_left; (exact absurd (by rw [HSL.out] at hn3; exact hn3) HIN.out); have HB3 := Aside0.mk (below_trans HBW2.out hb3); have HR3 := Aside0.mk (HR2.out.frame (G := fun _ => False) (Upd.of_below hb3) (fun _ _ h => h) (fun _ h => h.elim)); clear hb3) | (go_at_call 48; (with_reducible refine (rOpen_calls HR3.out (by rw [HRL.out]; have := HK0.out; omega) fr n).mono ?_); rintro e w4 h4; rcases h4 with ⟨_, rfl, hb4⟩ | ⟨hn4, _⟩; rotate_left; (exact absurd (by rw [HRL.out] at hn4; exact hn4) HIN.out); have HBE := Aside0.mk (below_trans HB3.out hb4); clear hb4))
    refine bodyPost_ret (results_tmp5 rfl _ _ _) rfl ?_
    exact .inl ⟨rfl, HBE.out⟩

end Go.Proofs.YtmblnflfklmmkaaDoor.Sh
/- The law's made. -/
namespace Go.Proofs.YtmblnflfklmmkaaDoor.Sh
open Go.Proofs.YtmblnflfklmmkaaDoor.Dk
open Go.RowKit Go.Proofs.YtmblnflfklmmkaaDoorW.PrintWords Go.Proofs.YtmblnflfklmmkaaDoorW.PrintLast Go.Proofs.YtmblnflfklmmkaaDoorW.PrintMore
set_option linter.unusedVariables false
set_option linter.unusedSimpArgs false
set_option maxRecDepth 30000
variable {w0 w w' W w1 w2 w3 : World} {s g t g2 : Nat} {F F2 : Nat → Prop} {D D' : DM} {R R' : RM} {fr n : Int}
theorem Tri.ss (h : Tri w0 w s g F D fr n t g2 F2 R) (hk : SOk D fr n) : Ss w0 w s g F D fr n := ⟨h.S, hk, h.G, h.b⟩
theorem tri_base {m : Nat} (h : Tri (w.drewN m) w1 s g F D fr n t g2 F2 R) : Tri w w1 s g F D fr n t g2 F2 R := ⟨h.S, h.T, h.ap, h.sF, h.tF, ⟨h.G.s, h.G.c, h.G.lt⟩, (pw_below_drewN (Below.refl _ _) m).trans h.b⟩
/-- What made answers: none, or a store on a disk that is up and not set. -/
def MadePo (w w' : World) (fr n : Int) (e : Ending) : Prop := (e = .returned (.tuple #[.pointer none, .pointer none]) ∧ Below w.heap.size w w') ∨
  ∃ s g F D, e = .returned (.tuple #[.pointer (some ⟨s, 0, none⟩), .pointer (some ⟨g, 0, none⟩)]) ∧ Ss w w' s g F D fr n ∧ Dk.Calm D ∧ D.held.length ≤ 120000 ∧ D.sec.length ≤ 60
theorem start_ss (h : Ss w0 w s g F D fr n) : Calls Tryd.prog 23 #[.pointer (some ⟨g, 0, none⟩)] w fun e w' => e = .returned (.tuple #[]) ∧ SsPo w0 w w' s g F (startM D) fr n :=
  (dStart h.S.d).mono fun e w' ⟨he, hp⟩ => ⟨he, h.dpo (h.K.dm (startM_ok h.K.d) rfl) hp⟩
set_option maxHeartbeats 16000000 in
theorem made8_calls (hg : Glob w) (A : Option Addr) (c : Nat) (x : List Int) (sz fr n : Int) (A2 : Option Addr) (c2 : Nat) (l : List OpM) (hx0 : x.length ≤ 140737488351232) (hxc : x.length ≤ c) (hC : C8 w A x) (hO : Ops w A2 l) (hl : l.length ≤ 140737488351232) :
    Calls Tryd.prog 18 #[.slice A x.length c, .int .i64 sz, .int .i64 fr, .int .i64 n, .slice A2 l.length c2] w fun e w' => MadePo w w' fr n e := by
  have HG := Aside0.mk hg
  have HC := Aside0.mk hC
  have HO := Aside0.mk hO
  have HXC := Aside0.mk hxc
  have HW8 := Aside0.mk (wide8_calls (w := w) A c x sz hx0)
  have HL8 := Aside0.mk (long8_calls (w := w) A2 c2 l hO hl)
  clear hg hC hO hxc
  by_cases hw : 2000 < x.length ∨ 60 < sz
  · have hwb := Lib.hid (decide_eq_true hw)
    rw [hwb.out] at HW8
    clear hw hwb
    go_enter Tryd.func18, Tryd.ntmps18
    go_wp2_with (first | (go_at_call 32; (with_reducible refine (HW8.out).mono ?_); rintro e w1 ⟨rfl, rfl⟩))
    refine bodyPost_ret (results_tmp2 rfl _ _ _) rfl ?_
    exact .inl ⟨rfl, Below.refl _ _⟩
  have hwb := Lib.hid (decide_eq_false hw)
  rw [hwb.out] at HW8
  have HXS := Aside0.mk (show x.length ≤ 2000 ∧ sz ≤ 60 by omega)
  clear hw hwb
  by_cases hlg : 2500 < wsum8 l
  · have HLG := Lib.hid (decide_eq_true hlg)
    clear hlg
    go_enter Tryd.func18, Tryd.ntmps18
    go_wp2_with (first | (go_at_call 32; (with_reducible refine (HW8.out).mono ?_); rintro e w1 ⟨rfl, rfl⟩) | (go_at_call 33; (with_reducible refine (HL8.out).mono ?_); rintro e w2 ⟨rfl, m, rfl⟩; rw [HLG.out]))
    refine bodyPost_ret (results_tmp2 rfl _ _ _) rfl ?_
    exact .inl ⟨rfl, pw_below_drewN (Below.refl _ _) m⟩
  have HLG := Lib.hid (decide_eq_false hlg)
  have HLN := Aside0.mk (show wsum8 l ≤ 2500 by omega)
  clear hlg
  have HBT := Aside0.mk (show ∀ m, Calls Tryd.prog 34 #[.slice A x.length c, .int .i64 sz, .int .i64 fr, .int .i64 n] (w.drewN m) fun e w' => BothPo (w.drewN m) w' x sz fr n e from fun m => both_calls (HG.out.below (pw_below_drewN (Below.refl _ _) m)) A c x sz fr n HXS.out.1 HXC.out (Kd.C_drewN HC.out m) HXS.out.2)
  go_enter Tryd.func18, Tryd.ntmps18
  go_wp2_with (first | (go_at_call 32; (with_reducible refine (HW8.out).mono ?_); rintro e w1 ⟨rfl, rfl⟩) | (go_at_call 33; (with_reducible refine (HL8.out).mono ?_); rintro e w2 ⟨rfl, m, rfl⟩; rw [HLG.out]) | (go_at_call 34; (with_reducible refine (HBT.out m).mono ?_); rintro e w3 h3; rcases h3 with ⟨rfl, hb3⟩ | ⟨s, g, t, g2, F, F2, k, hk, hbd, rfl, htr, hsk, htk⟩; (have HB1 := Aside0.mk (show Below w.heap.size w w3 from (pw_below_drewN (Below.refl _ _) m).trans hb3); clear hb3); rotate_left; (obtain ⟨D0, hD0⟩ : ∃ D0, newM x k k = D0 := ⟨_, rfl⟩); (obtain ⟨R0, hR0⟩ : ∃ R0, rnewM ((List.range k).map (secAt x)) = R0 := ⟨_, rfl⟩); have HH0 := Aside0.mk (show D0.held.length ≤ 40 * wsum8 (l.take 0) by rw [← hD0]; exact Nat.zero_le _); have HR0 := Aside0.mk (show R0.wait.length ≤ 40 * wsum8 (l.take 0) by rw [← hR0]; exact Nat.zero_le _); have HS0 := Aside0.mk (show D0.sec.length ≤ 60 by rw [← hD0]; have h1 : (newM x k k).sec.length = k := secTo_length x k k (Nat.le_refl _); have h2 := HXS.out.2; omega); rw [hD0, hR0] at htr; rw [hD0] at hsk; rw [hR0] at htk; have HTR := Aside0.mk (tri_base htr); have HSK := Aside0.mk hsk; have HTK := Aside0.mk htk; clear hk hbd htr hsk htk hD0 hR0; rotate_left))
  · refine bodyPost_ret (results_tmp2 rfl _ _ _) rfl ?_
    exact .inl ⟨rfl, HB1.out⟩
  go_loopw [17] (fun v17 w' => ∃ (i : Nat) (F F2 : Nat → Prop) (D : DM) (R : RM), v17 = .int .i64 i ∧ i ≤ l.length ∧ Aside0 (Tri w w' s g F D fr n t g2 F2 R) ∧ Aside0 (SOk D fr n) ∧ Aside0 (TOk R fr n) ∧ Aside0 (D.held.length ≤ 40 * wsum8 (l.take i)) ∧ Aside0 (R.wait.length ≤ 40 * wsum8 (l.take i)) ∧ Aside0 (D.sec.length ≤ 60)) (fun v17 _ => l.length - (intOf v17).toNat)
  case atStart => exact ⟨0, F, F2, D0, R0, rfl, Nat.zero_le _, HTR, HSK, HTK, HH0, HR0, HS0⟩
  case round =>
    clear HTR HSK HTK HH0 HR0 HS0
    obtain ⟨i, F, F2, D, R, rfl, hi, HT, HK, HKR, HH, HRW, HS⟩ := hrel
    by_cases hlt : i < l.length
    · obtain ⟨ad, ab, cb, ac, cc, o, rfl, ho, h0, h1, h2, h3, h4, hOp⟩ := HO.out.get i hlt
      obtain ⟨kd, at_, nn, y, ch⟩ := o
      have HW := Aside0.mk (wsum8_take ho)
      have HL := Aside0.mk (wsum8_le l (i + 1))
      have hb := HT.out.b
      have HLO := Aside0.mk (load_op (cell_kept h0 hb) (cell_kept h1 hb) (cell_kept h2 hb) (cell_kept h3 hb) (cell_kept h4 hb))
      have HOP := Aside0.mk (show ∀ W, Upd wr W (fun k => w.heap.size ≤ k) → OpIs W ⟨kd, at_, nn, y, ch⟩ [.int .i64 kd, .int .i64 at_, .int .i64 nn, .slice ab y.length cb, .slice ac ch.length cc] from fun W hW => OpIs.below hOp (Upd.below (F := fun k => w.heap.size ≤ k) ((Upd.of_below (F := fun k => w.heap.size ≤ k) hb).trans hW (fun k hk => .inl hk)) (fun k hk => hk)))
      have HY := Aside0.mk (show y.length ≤ 2500 by have := HW.out; have := HL.out; have := HLN.out; simp only [wOp8] at *; omega)
      have HNN := Aside0.mk (OpIs.C (o := ⟨kd, at_, nn, y, ch⟩) hOp).2.2.2.2.2
      have HDB := Aside0.mk (show D.held.length ≤ 100000 by have := HH.out; have := wsum8_le l i; have := HLN.out; omega)
      have HRB := Aside0.mk (show R.wait.length ≤ 100000 by have := HRW.out; have := wsum8_le l i; have := HLN.out; omega)
      clear h0 h1 h2 h3 h4 hOp ho hb
      go_wp2_with (first | (refine load_at (ty := 76) (.tmp 53) rfl rfl HLO.out rfl ?_) | (go_at_call 35; (with_reducible refine (plays8_calls HT.out HK.out HKR.out (by have := HDB.out; omega) (by have := HRB.out; omega) kd at_ nn y ch ab ac cb cc (by have := HY.out; omega) HOP.out).mono ?_); rintro e w5 ⟨rfl, hp5⟩; have HP5 := Aside0.mk hp5; clear hp5))
      obtain ⟨F5, F25, _, _, hT5, hk5, hw5, _⟩ := HP5.out
      have hps := play8_hs (fr := fr) (n := n) (D := D) (R := R) ⟨kd, at_, nn, y, ch⟩
      have hpk := play8_ok (fr := fr) (n := n) (D := D) (R := R) ⟨kd, at_, nn, y, ch⟩ HK.out.d (by have := HDB.out; have := HY.out; show D.held.length + y.length + 128 ≤ _; omega) HNN.out
      have HT5 := Aside0.mk hT5
      have HK5 := Aside0.mk (HK.out.dm hpk hps.2)
      have HKR5 := Aside0.mk hk5
      have HH5 := Aside0.mk (show (play8 fr n D R ⟨kd, at_, nn, y, ch⟩).1.held.length ≤ 40 * wsum8 (l.take (i + 1)) by have h1 := hps.1; have h2 := HH.out; have h3 := HW.out; simp only [wOp8] at h3 h1; omega)
      have HR5 := Aside0.mk (show (play8 fr n D R ⟨kd, at_, nn, y, ch⟩).2.1.wait.length ≤ 40 * wsum8 (l.take (i + 1)) by have h2 := HRW.out; have h3 := HW.out; simp only [wOp8] at h3; omega)
      have HS5 := Aside0.mk (show (play8 fr n D R ⟨kd, at_, nn, y, ch⟩).1.sec.length ≤ 60 by rw [hps.2]; exact HS.out)
      clear hT5 hk5 hw5 hps hpk
      go_roundw
      case rel => exact ⟨i + 1, F5, F25, _, _, by go_num, by omega, HT5, HK5, HKR5, HH5, HR5, HS5⟩
      case measure => simp [intOf]; omega
    · obtain rfl : i = l.length := by omega
      have HB := Aside0.mk (show D.held.length ≤ 120000 by have := HH.out; have := wsum8_le l l.length; have := HLN.out; omega)
      have HSS := Aside0.mk (HT.out.ss HK.out)
      go_wp2_with (first | (go_at_call 23; (with_reducible refine (start_ss HSS.out).mono ?_); rintro e w6 ⟨rfl, hp6⟩; have HP6 := Aside0.mk hp6; clear hp6))
      refine bodyPost_ret (results_tmp2 rfl _ _ _) rfl ?_
      obtain ⟨F6, hs6, _⟩ := HP6.out
      exact .inr ⟨s, g, F6, startM D, rfl, hs6, ⟨rfl, rfl⟩, HB.out, HS.out⟩

end Go.Proofs.YtmblnflfklmmkaaDoor.Sh
/- Plain facts about stores: a Put whose power may go, and what no Put touches. -/
namespace Go.Proofs.YtmblnflfklmmkaaDoor.Sh
open Go.Proofs.YtmblnflfklmmkaaDoor.Dk
open Go.RowKit Go.Proofs.YtmblnflfklmmkaaDoorW.PrintWords Go.Proofs.YtmblnflfklmmkaaDoorW.PrintLast Go.Proofs.YtmblnflfklmmkaaDoorW.PrintMore
set_option linter.unusedVariables false
set_option linter.unusedSimpArgs false
set_option maxRecDepth 30000
variable {D D0 D1 D' : DM} {fr n q k g lo hi : Int} {x y b h : List Int}
theorem goes_same (D : DM) : (goesM D).1.sec = D.sec ∧ (goesM D).1.held = D.held ∧ (goesM D).1.down = D.down := by
  unfold goesM
  split
  · exact ⟨rfl, rfl, rfl⟩
  · split <;> exact ⟨rfl, rfl, rfl⟩
theorem lose_same (l : List Bool) (hd : D.down = false) : (loseM l D).down = true ∧ (loseM l D).held = [] ∧ ∃ keep, (loseM l D).sec = putsTo keep D.held D.sec D.held.length := by
  unfold loseM
  rw [hd, if_neg (by decide)]
  exact ⟨rfl, rfl, _, rfl⟩
theorem puts_each (keep : Nat → Bool) (H : List (Int × List Int)) (S : List (List Int)) (j : Nat) (hH : ∀ h ∈ H, 0 ≤ h.1) : ∀ n, n ≤ H.length → (putsTo keep H S n).getD j [] = S.getD j [] ∨ ∃ h ∈ H, h.1 = (j : Int) ∧ (putsTo keep H S n).getD j [] = h.2
  | 0, _ => .inl rfl
  | n + 1, hn => by
    have hm : H.getD n (0, []) ∈ H := by rw [List.getD_eq_getElem?_getD, List.getElem?_eq_getElem (by omega)]; exact List.getElem_mem (by omega)
    have ih := puts_each keep H S j hH n (by omega)
    rw [putsTo]
    cases keep n with
    | false => rw [if_neg (by decide)]; exact ih
    | true =>
      rw [if_pos rfl]
      by_cases hj : (H.getD n (0, [])).1.toNat = j
      · by_cases hs : j < (putsTo keep H S n).length
        · refine .inr ⟨_, hm, by have := hH _ hm; omega, ?_⟩
          rw [List.getD_eq_getElem?_getD, List.getElem?_set, if_pos hj, if_pos (by omega)]
          rfl
        · rw [List.getD_eq_getElem?_getD, List.getElem?_set, if_pos hj, if_neg (by omega)]
          refine .inl ?_
          rw [putsTo_length] at hs
          rw [List.getD_eq_getElem?_getD, List.getElem?_eq_none (by omega)]
      · rw [List.getD_eq_getElem?_getD, List.getElem?_set, if_neg hj, ← List.getD_eq_getElem?_getD]
        exact ih
/-! ### What no Put touches -/
structure Apt (D D' : DM) (lo hi : Int) : Prop where
  low : 0 ≤ lo
  len : D'.sec.length = D.sec.length
  out : ∀ j : Nat, ((j : Int) < lo ∨ hi ≤ (j : Int)) → D'.sec.getD j [] = D.sec.getD j []
  held : ∀ h ∈ D'.held, lo ≤ h.1 ∧ h.1 < hi
theorem Apt.puts (h : Apt D0 D lo hi) (keep : Nat → Bool) {D' : DM} (hs : D'.sec = putsTo keep D.held D.sec D.held.length) (hh : D'.held = []) : Apt D0 D' lo hi := by
  refine ⟨h.low, by rw [hs, putsTo_length, h.len], fun j hj => ?_, by rw [hh]; intro h hh; cases hh⟩
  rw [hs]
  rcases puts_each keep D.held D.sec j (fun y hy => by have := h.held y hy; have := h.low; omega) _ (Nat.le_refl _) with e | ⟨y, hy, h1, _⟩
  · rw [e]; exact h.out j hj
  · have := h.held y hy
    omega
theorem Apt.same (h : Apt D0 D lo hi) (hs : D'.sec = D.sec) (hh : D'.held = D.held) : Apt D0 D' lo hi := ⟨h.low, by rw [hs, h.len], by rw [hs]; exact h.out, by rw [hh]; exact h.held⟩
theorem Apt.goes (h : Apt D0 D lo hi) : Apt D0 (goesM D).1 lo hi := h.same (goes_same D).1 (goes_same D).2.1
theorem Apt.lose (h : Apt D0 D lo hi) (l : List Bool) : Apt D0 (loseM l D) lo hi := by
  cases hd : D.down with
  | true => unfold loseM; rw [if_pos hd]; exact h
  | false => obtain ⟨_, h2, keep, h3⟩ := lose_same l hd; exact h.puts keep h3 h2
theorem Apt.write (h : Apt D0 D lo hi) (h0 : lo ≤ k) (h1 : k < hi) : Apt D0 (writeM D k x).1 lo hi := by
  unfold writeM
  split
  · exact h
  split
  · exact h
  have hq : Apt D0 (holdM D k x) lo hi := ⟨h.low, h.len, h.out, fun y hy => by
    simp only [holdM, List.mem_append, List.mem_singleton] at hy
    rcases hy with hy | rfl
    · exact h.held y hy
    · exact ⟨h0, h1⟩⟩
  split
  · exact hq.goes.lose _
  · exact hq.goes
theorem Apt.flush (h : Apt D0 D lo hi) : Apt D0 (flushM D).1 lo hi := by
  unfold flushM
  split
  · exact h
  split
  · exact h.goes.lose _
  · exact h.goes.puts _ rfl rfl
theorem Apt.saveFrom (x : List Int) (q : Int) : ∀ (m i : Nat) (D : DM), Apt D0 D lo hi → lo ≤ q → q + i + m ≤ hi → Apt D0 (saveFrom x q m i D).1 lo hi
  | 0, _, _, h, _, _ => h
  | m + 1, i, D, h, h0, h1 => by
    rw [Dk.saveFrom]
    split
    · exact h.write (by omega) (by omega)
    · exact Apt.saveFrom x q m (i + 1) _ (h.write (by omega) (by omega)) h0 (by omega)
theorem Apt.step (h : Apt D0 D lo hi) (h0 : lo ≤ q) (h1 : q + (secN x : Nat) ≤ hi) : Apt D0 (stepM D q x).1 lo hi := by
  have hs : Apt D0 (saveM D q x).1 lo hi := by
    unfold saveM
    split
    · exact h
    · exact Apt.saveFrom x q _ 0 D h h0 (by unfold secN at h1; omega)
  unfold stepM
  split
  · exact hs
  · exact hs.flush
theorem Apt.put (hk : SOk D fr n) (h : Apt D0 D fr (fr + 2 * n)) : Apt D0 (putM D fr n x).1 fr (fr + 2 * n) := by
  have hn := hk.hn
  unfold putM
  split
  · exact h
  split
  · exact h
  split
  · exact h
  have hat := newest_at (D := D) (fr := fr) (n := n)
  have hom : otherM (newestM D fr n).1 = 0 ∨ otherM (newestM D fr n).1 = 1 := by unfold otherM; split <;> simp
  have hon : 0 ≤ otherM (newestM D fr n).1 * n ∧ otherM (newestM D fr n).1 * n ≤ n := by rcases hom with h | h <;> rw [h] <;> omega
  have hsx : (secN x : Int) ≤ n - 1 := by unfold secN; omega
  rw [toM_eq]
  have z1 : secN zer64 = 1 := secN_64 zer64_len
  have a := h.step (q := fr + otherM (newestM D fr n).1 * n) (x := zer64) (by omega) (by rw [z1]; omega)
  unfold put3
  split
  · exact a
  have b := a.step (q := fr + otherM (newestM D fr n).1 * n + 1) (x := x) (by omega) (by omega)
  split
  · exact b
  · exact b.step (by omega) (by rw [secN_64 (headM_length _ _)]; omega)
theorem bytesTo_getD {sec : List (List Int)} (hh : ∀ i, i < sec.length → (sec.getD i []).length = 64) : ∀ n, n ≤ sec.length → ∀ i, i < n * 64 → (bytesTo sec n).getD i 0 = (sec.getD (i / 64) []).getD (i % 64) 0
  | 0, _, i, h => absurd h (by omega)
  | n + 1, hn, i, hi => by
    have hl := bytesTo_length hh n (by omega)
    rw [bytesTo]
    by_cases h : i < n * 64
    · rw [List.getD_eq_getElem?_getD, List.getElem?_append_left (by omega), ← List.getD_eq_getElem?_getD]
      exact bytesTo_getD hh n (by omega) i h
    · rw [List.getD_eq_getElem?_getD, List.getElem?_append_right (by omega), ← List.getD_eq_getElem?_getD, hl]
      have e1 : i / 64 = n := by omega
      have e2 : i % 64 = i - n * 64 := by omega
      rw [e1, e2]
theorem Apt.bytes (h : Apt D0 D lo hi) (h0 : ∀ i, i < D0.sec.length → (D0.sec.getD i []).length = 64) (h1 : ∀ i, i < D.sec.length → (D.sec.getD i []).length = 64) : (bytesM D).length = (bytesM D0).length ∧ ∀ i : Nat, i < (bytesM D0).length → ((i : Int) / 64 < lo ∨ hi ≤ (i : Int) / 64) → (bytesM D).getD i 0 = (bytesM D0).getD i 0 := by
  have l0 : (bytesM D0).length = D0.sec.length * 64 := bytesTo_length h0 _ (Nat.le_refl _)
  have l1 : (bytesM D).length = D.sec.length * 64 := bytesTo_length h1 _ (Nat.le_refl _)
  refine ⟨by rw [l0, l1, h.len], fun i hi ho => ?_⟩
  rw [l0] at hi
  have e1 : (bytesM D).getD i 0 = _ := bytesTo_getD h1 _ (Nat.le_refl _) i (by rw [h.len]; exact hi)
  have e0 : (bytesM D0).getD i 0 = _ := bytesTo_getD h0 _ (Nat.le_refl _) i hi
  rw [e1, e0, h.out (i / 64) (by omega)]
theorem Apt.refl (D : DM) (h0 : 0 ≤ lo) (hh : D.held = []) : Apt D D lo hi := ⟨h0, rfl, fun _ _ => rfl, by rw [hh]; intro h hh; cases hh⟩
/-! ### A Put whose power may go -/
end Go.Proofs.YtmblnflfklmmkaaDoor.Sh
/- The law StoreCrash. -/
namespace Go.Proofs.YtmblnflfklmmkaaDoor.Sh
open Go.Proofs.YtmblnflfklmmkaaDoor.Dk
open Go.RowKit Go.Proofs.YtmblnflfklmmkaaDoorW.PrintWords Go.Proofs.YtmblnflfklmmkaaDoorW.PrintLast Go.Proofs.YtmblnflfklmmkaaDoorW.PrintMore
set_option linter.unusedVariables false
set_option linter.unusedSimpArgs false
set_option maxRecDepth 30000
variable {w0 w w' W w1 w2 w3 : World} {s g t g2 : Nat} {F F' F2 : Nat → Prop} {D D' : DM} {R R' : RM} {fr n k : Int} {x r : List Int}
theorem keeps_below (hb : Below w.heap.size w w') : Keeps w w' F F := .of (fun k hk => .inl hk) (Upd.of_below hb)
theorem ss_flush (h : Ss w0 w s g F D fr n) (hc : Dk.Calm D) : Calls Tryd.prog 19 #[.pointer (some ⟨g, 0, none⟩)] w fun e w' => e = .returned (.int .i64 0) ∧ ∃ F' D', Ss w0 w' s g F' D' fr n ∧ D'.held = [] ∧ D'.down = false := by
  obtain ⟨c1, c2, _, c4⟩ := calm_flush hc
  refine (dFlush h.S.d h.K.d).mono ?_
  rintro e w' ⟨rfl, hp⟩
  rw [c1]
  obtain ⟨F', hs, _⟩ := h.dpo (h.K.dm (flushM_ok h.K.d) flushM_hs.2) hp
  exact ⟨rfl, F', _, hs, c2, c4.down⟩
theorem ss_set (h : Ss w0 w s g F D fr n) (hn : 0 ≤ k ∧ k < 40) (A : Option Addr) (c : Nat) (l : List Bool) (hl : l.length ≤ 100) (hC : Kd.C Kd.bool w A l.length l) : Calls Tryd.prog 20 #[.pointer (some ⟨g, 0, none⟩), .int .i64 k, .slice A l.length c] w fun e w' => e = .returned (.int .i64 0) ∧ ∃ F' D', Ss w0 w' s g F' D' fr n ∧ D'.held = D.held ∧ D'.sec = D.sec ∧ D'.down = D.down ∧ Keeps w w' F F' := by
  have e0 : setM D k l = ({ D with set := true, left := k, choice := l }, 0) := by
    unfold setM
    rw [if_neg (by omega), if_neg (by omega)]
  refine (dSet h.S.d k A c l hC).mono ?_
  rintro e w' ⟨rfl, hp⟩
  obtain ⟨F', hs, hk⟩ := h.dpo (h.K.dm (setM_ok h.K.d (by omega)) (by rw [e0])) hp
  rw [e0] at hs ⊢
  exact ⟨rfl, F', _, hs, rfl, rfl, rfl, hk⟩
end Go.Proofs.YtmblnflfklmmkaaDoor.Sh
/- The law StoreApart. -/
namespace Go.Proofs.YtmblnflfklmmkaaDoor.Sh
open Go.Proofs.YtmblnflfklmmkaaDoor.Dk
open Go.RowKit Go.Proofs.YtmblnflfklmmkaaDoorW.PrintWords Go.Proofs.YtmblnflfklmmkaaDoorW.PrintLast Go.Proofs.YtmblnflfklmmkaaDoorW.PrintMore
set_option linter.unusedVariables false
set_option linter.unusedSimpArgs false
set_option maxRecDepth 30000
variable {w0 w w' W w1 w2 w3 : World} {s g t g2 : Nat} {F F' F2 : Nat → Prop} {D D' : DM} {R R' : RM} {fr n k : Int} {x r xs ys : List Int}
theorem ss_sec (h : Ss w0 w s g F D fr n) : ∀ i, i < D.sec.length → (D.sec.getD i []).length = 64 := fun i hi => by
  obtain ⟨vs, vh, vc, hd⟩ := h.S.d
  obtain ⟨As, cs, rfl, _⟩ := Kd.R_reads hd.sec
  obtain ⟨_, _, h64, _⟩ := sec_load hd.sec i hi
  exact h64
theorem ss_bytes (h : Ss w0 w s g F D fr n) : Calls Tryd.prog 17 #[.pointer (some ⟨g, 0, none⟩)] w fun e w' => ∃ A c xs, e = .returned (.slice A xs.length c) ∧ xs = bytesM D ∧ Row w' F (.slice A xs.length c) xs ∧ Ss w0 w' s g F D fr n ∧ Keeps w w' F F := by
  refine (sBytes (w0 := w0) ⟨h.S.d, h.b⟩ h.K.d).mono ?_
  rintro e w' ⟨A, c, rfl, hr, hb⟩
  exact ⟨A, c, _, rfl, rfl, hr, h.below hb, keeps_below hb⟩
theorem ss_aput (h : Ss w0 w s g F D fr n) (hh : D.held = []) (A : Option Addr) (c : Nat) (x : List Int) (hx : x.length ≤ 20000) (hxc : x.length ≤ c) (hC : ∀ W, Below w0.heap.size w0 W → C8 W A x) :
    Calls Tryd.prog 12 #[.pointer (some ⟨s, 0, none⟩), .slice A x.length c] w fun e w' => ∃ f F' D', e = .returned (.int .i64 f) ∧ Ss w0 w' s g F' D' fr n ∧ Apt D D' fr (fr + 2 * n) ∧ Keeps w w' F F' := by
  refine (ssPut h (by rw [hh]; decide) A c x hx hxc (fun W hW => hC W (below_upd h.b hW h.S.d.lo))).mono ?_
  rintro e w' ⟨rfl, F', hs, hk⟩
  exact ⟨_, F', _, rfl, hs, Apt.put h.K (Apt.refl D h.K.hf hh), hk⟩
/-- Two rows that are alike but in some sectors. -/
structure Alike (xs ys : List Int) (fr n : Int) : Prop where
  len : ys.length = xs.length
  small : xs.length ≤ 64000
  out : ∀ i : Nat, i < xs.length → ((i : Int) / 64 < fr ∨ fr + 2 * n ≤ (i : Int) / 64) → ys.getD i 0 = xs.getD i 0
theorem alike_of {D0 : DM} (h : Apt D0 D fr (fr + 2 * n)) (h0 : ∀ i, i < D0.sec.length → (D0.sec.getD i []).length = 64) (h1 : ∀ i, i < D.sec.length → (D.sec.getD i []).length = 64) (hz : D0.sec.length ≤ 1000) : Alike (bytesM D0) (bytesM D) fr n := by
  obtain ⟨a, b⟩ := h.bytes h0 h1
  have l0 : (bytesM D0).length = D0.sec.length * 64 := bytesTo_length h0 _ (Nat.le_refl _)
  exact ⟨a, by rw [l0]; omega, b⟩

set_option maxHeartbeats 16000000 in
theorem StoreApart_calls (hg : Glob w) (A A2 A5 A7 : Option Addr) (c c2 c5 c7 : Nat) (b : List Int) (sz fr n : Int) (l : List OpM) (x : List Int) (st : Int) (ch : List Bool) (hb0 : b.length ≤ 140737488351232) (hbc : b.length ≤ c) (hC : C8 w A b) (hO : Ops w A2 l) (hl : l.length ≤ 140737488351232) (hx0 : x.length ≤ 140737488351232) (hxc : x.length ≤ c5) (hX : C8 w A5 x) (hc0 : ch.length ≤ 140737488351232) (hcc : ch.length ≤ c7) (hCC : Kd.C Kd.bool w A7 ch.length ch) :
    Calls Tryd.prog 7 #[.slice A b.length c, .int .i64 sz, .int .i64 fr, .int .i64 n, .slice A2 l.length c2, .slice A5 x.length c5, .int .i64 st, .slice A7 ch.length c7] w fun e w' => Kn w w' e := by
  have HM := Aside0.mk (made8_calls hg A c b sz fr n A2 c2 l hb0 hbc hC hO hl)
  have HXC := Aside0.mk hxc
  have HXW := Aside0.mk (show ∀ W, Below w.heap.size w W → C8 W A5 x from fun W hW => Kd.C_below hX hW)
  have HCW := Aside0.mk (show ∀ W, Below w.heap.size w W → Kd.C Kd.bool W A7 ch.length ch from fun W hW => Kd.C_below hCC hW)
  have HG := Aside0.mk hg
  clear hg hC hO hX hxc hbc hcc hCC
  by_cases hx : 1000 < x.length
  · have tx : decide ((1000 : Int) < (x.length : Int)) = true := decide_eq_true (by omega)
    clear hx
    go_enter Tryd.func7, Tryd.ntmps7
    go_wp2_with (first | (go_at_call 18; (with_reducible refine (HM.out).mono ?_); rintro e w1 h1; rcases h1 with ⟨rfl, hb1⟩ | ⟨s, g, F, D, rfl, hs1, hc1, hh1, hl1⟩; (have HB1 := Aside0.mk hb1; clear hb1); rotate_left; (have HS1 := Aside0.mk hs1; have HCM := Aside0.mk hc1; have HHD := Aside0.mk hh1; clear hs1 hc1 hh1 hl1); rotate_left) | (go_at_call 13; (with_reducible refine (known_calls (HG.out.below HB1.out)).mono ?_); rintro e w99 ⟨rfl, hb99⟩; have HB99 := Aside0.mk hb99; clear hb99))
    · go_ret
      exact ⟨rfl, below_trans HB1.out HB99.out⟩
    · go_wp2_with (first | (go_at_call 13; (with_reducible refine (known_calls (HS1.out.glob)).mono ?_); rintro e w99 ⟨rfl, hb99⟩; have HB99 := Aside0.mk hb99; clear hb99))
      go_ret
      exact ⟨rfl, below_trans HS1.out.b HB99.out⟩
  have tx : decide ((1000 : Int) < (x.length : Int)) = false := decide_eq_false (by omega)
  have HX5 := Aside0.mk (show x.length ≤ 1000 by omega)
  clear hx
  by_cases hy : 100 < ch.length
  · have ty : decide ((100 : Int) < (ch.length : Int)) = true := decide_eq_true (by omega)
    clear hy
    go_enter Tryd.func7, Tryd.ntmps7
    go_wp2_with (first | (go_at_call 18; (with_reducible refine (HM.out).mono ?_); rintro e w1 h1; rcases h1 with ⟨rfl, hb1⟩ | ⟨s, g, F, D, rfl, hs1, hc1, hh1, hl1⟩; (have HB1 := Aside0.mk hb1; clear hb1); rotate_left; (have HS1 := Aside0.mk hs1; have HCM := Aside0.mk hc1; have HHD := Aside0.mk hh1; clear hs1 hc1 hh1 hl1); rotate_left) | (go_at_call 13; (with_reducible refine (known_calls (HG.out.below HB1.out)).mono ?_); rintro e w99 ⟨rfl, hb99⟩; have HB99 := Aside0.mk hb99; clear hb99))
    · go_ret
      exact ⟨rfl, below_trans HB1.out HB99.out⟩
    · go_wp2_with (first | (go_at_call 13; (with_reducible refine (known_calls (HS1.out.glob)).mono ?_); rintro e w99 ⟨rfl, hb99⟩; have HB99 := Aside0.mk hb99; clear hb99))
      go_ret
      exact ⟨rfl, below_trans HS1.out.b HB99.out⟩
  have ty : decide ((100 : Int) < (ch.length : Int)) = false := decide_eq_false (by omega)
  have HCH := Aside0.mk (show ch.length ≤ 100 by omega)
  clear hy
  go_enter Tryd.func7, Tryd.ntmps7
  go_wp2_with (first | (go_at_call 18; (with_reducible refine (HM.out).mono ?_); rintro e w1 h1; rcases h1 with ⟨rfl, hb1⟩ | ⟨s, g, F, D, rfl, hs1, hc1, hh1, hl1⟩; (have HB1 := Aside0.mk hb1; clear hb1); rotate_left; (have HS1 := Aside0.mk hs1; have HCM := Aside0.mk hc1; have HHD := Aside0.mk hh1; clear hs1 hc1 hh1 hl1); rotate_left) | (go_at_call 13; (with_reducible refine (known_calls (HG.out.below HB1.out)).mono ?_); rintro e w99 ⟨rfl, hb99⟩; have HB99 := Aside0.mk hb99; clear hb99))
  · go_ret
    exact ⟨rfl, below_trans HB1.out HB99.out⟩
  go_wp2_with (first | (go_at_call 19; (with_reducible refine (ss_flush HS1.out HCM.out).mono ?_); rintro e w2 ⟨rfl, F2, D2, hs2, hh2, hd2⟩; have HS2 := Aside0.mk hs2; have HH2 := Aside0.mk hh2; clear hs2 hh2 hd2) | (go_at_call 17; (with_reducible refine (ss_bytes HS2.out).mono ?_); rintro e w3 ⟨A3, c3, xs, rfl, hx3, hr3, hs3, hk3⟩; have HX3 := Aside0.mk hx3; have HR3 := Aside0.mk hr3; have HS3 := Aside0.mk hs3; clear hx3 hr3 hs3 hk3) | (go_at_call 21; (with_reducible refine (Among_calls st 40 (by decide) (by decide)).mono ?_); rintro e w9 ⟨rfl, rfl⟩) | (go_at_call 20; (with_reducible refine (ss_set HS3.out (amongM_lt st 40 (by decide)) A7 c7 ch HCH.out (HCW.out _ HS3.out.b)).mono ?_); rintro e w4 ⟨rfl, F4, D4, hs4, hh4, hq4, hd4, hk4⟩; have HS4 := Aside0.mk hs4; have HH4 := Aside0.mk (hh4.trans HH2.out); have HQ4 := Aside0.mk hq4; have HR4 := Aside0.mk (hk4.2 _ _ HR3.out); clear hs4 hh4 hq4 hd4 hk4) | (go_at_call 12; (with_reducible refine (ss_aput HS4.out HH4.out A5 c5 x (by have := HX5.out; omega) HXC.out HXW.out).mono ?_); rintro e w5 ⟨f, F5, D5, rfl, hs5, hp5, hk5⟩; have HS5 := Aside0.mk hs5; have HP5 := Aside0.mk hp5; have HR5 := Aside0.mk (hk5.2 _ _ HR4.out); clear hs5 hp5 hk5) | (go_at_call 17; (with_reducible refine (ss_bytes HS5.out).mono ?_); rintro e w6 ⟨A6, c6, ys, rfl, hx6, hr6, hs6, hk6⟩; have HL6 := Aside0.mk (show Alike xs ys fr n by rw [HX3.out, hx6]; exact alike_of ⟨HP5.out.low, HP5.out.len.trans (by rw [HQ4.out]), (fun j hj => (HP5.out.out j hj).trans (by rw [HQ4.out])), HP5.out.held⟩ (ss_sec HS3.out) (ss_sec HS5.out) HS3.out.K.hz); have HR6 := Aside0.mk hr6.C; have HQ6 := Aside0.mk (hk6.2 _ _ HR5.out).C; have HS6 := Aside0.mk hs6; have hlen : ys.length = xs.length := HL6.out.len; clear hx6 hr6 hs6 hk6))
  have hfr := HS6.out.K.hf
  have hnn := HS6.out.K.hn
  have hle := HS6.out.K.hl
  have hzz := HS6.out.K.hz
  have HKB := Aside0.mk (show 0 ≤ fr ∧ 2 ≤ n ∧ fr + 2 * n ≤ 1000 by omega)
  have HKW := Aside0.mk (show wrap64 (2 * n) = 2 * n ∧ wrap64 (fr + 2 * n) = fr + 2 * n by unfold wrap64; constructor <;> omega)
  clear hfr hnn hle hzz hlen
  go_loopw [21] (fun v21 w' => ∃ (i m : Nat), v21 = .int .i64 i ∧ i ≤ xs.length ∧ w' = w6.drewN m) (fun v21 _ => xs.length - (intOf v21).toNat)
  case atStart => exact ⟨0, 0, rfl, Nat.zero_le _, rfl⟩
  case round =>
    obtain ⟨i, m, rfl, hi, rfl⟩ := hrel
    have hsm := HL6.out.small
    by_cases hlt : i < xs.length
    · obtain ⟨w1, w2⟩ := HKW.out
      go_wp2
      · rename_i hge
        by_cases ho : (i : Int) / 64 < fr + 2 * n
        · rw [decide_eq_true ho]
          refine start_ (n := 13) (S := fun w' => True) (ds := []) (bz 13 0) (by kernel_rfl) rfl rfl trivial (fun hHeld => ?_)
          refine pz 0 (some 88) (bz 13 1) ?_
          refine pz 1 (some 89) (bz 13 3) ?_
          refine pz 2 (some 90) (bz 13 7) ?_
          refine pu 3 (some 91) (bz 13 15) ?_
          refine pu 4 (some 92) (bz 13 31) ?_
          refine pu 5 (some 93) (bz 13 63) ?_
          refine pu 6 (some 94) (bz 13 127) ?_
          refine pu 7 (some 95) (bz 13 255) ?_
          refine pu 8 (some 96) (bz 13 511) ?_
          refine pu 9 (some 97) (bz 13 1023) ?_
          refine pu 10 (some 98) (bz 13 2047) ?_
          refine pu 11 (some 99) (bz 13 4095) ?_
          refine pz 12 (some 100) (bz 13 8191) ?_
          refine done_ (by kernel_rfl) ?_
          go_wp2
          go_roundw
          case rel => exact ⟨i + 1, m + 1, by go_num, by omega, rfl⟩
          case measure => simp [intOf]; omega
        · rw [decide_eq_false ho]
          obtain ⟨ad3, rfl, hc3⟩ := C8_cells (Kd.C_drewN HQ6.out (m + 1)) (by omega)
          obtain ⟨ad6, rfl, hc6⟩ := C8_cells (Kd.C_drewN HR6.out (m + 1)) (by rw [HL6.out.len]; omega)
          obtain ⟨xv, hxv⟩ : ∃ xv, xs.getD i 0 = xv := ⟨_, rfl⟩
          have h3 : (w6.drewN m).drew.cell? (ad3.add i) = some (.int .u8 xv) := by rw [← hxv]; exact hc3 i hlt
          have h6 : (w6.drewN m).drew.cell? (ad6.add i) = some (.int .u8 xv) := by rw [← hxv, ← HL6.out.out i hlt (by omega)]; exact hc6 i (by rw [HL6.out.len]; exact hlt)
          have hb0 : (0 : Int) ≤ (i : Int) := by omega
          have hb1 : (i : Int) < (xs.length : Int) := by omega
          clear hc3 hc6 hxv
          refine start_ (n := 13) (S := fun w' => w'.cell? (ad3.add i) = some (.int .u8 xv) ∧ w'.cell? (ad6.add i) = some (.int .u8 xv)) (ds := []) (bz 13 0) (by kernel_rfl) rfl rfl ⟨h3, h6⟩ (fun hHeld => ?_)
          refine pz 0 (some 88) (bz 13 1) ?_
          refine pz 1 (some 89) (bz 13 3) ?_
          refine pz 2 (some 90) (bz 13 7) ?_
          refine pz 3 (some 91) (bz 13 15) ?_
          refine pz 4 (some 92) (bz 13 31) ?_
          refine pz 5 (some 93) (bz 13 63) ?_
          refine pz 7 (some 95) (bz 13 191) ?_
          refine pz 8 (some 96) (bz 13 447) ?_
          refine pz 9 (some 97) (bz 13 959) ?_
          refine tz2 6 (some 94) (bz 13 1023) hHeld ?_
          refine tz2 10 (some 98) (bz 13 2047) hHeld ?_
          refine pz 11 (some 99) (bz 13 4095) ?_
          refine pz 12 (some 100) (bz 13 8191) ?_
          refine done_ (by kernel_rfl) ?_
          clear h3 h6 hb0 hb1
          go_wp2
          go_roundw
          case rel => exact ⟨i + 1, m + 1, by go_num, by omega, rfl⟩
          case measure => simp [intOf]; omega
      · rename_i hge
        obtain ⟨ad3, rfl, hc3⟩ := C8_cells (Kd.C_drewN HQ6.out (m + 1)) (by omega)
        obtain ⟨ad6, rfl, hc6⟩ := C8_cells (Kd.C_drewN HR6.out (m + 1)) (by rw [HL6.out.len]; omega)
        obtain ⟨xv, hxv⟩ : ∃ xv, xs.getD i 0 = xv := ⟨_, rfl⟩
        have h3 : (w6.drewN m).drew.cell? (ad3.add i) = some (.int .u8 xv) := by rw [← hxv]; exact hc3 i hlt
        have h6 : (w6.drewN m).drew.cell? (ad6.add i) = some (.int .u8 xv) := by rw [← hxv, ← HL6.out.out i hlt (by omega)]; exact hc6 i (by rw [HL6.out.len]; exact hlt)
        have hb0 : (0 : Int) ≤ (i : Int) := by omega
        have hb1 : (i : Int) < (xs.length : Int) := by omega
        clear hc3 hc6 hxv
        refine start_ (n := 13) (S := fun w' => w'.cell? (ad3.add i) = some (.int .u8 xv) ∧ w'.cell? (ad6.add i) = some (.int .u8 xv)) (ds := []) (bz 13 0) (by kernel_rfl) rfl rfl ⟨h3, h6⟩ (fun hHeld => ?_)
        refine pz 0 (some 88) (bz 13 1) ?_
        refine pz 1 (some 89) (bz 13 3) ?_
        refine pz 2 (some 90) (bz 13 7) ?_
        refine pz 3 (some 91) (bz 13 15) ?_
        refine pz 4 (some 92) (bz 13 31) ?_
        refine pz 5 (some 93) (bz 13 63) ?_
        refine pz 7 (some 95) (bz 13 191) ?_
        refine pz 8 (some 96) (bz 13 447) ?_
        refine pz 9 (some 97) (bz 13 959) ?_
        refine tz2 6 (some 94) (bz 13 1023) hHeld ?_
        refine tz2 10 (some 98) (bz 13 2047) hHeld ?_
        refine pz 11 (some 99) (bz 13 4095) ?_
        refine pz 12 (some 100) (bz 13 8191) ?_
        refine done_ (by kernel_rfl) ?_
        clear h3 h6 hb0 hb1
        go_wp2
        go_roundw
        case rel => exact ⟨i + 1, m + 1, by go_num, by omega, rfl⟩
        case measure => simp [intOf]; omega
    · obtain rfl : i = xs.length := by omega
      go_wp2_with (first | (go_at_call 13; (with_reducible refine (known_calls (HS6.out.glob.below (pw_below_drewN (Below.refl _ _) m))).mono ?_); rintro e w99 ⟨rfl, hb99⟩; have HB99 := Aside0.mk hb99; clear hb99))
      go_ret
      exact ⟨rfl, below_trans (HS6.out.b.trans (pw_below_drewN (Below.refl _ _) m)) HB99.out⟩

end Go.Proofs.YtmblnflfklmmkaaDoor.Sh
/- The laws' arguments, opened: bytes, choices, operations. -/
namespace Go.Proofs.YtmblnflfklmmkaaDoor.Dk
open Go.RowKit Go.Proofs.YtmblnflfklmmkaaDoorW.PrintWords Go.Proofs.YtmblnflfklmmkaaDoorW.PrintLast Go.Proofs.YtmblnflfklmmkaaDoorW.PrintMore
open Go.ChangeShapes Go.WideShapes
set_option linter.unusedVariables false
set_option linter.unusedSimpArgs false
set_option maxRecDepth 30000
variable {H : Type} {enc : TypeId × Value → H} {W : World}
theorem bytes5 : Tryd.prog.bytesOf 5 = 1 := by kernel_rfl
theorem bytes4 : Tryd.prog.bytesOf 4 = 1 := by kernel_rfl
theorem bytes37 : Tryd.prog.bytesOf 76 = 72 := by kernel_rfl
theorem cells37 : Tryd.prog.cellsOf 76 = 5 := by kernel_rfl
theorem open_by {fuel : Nat} {cs : List Value} {x : DataW H × List MemPlace} (h : DataW.trod enc Tryd.prog W 0 (fun _ => true) true fuel 22 cs = some x) (hw : ∀ n ∈ x.1.weights Tryd.prog 22, n ≤ reachBytes) :
    ∃ a c zs, cs = [.slice a zs.length c] ∧ zs.length ≤ c ∧ Kd.C (Kd.int .u8) W a zs.length zs ∧ zs.length ≤ 140737488351232 := by
  rcases open_ints Tryd.underlying22 Tryd.underlying5 (by kernel_rfl) h with ⟨rfl, _⟩ | ⟨a, len, cap, zs, rfl, _, hl, hm, hz, rfl, hc, hwf⟩
  · exact ⟨none, 0, [], rfl, Nat.le_refl _, Kd.C_nil _ _, by decide⟩
  · simp only [if_true] at hz
    have hlt : (zs.take len).length = len := by rw [List.length_take]; omega
    have hb : len ≤ 140737488351232 := by
      have h1 := hw (((lits (H := H) .u8 (zs.take len)).length + (lits (H := H) .u8 (zs.drop len)).length) * Tryd.prog.bytesOf 5) (by simp [DataW.weights, Tryd.underlying22])
      have h2 : (lits (H := H) .u8 (zs.take len)).length = len := by simp [lits]; omega
      rw [h2, bytes5] at h1
      have : reachBytes = 140737488351232 := rfl
      omega
    refine ⟨some a, cap, zs.take len, by rw [hlt], by omega, ⟨rfl, by omega, fun _ => ⟨a, rfl, fun j p hj => ?_⟩⟩, by omega⟩
    rw [List.getElem?_take] at hj
    split at hj
    · obtain ⟨hj1, rfl⟩ := List.getElem?_eq_some_iff.1 hj
      refine ⟨[.int .u8 zs[j]], rfl, rfl, fun i u hu => ?_⟩
      cases i with
      | zero =>
        simp only [List.getElem?_cons_zero, Option.some.injEq] at hu
        subst hu
        have := hc j hj1
        rw [List.getD_eq_getElem?_getD, hj] at this
        simpa [Kd.int, Kd.scalar] using this
      | succ i => simp at hu
    · cases hj
theorem open_ch {fuel : Nat} {cs : List Value} {x : DataW H × List MemPlace} (h : DataW.trod enc Tryd.prog W 0 (fun _ => true) true fuel 47 cs = some x) (hw : ∀ n ∈ x.1.weights Tryd.prog 47, n ≤ reachBytes) :
    ∃ a c zs, cs = [.slice a zs.length c] ∧ zs.length ≤ c ∧ Kd.C Kd.bool W a zs.length zs ∧ zs.length ≤ 140737488351232 := by
  rcases Go.Deep.open_bools Tryd.underlying47 Tryd.underlying4 (by kernel_rfl) h with ⟨rfl, _⟩ | ⟨a, len, cap, Bf, rfl, _, hl, hm, rfl, hc⟩
  · exact ⟨none, 0, [], rfl, Nat.le_refl _, Kd.C_nil _ _, by decide⟩
  · have hlt : ((List.range len).map Bf).length = len := by simp
    have hb : len ≤ 140737488351232 := by
      have h1 := hw ((len + (cap - len)) * Tryd.prog.bytesOf 4) (by simp [Go.Deep.boolRow, DataW.weights, Tryd.underlying47])
      rw [bytes4] at h1
      have : reachBytes = 140737488351232 := rfl
      omega
    have hmx : maxLen = 9223372036854775807 := by decide
    refine ⟨some a, cap, (List.range len).map Bf, by rw [hlt], by omega, ⟨rfl, by omega, fun _ => ⟨a, rfl, fun j p hj => ?_⟩⟩, by omega⟩
    obtain ⟨hj1, rfl⟩ := List.getElem?_eq_some_iff.1 hj
    rw [hlt] at hj1
    refine ⟨[.bool (Bf j)], rfl, by simp [Kd.bool, Kd.scalar], fun i u hu => ?_⟩
    cases i with
    | zero =>
      simp only [List.getElem?_cons_zero, Option.some.injEq] at hu
      subst hu
      have := hc j (by omega)
      simpa [Kd.bool, Kd.scalar] using this
    | succ i => simp at hu
theorem wf_i64 {n : Int} (h : (Lit.int .i64 n).wf = true) : -9223372036854775808 ≤ n ∧ n ≤ 9223372036854775807 := by
  have e1 : IntKind.i64.min = -9223372036854775808 := by decide
  have e2 : IntKind.i64.max = 9223372036854775807 := by decide
  simp [Lit.wf] at h
  omega
theorem open_op {fuel : Nat} {cs : List Value} {x : DataW H × List MemPlace} (h : DataW.trod enc Tryd.prog W 0 (fun _ => true) true fuel 76 cs = some x) (hw : ∀ n ∈ x.1.weights Tryd.prog 76, n ≤ reachBytes) : ∃ o, OpIs W o cs := by
  obtain ⟨xs, n, rfl, rfl, hl, hxl, hf⟩ := DataW.trod_struct Tryd.underlying76 h
  rw [cells37] at hl
  match cs, hl, xs, hxl with
  | [v0, v1, v2, v3, v4], _, [y0, y1, y2, y3, y4], _ =>
    have g0 := hf 0 _ rfl
    have g1 := hf 1 _ rfl
    have g2 := hf 2 _ rfl
    have g3 := hf 3 _ rfl
    have g4 := hf 4 _ rfl
    have c3 : Tryd.prog.cellsOf 3 = 1 := by kernel_rfl
    have c22 : Tryd.prog.cellsOf 22 = 1 := by kernel_rfl
    have c24 : Tryd.prog.cellsOf 47 = 1 := by kernel_rfl
    simp [c3, c22, c24] at g0 g1 g2 g3 g4
    obtain ⟨n0, e0, _, w0⟩ := DataW.trod_int Tryd.underlying3 g0
    obtain ⟨n1, e1, _, w1⟩ := DataW.trod_int Tryd.underlying3 g1
    obtain ⟨n2, e2, _, w2⟩ := DataW.trod_int Tryd.underlying3 g2
    have hw' : ∀ n ∈ DataW.weightsEach Tryd.prog [3, 3, 3, 22, 47] [y0.1, y1.1, y2.1, y3.1, y4.1], n ≤ reachBytes := fun n hn => hw n (by simpa [DataW.weights, Tryd.underlying76] using hn)
    obtain ⟨a3, k3, z3, e3, l3, C3, b3⟩ := open_by g3 (fun n hn => hw' n (by simp [DataW.weightsEach, hn]))
    obtain ⟨a4, k4, z4, e4, l4, C4, b4⟩ := open_ch g4 (fun n hn => hw' n (by simp [DataW.weightsEach, hn]))
    injection e0 with e0; injection e1 with e1; injection e2 with e2; injection e3 with e3; injection e4 with e4
    subst e0; subst e1; subst e2; subst e3; subst e4
    obtain ⟨p1, p2⟩ := wf_i64 w1
    obtain ⟨q1, q2⟩ := wf_i64 w2
    exact ⟨⟨n0, n1, n2, z3, z4⟩, a3, k3, a4, k4, rfl, l3, l4, C3, C4, b3, b4, p1, p2, q1, q2⟩
theorem weightsAll_mem {P : Program} {e : TypeId} : ∀ {l : List (DataW H)} {d : DataW H}, d ∈ l → ∀ n ∈ d.weights P e, n ∈ DataW.weightsAll P e l
  | [], _, h, _, _ => by cases h
  | d0 :: l, d, h, n, hn => by
    simp only [DataW.weightsAll, List.mem_append]
    rcases List.mem_cons.1 h with rfl | h
    · exact .inl hn
    · exact .inr (weightsAll_mem h n hn)
theorem open_ops {a : Option Addr} {len cap : Nat} {d : DataW H} {p : List MemPlace} (h : DataW.Trod enc Tryd.prog W 0 (fun _ => true) true 43 (.slice a len cap) d p) (hw : ∀ n ∈ d.weights Tryd.prog 43, n ≤ reachBytes) :
    ∃ l : List OpM, len = l.length ∧ Ops W a l ∧ l.length ≤ 140737488351232 := by
  obtain ⟨fuel, hf⟩ := h
  rcases Go.Deep.open_slice Tryd.underlying43 hf with ⟨hcs, _⟩ | ⟨a', len', cap', m, n, Df, Pl, hcs, _, hl, hm, hmm, hx, hi⟩
  · simp [Value.cells] at hcs
    obtain ⟨rfl, rfl, rfl⟩ := hcs
    exact ⟨[], rfl, ⟨rfl, by decide, fun h => absurd h (by decide)⟩, by decide⟩
  · simp [Value.cells] at hcs
    obtain ⟨rfl, rfl, rfl⟩ := hcs
    simp only [if_true] at hmm
    injection hx with hx _
    subst hx
    have hb : len ≤ 140737488351232 := by
      have h1 := hw ((((List.range len).map Df).length + ((List.range (m - len)).map fun j => Df (len + j)).length) * Tryd.prog.bytesOf 76) (by simp [DataW.weights, Tryd.underlying43])
      rw [bytes37] at h1
      simp only [List.length_map, List.length_range] at h1
      have : reachBytes = 140737488351232 := rfl
      omega
    have each : ∀ i, ∃ o : OpM, i < len → ∃ cs', OpIs W o cs' ∧ cs'.length = 5 ∧ ∀ j u, cs'[j]? = some u → W.cell? (a'.add (i * 5 + j)) = some u := by
      intro i
      by_cases hlt : i < len
      · obtain ⟨cs', h1, h2⟩ := hi i (by omega)
        rw [cells37] at h1
        obtain ⟨_, hcl, hcell⟩ := World.cells?_some h1
        obtain ⟨o, ho⟩ := open_op h2 (fun n hn => hw n (by
          simp only [DataW.weights, Tryd.underlying43, List.mem_cons, List.mem_append]
          exact .inr (.inl (weightsAll_mem (List.mem_map.2 ⟨i, List.mem_range.2 hlt, rfl⟩) n hn))))
        refine ⟨o, fun _ => ⟨cs', ho, hcl, fun j u hj => ?_⟩⟩
        have hj5 : j < 5 := by
          have := (List.getElem?_eq_some_iff.1 hj).1
          omega
        rw [← Addr.add_add, hcell j hj5, hj]
      · exact ⟨⟨0, 0, 0, [], []⟩, fun h => absurd h hlt⟩
    refine ⟨(List.range len).map (fun i => Classical.choose (each i)), by simp, ⟨rfl, by simp; omega, fun _ => ⟨a', rfl, fun j o hj => ?_⟩⟩, by simpa using hb⟩
    obtain ⟨hj1, rfl⟩ := List.getElem?_eq_some_iff.1 hj
    simp only [List.length_map, List.length_range] at hj1
    obtain ⟨cs', h1, h2, h3⟩ := Classical.choose_spec (each j) hj1
    exact ⟨cs', h2, by simpa using h1, h3⟩
end Go.Proofs.YtmblnflfklmmkaaDoor.Dk
/- The law StoreApart holds: called with any arguments that can be read, it returns true and leaves them as they were: the card, tied to the program's text. There is no further condition. -/
namespace Go.Proofs.YtmblnflfklmmkaaDoor.storeApart
open Go.ChangeShapes Go.WideShapes Go.ChangeAt Go.RowKit
open Go.ChangeMaps (open_string shut_string)
set_option linter.unusedVariables false
theorem own : ownKnob Tryd.prog.godebug = none := by kernel_rfl
theorem laidOut : laidOutB Tryd.prog = true := by kernel_rfl
set_option maxHeartbeats 8000000 in
set_option maxRecDepth 100000 in
theorem lifted (os : Os) (started : os.Started) (H : Type) (enc : TypeId × Value → H) :
    ReturnsInHanded {} Tryd.checked os 7 .any (fun w args => (Rows.storeApartSpec.pre enc Tryd.prog Tryd.f7 [] false w args ∧ laidMetH Tryd.prog Sh.laidTabs w) ∧ sizedMet enc Tryd.prog Tryd.f7 (OpenSpec.ofChange Rows.storeApartSpec) false w args) (Rows.storeApartSpec.post enc Tryd.prog Tryd.f7 false true false false) := by
  refine returnsInHanded_of_change_and (C := Tryd.checked) (X := fun w _ => laidMetH Tryd.prog Sh.laidTabs w) (fun _ _ _ hh h => h.of_heap hh) own started (by kernel_rfl) Tryd.func7
    (ChangeSpec.witness_shaped (enc := enc) (C := Tryd.checked) (os := os) (X := fun w _ => laidMetH Tryd.prog Sh.laidTabs w) false (World.doorLaid Tryd.prog 400 os) #[.slice none 0 0, .int .i64 0, .int .i64 0, .int .i64 0, .slice none 0 0, .slice none 0 0, .int .i64 0, .slice none 0 0] 8 rfl (World.shaped_of_RefB (by kernel_rfl) (by kernel_rfl)) (by kernel_rfl) (by kernel_rfl) (by kernel_rfl) (Sh.door_met os _)) ?_
  intro W base args ds gs before hval0 hW hcnd hsz0 hL _
  have hG := Sh.of_laid hL
  have hsz : (DataW.weightsEach Tryd.prog (Tryd.f7.params.toList ++ Rows.storeApartSpec.plain.varTypes Tryd.prog) (ds ++ gs)).all (· ≤ reachBytes) = true := hsz0
  have hval : ∀ (j : Nat) t v, Tryd.f7.params[j]? = some t → args[j]? = some v → Value.okWide Tryd.prog W .any base t v := hval0
  have hW' := hW
  obtain ⟨p, q, hA0, hV, rfl, hfz, hnd⟩ := hW
  have hA : DataW.TrodAll enc Tryd.prog W 0 (fun _ => true) true Tryd.f7.params.toList args.toList ds p := hA0
  rw [Tryd.params7] at hA hval hsz
  obtain ⟨v0, vs0, d0, ds0, p0, q0, hargs, rfl, rfl, h0, r0⟩ := trodAll_cons hA
  obtain ⟨v1, vs1, d1, ds1, p1, q1, rfl, rfl, rfl, h1, r1⟩ := trodAll_cons r0
  obtain ⟨v2, vs2, d2, ds2, p2, q2, rfl, rfl, rfl, h2, r2⟩ := trodAll_cons r1
  obtain ⟨v3, vs3, d3, ds3, p3, q3, rfl, rfl, rfl, h3, r3⟩ := trodAll_cons r2
  obtain ⟨v4, vs4, d4, ds4, p4, q4, rfl, rfl, rfl, h4, r4⟩ := trodAll_cons r3
  obtain ⟨v5, vs5, d5, ds5, p5, q5, rfl, rfl, rfl, h5, r5⟩ := trodAll_cons r4
  obtain ⟨v6, vs6, d6, ds6, p6, q6, rfl, rfl, rfl, h6, r6⟩ := trodAll_cons r5
  obtain ⟨v7, vs7, d7, ds7, p7, q7, rfl, rfl, rfl, h7, r7⟩ := trodAll_cons r6
  obtain ⟨rfl, rfl, rfl⟩ := trodAll_nil r7
  obtain rfl : args = #[v0, v1, v2, v3, v4, v5, v6, v7] := by cases args; simp_all
  obtain ⟨rfl, rfl⟩ := trodVars_none hV
  obtain ⟨a0, len0, cap0, rfl⟩ := okWide_slice Tryd.underlying22 (hval 0 22 v0 rfl rfl)
  have k0 := h0
  have lt0 : ∀ x ∈ p0, x.block < W.heap.size := by obtain ⟨m, hm⟩ := k0; exact DataW.trod_lt m _ _ _ hm
  obtain ⟨fu0, hf0⟩ := h0
  obtain ⟨b0, c0, z0, hcs0, hl0, hC0, hb0⟩ := Dk.open_by hf0 (fun n hn => by simpa using List.all_eq_true.1 hsz _ (DataW.weights_mem_each (j := 0) (t := 22) rfl rfl n hn))
  simp [Value.cells] at hcs0
  obtain ⟨rfl, rfl, rfl⟩ := hcs0
  obtain ⟨a1, rfl, rfl, rfl, w1⟩ := open_int Tryd.underlying3 (hval 1 3 v1 rfl rfl) h1
  obtain ⟨a2, rfl, rfl, rfl, w2⟩ := open_int Tryd.underlying3 (hval 2 3 v2 rfl rfl) h2
  obtain ⟨a3, rfl, rfl, rfl, w3⟩ := open_int Tryd.underlying3 (hval 3 3 v3 rfl rfl) h3
  obtain ⟨a4, len4, cap4, rfl⟩ := okWide_slice Tryd.underlying43 (hval 4 43 v4 rfl rfl)
  have k4 := h4
  have lt4 : ∀ x ∈ p4, x.block < W.heap.size := by obtain ⟨m, hm⟩ := k4; exact DataW.trod_lt m _ _ _ hm
  obtain ⟨z4, rfl, hO4, hb4⟩ := Dk.open_ops h4 (fun n hn => by simpa using List.all_eq_true.1 hsz _ (DataW.weights_mem_each (j := 4) (t := 43) rfl rfl n hn))
  obtain ⟨a5, len5, cap5, rfl⟩ := okWide_slice Tryd.underlying22 (hval 5 22 v5 rfl rfl)
  have k5 := h5
  have lt5 : ∀ x ∈ p5, x.block < W.heap.size := by obtain ⟨m, hm⟩ := k5; exact DataW.trod_lt m _ _ _ hm
  obtain ⟨fu5, hf5⟩ := h5
  obtain ⟨b5, c5, z5, hcs5, hl5, hC5, hb5⟩ := Dk.open_by hf5 (fun n hn => by simpa using List.all_eq_true.1 hsz _ (DataW.weights_mem_each (j := 5) (t := 22) rfl rfl n hn))
  simp [Value.cells] at hcs5
  obtain ⟨rfl, rfl, rfl⟩ := hcs5
  obtain ⟨a6, rfl, rfl, rfl, w6⟩ := open_int Tryd.underlying3 (hval 6 3 v6 rfl rfl) h6
  obtain ⟨a7, len7, cap7, rfl⟩ := okWide_slice Tryd.underlying47 (hval 7 47 v7 rfl rfl)
  have k7 := h7
  have lt7 : ∀ x ∈ p7, x.block < W.heap.size := by obtain ⟨m, hm⟩ := k7; exact DataW.trod_lt m _ _ _ hm
  obtain ⟨fu7, hf7⟩ := h7
  obtain ⟨b7, c7, z7, hcs7, hl7, hC7, hb7⟩ := Dk.open_ch hf7 (fun n hn => by simpa using List.all_eq_true.1 hsz _ (DataW.weights_mem_each (j := 7) (t := 47) rfl rfl n hn))
  simp [Value.cells] at hcs7
  obtain ⟨rfl, rfl, rfl⟩ := hcs7
  clear hA0 hval0 hsz0 hsz
  refine (Sh.StoreApart_calls hG a0 a4 a5 a7 cap0 cap4 cap5 cap7 z0 a1 a2 a3 z4 z5 a6 z7 hb0 hl0 hC0 hO4 hb4 hb5 hl5 hC5 hb7 hl7 hC7).mono fun e W' ⟨he, bel⟩ => ?_
  subst he
  exact ⟨_, rfl, _, _, _, [], _, [], hW', trodAll_mk1 (shut_bool Tryd.underlying4 _), (trodAll_cons_mk (Below.trod laidOut (by kernel_rfl) (of_decide_eq_true (by kernel_rfl)) k0 bel lt0) (trodAll_cons_mk (shut_int Tryd.underlying3 w1) (trodAll_cons_mk (shut_int Tryd.underlying3 w2) (trodAll_cons_mk (shut_int Tryd.underlying3 w3) (trodAll_cons_mk (Below.trod laidOut (by kernel_rfl) (of_decide_eq_true (by kernel_rfl)) k4 bel lt4) (trodAll_cons_mk (Below.trod laidOut (by kernel_rfl) (of_decide_eq_true (by kernel_rfl)) k5 bel lt5) (trodAll_cons_mk (shut_int Tryd.underlying3 w6) (trodAll_cons_mk (Below.trod laidOut (by kernel_rfl) (of_decide_eq_true (by kernel_rfl)) k7 bel lt7) trodAll_mk0)))))))), rfl, bel.frame _, fun h => by cases h⟩
theorem over : Rows.storeApartRow.holds Tryd.pinned (OpenSpec.ofChange Rows.storeApartSpec) :=
  OpenClaim.holds_of_wide 7 Tryd.f7 rfl rfl rfl rfl rfl rfl rfl ⟨rfl, rfl, rfl, rfl, rfl⟩ rfl rfl rfl rfl rfl (by kernel_rfl) Tryd.func7 (by kernel_rfl)
    (of_decide_eq_true (by kernel_rfl)) (by unfold Func.isWrapper; first | (rw [if_pos (by decide +kernel)]; kernel_rfl) | (rw [if_neg (by decide +kernel)]; exact ⟨rfl, rfl⟩))
    (fun os started H enc _ => lifted os started H enc)
theorem proved : Rows.StoreApartSaid := over
theorem card : Rows.StoreApartCardSaid :=
  Claim7.holds_tied_plain_at .later [] [.data, .data] true (true, "1bf893c75732d78a061eda9ea6a5001f97c392aa8da06d65870c8ce54a6f5033") false
    proved (fun _ h => by cases h) (by kernel_rfl) (fun _ h => by cases h) storeApart_row_tie rfl ⟨rfl, rfl⟩ (by kernel_rfl) rfl
    (fun f fn hf hfn => by
      obtain rfl : f = 7 := Option.some.inj ((show Tryd.prog.funcNamed "imprimatur/imprimaturlaw08.StoreApart" = some 7 by kernel_rfl).symm.trans hf) |>.symm
      obtain rfl : fn = Tryd.f7 := (Option.some.inj (Tryd.func7.symm.trans hfn)).symm
      exact ⟨by kernel_rfl, fun j t ht => by
        rw [Tryd.params7] at ht
        have hm : t ∈ [22, 3, 3, 3, 43, 22, 3, 47] := by simpa using Array.mem_of_getElem? ht
        have hall : ([22, 3, 3, 3, 43, 22, 3, 47].all fun u => !Tryd.prog.wantsStandIn u) = true := by kernel_rfl
        exact (show Tryd.prog.wantsStandIn t = false by simpa using List.all_eq_true.1 hall t hm)⟩)
    (by kernel_rfl)
#print axioms card
end Go.Proofs.YtmblnflfklmmkaaDoor.storeApart
namespace Go.Proofs.YtmblnflfklmmkaaDoor
/-- The statement, under a short name, for the claim. -/
theorem storeApart_holds : Rows.StoreApartCardSaid := storeApart.card
end Go.Proofs.YtmblnflfklmmkaaDoor
