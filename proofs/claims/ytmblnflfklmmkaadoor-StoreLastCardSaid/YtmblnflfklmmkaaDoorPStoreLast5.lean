/- StoreLast: the texts StH L8B L8C L8D PlU ScA SpA ShS SnL LwR LwZ LawStoreLast. -/
import Derived.Test.YtmblnflfklmmkaaDoorPStoreLast4
import Derived.Test.YtmblnflfklmmkaaDoorPStoreLast2
import Derived.Deep.Slices
import Derived.Deep.Grids
import Derived.Test.YtmblnflfklmmkaaDoorRows
import Derived.Test.YtmblnflfklmmkaaDoorCards
import Derived.Test.YtmblnflfklmmkaaDoorTie
import Derived.Test.YtmblnflfklmmkaaDoorPStoreLast1
import Derived.WalkKit
import Derived.ProofKit
import Derived.OpenShut
import Derived.ShutString
import Derived.ChangeOld
import Derived.Below
import Derived.SizedLaws
import Derived.SevenTiedAt
import Derived.LaidMore
import Derived.Stop.Joined
/- Stores of a law's own: the calls on them; the law's known. -/
namespace Go.Proofs.YtmblnflfklmmkaaDoor.Sh
open Go.Proofs.YtmblnflfklmmkaaDoor.Dk
open Go.RowKit Go.Proofs.YtmblnflfklmmkaaDoorW.PrintWords Go.Proofs.YtmblnflfklmmkaaDoorW.PrintLast Go.Proofs.YtmblnflfklmmkaaDoorW.PrintMore
set_option linter.unusedVariables false
set_option linter.unusedSimpArgs false
set_option maxRecDepth 30000
variable {w0 w w' W W' w1 w2 : World} {B s g : Nat} {F F' : Nat → Prop} {D D' : DM} {fr n : Int} {v : Value} {xs x : List Int}
theorem put3_hs {q : Int} {h : List Int} (hh : h.length = 64) : (put3 D q x h).1.held.length ≤ D.held.length + x.length + 128 ∧ (put3 D q x h).1.sec.length = D.sec.length := by
  have h1 := stepM_hs (D := D) q zer64
  rw [zer64_len] at h1
  have h2 := stepM_hs (D := (stepM D q zer64).1) (q + 1) x
  have h3 := stepM_hs (D := (stepM (stepM D q zer64).1 (q + 1) x).1) q h
  unfold put3
  split
  · exact ⟨by omega, h1.2⟩
  · split
    · exact ⟨by omega, h2.2.trans h1.2⟩
    · exact ⟨by omega, (h3.2.trans h2.2).trans h1.2⟩
theorem put3_ok {q : Int} {h : List Int} (hd : DOk D) (hh : h.length = 64) (hn : D.held.length + x.length + 128 ≤ 10000000) : DOk (put3 D q x h).1 := by
  have h1 := stepM_hs (D := D) q zer64
  rw [zer64_len] at h1
  have h2 := stepM_hs (D := (stepM D q zer64).1) (q + 1) x
  have k1 := stepM_ok (D := D) (k := q) (x := zer64) hd (by rw [zer64_len]; omega)
  have k2 := stepM_ok (D := (stepM D q zer64).1) (k := q + 1) (x := x) k1 (by omega)
  have k3 := stepM_ok (D := (stepM (stepM D q zer64).1 (q + 1) x).1) (k := q) (x := h) k2 (by omega)
  unfold put3
  split
  · exact k1
  · split
    · exact k2
    · exact k3
theorem putM_hs : (putM D fr n x).1.held.length ≤ D.held.length + x.length + 128 ∧ (putM D fr n x).1.sec.length = D.sec.length := by
  unfold putM
  split
  · exact ⟨by dsimp only; omega, rfl⟩
  · split
    · exact ⟨by dsimp only; omega, rfl⟩
    · split
      · exact ⟨by dsimp only; omega, rfl⟩
      · exact put3_hs (headM_length _ _)
theorem putM_ok (hd : DOk D) (hn : D.held.length + x.length + 128 ≤ 10000000) : DOk (putM D fr n x).1 := by
  unfold putM
  split
  · exact hd
  · split
    · exact hd
    · split
      · exact hd
      · exact put3_ok hd (headM_length _ _) hn
theorem SOk.dm (hk : SOk D fr n) (h : DOk D') (hl : D'.sec.length = D.sec.length) : SOk D' fr n := ⟨h, hk.hf, hk.hn, by rw [hl]; exact hk.hl, by rw [hl]; exact hk.hz⟩
/-- A store of the law's own, younger than w0. -/
structure Ss (w0 w : World) (s g : Nat) (F : Nat → Prop) (D : DM) (fr n : Int) : Prop where
  S : SAt w w0.heap.size s g F D fr n
  K : SOk D fr n
  G : Glob w0
  b : Below w0.heap.size w0 w
theorem Ss.glob (h : Ss w0 w s g F D fr n) : Glob w := h.G.below h.b
theorem Ss.notF (h : Ss w0 w s g F D fr n) : ¬ F 0 ∧ ¬ F 1 :=
  ⟨fun hf => by have := h.S.d.lo _ hf; have := h.G.lt; omega, fun hf => by have := h.S.d.lo _ hf; have := h.G.lt; omega⟩
theorem Ss.below (h : Ss w0 w s g F D fr n) (hb : Below w.heap.size w w') : Ss w0 w' s g F D fr n := ⟨h.S.below hb, h.K, h.G, below_trans h.b hb⟩
theorem Ss.st (h : Ss w0 w s g F D fr n) : St w0 w g F D := ⟨h.S.d, h.b⟩
/-- Rows of bytes that were there, and are no blocks of the disk's. -/
def Keeps (w w' : World) (F F' : Nat → Prop) : Prop := (∀ A xs, (C8 w A xs ∧ ∀ a, A = some a → a.block < w.heap.size ∧ ¬ F a.block) → C8 w' A xs ∧ ∀ a, A = some a → a.block < w'.heap.size ∧ ¬ F' a.block) ∧ (∀ v xs, Row w F v xs → Row w' F' v xs)
theorem Keeps.of (hF : ∀ k, F' k → F k ∨ w.heap.size ≤ k) (hu : Upd w w' F) : Keeps w w' F F' :=
  ⟨fun A xs ⟨h1, h2⟩ => ⟨h1.upd hu h2, fun a ha => ⟨Nat.lt_of_lt_of_le (h2 a ha).1 hu.size, fun hf => by
    have := h2 a ha
    rcases hF _ hf with h | h
    · exact this.2 h
    · omega⟩⟩, fun v xs h => h.post hF hu⟩
def SsPo (w0 w w' : World) (s g : Nat) (F : Nat → Prop) (D' : DM) (fr n : Int) : Prop := ∃ F', Ss w0 w' s g F' D' fr n ∧ Keeps w w' F F'
theorem Ss.po (h : Ss w0 w s g F D fr n) (hk : SOk D' fr n) (hp : SPo w w' w0.heap.size s g F D' fr n) : SsPo w0 w w' s g F D' fr n := by
  obtain ⟨F', hF, hs, hu⟩ := hp
  exact ⟨F', ⟨hs, hk, h.G, below_upd h.b hu h.S.d.lo⟩, .of hF hu⟩
/-- The calls, on such a store. -/
theorem ssGet (h : Ss w0 w s g F D fr n) : Calls Tryd.prog 8 #[.pointer (some ⟨s, 0, none⟩)] w fun e w' => GtPo w w' D fr n e := Get_calls h.glob h.S h.K
theorem ssNewest (h : Ss w0 w s g F D fr n) : Calls Tryd.prog 9 #[.pointer (some ⟨s, 0, none⟩)] w fun e w' => NwPo w w' D fr n e := Newest_calls h.glob h.S h.K
theorem ssRoom (h : Ss w0 w s g F D fr n) : Calls Tryd.prog 11 #[.pointer (some ⟨s, 0, none⟩)] w fun e w' => e = .returned (.int .i64 (64 * (n - 1))) ∧ w = w' := room_calls h.S h.K
theorem ssPut (h : Ss w0 w s g F D fr n) (hh : D.held.length ≤ 5000000) (A : Option Addr) (c : Nat) (x : List Int) (hx : x.length ≤ 20000) (hxc : x.length ≤ c) (hC : ∀ W, Upd w W F → C8 W A x) :
    Calls Tryd.prog 12 #[.pointer (some ⟨s, 0, none⟩), .slice A x.length c] w fun e w' => e = .returned (.int .i64 (putM D fr n x).2) ∧ SsPo w0 w w' s g F (putM D fr n x).1 fr n :=
  (Put_calls h.glob h.notF h.S h.K hh A c x hx hxc hC).mono fun e w' ⟨he, hp⟩ => ⟨he, h.po (h.K.dm (putM_ok h.K.d (by omega)) putM_hs.2) hp⟩
/-- What the law knows. -/
def nD0 : DM := newM [] 4 4
def nD1 : DM := (putM nD0 0 2 [1, 2, 3]).1
def nD2 : DM := (putM nD1 0 2 []).1
theorem nD0_calm : Dk.Calm nD0 := ⟨rfl, rfl⟩
theorem nD0_ok : SOk nD0 0 2 := ⟨newM_ok [] 4 (by decide), by decide, by decide, by decide, by decide⟩
theorem nD0_new : newestM nD0 0 2 = (-1, 0, []) := by
  have h0 : areaM nD0 0 2 0 = none := by unfold areaM; rw [if_pos (by decide)]
  have h1 : areaM nD0 0 2 1 = none := by unfold areaM; rw [if_pos (by decide)]
  unfold newestM
  rw [h0, h1]
  rfl
theorem nP1 : (putM nD0 0 2 [1, 2, 3]).2 = 0 ∧ Puts nD0 nD1 0 2 [1, 2, 3] := calm_put nD0_calm nD0_ok (by decide) (by decide) (by rw [nD0_new]; decide)
theorem nD1_new : newestM nD1 0 2 = (0, 1, [1, 2, 3]) := by
  have := nP1.2.new
  rw [nD0_new] at this
  exact this
theorem nP2 : (putM nD1 0 2 []).2 = 0 ∧ Puts nD1 nD2 0 2 [] := calm_put nP1.2.calm (nP1.2.sok nD0_ok) (by rw [nP1.2.held]; decide) (by decide) (by rw [nD1_new]; decide)
theorem nD2_new : newestM nD2 0 2 = (1, 2, []) := by
  have := nP2.2.new
  rw [nD1_new] at this
  exact this
theorem New4 : Calls Tryd.prog 15 #[.slice none 0 0, .int .i64 4] w fun e w' => ∃ g, e = .returned (.tuple #[.pointer (some ⟨g, 0, none⟩), .int .i64 0]) ∧ DiskAt w' w.heap.size g (fun k => w.heap.size ≤ k ∧ k < w'.heap.size) nD0 ∧ Below w.heap.size w w' :=
  New_calls none 0 [] 4 (by decide) (by decide) ⟨rfl, by decide, fun h => absurd h (by decide)⟩ (by unfold newBad; decide)
theorem nOpen (h : DiskAt w w0.heap.size g F nD0) (hg : Glob w0) (hb : Below w0.heap.size w0 w) : Calls Tryd.prog 10 #[.pointer (some ⟨g, 0, none⟩), .int .i64 0, .int .i64 2] w fun e w' => ∃ s, e = .returned (.tuple #[.pointer (some ⟨s, 0, none⟩), .int .i64 0]) ∧ Ss w0 w' s g F nD0 0 2 := by
  refine (Open_calls h (by decide) 0 2).mono ?_
  rintro e w' (⟨hn, _⟩ | ⟨_, s, rfl, hs, _, hb2⟩)
  · exact absurd (by decide) hn
  · exact ⟨s, rfl, hs, nD0_ok, hg, below_trans hb hb2⟩
theorem nGet (h : Ss w0 w s g F nD0 0 2) : Calls Tryd.prog 8 #[.pointer (some ⟨s, 0, none⟩)] w fun e w' => ∃ A c, e = .returned (.tuple #[.slice A 0 c, .int .i64 70]) ∧ Ss w0 w' s g F nD0 0 2 := by
  refine (ssGet h).mono ?_
  rintro e w' ⟨A, c, rfl, _, hb⟩
  have e1 : getE nD0 0 2 = 70 := by unfold getE; rw [nD0_new]; rfl
  have e2 : getR nD0 0 2 = [] := by unfold getR; rw [e1]; rfl
  rw [e1, e2]
  exact ⟨A, c, rfl, h.below hb⟩
theorem nNewest {a k : Int} {r : List Int} (h : Ss w0 w s g F D 0 2) (hd : Dk.Calm D) (hn : newestM D 0 2 = (a, k, r)) (ha : ¬ a < 0) : Calls Tryd.prog 9 #[.pointer (some ⟨s, 0, none⟩)] w fun e w' => e = .returned (.tuple #[.int .i64 a, .int .u64 k, .int .i64 0]) ∧ Ss w0 w' s g F D 0 2 := by
  refine (ssNewest h).mono ?_
  rintro e w' ⟨hb, rfl⟩
  rw [hn, hd.down, if_neg (by decide), if_neg ha]
  exact ⟨rfl, h.below hb⟩
theorem nPut1 (h : Ss w0 w s g F nD0 0 2) (hC : ∀ W, Upd w W F → C8 W (some ⟨B, 0, none⟩) [1, 2, 3]) : Calls Tryd.prog 12 #[.pointer (some ⟨s, 0, none⟩), .slice (some ⟨B, 0, none⟩) 3 3] w fun e w' => e = .returned (.int .i64 0) ∧ ∃ F', Ss w0 w' s g F' nD1 0 2 := by
  refine (ssPut h (by decide) (some ⟨B, 0, none⟩) 3 [1, 2, 3] (by decide) (by decide) hC).mono ?_
  rintro e w' ⟨rfl, F', hs, _⟩
  rw [nP1.1]
  exact ⟨rfl, F', hs⟩
theorem nPut2 (h : Ss w0 w s g F nD1 0 2) : Calls Tryd.prog 12 #[.pointer (some ⟨s, 0, none⟩), .slice none 0 0] w fun e w' => e = .returned (.int .i64 0) ∧ ∃ F', Ss w0 w' s g F' nD2 0 2 := by
  refine (ssPut h (by rw [nP1.2.held]; decide) none 0 [] (by decide) (by decide) (fun W _ => Kd.C_nil _ _)).mono ?_
  rintro e w' ⟨rfl, F', hs, _⟩
  rw [nP2.1]
  exact ⟨rfl, F', hs⟩
def Kn (w0 w' : World) (e : Ending) : Prop := e = .returned (.bool true) ∧ Below w0.heap.size w0 w'
set_option maxHeartbeats 16000000 in
theorem known_calls (hg : Glob w) : Calls Tryd.prog 13 #[] w fun e w' => Kn w w' e := by
  have HG := Aside0.mk hg
  clear hg
  go_enter Tryd.func13, Tryd.ntmps13
  go_wp2_with (first | (go_at_call 15; (with_reducible refine New4.mono ?_); rintro e w1 ⟨g, rfl, hd1, hb1⟩; have HD1 := Aside0.mk hd1; have HB1 := Aside0.mk hb1; clear hd1 hb1) | (go_at_call 10; (with_reducible refine (nOpen HD1.out HG.out HB1.out).mono ?_); rintro e w2 ⟨s, rfl, hs2⟩; have HS2 := Aside0.mk hs2; clear hs2) | (go_at_call 8; (with_reducible refine (nGet HS2.out).mono ?_); rintro e w3 ⟨A3, c3, rfl, hs3⟩; have HS3 := Aside0.mk hs3; clear hs3))
  have HS4 := Aside0.mk (HS3.out.below (below_alloc (Below.refl _ _) (.cells #[.int .u8 1, .int .u8 2, .int .u8 3] 5)))
  have HC4 := Aside0.mk (C8_young (q := w3.heap.size) (x := [1, 2, 3]) (t := 5) (w := w3.alloc (.cells #[.int .u8 1, .int .u8 2, .int .u8 3] 5)) (DiskAt.hi HS3.out.S.d) (heap_alloc_new w3 _) (by decide))
  go_wp2_with (first | (go_at_call 12; (with_reducible refine (nPut1 HS4.out HC4.out).mono ?_); rintro e w5 ⟨rfl, F5, hs5⟩; have HS5 := Aside0.mk hs5; clear hs5) | (go_at_call 9; (with_reducible refine (nNewest HS5.out nP1.2.calm nD1_new (by decide)).mono ?_); rintro e w6 ⟨rfl, hs6⟩; have HS6 := Aside0.mk hs6; clear hs6) | (go_at_call 12; (with_reducible refine (nPut2 HS6.out).mono ?_); rintro e w7 ⟨rfl, F7, hs7⟩; have HS7 := Aside0.mk hs7; clear hs7) | (go_at_call 9; (with_reducible refine (nNewest HS7.out nP2.2.calm nD2_new (by decide)).mono ?_); rintro e w8 ⟨rfl, hs8⟩; have HS8 := Aside0.mk hs8; clear hs8) | (go_at_call 11; (with_reducible refine (ssRoom HS8.out).mono ?_); rintro e w9 ⟨rfl, rfl⟩))
  go_ret
  exact ⟨rfl, HS8.out.b⟩
end Go.Proofs.YtmblnflfklmmkaaDoor.Sh
/- The law's plays. -/
namespace Go.Proofs.YtmblnflfklmmkaaDoor.Sh
open Go.Proofs.YtmblnflfklmmkaaDoor.Dk
open Go.RowKit Go.Proofs.YtmblnflfklmmkaaDoorW.PrintWords Go.Proofs.YtmblnflfklmmkaaDoorW.PrintLast Go.Proofs.YtmblnflfklmmkaaDoorW.PrintMore
set_option linter.unusedVariables false
set_option linter.unusedSimpArgs false
set_option maxRecDepth 30000
variable {w0 w w' W w1 w2 w3 : World} {s g t g2 : Nat} {F F2 : Nat → Prop} {D D' : DM} {R R' : RM} {fr n : Int}
/-- A store on a disk, and the document's store on the document's, beside each other; all is younger than w0. -/
structure Tri (w0 w : World) (s g : Nat) (F : Nat → Prop) (D : DM) (fr n : Int) (t g2 : Nat) (F2 : Nat → Prop) (R : RM) : Prop where
  S : SAt w w0.heap.size s g F D fr n
  T : TAt w w0.heap.size t g2 F2 R fr n
  ap : ∀ k, F k → ¬ F2 k
  sF : ¬ F2 s
  tF : ¬ F t
  G : Glob w0
  b : Below w0.heap.size w0 w
theorem Tri.below (h : Tri w0 w s g F D fr n t g2 F2 R) (hb : Below w.heap.size w w1) : Tri w0 w1 s g F D fr n t g2 F2 R := ⟨h.S.below hb, h.T.below hb, h.ap, h.sF, h.tF, h.G, below_trans h.b hb⟩
theorem TAt.upd {G : Nat → Prop} (h : TAt w w0.heap.size t g2 F2 R fr n) (hu : Upd w w1 G) (hd : ∀ k, F2 k → ¬ G k) (hG : ∀ k, G k → w0.heap.size ≤ k) (ht : ¬ G t) : TAt w1 w0.heap.size t g2 F2 R fr n := ⟨(hu.block t (blk_lt h.blk) ht).trans h.blk, h.r.frame hu hd hG, h.nF⟩
theorem SAt.upd {G : Nat → Prop} (h : SAt w w0.heap.size s g F D fr n) (hu : Upd w w1 G) (hd : ∀ k, F k → ¬ G k) (hs : ¬ G s) : SAt w1 w0.heap.size s g F D fr n := ⟨(hu.block s (blk_lt h.blk) hs).trans h.blk, h.d.frame hu (fun k _ => hd k), h.nF⟩
end Go.Proofs.YtmblnflfklmmkaaDoor.Sh
/- The law's both and made. -/
namespace Go.Proofs.YtmblnflfklmmkaaDoor.Sh
open Go.Proofs.YtmblnflfklmmkaaDoor.Dk
open Go.RowKit Go.Proofs.YtmblnflfklmmkaaDoorW.PrintWords Go.Proofs.YtmblnflfklmmkaaDoorW.PrintLast Go.Proofs.YtmblnflfklmmkaaDoorW.PrintMore
set_option linter.unusedVariables false
set_option linter.unusedSimpArgs false
set_option maxRecDepth 30000
variable {w0 w w' W w1 w2 w3 : World} {s g t g2 : Nat} {F F2 : Nat → Prop} {D D' : DM} {R R' : RM} {fr n : Int}
end Go.Proofs.YtmblnflfklmmkaaDoor.Sh
/- The law's made. -/
namespace Go.Proofs.YtmblnflfklmmkaaDoor.Sh
open Go.Proofs.YtmblnflfklmmkaaDoor.Dk
open Go.RowKit Go.Proofs.YtmblnflfklmmkaaDoorW.PrintWords Go.Proofs.YtmblnflfklmmkaaDoorW.PrintLast Go.Proofs.YtmblnflfklmmkaaDoorW.PrintMore
set_option linter.unusedVariables false
set_option linter.unusedSimpArgs false
set_option maxRecDepth 30000
variable {w0 w w' W w1 w2 w3 : World} {s g t g2 : Nat} {F F2 : Nat → Prop} {D D' : DM} {R R' : RM} {fr n : Int}
end Go.Proofs.YtmblnflfklmmkaaDoor.Sh
/- Plain facts about stores: a Put whose power may go, and what no Put touches. -/
namespace Go.Proofs.YtmblnflfklmmkaaDoor.Sh
open Go.Proofs.YtmblnflfklmmkaaDoor.Dk
open Go.RowKit Go.Proofs.YtmblnflfklmmkaaDoorW.PrintWords Go.Proofs.YtmblnflfklmmkaaDoorW.PrintLast Go.Proofs.YtmblnflfklmmkaaDoorW.PrintMore
set_option linter.unusedVariables false
set_option linter.unusedSimpArgs false
set_option maxRecDepth 30000
variable {D D0 D1 D' : DM} {fr n q k g lo hi : Int} {x y b h : List Int}
theorem goes_same (D : DM) : (goesM D).1.sec = D.sec ∧ (goesM D).1.held = D.held ∧ (goesM D).1.down = D.down := by
  unfold goesM
  split
  · exact ⟨rfl, rfl, rfl⟩
  · split <;> exact ⟨rfl, rfl, rfl⟩
theorem lose_same (l : List Bool) (hd : D.down = false) : (loseM l D).down = true ∧ (loseM l D).held = [] ∧ ∃ keep, (loseM l D).sec = putsTo keep D.held D.sec D.held.length := by
  unfold loseM
  rw [hd, if_neg (by decide)]
  exact ⟨rfl, rfl, _, rfl⟩
theorem puts_each (keep : Nat → Bool) (H : List (Int × List Int)) (S : List (List Int)) (j : Nat) (hH : ∀ h ∈ H, 0 ≤ h.1) : ∀ n, n ≤ H.length → (putsTo keep H S n).getD j [] = S.getD j [] ∨ ∃ h ∈ H, h.1 = (j : Int) ∧ (putsTo keep H S n).getD j [] = h.2
  | 0, _ => .inl rfl
  | n + 1, hn => by
    have hm : H.getD n (0, []) ∈ H := by rw [List.getD_eq_getElem?_getD, List.getElem?_eq_getElem (by omega)]; exact List.getElem_mem (by omega)
    have ih := puts_each keep H S j hH n (by omega)
    rw [putsTo]
    cases keep n with
    | false => rw [if_neg (by decide)]; exact ih
    | true =>
      rw [if_pos rfl]
      by_cases hj : (H.getD n (0, [])).1.toNat = j
      · by_cases hs : j < (putsTo keep H S n).length
        · refine .inr ⟨_, hm, by have := hH _ hm; omega, ?_⟩
          rw [List.getD_eq_getElem?_getD, List.getElem?_set, if_pos hj, if_pos (by omega)]
          rfl
        · rw [List.getD_eq_getElem?_getD, List.getElem?_set, if_pos hj, if_neg (by omega)]
          refine .inl ?_
          rw [putsTo_length] at hs
          rw [List.getD_eq_getElem?_getD, List.getElem?_eq_none (by omega)]
      · rw [List.getD_eq_getElem?_getD, List.getElem?_set, if_neg hj, ← List.getD_eq_getElem?_getD]
        exact ih
/-! ### What no Put touches -/
structure Apt (D D' : DM) (lo hi : Int) : Prop where
  low : 0 ≤ lo
  len : D'.sec.length = D.sec.length
  out : ∀ j : Nat, ((j : Int) < lo ∨ hi ≤ (j : Int)) → D'.sec.getD j [] = D.sec.getD j []
  held : ∀ h ∈ D'.held, lo ≤ h.1 ∧ h.1 < hi
theorem Apt.puts (h : Apt D0 D lo hi) (keep : Nat → Bool) {D' : DM} (hs : D'.sec = putsTo keep D.held D.sec D.held.length) (hh : D'.held = []) : Apt D0 D' lo hi := by
  refine ⟨h.low, by rw [hs, putsTo_length, h.len], fun j hj => ?_, by rw [hh]; intro h hh; cases hh⟩
  rw [hs]
  rcases puts_each keep D.held D.sec j (fun y hy => by have := h.held y hy; have := h.low; omega) _ (Nat.le_refl _) with e | ⟨y, hy, h1, _⟩
  · rw [e]; exact h.out j hj
  · have := h.held y hy
    omega
theorem Apt.same (h : Apt D0 D lo hi) (hs : D'.sec = D.sec) (hh : D'.held = D.held) : Apt D0 D' lo hi := ⟨h.low, by rw [hs, h.len], by rw [hs]; exact h.out, by rw [hh]; exact h.held⟩
theorem Apt.goes (h : Apt D0 D lo hi) : Apt D0 (goesM D).1 lo hi := h.same (goes_same D).1 (goes_same D).2.1
theorem Apt.lose (h : Apt D0 D lo hi) (l : List Bool) : Apt D0 (loseM l D) lo hi := by
  cases hd : D.down with
  | true => unfold loseM; rw [if_pos hd]; exact h
  | false => obtain ⟨_, h2, keep, h3⟩ := lose_same l hd; exact h.puts keep h3 h2
theorem Apt.write (h : Apt D0 D lo hi) (h0 : lo ≤ k) (h1 : k < hi) : Apt D0 (writeM D k x).1 lo hi := by
  unfold writeM
  split
  · exact h
  split
  · exact h
  have hq : Apt D0 (holdM D k x) lo hi := ⟨h.low, h.len, h.out, fun y hy => by
    simp only [holdM, List.mem_append, List.mem_singleton] at hy
    rcases hy with hy | rfl
    · exact h.held y hy
    · exact ⟨h0, h1⟩⟩
  split
  · exact hq.goes.lose _
  · exact hq.goes
theorem Apt.flush (h : Apt D0 D lo hi) : Apt D0 (flushM D).1 lo hi := by
  unfold flushM
  split
  · exact h
  split
  · exact h.goes.lose _
  · exact h.goes.puts _ rfl rfl
theorem Apt.saveFrom (x : List Int) (q : Int) : ∀ (m i : Nat) (D : DM), Apt D0 D lo hi → lo ≤ q → q + i + m ≤ hi → Apt D0 (saveFrom x q m i D).1 lo hi
  | 0, _, _, h, _, _ => h
  | m + 1, i, D, h, h0, h1 => by
    rw [Dk.saveFrom]
    split
    · exact h.write (by omega) (by omega)
    · exact Apt.saveFrom x q m (i + 1) _ (h.write (by omega) (by omega)) h0 (by omega)
theorem Apt.step (h : Apt D0 D lo hi) (h0 : lo ≤ q) (h1 : q + (secN x : Nat) ≤ hi) : Apt D0 (stepM D q x).1 lo hi := by
  have hs : Apt D0 (saveM D q x).1 lo hi := by
    unfold saveM
    split
    · exact h
    · exact Apt.saveFrom x q _ 0 D h h0 (by unfold secN at h1; omega)
  unfold stepM
  split
  · exact hs
  · exact hs.flush
theorem Apt.put (hk : SOk D fr n) (h : Apt D0 D fr (fr + 2 * n)) : Apt D0 (putM D fr n x).1 fr (fr + 2 * n) := by
  have hn := hk.hn
  unfold putM
  split
  · exact h
  split
  · exact h
  split
  · exact h
  have hat := newest_at (D := D) (fr := fr) (n := n)
  have hom : otherM (newestM D fr n).1 = 0 ∨ otherM (newestM D fr n).1 = 1 := by unfold otherM; split <;> simp
  have hon : 0 ≤ otherM (newestM D fr n).1 * n ∧ otherM (newestM D fr n).1 * n ≤ n := by rcases hom with h | h <;> rw [h] <;> omega
  have hsx : (secN x : Int) ≤ n - 1 := by unfold secN; omega
  rw [toM_eq]
  have z1 : secN zer64 = 1 := secN_64 zer64_len
  have a := h.step (q := fr + otherM (newestM D fr n).1 * n) (x := zer64) (by omega) (by rw [z1]; omega)
  unfold put3
  split
  · exact a
  have b := a.step (q := fr + otherM (newestM D fr n).1 * n + 1) (x := x) (by omega) (by omega)
  split
  · exact b
  · exact b.step (by omega) (by rw [secN_64 (headM_length _ _)]; omega)
theorem Apt.refl (D : DM) (h0 : 0 ≤ lo) (hh : D.held = []) : Apt D D lo hi := ⟨h0, rfl, fun _ _ => rfl, by rw [hh]; intro h hh; cases hh⟩
/-! ### A Put whose power may go -/
theorem read_sec (hh : D.held = []) (k : Int) : readM D k = D.sec.getD k.toNat [] := by
  unfold readM
  rw [hh]
  rfl
theorem area_zero (h : readM D (fr + k * n) = zer64) : areaM D fr n k = none := by
  unfold areaM
  rw [h, if_pos (by rfl)]
end Go.Proofs.YtmblnflfklmmkaaDoor.Sh
/- The law StoreCrash. -/
namespace Go.Proofs.YtmblnflfklmmkaaDoor.Sh
open Go.Proofs.YtmblnflfklmmkaaDoor.Dk
open Go.RowKit Go.Proofs.YtmblnflfklmmkaaDoorW.PrintWords Go.Proofs.YtmblnflfklmmkaaDoorW.PrintLast Go.Proofs.YtmblnflfklmmkaaDoorW.PrintMore
set_option linter.unusedVariables false
set_option linter.unusedSimpArgs false
set_option maxRecDepth 30000
variable {w0 w w' W w1 w2 w3 : World} {s g t g2 : Nat} {F F' F2 : Nat → Prop} {D D' : DM} {R R' : RM} {fr n k : Int} {x r : List Int}
/-- Bytes that lie apart from a store. -/
def CF (w : World) (F : Nat → Prop) (A : Option Addr) (xs : List Int) : Prop := C8 w A xs ∧ ∀ a, A = some a → a.block < w.heap.size ∧ ¬ F a.block
theorem CF.c {A : Option Addr} {xs : List Int} (h : CF w F A xs) : C8 w A xs := h.1
theorem CF.keeps {A : Option Addr} {xs : List Int} (h : CF w F A xs) (hk : Keeps w w' F F') : CF w' F' A xs := hk.1 A xs h
theorem keeps_below (hb : Below w.heap.size w w') : Keeps w w' F F := .of (fun k hk => .inl hk) (Upd.of_below hb)
def gE (st : Int × Int × List Int) : Int := if st.1 < 0 then 70 else 0
def gR (st : Int × Int × List Int) : List Int := if st.1 < 0 then [] else st.2.2
/-- What a Get tells of a store that is up. -/
theorem ss_get (h : Ss w0 w s g F D fr n) (hd : D.down = false) : Calls Tryd.prog 8 #[.pointer (some ⟨s, 0, none⟩)] w fun e w' => ∃ A c r E, e = .returned (.tuple #[.slice A r.length c, .int .i64 E]) ∧ r = gR (newestM D fr n) ∧ E = gE (newestM D fr n) ∧ CF w' F A r ∧ Ss w0 w' s g F D fr n ∧ Keeps w w' F F := by
  have he : getE D fr n = gE (newestM D fr n) := by unfold getE gE; rw [hd, if_neg (by decide)]
  have hr : getR D fr n = gR (newestM D fr n) := by
    unfold getR gR
    rw [he]
    unfold gE
    split <;> simp_all
  refine (ssGet h).mono ?_
  rintro e w' ⟨A, c, rfl, hf, hb⟩
  exact ⟨A, c, _, _, rfl, hr, he, ⟨hf.C, fun a ha => ⟨(hf.own a ha).2, fun hF => by have := (hf.own a ha).1; have := h.S.d.lt _ hF; omega⟩⟩, h.below hb, keeps_below hb⟩
end Go.Proofs.YtmblnflfklmmkaaDoor.Sh
/- The law StoreApart. -/
namespace Go.Proofs.YtmblnflfklmmkaaDoor.Sh
open Go.Proofs.YtmblnflfklmmkaaDoor.Dk
open Go.RowKit Go.Proofs.YtmblnflfklmmkaaDoorW.PrintWords Go.Proofs.YtmblnflfklmmkaaDoorW.PrintLast Go.Proofs.YtmblnflfklmmkaaDoorW.PrintMore
set_option linter.unusedVariables false
set_option linter.unusedSimpArgs false
set_option maxRecDepth 30000
variable {w0 w w' W w1 w2 w3 : World} {s g t g2 : Nat} {F F' F2 : Nat → Prop} {D D' : DM} {R R' : RM} {fr n k : Int} {x r xs ys : List Int}
theorem ss_bytes (h : Ss w0 w s g F D fr n) : Calls Tryd.prog 17 #[.pointer (some ⟨g, 0, none⟩)] w fun e w' => ∃ A c xs, e = .returned (.slice A xs.length c) ∧ xs = bytesM D ∧ Row w' F (.slice A xs.length c) xs ∧ Ss w0 w' s g F D fr n ∧ Keeps w w' F F := by
  refine (sBytes (w0 := w0) ⟨h.S.d, h.b⟩ h.K.d).mono ?_
  rintro e w' ⟨A, c, rfl, hr, hb⟩
  exact ⟨A, c, _, rfl, rfl, hr, h.below hb, keeps_below hb⟩
end Go.Proofs.YtmblnflfklmmkaaDoor.Sh
/- Plain facts: the program's digest of bytes is the reference's. -/
namespace Go.Proofs.YtmblnflfklmmkaaDoor.Sh
open Go.Proofs.YtmblnflfklmmkaaDoor.Dk Go.Proofs.YtmblnflfklmmkaaDoor.P
open Go.RowKit Go.Proofs.YtmblnflfklmmkaaDoorW.PrintWords Go.Proofs.YtmblnflfklmmkaaDoorW.PrintLast Go.Proofs.YtmblnflfklmmkaaDoorW.PrintMore
set_option linter.unusedVariables false
set_option linter.unusedSimpArgs false
set_option maxRecDepth 30000
def AllB (l : List Int) : Prop := ∀ x ∈ l, 0 ≤ x ∧ x ≤ 255
theorem AllB.get {l : List Int} (h : AllB l) (i : Nat) : 0 ≤ l.getD i 0 ∧ l.getD i 0 ≤ 255 := by
  rw [List.getD_eq_getElem?_getD]
  cases hx : l[i]? with
  | none => exact ⟨by decide, by decide⟩
  | some x => exact h x (List.mem_of_getElem? hx)
theorem AllB.take {l : List Int} (h : AllB l) (n : Nat) : AllB (l.take n) := fun x hx => h x (List.mem_of_mem_take hx)
theorem AllB.drop {l : List Int} (h : AllB l) (n : Nat) : AllB (l.drop n) := fun x hx => h x (List.mem_of_mem_drop hx)
theorem AllB.app {l m : List Int} (h : AllB l) (h2 : AllB m) : AllB (l ++ m) := fun x hx => (List.mem_append.1 hx).elim (h x) (h2 x)
theorem beM_B : ∀ (m : Nat) (n : Int), AllB (beM m n)
  | 0, n => by rw [beM]; intro x hx; cases hx
  | m + 1, n => by
    rw [beM]
    refine (beM_B m _).app (fun x hx => ?_)
    rw [List.mem_singleton] at hx
    omega
theorem zeros_B (n : Nat) : AllB (List.replicate n 0) := fun x hx => by
  rw [(List.mem_replicate.1 hx).2]
  exact ⟨by decide, by decide⟩
theorem padM_B (n : Nat) : AllB (padM n) := by
  rw [padM_eq]
  refine (AllB.app ?_ (zeros_B _)).app (beM_B _ _)
  intro x hx
  rw [List.mem_singleton] at hx
  omega
/-! ### Words of a block -/
theorem in1_eq {x c : Int} (h0 : 0 ≤ x) (h1 : x < 16777216) (c0 : 0 ≤ c) (c1 : c ≤ 255) : in1 x c = x * 256 + c := by
  obtain ⟨a, rfl⟩ := Int.eq_ofNat_of_zero_le h0
  obtain ⟨c, rfl⟩ := Int.eq_ofNat_of_zero_le c0
  have e1 : (a : Int) * 256 % 4294967296 = ((a * 256 : Nat) : Int) := by omega
  have e2 : (c : Int) % 4294967296 = (c : Int) := by omega
  have hor : (a * 256) ||| c = a * 256 + c := by
    have := Nat.shiftLeft_add_eq_or_of_lt (b := c) (i := 8) (by omega) a
    rw [Nat.shiftLeft_eq] at this
    exact this.symm
  unfold in1
  rw [e1, e2, u32_or_nat _ _ (by omega) (by omega), hor]
  omega
theorem inU_eq {x c : Int} (h0 : 0 ≤ x) (h1 : x < 16777216) (c0 : 0 ≤ c) (c1 : c ≤ 255) : inU x c = x * 256 + c := by
  unfold inU
  rw [wrap64u, wrap64u, wrap64u]
  omega
def inV (b : List Int) (t : Nat) (x : Int) : Nat → Int
  | 0 => x
  | j + 1 => in1 (inV b t x j) (b.getD (t * 4 + j) 0)
theorem inR_eq (b : List Int) (t : Nat) (xs : List Int) (ht : t < xs.length) : ∀ j, inR b t xs j = xs.set t (inV b t (xs.getD t 0) j)
  | 0 => by
    rw [inR, inV, List.getD_eq_getElem?_getD, List.getElem?_eq_getElem ht, Option.getD_some, List.set_getElem_self]
  | j + 1 => by
    have e : (xs.set t (inV b t (xs.getD t 0) j)).getD t 0 = inV b t (xs.getD t 0) j := by
      rw [List.getD_eq_getElem?_getD, List.getElem?_set, if_pos rfl, if_pos ht]
      rfl
    rw [inR, inR_eq b t xs ht j, e, List.set_set, inV]
theorem inV_w4 {b : List Int} (hb : AllB b) (t : Nat) : inV b t 0 4 = w4R b t ∧ W32 (w4R b t) := by
  have b0 := hb.get (t * 4)
  have b1 := hb.get (t * 4 + 1)
  have b2 := hb.get (t * 4 + 2)
  have b3 := hb.get (t * 4 + 3)
  have e1 : inV b t 0 4 = in1 (in1 (in1 (in1 0 (b.getD (t * 4) 0)) (b.getD (t * 4 + 1) 0)) (b.getD (t * 4 + 2) 0)) (b.getD (t * 4 + 3) 0) := rfl
  unfold w4R
  rw [e1]
  generalize b.getD (t * 4) 0 = y0 at b0 ⊢
  generalize b.getD (t * 4 + 1) 0 = y1 at b1 ⊢
  generalize b.getD (t * 4 + 2) 0 = y2 at b2 ⊢
  generalize b.getD (t * 4 + 3) 0 = y3 at b3 ⊢
  rw [in1_eq (by decide) (by decide) b0.1 b0.2, in1_eq (by omega) (by omega) b1.1 b1.2, in1_eq (by omega) (by omega) b2.1 b2.2, in1_eq (by omega) (by omega) b3.1 b3.2]
  rw [inU_eq (by decide) (by decide) b0.1 b0.2, inU_eq (by omega) (by omega) b1.1 b1.2, inU_eq (by omega) (by omega) b2.1 b2.2, inU_eq (by omega) (by omega) b3.1 b3.2]
  exact ⟨rfl, by constructor <;> omega⟩
theorem set_next (l : List Int) (n : Nat) (t : Nat) (hl : l.length = t) (x : Int) : (l ++ List.replicate (n + 1) 0).set t x = (l ++ [x]) ++ List.replicate n 0 := by
  rw [List.set_append_right _ _ (by omega), hl, Nat.sub_self, List.replicate_succ, List.set_cons_zero, List.append_assoc]
  rfl
theorem wordsA_eq {b : List Int} (hb : AllB b) : ∀ t, t ≤ 16 → wordsA b t = expR b t ++ List.replicate (80 - t) 0
  | 0, _ => rfl
  | t + 1, ht => by
    have hl := expR_length b t
    have e0 : (expR b t ++ List.replicate (80 - t) (0 : Int)).getD t 0 = 0 := by
      rw [List.getD_eq_getElem?_getD, List.getElem?_append_right (by omega), List.getElem?_replicate]
      split <;> rfl
    rw [wordsA, wordsA_eq hb t (by omega), inR_eq _ _ _ (by rw [List.length_append, hl, List.length_replicate]; omega), e0, (inV_w4 hb t).1, show 80 - t = (80 - (t + 1)) + 1 by omega, set_next _ _ _ hl, expR, if_pos (by omega)]
theorem small_same {x a b c : Int} (hx : W32 x) (a0 : 0 ≤ a) (a1 : a ≤ 32) (b0 : 0 ≤ b) (b1 : b ≤ 32) (c0 : 0 ≤ c) (c1 : c ≤ 32) : smallR x a b c = smallM x a b c :=
  Option.some.inj ((small_some x a0 a1 b0 b1 c0).symm.trans (ref_small hx a0 a1 b0 b1 c0 c1))
theorem AllW.snoc {l : List Int} {x : Int} (h : ∀ y ∈ l, W32 y) (hx : W32 x) : ∀ y ∈ l ++ [x], W32 y := fun y hy => by
  rcases List.mem_append.1 hy with h' | h'
  · exact h y h'
  · rw [List.mem_singleton] at h'
    rw [h']
    exact hx
theorem nxt_same {l : List Int} (hl : AllW l) (t : Nat) : nxtR l t = mixW (l.getD (t - 16) 0) (l.getD (t - 15) 0) (l.getD (t - 7) 0) (l.getD (t - 2) 0) ∧ W32 (nxtR l t) := by
  unfold nxtR mixW
  rw [small_same (hl _) (by decide) (by decide) (by decide) (by decide) (by decide) (by decide), small_same (hl _) (by decide) (by decide) (by decide) (by decide) (by decide) (by decide)]
  have s15 := smallM_W (l.getD (t - 15) 0) 7 18 3
  have s2 := smallM_W (l.getD (t - 2) 0) 17 19 10
  have x16 := hl (t - 16)
  have x7 := hl (t - 7)
  generalize smallM (l.getD (t - 15) 0) 7 18 3 = a at s15 ⊢
  generalize smallM (l.getD (t - 2) 0) 17 19 10 = b at s2 ⊢
  generalize l.getD (t - 16) 0 = c at x16 ⊢
  generalize l.getD (t - 7) 0 = d at x7 ⊢
  obtain ⟨a0, a1⟩ := s15
  obtain ⟨b0, b1⟩ := s2
  obtain ⟨c0, c1⟩ := x16
  obtain ⟨d0, d1⟩ := x7
  rw [wrap64u, wrap64u, wrap64u, wrap32, wrap32, wrap32, Int.tmod_eq_emod_of_nonneg (by omega)]
  exact ⟨by omega, by constructor <;> omega⟩
theorem exp_W {b : List Int} (hb : AllB b) : ∀ t, ∀ y ∈ expR b t, W32 y
  | 0 => fun y hy => by cases hy
  | t + 1 => by
    have ih := exp_W hb t
    rw [expR]
    refine AllW.snoc ih ?_
    split
    · exact (inV_w4 hb t).2
    · exact (nxt_same (AllW.of ih) t).2
theorem getD_left {l m : List Int} {i : Nat} (h : i < l.length) : (l ++ m).getD i 0 = l.getD i 0 := by
  rw [List.getD_eq_getElem?_getD, List.getElem?_append_left h, ← List.getD_eq_getElem?_getD]
theorem wordsB_eq {b : List Int} (hb : AllB b) : ∀ k, k ≤ 48 → wordsB b k = expR b (16 + k) ++ List.replicate (64 - k) 0
  | 0, _ => wordsA_eq hb 16 (by decide)
  | k + 1, hk => by
    have hl := expR_length b (16 + k)
    have hw := nxt_same (AllW.of (exp_W hb (16 + k))) (16 + k)
    rw [wordsB, wordsB_eq hb k (by omega), getD_left (by omega), getD_left (by omega), getD_left (by omega), getD_left (by omega)]
    rw [show 16 + k - 16 = k by omega, show 16 + k - 15 = k + 1 by omega, show 16 + k - 7 = k + 9 by omega, show 16 + k - 2 = k + 14 by omega] at hw
    rw [← hw.1, show k + 16 = 16 + k by omega, show 64 - k = (64 - (k + 1)) + 1 by omega, set_next _ _ _ hl, show 16 + (k + 1) = (16 + k) + 1 by omega, expR, if_neg (by omega)]
theorem words_same {b : List Int} (hb : AllB b) (i : Nat) (hi : i < 64) : (wordsM b).getD i 0 = (expR b 64).getD i 0 := by
  unfold wordsM
  rw [wordsB_eq hb 48 (by decide)]
  exact getD_left (by rw [expR_length]; omega)
/-! ### Rounds and blocks -/
theorem roundM_W {v : List Int} (hv : AllW v) (k x : Int) : AllW (roundM v k x) := AllW.of fun y hy => by
  unfold roundM at hy
  simp only [List.mem_cons, List.not_mem_nil, or_false] at hy
  rcases hy with rfl | rfl | rfl | rfl | rfl | rfl | rfl | rfl
  · exact .mod _
  · exact hv 0
  · exact hv 1
  · exact hv 2
  · exact .mod _
  · exact hv 4
  · exact hv 5
  · exact hv 6
theorem rounds_same {h ws ws' : List Int} (hh : AllW h) (hl : h.length = 8) (hw : AllW ws') (he : ∀ i, i < 64 → ws.getD i 0 = ws'.getD i 0) : ∀ t, t ≤ 64 → roundsM h ws t = roundsR h ws' t ∧ AllW (roundsR h ws' t)
  | 0, _ => ⟨rfl, hh⟩
  | t + 1, ht => by
    obtain ⟨i1, i2⟩ := rounds_same hh hl hw he t (by omega)
    have e : roundR (roundsR h ws' t) (constsL.getD t 0) (ws'.getD t 0) = roundM (roundsR h ws' t) (kM t) (ws'.getD t 0) := by
      unfold roundR
      rw [ref_round i2 (roundsR_length hl t) (hw t)]
      rfl
    rw [roundsM, roundsR, i1, e, he t (by omega)]
    exact ⟨rfl, roundM_W i2 _ _⟩
theorem list8 {l : List Int} (h : l.length = 8) : ∃ a b c d e f g i, l = [a, b, c, d, e, f, g, i] := by
  match l, h with
  | [a, b, c, d, e, f, g, i], _ => exact ⟨a, b, c, d, e, f, g, i, rfl⟩
theorem add_same {a b : Int} (ha : W32 a) (hb : W32 b) : Int.tmod (IntKind.u64.wrap (a + b)) 4294967296 = IntKind.u32.wrap (a + b) := by
  obtain ⟨a0, a1⟩ := ha
  obtain ⟨b0, b1⟩ := hb
  rw [wrap64u, wrap32, Int.tmod_eq_emod_of_nonneg (by omega)]
  omega
theorem next_same {h v : List Int} (hl : h.length = 8) (hh : AllW h) (hv : AllW v) : nextR h v 8 = addR h v 8 ∧ AllW (nextR h v 8) := by
  have e0 := add_same (hh 0) (hv 0)
  have e1 := add_same (hh 1) (hv 1)
  have e2 := add_same (hh 2) (hv 2)
  have e3 := add_same (hh 3) (hv 3)
  have e4 := add_same (hh 4) (hv 4)
  have e5 := add_same (hh 5) (hv 5)
  have e6 := add_same (hh 6) (hv 6)
  have e7 := add_same (hh 7) (hv 7)
  have en : nextR h v 8 = [IntKind.u32.wrap (h.getD 0 0 + v.getD 0 0), IntKind.u32.wrap (h.getD 1 0 + v.getD 1 0), IntKind.u32.wrap (h.getD 2 0 + v.getD 2 0), IntKind.u32.wrap (h.getD 3 0 + v.getD 3 0), IntKind.u32.wrap (h.getD 4 0 + v.getD 4 0), IntKind.u32.wrap (h.getD 5 0 + v.getD 5 0), IntKind.u32.wrap (h.getD 6 0 + v.getD 6 0), IntKind.u32.wrap (h.getD 7 0 + v.getD 7 0)] := by
    rw [← e0, ← e1, ← e2, ← e3, ← e4, ← e5, ← e6, ← e7]
    rfl
  refine ⟨?_, ?_⟩
  · rw [en]
    obtain ⟨a, b, c, d, e, f, g, i, rfl⟩ := list8 hl
    rfl
  · rw [en]
    refine AllW.of fun y hy => ?_
    simp only [List.mem_cons, List.not_mem_nil, or_false] at hy
    rcases hy with rfl | rfl | rfl | rfl | rfl | rfl | rfl | rfl <;> (rw [wrap32]; exact .mod _)
theorem block_same {h b : List Int} (hl : h.length = 8) (hh : AllW h) (hb : AllB b) : blockR h b = mixM h b ∧ AllW (blockR h b) := by
  obtain ⟨r1, r2⟩ := rounds_same (ws := wordsM b) hh hl (AllW.of (exp_W hb 64)) (fun i hi => words_same hb i hi) 64 (by decide)
  unfold blockR mixM
  rw [r1]
  exact next_same hl hh r2
/-! ### Whole texts -/
theorem foldR_front (xs hv : List Int) : ∀ n, foldR xs hv (n + 1) = foldR (xs.drop 64) (blockR hv (xs.take 64)) n
  | 0 => by
    rw [foldR, foldR, foldR, Nat.zero_mul, List.drop_zero]
  | n + 1 => by
    rw [foldR, foldR_front xs hv n, foldR, List.drop_drop]
    rw [show 64 + n * 64 = (n + 1) * 64 by omega]
theorem takeF_fold : ∀ (n : Nat) (hv xs : List Int), xs.length / 64 = n → hv.length = 8 → AllW hv → AllB xs → (takeF hv xs).1 = foldR xs hv n
  | 0, hv, xs, hn, _, _, _ => by rw [takeF_lt (by omega)]; rfl
  | n + 1, hv, xs, hn, hl, hw, hb => by
    obtain ⟨b1, b2⟩ := block_same (b := xs.take 64) hl hw (hb.take 64)
    rw [takeF_ge (by omega), foldR_front, ← b1]
    exact takeF_fold n _ _ (by rw [List.length_drop]; omega) (blockR_length _ _) b2 (hb.drop 64)
theorem takeF_app : ∀ (n : Nat) (hv x y : List Int), x.length / 64 = n → takeF (takeF hv x).1 ((takeF hv x).2 ++ y) = takeF hv (x ++ y)
  | 0, hv, x, y, hn => by rw [takeF_lt (xs := x) (by omega)]
  | n + 1, hv, x, y, hn => by
    rw [takeF_ge (xs := x) (by omega), takeF_app n _ _ y (by rw [List.length_drop]; omega), takeF_ge (xs := x ++ y) (by rw [List.length_append]; omega)]
    rw [List.take_append_of_le_length (by omega), List.drop_append_of_le_length (by omega)]
theorem start_same : startR startsL 8 = begin32L := by kernel_rfl
theorem begin_W : AllW begin32L := AllW.of (by
  have : ∀ x ∈ startR startsL 8, 0 ≤ x ∧ x < 4294967296 := by
    rw [start_same]
    have e : begin32L = [1779033703, 3144134277, 1013904242, 2773480762, 1359893119, 2600822924, 528734635, 1541459225] := by kernel_rfl
    rw [e]
    decide
  rw [start_same] at this
  exact this)
theorem tell_same {h : List Int} (hl : h.length = 8) : tellM h = tellR h 8 := by
  obtain ⟨a, b, c, d, e, f, g, i, rfl⟩ := list8 hl
  rfl
/-- The program's digest of two texts is the reference's of both together. -/
theorem digest_same {x y : List Int} (hx : AllB x) (hy : AllB y) : digestM x y = hashR (x ++ y) := by
  unfold digestM sumM
  rw [takeF_app _ begin32L x y rfl, takeF_app _ begin32L (x ++ y) _ rfl]
  have hb : AllB ((x ++ y) ++ padM (x.length + y.length)) := (hx.app hy).app (padM_B _)
  have hl8 : begin32L.length = 8 := by rw [← start_same, startR_length]; rfl
  rw [takeF_fold _ begin32L _ rfl hl8 begin_W hb, tell_same (foldR_length hl8 _)]
  unfold hashR
  rw [start_same, List.length_append, List.length_append, padM_length]
end Go.Proofs.YtmblnflfklmmkaaDoor.Sh
/- The law StoreLast. -/
namespace Go.Proofs.YtmblnflfklmmkaaDoor.Sh
open Go.Proofs.YtmblnflfklmmkaaDoor.Dk
open Go.RowKit Go.Proofs.YtmblnflfklmmkaaDoorW.PrintWords Go.Proofs.YtmblnflfklmmkaaDoorW.PrintLast Go.Proofs.YtmblnflfklmmkaaDoorW.PrintMore
set_option linter.unusedVariables false
set_option linter.unusedSimpArgs false
set_option maxRecDepth 30000
section
variable {a b c d x L : List Int} {w w1 w2 : World} {g o : Nat} {A : Option Addr}
theorem rhead_same (g : Int) (hx : AllB x) : rheadM g x = headM g x := by
  rw [headM_eq, digest_same (beM_B 8 g) hx]
  rfl
theorem copy_none (w : World) (g o dLen dCap cc : Nat) (ty : TypeId) : (Builtin.copy_ #[22, 22] ty #[.slice (some ⟨g, o, none⟩) dLen dCap, .slice none 0 cc]).run Tryd.prog w = .ok (goInt 0) w := by
  have hu : Tryd.prog.underlying 22 = some (.slice 5) := Tryd.underlying22
  obtain ⟨i0, hi, hzz⟩ := Option.map_eq_some_iff.1 Dk.info5
  have hs : i0.size = 1 := by simp only [Prod.mk.injEq] at hzz; exact hzz.2.1
  simp only [Builtin.copy_]
  simp [Builtin.lenOf, Builtin.firstCells, hi, hs, storeCells, loadCells, Result.andThen]
theorem made_u8 (n : Nat) : madeCells (Value.int .u8 0).cells n = (nums .u8 (List.replicate n 0)).toArray := by
  apply Array.ext_getElem?
  intro k
  simp only [madeCells, nums, Value.cells]
  by_cases hk : k < n
  · simp [hk, Nat.mod_one]
  · simp [hk]
theorem make256 (w : World) : ∃ w1, (Instr.makeSlice 22 (.int .i64 256) (.int .i64 256)).run Tryd.prog w = .ok (.slice (some ⟨w.heap.size, 0, none⟩) 256 256) w1 ∧ w1.heap[w.heap.size]? = some (.cells (nums .u8 (List.replicate 256 0)).toArray 5 (0, 0)) ∧ Below w.heap.size w w1 := by
  obtain ⟨i0, hi, hzz⟩ := Option.map_eq_some_iff.1 Dk.info5
  simp only [Prod.mk.injEq] at hzz
  obtain ⟨hz0, hz1, hz2⟩ := hzz
  have hr := run_make (P := Tryd.prog) (w := w) 22 5 i0 _ Tryd.underlying22 hi hz0 .i64 .i64 256 256 (by omega) (by omega) (by rw [hz2]; omega) (by omega)
  simp only [hz1, Nat.mul_one] at hr
  refine ⟨_, hr, ?_, below_alloc (Below.refl _ _) _⟩
  rw [← made_u8]
  exact heap_alloc_new w _
theorem nums_one' (x : List Int) : ∀ v ∈ nums .u8 x, v.oneCell' = true := fun v hv => by
  simp only [nums, List.mem_map] at hv
  obtain ⟨_, _, rfl⟩ := hv
  rfl
theorem copy8 (hg : w.heap[g]? = some (.cells (nums .u8 L).toArray 5 (0, 0))) (hC : C8 w A x) (dLen dCap cc : Nat) (hx : x.length ≤ dLen) (hfit : o + x.length ≤ L.length) :
    ∃ w1 v, (∀ ty, (Builtin.copy_ #[22, 22] ty #[.slice (some ⟨g, o, none⟩) dLen dCap, .slice A x.length cc]).run Tryd.prog w = .ok v w1) ∧ w1.heap[g]? = some (.cells (nums .u8 (L.take o ++ x ++ L.drop (o + x.length))).toArray 5 (0, 0)) ∧ ∀ n, n ≤ g → n ≤ w.heap.size → Below n w w1 := by
  cases A with
  | none =>
    have h0 : x.length = 0 := by
      rcases Nat.eq_zero_or_pos x.length with h | h
      · exact h
      · obtain ⟨ad, h1, _⟩ := C8_cells hC h
        cases h1
    obtain rfl := List.eq_nil_of_length_eq_zero h0
    refine ⟨w, _, fun ty => copy_none w g o dLen dCap cc ty, ?_, fun n _ hn => Below.refl _ _⟩
    rw [List.append_nil, List.length_nil, Nat.add_zero, List.take_append_drop]
    exact hg
  | some a =>
    have hcs : ∀ j v, (nums .u8 x)[j]? = some v → w.cell? (a.add j) = some v := fun j v hj => by
      have hj' : j < x.length := by
        have := (List.getElem?_eq_some_iff.1 hj).1
        rwa [nums_length] at this
      obtain ⟨ad, h1, h2⟩ := C8_cells hC (by omega)
      cases h1
      rw [h2 j hj', ← hj, nums, List.getElem?_map, List.getElem?_eq_getElem hj', List.getD_eq_getElem?_getD, List.getElem?_eq_getElem hj']
      rfl
    have hr := fun ty => run_copy_row (P := Tryd.prog) w 22 22 ty 5 g o dLen dCap a x.length cc (nums .u8 L).toArray 5 (nums .u8 x) Tryd.underlying22 (by kernel_rfl) hg (by rw [nums_length]; exact (Nat.min_eq_left hx).symm) hcs (by rw [nums_length, List.size_toArray, nums_length]; exact hfit) (nums_one' x)
    refine ⟨_, _, hr, ?_, fun n hn hn2 => below_row (Below.refl _ _) hn _⟩
    have e : (List.take o (nums .u8 L) ++ nums .u8 x ++ List.drop (o + (nums .u8 x).length) (nums .u8 L)).toArray = (nums .u8 (L.take o ++ x ++ L.drop (o + x.length))).toArray := by
      rw [nums_length]
      simp [nums, List.map_take, List.map_drop]
    rw [List.toList_toArray] at *
    rw [e]
    exact setRow_heap _ _ _ _ _ _ hg
theorem sec4 (b : List Int) : (newM b 4 4).sec = [secAt b 0, secAt b 1, secAt b 2, secAt b 3] := rfl
theorem secAt4 (ha : a.length = 64) (hb : b.length = 64) (hc : c.length = 64) (hd : d.length = 64) : secAt (a ++ b ++ c ++ d) 0 = a ∧ secAt (a ++ b ++ c ++ d) 1 = b ∧ secAt (a ++ b ++ c ++ d) 2 = c ∧ secAt (a ++ b ++ c ++ d) 3 = d := by
  refine ⟨?_, ?_, ?_, ?_⟩ <;> simp [secAt, List.drop_append, List.take_append, ha, hb, hc, hd, List.take_of_length_le, List.drop_of_length_le]
theorem secAt_small (hx : x.length ≤ 64) : secAt x 0 = x ++ List.replicate (64 - x.length) 0 := by
  simp [secAt, List.take_of_length_le hx, Nat.min_eq_left hx]
theorem bytes4' (ha : a.length = 64) (hb : b.length = 64) (hc : c.length = 64) (hd : d.length = 64) : bytesM (newM (a ++ b ++ c ++ d) 4 4) = a ++ b ++ c ++ d := by
  obtain ⟨e0, e1, e2, e3⟩ := secAt4 ha hb hc hd
  unfold bytesM
  rw [sec4, e0, e1, e2, e3]
  simp [bytesTo]
theorem zeros256 (hx : x.length ≤ 64) (hh : a.length = 64) : (a ++ List.replicate 192 (0 : Int)).take 64 ++ x ++ (a ++ List.replicate 192 (0 : Int)).drop (64 + x.length) = a ++ secAt x 0 ++ zer64 ++ zer64 := by
  rw [secAt_small hx]
  have e : List.replicate (192 - x.length) (0 : Int) = List.replicate (64 - x.length) 0 ++ (List.replicate 64 0 ++ List.replicate 64 0) := by
    rw [List.replicate_append_replicate, List.replicate_append_replicate]
    congr 1
    omega
  rw [List.take_append_of_le_length (by omega), List.take_of_length_le (by omega), List.drop_append, List.drop_of_length_le (by omega), hh, List.drop_replicate, show 192 - (64 + x.length - 64) = 192 - x.length by omega, e]
  simp [zer64]
/-- The disk that the law makes: its newest record is of the last generation. -/
theorem last_newest (z : Bool) (hx : x.length ≤ 64) {h : List Int} (hh : headM 18446744073709551615 x = h) (hb : b = if z = true then zer64 ++ zer64 ++ h ++ secAt x 0 else h ++ secAt x 0 ++ zer64 ++ zer64) :
    ∃ k, (k = 0 ∨ k = 1) ∧ newestM (newM b 4 4) 0 2 = (k, 18446744073709551615, x) ∧ bytesM (newM b 4 4) = b := by
  have hl : h.length = 64 := by rw [← hh]; exact headM_length _ _
  have hs : (secAt x 0).length = 64 := secAt_length x 0
  have zl := zer64_len
  have hrd : ∀ k, readM (newM b 4 4) k = (newM b 4 4).sec.getD k.toNat [] := fun k => read_sec rfl k
  have hsn : secN x ≤ 1 := by unfold secN; omega
  cases z with
  | true =>
    rw [if_pos rfl] at hb
    subst hb
    obtain ⟨e0, e1, e2, e3⟩ := secAt4 zl zl hl hs
    have s := sec4 (zer64 ++ zer64 ++ h ++ secAt x 0)
    rw [e0, e1, e2, e3] at s
    refine ⟨1, .inr rfl, ?_, bytes4' zl zl hl hs⟩
    have ha := areaM_put (D' := newM (zer64 ++ zer64 ++ h ++ secAt x 0) 4 4) (k := 1) (fr := 0) (n := 2) (g := 18446744073709551615) (x := x) (by decide) (by decide) (by decide) (by omega) (by omega) (by rw [hrd, s, hh]; rfl) (fun i hi => by
      obtain rfl : i = 0 := by omega
      rw [hrd, s]
      rfl)
    have hz : areaM (newM (zer64 ++ zer64 ++ h ++ secAt x 0) 4 4) 0 2 0 = none := area_zero (by rw [hrd, s]; rfl)
    exact newest_new (.inr rfl) ha (fun g' r hr => by
      have hz' : areaM (newM (zer64 ++ zer64 ++ h ++ secAt x 0) 4 4) 0 2 (1 - 1) = none := hz
      rw [hz'] at hr
      cases hr)
  | false =>
    rw [if_neg (by decide)] at hb
    subst hb
    obtain ⟨e0, e1, e2, e3⟩ := secAt4 hl hs zl zl
    have s := sec4 (h ++ secAt x 0 ++ zer64 ++ zer64)
    rw [e0, e1, e2, e3] at s
    refine ⟨0, .inl rfl, ?_, bytes4' hl hs zl zl⟩
    have ha := areaM_put (D' := newM (h ++ secAt x 0 ++ zer64 ++ zer64) 4 4) (k := 0) (fr := 0) (n := 2) (g := 18446744073709551615) (x := x) (by decide) (by decide) (by decide) (by omega) (by omega) (by rw [hrd, s, hh]; rfl) (fun i hi => by
      obtain rfl : i = 0 := by omega
      rw [hrd, s]
      rfl)
    have hz : areaM (newM (h ++ secAt x 0 ++ zer64 ++ zer64) 4 4) 0 2 1 = none := area_zero (by rw [hrd, s]; rfl)
    exact newest_new (.inl rfl) ha (fun g' r hr => by
      have hz' : areaM (newM (h ++ secAt x 0 ++ zer64 ++ zer64) 4 4) 0 2 (1 - 0) = none := hz
      rw [hz'] at hr
      cases hr)
theorem zeros256b (hx : x.length ≤ 64) {h : List Int} (hh : h.length = 64) : ((List.replicate 256 (0 : Int)).take 128 ++ h ++ (List.replicate 256 (0 : Int)).drop (128 + h.length)).take 192 ++ x ++ ((List.replicate 256 (0 : Int)).take 128 ++ h ++ (List.replicate 256 (0 : Int)).drop (128 + h.length)).drop (192 + x.length) = zer64 ++ zer64 ++ h ++ secAt x 0 := by
  have t1 : (List.replicate 256 (0 : Int)).take 128 = zer64 ++ zer64 := by kernel_rfl
  have t2 : (List.replicate 256 (0 : Int)).drop (128 + 64) = zer64 := by kernel_rfl
  have hp : (zer64 ++ zer64 ++ h).length = 192 := by rw [List.length_append, List.length_append, zer64_len, hh]
  have hz : zer64.drop x.length = List.replicate (64 - x.length) 0 := by unfold zer64; rw [List.drop_replicate]
  rw [secAt_small hx, hh, t1, t2, List.take_append_of_le_length (by omega), List.take_of_length_le (by omega), List.drop_append, List.drop_of_length_le (by omega), hp, List.nil_append, Nat.add_sub_cancel_left, hz]
  rw [List.append_assoc]
theorem zeros256a (hx : x.length ≤ 64) {h : List Int} (hh : h.length = 64) : ((List.replicate 256 (0 : Int)).take 0 ++ h ++ (List.replicate 256 (0 : Int)).drop (0 + h.length)).take 64 ++ x ++ ((List.replicate 256 (0 : Int)).take 0 ++ h ++ (List.replicate 256 (0 : Int)).drop (0 + h.length)).drop (64 + x.length) = h ++ secAt x 0 ++ zer64 ++ zer64 := by
  rw [List.take_zero, List.nil_append, List.drop_replicate, hh]
  exact zeros256 hx hh
end

variable {w0 w w' W w1 w2 w3 : World} {s g t g2 : Nat} {F F' F2 : Nat → Prop} {D D' : DM} {R R' : RM} {fr n k : Int} {x r xs ys : List Int}
/-- A disk's making, and the store upon it, as the law asks for them. -/
theorem last_new (hg : Glob w0) (hb : Below w0.heap.size w0 w) {b : List Int} (hl : b.length = 256) {q : Nat} (hq : w.heap[q]? = some (.cells (nums .u8 b).toArray 5 (0, 0))) : Calls Tryd.prog 15 #[.slice (some ⟨q, 0, none⟩) 256 256, .int .i64 4] w fun e w' => ∃ g F, e = .returned (.tuple #[.pointer (some ⟨g, 0, none⟩), .int .i64 0]) ∧ DiskAt w' w0.heap.size g F (newM b 4 4) ∧ Below w0.heap.size w0 w' ∧ CF w' F (some ⟨q, 0, none⟩) b := by
  have hlt : q < w.heap.size := blk_lt hq
  have hC : C8 w (some ⟨q, 0, none⟩) b := C_block hq (by rw [hl]; decide)
  have h := New_calls (w := w) (some ⟨q, 0, none⟩) 256 b 4 (by rw [hl]; decide) (by rw [hl]; decide) hC (by unfold newBad; omega)
  rw [hl] at h
  refine h.mono ?_
  rintro e w' ⟨g, rfl, hd, hb2⟩
  obtain ⟨vs, vh, vc, hd⟩ := hd
  refine ⟨g, _, rfl, ⟨vs, vh, vc, hd.blk, Kd.R_lower hd.sec hb.size, Kd.R_lower hd.held hb.size, Kd.R_lower hd.choice hb.size, hd.own, fun k hk => ⟨Nat.le_trans hb.size (hd.lt k hk).1, (hd.lt k hk).2⟩⟩, below_trans hb hb2, Kd.C_below hC hb2, fun a ha => ?_⟩
  cases ha
  exact ⟨Nat.lt_of_lt_of_le hlt hb2.size, fun hk => by have := hk.1; simp only at this; omega⟩
theorem last_open (hg : Glob w0) (hb : Below w0.heap.size w0 w) (hd : DiskAt w w0.heap.size g F D) (hl : D.sec.length = 4) (hh : D.held = []) (hc : D.choice = []) (h0 : D.left = 0) : Calls Tryd.prog 10 #[.pointer (some ⟨g, 0, none⟩), .int .i64 0, .int .i64 2] w fun e w' => ∃ s, e = .returned (.tuple #[.pointer (some ⟨s, 0, none⟩), .int .i64 0]) ∧ Ss w0 w' s g F D 0 2 ∧ Keeps w w' F F := by
  refine (Open_calls hd (by omega) 0 2).mono ?_
  rintro e w' (⟨hn, _⟩ | ⟨_, s, rfl, hs, _, hb2⟩)
  · exact absurd ⟨by decide, by decide, by omega⟩ hn
  · exact ⟨s, rfl, ⟨hs, ⟨⟨fun h hh' => (by rw [hh] at hh'; cases hh'), by omega, by rw [hh]; decide, by rw [hc]; decide, by omega⟩, by decide, by decide, by omega, by omega⟩, hg, below_trans hb hb2⟩, keeps_below hb2⟩
theorem last_opened (hg : Glob w0) (hb : Below w0.heap.size w0 w) {b : List Int} (hd : DiskAt w w0.heap.size g F (newM b 4 4)) : Calls Tryd.prog 10 #[.pointer (some ⟨g, 0, none⟩), .int .i64 0, .int .i64 2] w fun e w' => ∃ s, e = .returned (.tuple #[.pointer (some ⟨s, 0, none⟩), .int .i64 0]) ∧ Ss w0 w' s g F (newM b 4 4) 0 2 ∧ Keeps w w' F F := last_open hg hb hd (secTo_length b 4 4 (Nat.le_refl _)) rfl rfl rfl
theorem new_down (b : List Int) : (newM b 4 4).down = false := rfl
theorem new_held (b : List Int) : (newM b 4 4).held = [] := rfl
theorem last_newest_calls (h : Ss w0 w s g F D 0 2) (hd : D.down = false) (hk : k = 0 ∨ k = 1) (hn : newestM D 0 2 = (k, 18446744073709551615, x)) : Calls Tryd.prog 9 #[.pointer (some ⟨s, 0, none⟩)] w fun e w' => e = .returned (.tuple #[.int .i64 k, .int .u64 18446744073709551615, .int .i64 0]) ∧ Ss w0 w' s g F D 0 2 ∧ Keeps w w' F F := by
  refine (ssNewest h).mono ?_
  rintro e w' ⟨hb, rfl⟩
  rw [hd, if_neg (by decide), hn, if_neg (by dsimp only; omega)]
  exact ⟨rfl, h.below hb, keeps_below hb⟩
theorem last_put (h : Ss w0 w s g F D 0 2) (hd : D.down = false) (hh : D.held = []) (hn : newestM D 0 2 = (k, 18446744073709551615, x)) : Calls Tryd.prog 12 #[.pointer (some ⟨s, 0, none⟩), .slice none 0 0] w fun e w' => e = .returned (.int .i64 2) ∧ ∃ F', Ss w0 w' s g F' D 0 2 ∧ Keeps w w' F F' := by
  have hp : putM D 0 2 [] = (D, 2) := by rw [putM, hd, if_neg (by decide), if_neg (by decide), hn, if_pos rfl]
  refine (ssPut h (by rw [hh]; decide) none 0 [] (by decide) (by decide) (fun _ _ => Kd.C_nil _ _)).mono ?_
  rintro e w' ⟨rfl, F', hs, hk⟩
  rw [hp] at hs ⊢
  exact ⟨rfl, F', hs, hk⟩

set_option maxHeartbeats 16000000 in
theorem StoreLast_calls (hg : Glob w) (A : Option Addr) (c : Nat) (x : List Int) (sec : Bool) (hx0 : x.length ≤ 140737488351232) (hxc : x.length ≤ c) (hX : C8 w A x) (hB : AllB x) :
    Calls Tryd.prog 4 #[.slice A x.length c, .bool sec] w fun e w' => Kn w w' e := by
  have HXW := Aside0.mk (show ∀ W, Below w.heap.size w W → C8 W A x from fun W hW => Kd.C_below hX hW)
  have HG := Aside0.mk hg
  by_cases hx : 64 < x.length
  · have tx : decide ((64 : Int) < (x.length : Int)) = true := decide_eq_true (by omega)
    clear hx hg hX hxc
    go_enter Tryd.func4, Tryd.ntmps4
    go_wp2_with (first | (go_at_call 13; (with_reducible refine (known_calls (HG.out)).mono ?_); rintro e w99 ⟨rfl, hb99⟩; have HB99 := Aside0.mk hb99; clear hb99))
    go_ret
    exact ⟨rfl, HB99.out⟩
  have tx : decide ((64 : Int) < (x.length : Int)) = false := decide_eq_false (by omega)
  have HX := Aside0.mk (show x.length ≤ 64 by omega)
  obtain ⟨h, hh⟩ : ∃ h, headM 18446744073709551615 x = h := ⟨_, rfl⟩
  have HHH := Aside0.mk hh
  have HHL := Aside0.mk (show h.length = 64 by rw [← hh]; exact headM_length _ _)
  have HHD := Aside0.mk (show Calls Tryd.prog 14 #[.int .u64 18446744073709551615, .slice A x.length c] w fun e w' => RowPo w w' h e by rw [← hh, ← rhead_same _ hB]; exact Head_calls (by decide) (by decide) A c x (by omega) hX)
  clear hx hg hX hxc hB hh
  cases sec
  · go_enter Tryd.func4, Tryd.ntmps4
    go_wp2_with (first | (go_at_call 14; (with_reducible refine (HHD.out).mono ?_); rintro e w1 ⟨v1, rfl, hr1, hb1⟩; obtain ⟨A1, c1, rfl, _, hC1⟩ := hr1.reads; have HC1 := Aside0.mk hC1; have HB1 := Aside0.mk hb1; clear hr1 hb1 hC1))
    obtain ⟨w2, hmk, hg2, hb2⟩ := make256 w1
    have HB2 := Aside0.mk (show Below w.heap.size w w2 from below_trans HB1.out hb2)
    have HA2 := Aside0.mk (Kd.C_below HC1.out hb2)
    obtain ⟨w3, v3, hc3, hg3, hb3⟩ := copy8 (o := 0) (A := A1) (x := h) hg2 HA2.out 256 256 c1 (by rw [HHL.out]; decide) (by rw [HHL.out]; decide)
    have HB3 := Aside0.mk (show Below w.heap.size w w3 from HB2.out.trans (hb3 _ HB1.out.size HB2.out.size))
    obtain ⟨w4, v4, hc4, hg4, hb4⟩ := copy8 (o := 64) (A := A) (x := x) hg3 (HXW.out _ HB3.out) 192 192 c (by have := HX.out; omega) (by have := HX.out; have := HHL.out; simp only [List.length_append, List.length_take, List.length_drop, List.length_replicate]; omega)
    have HB4 := Aside0.mk (show Below w.heap.size w w4 from HB3.out.trans (hb4 _ HB1.out.size HB3.out.size))
    rw [zeros256a HX.out HHL.out] at hg4
    obtain ⟨bb, hbb⟩ : ∃ bb, h ++ secAt x 0 ++ zer64 ++ zer64 = bb := ⟨_, rfl⟩
    rw [hbb] at hg4
    obtain ⟨k, hk, hnn, hby⟩ := last_newest false HX.out HHH.out (b := bb) (by rw [← hbb]; rfl)
    have HK4 := Aside0.mk hg4
    have HLB := Aside0.mk (show bb.length = 256 by rw [← hbb]; simp [HHL.out, secAt_length, zer64_len])
    have HSB := Aside0.mk (show ∀ W A11 c11, C8 W A11 bb → C8 W (some ⟨w1.heap.size, 0, none⟩) bb → Calls Tryd.prog 16 #[.slice A11 bb.length c11, .slice (some ⟨w1.heap.size, 0, none⟩) 256 256] W fun e w' => e = .returned (.bool true) ∧ W = w' from fun W A11 c11 h1 h2 => by
      have := Same_calls A11 c11 bb (some ⟨w1.heap.size, 0, none⟩) 256 bb h1 h2
      rw [sameM_refl, HLB.out] at this
      rw [HLB.out]
      exact this)
    have HNN := Aside0.mk hnn
    have HKK := Aside0.mk hk
    have HBY := Aside0.mk hby
    have HMK := Aside0.mk hmk
    have HC3 := Aside0.mk hc3
    have HC4 := Aside0.mk hc4
    clear hmk hg2 hb2 hc3 hg3 hb3 hc4 hg4 hb4 hbb hk hnn hby
    rw [HMK.out]
    go_wp2_with (first | ((with_reducible refine make_at (t := 22) (x := .const (.int .i64 256)) (y := .const (.int .i64 256)) ?_ ?_ HMK.out ?_ ?_ ?_); exact rfl; exact rfl; exact rfl; exact rfl) | ((with_reducible refine copy_at (s := .tmp 27) (x := .tmp 28) (t := 22) (t' := 22) ?_ ?_ HC3.out ?_ ?_ ?_); exact rfl; exact rfl; exact rfl; exact rfl) | ((with_reducible refine copy_at (s := .tmp 33) (x := .tmp 34) (t := 22) (t' := 22) ?_ ?_ HC4.out ?_ ?_ ?_); exact rfl; exact rfl; exact rfl; exact rfl) | (go_at_call 15; (with_reducible refine (last_new HG.out HB4.out HLB.out HK4.out).mono ?_); rintro e w5 ⟨g, F, rfl, hd5, hb5, hc5⟩; have HD5 := Aside0.mk hd5; have HB5 := Aside0.mk hb5; have HC5 := Aside0.mk hc5; clear hd5 hb5 hc5) | (go_at_call 10; (with_reducible refine (last_opened HG.out HB5.out HD5.out).mono ?_); rintro e w6 ⟨s, rfl, hs6, hk6⟩; have HS6 := Aside0.mk hs6; have HC6 := Aside0.mk (HC5.out.keeps hk6); clear hs6 hk6) | (go_at_call 8; (with_reducible refine (ss_get HS6.out (new_down bb)).mono ?_); rintro e w7 ⟨A7, c7, r7, E7, rfl, hr7, he7, hc7, hs7, hk7⟩; rw [HNN.out] at hr7 he7; (have h1 : x = r7 := by rw [hr7]; unfold gR; rw [if_neg (by have := HKK.out; dsimp only; omega)]); (have h2 : (0 : Int) = E7 := by rw [he7]; unfold gE; rw [if_neg (by have := HKK.out; dsimp only; omega)]); clear hr7 he7; subst h1; subst h2; have HC7 := Aside0.mk hc7; have HS7 := Aside0.mk hs7; have HQ7 := Aside0.mk (HC6.out.keeps hk7); clear hc7 hs7 hk7) | (go_at_call 9; (with_reducible refine (last_newest_calls HS7.out (new_down bb) HKK.out HNN.out).mono ?_); rintro e w8 ⟨rfl, hs8, hk8⟩; have HS8 := Aside0.mk hs8; have HC8 := Aside0.mk (HC7.out.keeps hk8); have HQ8 := Aside0.mk (HQ7.out.keeps hk8); clear hs8 hk8) | (go_at_call 16; (with_reducible refine (Same_calls A7 c7 x A c x HC8.out.c (HXW.out _ HS8.out.b)).mono ?_); rintro e w9 ⟨rfl, rfl⟩; rw [sameM_refl]) | (go_at_call 12; (with_reducible refine (last_put HS8.out (new_down bb) (new_held bb) HNN.out).mono ?_); rintro e w10 ⟨rfl, F10, hs10, hk10⟩; have HS10 := Aside0.mk hs10; have HQ10 := Aside0.mk (HQ8.out.keeps hk10); clear hs10 hk10) | (go_at_call 17; (with_reducible refine (ss_bytes HS10.out).mono ?_); rintro e w11 ⟨A11, c11, xs, rfl, hx11, hr11, hs11, hk11⟩; (have h3 : bb = xs := by rw [hx11]; exact HBY.out.symm); clear hx11; subst h3; have HR11 := Aside0.mk hr11.C; have HS11 := Aside0.mk hs11; have HQ11 := Aside0.mk (HQ10.out.keeps hk11); clear hr11 hs11 hk11) | (go_at_call 16; (with_reducible refine (HSB.out _ _ _ HR11.out HQ11.out.c).mono ?_); rintro e w12 ⟨rfl, rfl⟩) | (go_at_call 13; (with_reducible refine (known_calls (HS11.out.glob)).mono ?_); rintro e w99 ⟨rfl, hb99⟩; have HB99 := Aside0.mk hb99; clear hb99))
    go_ret
    exact ⟨rfl, below_trans HS11.out.b HB99.out⟩
  · go_enter Tryd.func4, Tryd.ntmps4
    go_wp2_with (first | (go_at_call 14; (with_reducible refine (HHD.out).mono ?_); rintro e w1 ⟨v1, rfl, hr1, hb1⟩; obtain ⟨A1, c1, rfl, _, hC1⟩ := hr1.reads; have HC1 := Aside0.mk hC1; have HB1 := Aside0.mk hb1; clear hr1 hb1 hC1))
    obtain ⟨w2, hmk, hg2, hb2⟩ := make256 w1
    have HB2 := Aside0.mk (show Below w.heap.size w w2 from below_trans HB1.out hb2)
    have HA2 := Aside0.mk (Kd.C_below HC1.out hb2)
    obtain ⟨w3, v3, hc3, hg3, hb3⟩ := copy8 (o := 128) (A := A1) (x := h) hg2 HA2.out 128 128 c1 (by rw [HHL.out]; decide) (by rw [HHL.out]; decide)
    have HB3 := Aside0.mk (show Below w.heap.size w w3 from HB2.out.trans (hb3 _ HB1.out.size HB2.out.size))
    obtain ⟨w4, v4, hc4, hg4, hb4⟩ := copy8 (o := 192) (A := A) (x := x) hg3 (HXW.out _ HB3.out) 64 64 c (by have := HX.out; omega) (by have := HX.out; have := HHL.out; simp only [List.length_append, List.length_take, List.length_drop, List.length_replicate]; omega)
    have HB4 := Aside0.mk (show Below w.heap.size w w4 from HB3.out.trans (hb4 _ HB1.out.size HB3.out.size))
    rw [zeros256b HX.out HHL.out] at hg4
    obtain ⟨bb, hbb⟩ : ∃ bb, zer64 ++ zer64 ++ h ++ secAt x 0 = bb := ⟨_, rfl⟩
    rw [hbb] at hg4
    obtain ⟨k, hk, hnn, hby⟩ := last_newest true HX.out HHH.out (b := bb) (by rw [← hbb]; rfl)
    have HK4 := Aside0.mk hg4
    have HLB := Aside0.mk (show bb.length = 256 by rw [← hbb]; simp [HHL.out, secAt_length, zer64_len])
    have HSB := Aside0.mk (show ∀ W A11 c11, C8 W A11 bb → C8 W (some ⟨w1.heap.size, 0, none⟩) bb → Calls Tryd.prog 16 #[.slice A11 bb.length c11, .slice (some ⟨w1.heap.size, 0, none⟩) 256 256] W fun e w' => e = .returned (.bool true) ∧ W = w' from fun W A11 c11 h1 h2 => by
      have := Same_calls A11 c11 bb (some ⟨w1.heap.size, 0, none⟩) 256 bb h1 h2
      rw [sameM_refl, HLB.out] at this
      rw [HLB.out]
      exact this)
    have HNN := Aside0.mk hnn
    have HKK := Aside0.mk hk
    have HBY := Aside0.mk hby
    have HMK := Aside0.mk hmk
    have HC3 := Aside0.mk hc3
    have HC4 := Aside0.mk hc4
    clear hmk hg2 hb2 hc3 hg3 hb3 hc4 hg4 hb4 hbb hk hnn hby
    rw [HMK.out]
    go_wp2_with (first | ((with_reducible refine make_at (t := 22) (x := .const (.int .i64 256)) (y := .const (.int .i64 256)) ?_ ?_ HMK.out ?_ ?_ ?_); exact rfl; exact rfl; exact rfl; exact rfl) | ((with_reducible refine copy_at (s := .tmp 27) (x := .tmp 28) (t := 22) (t' := 22) ?_ ?_ HC3.out ?_ ?_ ?_); exact rfl; exact rfl; exact rfl; exact rfl) | ((with_reducible refine copy_at (s := .tmp 33) (x := .tmp 34) (t := 22) (t' := 22) ?_ ?_ HC4.out ?_ ?_ ?_); exact rfl; exact rfl; exact rfl; exact rfl) | (go_at_call 15; (with_reducible refine (last_new HG.out HB4.out HLB.out HK4.out).mono ?_); rintro e w5 ⟨g, F, rfl, hd5, hb5, hc5⟩; have HD5 := Aside0.mk hd5; have HB5 := Aside0.mk hb5; have HC5 := Aside0.mk hc5; clear hd5 hb5 hc5) | (go_at_call 10; (with_reducible refine (last_opened HG.out HB5.out HD5.out).mono ?_); rintro e w6 ⟨s, rfl, hs6, hk6⟩; have HS6 := Aside0.mk hs6; have HC6 := Aside0.mk (HC5.out.keeps hk6); clear hs6 hk6) | (go_at_call 8; (with_reducible refine (ss_get HS6.out (new_down bb)).mono ?_); rintro e w7 ⟨A7, c7, r7, E7, rfl, hr7, he7, hc7, hs7, hk7⟩; rw [HNN.out] at hr7 he7; (have h1 : x = r7 := by rw [hr7]; unfold gR; rw [if_neg (by have := HKK.out; dsimp only; omega)]); (have h2 : (0 : Int) = E7 := by rw [he7]; unfold gE; rw [if_neg (by have := HKK.out; dsimp only; omega)]); clear hr7 he7; subst h1; subst h2; have HC7 := Aside0.mk hc7; have HS7 := Aside0.mk hs7; have HQ7 := Aside0.mk (HC6.out.keeps hk7); clear hc7 hs7 hk7) | (go_at_call 9; (with_reducible refine (last_newest_calls HS7.out (new_down bb) HKK.out HNN.out).mono ?_); rintro e w8 ⟨rfl, hs8, hk8⟩; have HS8 := Aside0.mk hs8; have HC8 := Aside0.mk (HC7.out.keeps hk8); have HQ8 := Aside0.mk (HQ7.out.keeps hk8); clear hs8 hk8) | (go_at_call 16; (with_reducible refine (Same_calls A7 c7 x A c x HC8.out.c (HXW.out _ HS8.out.b)).mono ?_); rintro e w9 ⟨rfl, rfl⟩; rw [sameM_refl]) | (go_at_call 12; (with_reducible refine (last_put HS8.out (new_down bb) (new_held bb) HNN.out).mono ?_); rintro e w10 ⟨rfl, F10, hs10, hk10⟩; have HS10 := Aside0.mk hs10; have HQ10 := Aside0.mk (HQ8.out.keeps hk10); clear hs10 hk10) | (go_at_call 17; (with_reducible refine (ss_bytes HS10.out).mono ?_); rintro e w11 ⟨A11, c11, xs, rfl, hx11, hr11, hs11, hk11⟩; (have h3 : bb = xs := by rw [hx11]; exact HBY.out.symm); clear hx11; subst h3; have HR11 := Aside0.mk hr11.C; have HS11 := Aside0.mk hs11; have HQ11 := Aside0.mk (HQ10.out.keeps hk11); clear hr11 hs11 hk11) | (go_at_call 16; (with_reducible refine (HSB.out _ _ _ HR11.out HQ11.out.c).mono ?_); rintro e w12 ⟨rfl, rfl⟩) | (go_at_call 13; (with_reducible refine (known_calls (HS11.out.glob)).mono ?_); rintro e w99 ⟨rfl, hb99⟩; have HB99 := Aside0.mk hb99; clear hb99))
    go_ret
    exact ⟨rfl, below_trans HS11.out.b HB99.out⟩

end Go.Proofs.YtmblnflfklmmkaaDoor.Sh
/- The laws' arguments, opened: bytes, choices, operations. -/
namespace Go.Proofs.YtmblnflfklmmkaaDoor.Dk
open Go.RowKit Go.Proofs.YtmblnflfklmmkaaDoorW.PrintWords Go.Proofs.YtmblnflfklmmkaaDoorW.PrintLast Go.Proofs.YtmblnflfklmmkaaDoorW.PrintMore
open Go.ChangeShapes Go.WideShapes
set_option linter.unusedVariables false
set_option linter.unusedSimpArgs false
set_option maxRecDepth 30000
variable {H : Type} {enc : TypeId × Value → H} {W : World}
theorem bytes5 : Tryd.prog.bytesOf 5 = 1 := by kernel_rfl
end Go.Proofs.YtmblnflfklmmkaaDoor.Dk
/- A law's bytes, opened, with their range. -/
namespace Go.Proofs.YtmblnflfklmmkaaDoor.Dk
open Go.RowKit Go.Proofs.YtmblnflfklmmkaaDoorW.PrintWords Go.Proofs.YtmblnflfklmmkaaDoorW.PrintLast Go.Proofs.YtmblnflfklmmkaaDoorW.PrintMore
open Go.ChangeShapes Go.WideShapes
set_option linter.unusedVariables false
set_option linter.unusedSimpArgs false
set_option maxRecDepth 30000
variable {H : Type} {enc : TypeId × Value → H} {W : World}
theorem wf_u8 {n : Int} (h : (Lit.int .u8 n).wf = true) : 0 ≤ n ∧ n ≤ 255 := by
  have e1 : IntKind.u8.min = 0 := by decide
  have e2 : IntKind.u8.max = 255 := by decide
  simp [Lit.wf] at h
  omega
theorem open_byB {fuel : Nat} {cs : List Value} {x : DataW H × List MemPlace} (h : DataW.trod enc Tryd.prog W 0 (fun _ => true) true fuel 22 cs = some x) (hw : ∀ n ∈ x.1.weights Tryd.prog 22, n ≤ reachBytes) :
    ∃ a c zs, cs = [.slice a zs.length c] ∧ zs.length ≤ c ∧ Kd.C (Kd.int .u8) W a zs.length zs ∧ zs.length ≤ 140737488351232 ∧ ∀ z ∈ zs, 0 ≤ z ∧ z ≤ 255 := by
  rcases open_ints Tryd.underlying22 Tryd.underlying5 (by kernel_rfl) h with ⟨rfl, _⟩ | ⟨a, len, cap, zs, rfl, _, hl, hm, hz, rfl, hc, hwf⟩
  · exact ⟨none, 0, [], rfl, Nat.le_refl _, Kd.C_nil _ _, by decide, fun z hz => by cases hz⟩
  · simp only [if_true] at hz
    have hlt : (zs.take len).length = len := by rw [List.length_take]; omega
    have hb : len ≤ 140737488351232 := by
      have h1 := hw (((lits (H := H) .u8 (zs.take len)).length + (lits (H := H) .u8 (zs.drop len)).length) * Tryd.prog.bytesOf 5) (by simp [DataW.weights, Tryd.underlying22])
      have h2 : (lits (H := H) .u8 (zs.take len)).length = len := by simp [lits]; omega
      rw [h2, bytes5] at h1
      have : reachBytes = 140737488351232 := rfl
      omega
    refine ⟨some a, cap, zs.take len, by rw [hlt], by omega, ⟨rfl, by omega, fun _ => ⟨a, rfl, fun j p hj => ?_⟩⟩, by omega, fun z hz => wf_u8 (hwf z (List.mem_of_mem_take hz))⟩
    rw [List.getElem?_take] at hj
    split at hj
    · obtain ⟨hj1, rfl⟩ := List.getElem?_eq_some_iff.1 hj
      refine ⟨[.int .u8 zs[j]], rfl, rfl, fun i u hu => ?_⟩
      cases i with
      | zero =>
        simp only [List.getElem?_cons_zero, Option.some.injEq] at hu
        subst hu
        have := hc j hj1
        rw [List.getD_eq_getElem?_getD, hj] at this
        simpa [Kd.int, Kd.scalar] using this
      | succ i => simp at hu
    · cases hj
end Go.Proofs.YtmblnflfklmmkaaDoor.Dk
/- The law StoreLast holds: called with any arguments that can be read, it returns true and leaves them as they were: the card, tied to the program's text. There is no further condition. -/
namespace Go.Proofs.YtmblnflfklmmkaaDoor.storeLast
open Go.ChangeShapes Go.WideShapes Go.ChangeAt Go.RowKit
open Go.ChangeMaps (open_string shut_string)
set_option linter.unusedVariables false
theorem own : ownKnob Tryd.prog.godebug = none := by kernel_rfl
theorem laidOut : laidOutB Tryd.prog = true := by kernel_rfl
set_option maxHeartbeats 8000000 in
set_option maxRecDepth 100000 in
theorem lifted (os : Os) (started : os.Started) (H : Type) (enc : TypeId × Value → H) :
    ReturnsInHanded {} Tryd.checked os 4 .any (fun w args => (Rows.storeLastSpec.pre enc Tryd.prog Tryd.f4 [] false w args ∧ laidMetH Tryd.prog Sh.laidTabs w) ∧ sizedMet enc Tryd.prog Tryd.f4 (OpenSpec.ofChange Rows.storeLastSpec) false w args) (Rows.storeLastSpec.post enc Tryd.prog Tryd.f4 false true false false) := by
  refine returnsInHanded_of_change_and (C := Tryd.checked) (X := fun w _ => laidMetH Tryd.prog Sh.laidTabs w) (fun _ _ _ hh h => h.of_heap hh) own started (by kernel_rfl) Tryd.func4
    (ChangeSpec.witness_shaped (enc := enc) (C := Tryd.checked) (os := os) (X := fun w _ => laidMetH Tryd.prog Sh.laidTabs w) false (World.doorLaid Tryd.prog 400 os) #[.slice none 0 0, .bool false] 8 rfl (World.shaped_of_RefB (by kernel_rfl) (by kernel_rfl)) (by kernel_rfl) (by kernel_rfl) (by kernel_rfl) (Sh.door_met os _)) ?_
  intro W base args ds gs before hval0 hW hcnd hsz0 hL _
  have hG := Sh.of_laid hL
  have hsz : (DataW.weightsEach Tryd.prog (Tryd.f4.params.toList ++ Rows.storeLastSpec.plain.varTypes Tryd.prog) (ds ++ gs)).all (· ≤ reachBytes) = true := hsz0
  have hval : ∀ (j : Nat) t v, Tryd.f4.params[j]? = some t → args[j]? = some v → Value.okWide Tryd.prog W .any base t v := hval0
  have hW' := hW
  obtain ⟨p, q, hA0, hV, rfl, hfz, hnd⟩ := hW
  have hA : DataW.TrodAll enc Tryd.prog W 0 (fun _ => true) true Tryd.f4.params.toList args.toList ds p := hA0
  rw [Tryd.params4] at hA hval hsz
  obtain ⟨v0, vs0, d0, ds0, p0, q0, hargs, rfl, rfl, h0, r0⟩ := trodAll_cons hA
  obtain ⟨v1, vs1, d1, ds1, p1, q1, rfl, rfl, rfl, h1, r1⟩ := trodAll_cons r0
  obtain ⟨rfl, rfl, rfl⟩ := trodAll_nil r1
  obtain rfl : args = #[v0, v1] := by cases args; simp_all
  obtain ⟨rfl, rfl⟩ := trodVars_none hV
  obtain ⟨a0, len0, cap0, rfl⟩ := okWide_slice Tryd.underlying22 (hval 0 22 v0 rfl rfl)
  have k0 := h0
  have lt0 : ∀ x ∈ p0, x.block < W.heap.size := by obtain ⟨m, hm⟩ := k0; exact DataW.trod_lt m _ _ _ hm
  obtain ⟨fu0, hf0⟩ := h0
  obtain ⟨b0, c0, z0, hcs0, hl0, hC0, hb0, hB0⟩ := Dk.open_byB hf0 (fun n hn => by simpa using List.all_eq_true.1 hsz _ (DataW.weights_mem_each (j := 0) (t := 22) rfl rfl n hn))
  simp [Value.cells] at hcs0
  obtain ⟨rfl, rfl, rfl⟩ := hcs0
  obtain ⟨a1, rfl, rfl, rfl⟩ := open_bool Tryd.underlying4 (hval 1 4 v1 rfl rfl) h1
  clear hA0 hval0 hsz0 hsz
  refine (Sh.StoreLast_calls hG a0 cap0 z0 a1 hb0 hl0 hC0 hB0).mono fun e W' ⟨he, bel⟩ => ?_
  subst he
  exact ⟨_, rfl, _, _, _, [], _, [], hW', trodAll_mk1 (shut_bool Tryd.underlying4 _), (trodAll_cons_mk (Below.trod laidOut (by kernel_rfl) (of_decide_eq_true (by kernel_rfl)) k0 bel lt0) (trodAll_cons_mk (shut_bool Tryd.underlying4 _) trodAll_mk0)), rfl, bel.frame _, fun h => by cases h⟩
theorem over : Rows.storeLastRow.holds Tryd.pinned (OpenSpec.ofChange Rows.storeLastSpec) :=
  OpenClaim.holds_of_wide 4 Tryd.f4 rfl rfl rfl rfl rfl rfl rfl ⟨rfl, rfl, rfl, rfl, rfl⟩ rfl rfl rfl rfl rfl (by kernel_rfl) Tryd.func4 (by kernel_rfl)
    (of_decide_eq_true (by kernel_rfl)) (by unfold Func.isWrapper; first | (rw [if_pos (by decide +kernel)]; kernel_rfl) | (rw [if_neg (by decide +kernel)]; exact ⟨rfl, rfl⟩))
    (fun os started H enc _ => lifted os started H enc)
theorem proved : Rows.StoreLastSaid := over
theorem card : Rows.StoreLastCardSaid :=
  Claim7.holds_tied_plain_at .later [] [.data, .data] true (true, "1bf893c75732d78a061eda9ea6a5001f97c392aa8da06d65870c8ce54a6f5033") false
    proved (fun _ h => by cases h) (by kernel_rfl) (fun _ h => by cases h) storeLast_row_tie rfl ⟨rfl, rfl⟩ (by kernel_rfl) rfl
    (fun f fn hf hfn => by
      obtain rfl : f = 4 := Option.some.inj ((show Tryd.prog.funcNamed "imprimatur/imprimaturlaw08.StoreLast" = some 4 by kernel_rfl).symm.trans hf) |>.symm
      obtain rfl : fn = Tryd.f4 := (Option.some.inj (Tryd.func4.symm.trans hfn)).symm
      exact ⟨by kernel_rfl, fun j t ht => by
        rw [Tryd.params4] at ht
        have hm : t ∈ [22, 4] := by simpa using Array.mem_of_getElem? ht
        have hall : ([22, 4].all fun u => !Tryd.prog.wantsStandIn u) = true := by kernel_rfl
        exact (show Tryd.prog.wantsStandIn t = false by simpa using List.all_eq_true.1 hall t hm)⟩)
    (by kernel_rfl)
#print axioms card
end Go.Proofs.YtmblnflfklmmkaaDoor.storeLast
namespace Go.Proofs.YtmblnflfklmmkaaDoor
/-- The statement, under a short name, for the claim. -/
theorem storeLast_holds : Rows.StoreLastCardSaid := storeLast.card
end Go.Proofs.YtmblnflfklmmkaaDoor
