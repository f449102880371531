/- The law WordsOne: the walk. -/
import Derived.Test.YtmmpppahagknpaaPx7
import Derived.Test.YtmmpppahagknpaaOneM
import Derived.WalkSpells
import Derived.WalkLawsBesides
import Derived.Lib.Hide
import Derived.OneCell
import Derived.RegionTactic
import Derived.ChangeAlike
import Derived.Outline
namespace Go.Proofs.Ytmmpppahagknpaa.Pure
open Go.RowKit Go.Proofs.Ytmmpppahagknpaa.P Go.Proofs.YtmmpppahagknpaaW.PrintWords Go.Proofs.YtmmpppahagknpaaW.PrintLast Go.Proofs.YtmmpppahagknpaaW.PrintMore
set_option linter.unusedVariables false
set_option linter.unusedSimpArgs false
variable {w : World}
theorem drewN_add (w : World) (m n : Nat) : (w.drewN m).drewN n = w.drewN (m + n) := by
  simp [World.drewN, Nat.add_assoc]
theorem R_casesW {α : Type} {d : Kd α} {e : Nat} {base : Nat} {ok : Nat → Prop} {v : Value} {xs : List α} (h : d.R e w base ok v xs) : (v = .slice none 0 0 ∧ xs = []) ∨ ∃ g cap, v = .slice (some ⟨g, 0, none⟩) xs.length cap := by
  obtain ⟨_, inner, ho, hr⟩ := h
  rcases ho.2 with hz | ⟨g, cap, cur, hv, hg, _⟩
  · exact .inl ⟨hz.1, List.eq_nil_of_length_eq_zero hz.2⟩
  · exact .inr ⟨g, cap, hv⟩
theorem byte0 {A : Option Addr} {q : List Int} (h : Kd.C (Kd.int .u8) w A q.length q) (hn : 0 < q.length) : ∃ ad, A = some ad ∧ w.cell? ad = some (.int .u8 (rd q 0)) := by
  obtain ⟨ad, rfl, hc⟩ := h.2.2 hn
  obtain ⟨cs, _, hK, hx⟩ := hc 0 _ (List.getElem?_eq_getElem hn)
  have := hx 0 (.int .u8 q[0]) (by rw [hK]; rfl)
  refine ⟨ad, rfl, ?_⟩
  have e : rd q 0 = q[0] := by simp [rd, List.getD_eq_getElem?_getD, hn]
  rw [e]
  simpa [Kd.int, Kd.scalar, Addr.add] using this
theorem Kind_n (A : Option Addr) (c n : Nat) (y : List Int) (r1 r2 : Int) (w : World) (hn : y.length = n) (hC : Kd.C (Kd.int .u8) w A y.length y) (hc : n ≤ c) (h : imprimaturref18_Kind.f 12 y = some (r1, r2)) :
    Calls Try.prog 17 #[.slice A n c] w fun e w' => e = .returned (.tuple #[.int .i64 r1, .int .i64 r2]) ∧ Drawn0 w w' := by
  subst hn
  exact imprimaturref18_Kind.calls 12 A c y r1 r2 w hC hc h
theorem allK_le {kd : Int} : ∀ (c : Nat) (y : List Int), AllK kd c y → Byts y → c ≤ y.length
  | 0, _, _, _ => Nat.zero_le _
  | c + 1, y, ⟨hne, _, hr⟩, hb => by
    obtain ⟨_, _, n1, n2, _, _⟩ := kindM_bounds y hb hne
    have := allK_le c _ hr (hb.drop _)
    rw [List.length_drop] at this
    omega
theorem allK_first {kd : Int} {c : Nat} {y : List Int} (h : AllK kd c y) (hc : 1 ≤ c) : ∃ n, kindM y = (kd, n) := by
  obtain ⟨c, rfl⟩ : ∃ m, c = m + 1 := ⟨c - 1, by omega⟩
  exact ⟨(kindM y).2, by rw [← h.2.1]⟩
theorem word_at {gs ns cs B : Nat} {ok : Nat → Prop} {L : List (List Int)} (h : Kd.R (Kd.slice 5 (Kd.int .u8)) 22 w B ok (.slice (some ⟨gs, 0, none⟩) ns cs) L) (i : Nat) (hi : i < ns) :
    ∃ A c, w.cell? ⟨gs, i, none⟩ = some (.slice A (L.getD i []).length c) ∧ (L.getD i []).length ≤ c ∧ Kd.C (Kd.int .u8) w A (L.getD i []).length (L.getD i []) := by
  obtain ⟨c, hl, hM, hx, _⟩ := Kd.R_elem h [] (i : Int) (by omega) (by omega)
  rw [Int.toNat_natCast] at hM hx
  obtain ⟨u, rfl, hr⟩ := hM
  obtain ⟨A, c, rfl, h1, h2⟩ := Kd.R_reads hr
  have := hx 0 _ rfl
  refine ⟨A, c, ?_, h1, h2⟩
  rw [show i * (Kd.slice 5 (Kd.int .u8)).sz + 0 = i from by show i * 1 + 0 = _; omega] at this
  exact this
set_option maxRecDepth 20000 in
set_option maxHeartbeats 16000000 in
theorem One_calls (A : Option Addr) (c : Nat) (x : List Int) (hC : Kd.C (Kd.int .u8) w A x.length x) (hc : x.length ≤ c) (hb : Byts x) :
    Calls Try.prog 5 #[.slice A x.length c] w fun e w' => e = .returned (.bool true) ∧ Below w.heap.size w w' := by
  have HC := Aside0.mk hC
  have HCc := Aside0.mk hc
  have HBX := Aside0.mk hb
  clear hC hc hb
  by_cases hx : 2000 < x.length
  · have HLN := Aside0.mk (show imprimaturlaw18_long.f x = some true by unfold imprimaturlaw18_long.f; simp; omega)
    go_enter Try.func5, Try.ntmps5
    go_wp2_with (first | (go_at_call 11; refine (imprimaturlaw18_long.calls A c x true w HC.out HCc.out HLN.out).mono ?_; rintro e w1 ⟨rfl, ⟨m, rfl⟩⟩) | (go_at_call 12; refine (imprimaturlaw18_known.calls true _ (by rfl)).mono ?_; rintro e w2 ⟨rfl, hb2⟩))
    go_ret
    exact ⟨rfl, ⟨hb2.os, hb2.tape, hb2.output, hb2.size, hb2.block⟩⟩
  · have HLN := Aside0.mk (show imprimaturlaw18_long.f x = some false by unfold imprimaturlaw18_long.f; simp; omega)
    obtain ⟨K, hK⟩ : ∃ K : Nat, K = 2050 := ⟨_, rfl⟩
    have HCUT := Aside0.mk (Cut_eq x HBX.out (by omega) K (by omega))
    have HONE := Aside0.mk (cutM_one x HBX.out (by omega))
    have HLEN := Aside0.mk (cutM_whole x HBX.out (by omega)).2.2
    clear hK
    go_enter Try.func5, Try.ntmps5
    go_wp2_with (first | (go_at_call 11; refine (imprimaturlaw18_long.calls A c x false w HC.out HCc.out HLN.out).mono ?_; rintro e w0 ⟨rfl, ⟨m, rfl⟩⟩) | (go_at_call 13; refine (words_Cut.calls K A c x (cutM x) 0 _ (Kd.C_drewN HC.out m) HCc.out HCUT.out).mono ?_; rintro e w1 ⟨v1, rfl, hs1, hb1⟩; obtain ⟨A1, c1, rfl⟩ := Kd.R_slice (Kd.S_R hs1); have HS1 := Aside0.mk (Kd.S_R hs1); have HB1 := Aside0.mk (show Below w.heap.size w w1 from ⟨hb1.os, hb1.tape, hb1.output, hb1.size, hb1.block⟩); clear hs1 hb1))
    obtain ⟨L, hL⟩ : ∃ L, cutM x = L := ⟨_, rfl⟩
    rw [hL] at HS1 HONE HLEN ⊢
    have hLl : L.length ≤ 2000 := by have := HLEN.out; omega
    have hxl : x.length ≤ 2000 := by omega
    clear hL HCUT hx
    go_loopw [5] (fun v5 w' => ∃ i m : Nat, v5 = .int .i64 i ∧ i ≤ L.length ∧ w' = w1.drewN m) (fun v5 _ => L.length - (intOf v5).toNat)
    case atStart => exact ⟨0, 0, rfl, Nat.zero_le _, rfl⟩
    case round =>
      obtain ⟨i, m, rfl, hi, rfl⟩ := hrel
      by_cases hlt : i < L.length
      · rcases R_casesW HS1.out with ⟨_, hz⟩ | ⟨gs, cap, es⟩
        · rw [hz] at hlt
          exact absurd hlt (by simp)
        injection es with es1 es2 es3
        subst es1
        clear es2 es3
        obtain ⟨Aw, cw, hcell, hwc, hCw⟩ := word_at HS1.out i hlt
        have hmem : L.getD i [] ∈ L := by
          rw [List.getD_eq_getElem?_getD, List.getElem?_eq_getElem hlt]
          exact List.getElem_mem hlt
        obtain ⟨⟨kd, c0, hall, hc0, h2, h0⟩, hbw, hwl⟩ := HONE.out _ hmem
        obtain ⟨q, hq⟩ : ∃ q, L.getD i [] = q := ⟨_, rfl⟩
        rw [hq] at hcell hwc hCw hall hbw hwl
        have hcell2 : (w1.drewN m).cell? ⟨gs, i, none⟩ = some (.slice Aw q.length cw) := hcell
        have HWC := Aside0.mk hwc
        have HCW := Aside0.mk hCw
        have HBW := Aside0.mk hbw
        have HALL0 := Aside0.mk hall
        have hql : q.length ≤ 2000 := by omega
        clear hcell hmem hq hwc hCw hbw hall
        by_cases h1 : 1 < q.length
        · obtain ⟨ad, hA, hb0⟩ := byte0 HCW.out (by omega)
          subst hA
          have hb0' : (w1.drewN m).cell? ad = some (.int .u8 (rd q 0)) := hb0
          by_cases h32 : rd q 0 = 32
          · obtain ⟨k3, s3, hk3⟩ : ∃ k3 s3, kindM (q.drop 1) = (k3, s3) := ⟨_, _, rfl⟩
            have HK3 := Aside0.mk (show imprimaturref18_Kind.f 12 (q.drop 1) = some (k3, s3) by rw [rkind_at (q.drop 1) (HBW.out.drop 1) (by simp; omega) 12 (by omega), hk3])
            have HCD := Aside0.mk (show Kd.C (Kd.int .u8) w1 (some ⟨ad.block, ad.off + 1, none⟩) (q.drop 1).length (q.drop 1) from by
              have h := Kd.C_drop (m := 1) HCW.out (by omega) HWC.out
              rwa [if_neg (by have := HWC.out; omega)] at h)
            have hcw : 1 < cw := by have := HWC.out; omega
            by_cases hk : k3 = 3
            · have hst : strip q = q := by
                unfold strip
                rw [if_neg]
                rintro ⟨_, _, h⟩
                rw [hk3] at h
                exact h hk
              subst hk
              rw [h32] at hb0'
              have HALL1 := Aside0.mk (show AllK kd c0 q by have h := HALL0.out; rwa [hst] at h)
              have HCS := Aside0.mk (show Kd.C (Kd.int .u8) w1 (some ad) (q).length (q) from HCW.out)
              have HBS := Aside0.mk (show Byts q from HBW.out)
              obtain ⟨n0, hn0⟩ := allK_first HALL1.out hc0
              have hcl : c0 ≤ 2000 := by have h := allK_le c0 _ HALL1.out HBS.out; omega
              have HK0 := Aside0.mk (show imprimaturref18_Kind.f 12 q = some (kd, n0) by rw [rkind_at q HBS.out (by omega) 12 (by omega), hn0])
              clear hn0 HALL0
              clear h32 hk3
              go_wp2_with (first | (go_at_call 17; (with_reducible refine (Kind_n (some ⟨ad.block, ad.off + 1, none⟩) (cw - 1) (q.length - 1) (q.drop 1) 3 s3 _ (by simp) (Kd.C_drewN HCD.out m) (by have := HWC.out; omega) HK3.out).mono ?_); rintro e w3 ⟨rfl, ⟨m3, rfl⟩⟩; try rw [drewN_add]) | (go_at_call 17; (with_reducible refine (Kind_n (some ad) cw q.length q kd n0 _ rfl (Kd.C_drewN HCS.out _) HWC.out HK0.out).mono ?_); rintro e w2 ⟨rfl, ⟨m2, rfl⟩⟩; try rw [drewN_add]))
              go_loopw [6, 11] (fun v6 v11 w' => ∃ (y : List Int) (Ay : Option Addr) (cy cn n m : Nat), v6 = .slice Ay y.length cy ∧ v11 = .int .i64 n ∧ n + cn = c0 ∧ y.length ≤ 2000 ∧ Aside0 (y.length ≤ cy) ∧ Aside0 (AllK kd cn y) ∧ Aside0 (Byts y) ∧ Aside0 (Kd.C (Kd.int .u8) w1 Ay y.length y) ∧ w' = w1.drewN m) (fun v6 _ _ => (match v6 with | .slice _ n _ => n | _ => 0))
              case atStart => exact ⟨q, some ad, cw, c0, 0, _, rfl, rfl, by omega, by omega, HWC, HALL1, HBS, HCS, rfl⟩
              case round =>
                obtain ⟨y, Ay, cy, cn, n, m, rfl, rfl, hnc, hyl, HYC, HALL, HBY, HCY, rfl⟩ := hrel
                cases cn with
                | zero =>
                  have hy0 : y = [] := HALL.out
                  subst hy0
                  have hn0 : n = c0 := by omega
                  subst hn0
                  have tn : ((n : Int) == 0) = false := by simp; omega
                  clear HALL HBY hnc
                  by_cases k2 : kd = 2
                  · have t2 : (kd == 2) = true := by simpa using k2
                    have t0 : (kd == 0) = false := by simp; omega
                    have hb3 : n ≤ 3 := h2 k2
                    clear k2 h2 h0
                    go_wp2
                    go_roundw
                    case rel => exact ⟨i + 1, _, by go_num, by omega, rfl⟩
                    case measure => simp [intOf]; omega
                  · have t2 : (kd == 2) = false := by simpa using k2
                    by_cases k0 : kd = 0
                    · have t0 : (kd == 0) = true := by simpa using k0
                      have hb1 : n ≤ 1 := h0 k0
                      clear k2 k0 h2 h0
                      go_wp2
                      go_roundw
                      case rel => exact ⟨i + 1, _, by go_num, by omega, rfl⟩
                      case measure => simp [intOf]; omega
                    · have t0 : (kd == 0) = false := by simpa using k0
                      clear k2 k0 h2 h0
                      go_wp2
                      go_roundw
                      case rel => exact ⟨i + 1, _, by go_num, by omega, rfl⟩
                      case measure => simp [intOf]; omega
                | succ cn =>
                  obtain ⟨hne, hkd, hrest⟩ := HALL.out
                  obtain ⟨_, _, n1, n2, n4, _⟩ := kindM_bounds y HBY.out hne
                  obtain ⟨sz, hsz⟩ : ∃ sz : Nat, (kindM y).2 = sz := ⟨(kindM y).2.toNat, by omega⟩
                  have hky : kindM y = (kd, (sz : Int)) := by rw [← hkd, ← hsz]
                  rw [hsz] at n1 n2 hrest
                  rw [Int.toNat_natCast] at hrest
                  have HKY := Aside0.mk (show imprimaturref18_Kind.f 12 y = some (kd, (sz : Int)) by rw [rkind_at y HBY.out (by omega) 12 (by omega), hky])
                  have HREST := Aside0.mk hrest
                  have HBR := Aside0.mk (HBY.out.drop sz)
                  have HCR := Aside0.mk (Kd.C_drop (m := sz) HCY.out (by omega) HYC.out)
                  have hyc := HYC.out
                  have hyp : 0 < y.length := List.length_pos_iff.2 hne
                  have hst : (sz : Int).toNat = sz := Int.toNat_natCast sz
                  clear hne hkd hsz hky hrest n4 HALL
                  go_wp2_with (first | (go_at_call 17; (with_reducible refine (imprimaturref18_Kind.calls 12 Ay cy y kd sz _ (Kd.C_drewN HCY.out m) HYC.out HKY.out).mono ?_); rintro e w2 ⟨rfl, ⟨m2, rfl⟩⟩))
                  go_roundw
                  case rel => exact ⟨y.drop sz, _, cy - sz, cn, n + 1, m + m2, by rw [List.length_drop]; simp [Kd.int, Kd.scalar], by go_num, by omega, by rw [List.length_drop]; omega, ⟨by rw [List.length_drop]; omega⟩, HREST, HBR, HCR, by first | rfl | rw [drewN_add]⟩
                  case measure => simp; omega
            · have hst : strip q = q.drop 1 := by
                unfold strip
                rw [if_pos ⟨h1, h32, by rw [hk3]; exact hk⟩]
              have tk3 : (k3 == 3) = false := by simpa using hk
              rw [h32] at hb0'
              have HALL1 := Aside0.mk (show AllK kd c0 (q.drop 1) by have h := HALL0.out; rwa [hst] at h)
              have HCS := Aside0.mk (show Kd.C (Kd.int .u8) w1 (some ⟨ad.block, ad.off + 1, none⟩) ((q.drop 1)).length ((q.drop 1)) from HCD.out)
              have HBS := Aside0.mk (show Byts (q.drop 1) from HBW.out.drop 1)
              obtain ⟨n0, hn0⟩ := allK_first HALL1.out hc0
              have hcl : c0 ≤ 2000 := by have h := allK_le c0 _ HALL1.out HBS.out; rw [List.length_drop] at h; omega
              have HK0 := Aside0.mk (show imprimaturref18_Kind.f 12 (q.drop 1) = some (kd, n0) by rw [rkind_at (q.drop 1) HBS.out (by simp; omega) 12 (by omega), hn0])
              clear hn0 HALL0
              clear hk h32 hk3
              go_wp2_with (first | (go_at_call 17; (with_reducible refine (Kind_n (some ⟨ad.block, ad.off + 1, none⟩) (cw - 1) (q.length - 1) (q.drop 1) k3 s3 _ (by simp) (Kd.C_drewN HCD.out m) (by have := HWC.out; omega) HK3.out).mono ?_); rintro e w3 ⟨rfl, ⟨m3, rfl⟩⟩; try rw [drewN_add]) | (go_at_call 17; (with_reducible refine (Kind_n (some ⟨ad.block, ad.off + 1, none⟩) (cw - 1) (q.length - 1) (q.drop 1) kd n0 _ (by simp) (Kd.C_drewN HCS.out _) (by have := HWC.out; omega) HK0.out).mono ?_); rintro e w2 ⟨rfl, ⟨m2, rfl⟩⟩; try rw [drewN_add]))
              go_loopw [6, 11] (fun v6 v11 w' => ∃ (y : List Int) (Ay : Option Addr) (cy cn n m : Nat), v6 = .slice Ay y.length cy ∧ v11 = .int .i64 n ∧ n + cn = c0 ∧ y.length ≤ 2000 ∧ Aside0 (y.length ≤ cy) ∧ Aside0 (AllK kd cn y) ∧ Aside0 (Byts y) ∧ Aside0 (Kd.C (Kd.int .u8) w1 Ay y.length y) ∧ w' = w1.drewN m) (fun v6 _ _ => (match v6 with | .slice _ n _ => n | _ => 0))
              case atStart => exact ⟨q.drop 1, some ⟨ad.block, ad.off + 1, none⟩, cw - 1, c0, 0, _, by rw [List.length_drop], rfl, by omega, by rw [List.length_drop]; omega, ⟨by rw [List.length_drop]; have := HWC.out; omega⟩, HALL1, HBS, HCS, rfl⟩
              case round =>
                obtain ⟨y, Ay, cy, cn, n, m, rfl, rfl, hnc, hyl, HYC, HALL, HBY, HCY, rfl⟩ := hrel
                cases cn with
                | zero =>
                  have hy0 : y = [] := HALL.out
                  subst hy0
                  have hn0 : n = c0 := by omega
                  subst hn0
                  have tn : ((n : Int) == 0) = false := by simp; omega
                  clear HALL HBY hnc
                  by_cases k2 : kd = 2
                  · have t2 : (kd == 2) = true := by simpa using k2
                    have t0 : (kd == 0) = false := by simp; omega
                    have hb3 : n ≤ 3 := h2 k2
                    clear k2 h2 h0
                    go_wp2
                    go_roundw
                    case rel => exact ⟨i + 1, _, by go_num, by omega, rfl⟩
                    case measure => simp [intOf]; omega
                  · have t2 : (kd == 2) = false := by simpa using k2
                    by_cases k0 : kd = 0
                    · have t0 : (kd == 0) = true := by simpa using k0
                      have hb1 : n ≤ 1 := h0 k0
                      clear k2 k0 h2 h0
                      go_wp2
                      go_roundw
                      case rel => exact ⟨i + 1, _, by go_num, by omega, rfl⟩
                      case measure => simp [intOf]; omega
                    · have t0 : (kd == 0) = false := by simpa using k0
                      clear k2 k0 h2 h0
                      go_wp2
                      go_roundw
                      case rel => exact ⟨i + 1, _, by go_num, by omega, rfl⟩
                      case measure => simp [intOf]; omega
                | succ cn =>
                  obtain ⟨hne, hkd, hrest⟩ := HALL.out
                  obtain ⟨_, _, n1, n2, n4, _⟩ := kindM_bounds y HBY.out hne
                  obtain ⟨sz, hsz⟩ : ∃ sz : Nat, (kindM y).2 = sz := ⟨(kindM y).2.toNat, by omega⟩
                  have hky : kindM y = (kd, (sz : Int)) := by rw [← hkd, ← hsz]
                  rw [hsz] at n1 n2 hrest
                  rw [Int.toNat_natCast] at hrest
                  have HKY := Aside0.mk (show imprimaturref18_Kind.f 12 y = some (kd, (sz : Int)) by rw [rkind_at y HBY.out (by omega) 12 (by omega), hky])
                  have HREST := Aside0.mk hrest
                  have HBR := Aside0.mk (HBY.out.drop sz)
                  have HCR := Aside0.mk (Kd.C_drop (m := sz) HCY.out (by omega) HYC.out)
                  have hyc := HYC.out
                  have hyp : 0 < y.length := List.length_pos_iff.2 hne
                  have hst : (sz : Int).toNat = sz := Int.toNat_natCast sz
                  clear hne hkd hsz hky hrest n4 HALL
                  go_wp2_with (first | (go_at_call 17; (with_reducible refine (imprimaturref18_Kind.calls 12 Ay cy y kd sz _ (Kd.C_drewN HCY.out m) HYC.out HKY.out).mono ?_); rintro e w2 ⟨rfl, ⟨m2, rfl⟩⟩))
                  go_roundw
                  case rel => exact ⟨y.drop sz, _, cy - sz, cn, n + 1, m + m2, by rw [List.length_drop]; simp [Kd.int, Kd.scalar], by go_num, by omega, by rw [List.length_drop]; omega, ⟨by rw [List.length_drop]; omega⟩, HREST, HBR, HCR, by first | rfl | rw [drewN_add]⟩
                  case measure => simp; omega
          · have hst : strip q = q := by
              unfold strip
              rw [if_neg]
              rintro ⟨_, h, _⟩
              exact h32 h
            have t32 : (rd q 0 == 32) = false := by simpa using h32
            have HALL1 := Aside0.mk (show AllK kd c0 q by have h := HALL0.out; rwa [hst] at h)
            have HCS := Aside0.mk (show Kd.C (Kd.int .u8) w1 (some ad) (q).length (q) from HCW.out)
            have HBS := Aside0.mk (show Byts q from HBW.out)
            obtain ⟨n0, hn0⟩ := allK_first HALL1.out hc0
            have hcl : c0 ≤ 2000 := by have h := allK_le c0 _ HALL1.out HBS.out; omega
            have HK0 := Aside0.mk (show imprimaturref18_Kind.f 12 q = some (kd, n0) by rw [rkind_at q HBS.out (by omega) 12 (by omega), hn0])
            clear hn0 HALL0
            go_wp2_with (first | (go_at_call 17; (with_reducible refine (Kind_n (some ad) cw q.length q kd n0 _ rfl (Kd.C_drewN HCS.out _) HWC.out HK0.out).mono ?_); rintro e w2 ⟨rfl, ⟨m2, rfl⟩⟩; try rw [drewN_add]))
            go_loopw [6, 11] (fun v6 v11 w' => ∃ (y : List Int) (Ay : Option Addr) (cy cn n m : Nat), v6 = .slice Ay y.length cy ∧ v11 = .int .i64 n ∧ n + cn = c0 ∧ y.length ≤ 2000 ∧ Aside0 (y.length ≤ cy) ∧ Aside0 (AllK kd cn y) ∧ Aside0 (Byts y) ∧ Aside0 (Kd.C (Kd.int .u8) w1 Ay y.length y) ∧ w' = w1.drewN m) (fun v6 _ _ => (match v6 with | .slice _ n _ => n | _ => 0))
            case atStart => exact ⟨q, some ad, cw, c0, 0, _, rfl, rfl, by omega, by omega, HWC, HALL1, HBS, HCS, rfl⟩
            case round =>
              obtain ⟨y, Ay, cy, cn, n, m, rfl, rfl, hnc, hyl, HYC, HALL, HBY, HCY, rfl⟩ := hrel
              cases cn with
              | zero =>
                have hy0 : y = [] := HALL.out
                subst hy0
                have hn0 : n = c0 := by omega
                subst hn0
                have tn : ((n : Int) == 0) = false := by simp; omega
                clear HALL HBY hnc
                by_cases k2 : kd = 2
                · have t2 : (kd == 2) = true := by simpa using k2
                  have t0 : (kd == 0) = false := by simp; omega
                  have hb3 : n ≤ 3 := h2 k2
                  clear k2 h2 h0
                  go_wp2
                  go_roundw
                  case rel => exact ⟨i + 1, _, by go_num, by omega, rfl⟩
                  case measure => simp [intOf]; omega
                · have t2 : (kd == 2) = false := by simpa using k2
                  by_cases k0 : kd = 0
                  · have t0 : (kd == 0) = true := by simpa using k0
                    have hb1 : n ≤ 1 := h0 k0
                    clear k2 k0 h2 h0
                    go_wp2
                    go_roundw
                    case rel => exact ⟨i + 1, _, by go_num, by omega, rfl⟩
                    case measure => simp [intOf]; omega
                  · have t0 : (kd == 0) = false := by simpa using k0
                    clear k2 k0 h2 h0
                    go_wp2
                    go_roundw
                    case rel => exact ⟨i + 1, _, by go_num, by omega, rfl⟩
                    case measure => simp [intOf]; omega
              | succ cn =>
                obtain ⟨hne, hkd, hrest⟩ := HALL.out
                obtain ⟨_, _, n1, n2, n4, _⟩ := kindM_bounds y HBY.out hne
                obtain ⟨sz, hsz⟩ : ∃ sz : Nat, (kindM y).2 = sz := ⟨(kindM y).2.toNat, by omega⟩
                have hky : kindM y = (kd, (sz : Int)) := by rw [← hkd, ← hsz]
                rw [hsz] at n1 n2 hrest
                rw [Int.toNat_natCast] at hrest
                have HKY := Aside0.mk (show imprimaturref18_Kind.f 12 y = some (kd, (sz : Int)) by rw [rkind_at y HBY.out (by omega) 12 (by omega), hky])
                have HREST := Aside0.mk hrest
                have HBR := Aside0.mk (HBY.out.drop sz)
                have HCR := Aside0.mk (Kd.C_drop (m := sz) HCY.out (by omega) HYC.out)
                have hyc := HYC.out
                have hyp : 0 < y.length := List.length_pos_iff.2 hne
                have hst : (sz : Int).toNat = sz := Int.toNat_natCast sz
                clear hne hkd hsz hky hrest n4 HALL
                go_wp2_with (first | (go_at_call 17; (with_reducible refine (imprimaturref18_Kind.calls 12 Ay cy y kd sz _ (Kd.C_drewN HCY.out m) HYC.out HKY.out).mono ?_); rintro e w2 ⟨rfl, ⟨m2, rfl⟩⟩))
                go_roundw
                case rel => exact ⟨y.drop sz, _, cy - sz, cn, n + 1, m + m2, by rw [List.length_drop]; simp [Kd.int, Kd.scalar], by go_num, by omega, by rw [List.length_drop]; omega, ⟨by rw [List.length_drop]; omega⟩, HREST, HBR, HCR, by first | rfl | rw [drewN_add]⟩
                case measure => simp; omega
        · have hst : strip q = q := by
            unfold strip
            rw [if_neg]
            rintro ⟨h, _⟩
            exact h1 h
          have HALL1 := Aside0.mk (show AllK kd c0 q by have h := HALL0.out; rwa [hst] at h)
          have HCS := Aside0.mk (show Kd.C (Kd.int .u8) w1 Aw (q).length (q) from HCW.out)
          have HBS := Aside0.mk (show Byts q from HBW.out)
          obtain ⟨n0, hn0⟩ := allK_first HALL1.out hc0
          have hcl : c0 ≤ 2000 := by have h := allK_le c0 _ HALL1.out HBS.out; omega
          have HK0 := Aside0.mk (show imprimaturref18_Kind.f 12 q = some (kd, n0) by rw [rkind_at q HBS.out (by omega) 12 (by omega), hn0])
          clear hn0 HALL0
          go_wp2_with (first | (go_at_call 17; (with_reducible refine (Kind_n Aw cw q.length q kd n0 _ rfl (Kd.C_drewN HCS.out _) HWC.out HK0.out).mono ?_); rintro e w2 ⟨rfl, ⟨m2, rfl⟩⟩; try rw [drewN_add]))
          go_loopw [6, 11] (fun v6 v11 w' => ∃ (y : List Int) (Ay : Option Addr) (cy cn n m : Nat), v6 = .slice Ay y.length cy ∧ v11 = .int .i64 n ∧ n + cn = c0 ∧ y.length ≤ 2000 ∧ Aside0 (y.length ≤ cy) ∧ Aside0 (AllK kd cn y) ∧ Aside0 (Byts y) ∧ Aside0 (Kd.C (Kd.int .u8) w1 Ay y.length y) ∧ w' = w1.drewN m) (fun v6 _ _ => (match v6 with | .slice _ n _ => n | _ => 0))
          case atStart => exact ⟨q, Aw, cw, c0, 0, _, rfl, rfl, by omega, by omega, HWC, HALL1, HBS, HCS, rfl⟩
          case round =>
            obtain ⟨y, Ay, cy, cn, n, m, rfl, rfl, hnc, hyl, HYC, HALL, HBY, HCY, rfl⟩ := hrel
            cases cn with
            | zero =>
              have hy0 : y = [] := HALL.out
              subst hy0
              have hn0 : n = c0 := by omega
              subst hn0
              have tn : ((n : Int) == 0) = false := by simp; omega
              clear HALL HBY hnc
              by_cases k2 : kd = 2
              · have t2 : (kd == 2) = true := by simpa using k2
                have t0 : (kd == 0) = false := by simp; omega
                have hb3 : n ≤ 3 := h2 k2
                clear k2 h2 h0
                go_wp2
                go_roundw
                case rel => exact ⟨i + 1, _, by go_num, by omega, rfl⟩
                case measure => simp [intOf]; omega
              · have t2 : (kd == 2) = false := by simpa using k2
                by_cases k0 : kd = 0
                · have t0 : (kd == 0) = true := by simpa using k0
                  have hb1 : n ≤ 1 := h0 k0
                  clear k2 k0 h2 h0
                  go_wp2
                  go_roundw
                  case rel => exact ⟨i + 1, _, by go_num, by omega, rfl⟩
                  case measure => simp [intOf]; omega
                · have t0 : (kd == 0) = false := by simpa using k0
                  clear k2 k0 h2 h0
                  go_wp2
                  go_roundw
                  case rel => exact ⟨i + 1, _, by go_num, by omega, rfl⟩
                  case measure => simp [intOf]; omega
            | succ cn =>
              obtain ⟨hne, hkd, hrest⟩ := HALL.out
              obtain ⟨_, _, n1, n2, n4, _⟩ := kindM_bounds y HBY.out hne
              obtain ⟨sz, hsz⟩ : ∃ sz : Nat, (kindM y).2 = sz := ⟨(kindM y).2.toNat, by omega⟩
              have hky : kindM y = (kd, (sz : Int)) := by rw [← hkd, ← hsz]
              rw [hsz] at n1 n2 hrest
              rw [Int.toNat_natCast] at hrest
              have HKY := Aside0.mk (show imprimaturref18_Kind.f 12 y = some (kd, (sz : Int)) by rw [rkind_at y HBY.out (by omega) 12 (by omega), hky])
              have HREST := Aside0.mk hrest
              have HBR := Aside0.mk (HBY.out.drop sz)
              have HCR := Aside0.mk (Kd.C_drop (m := sz) HCY.out (by omega) HYC.out)
              have hyc := HYC.out
              have hyp : 0 < y.length := List.length_pos_iff.2 hne
              have hst : (sz : Int).toNat = sz := Int.toNat_natCast sz
              clear hne hkd hsz hky hrest n4 HALL
              go_wp2_with (first | (go_at_call 17; (with_reducible refine (imprimaturref18_Kind.calls 12 Ay cy y kd sz _ (Kd.C_drewN HCY.out m) HYC.out HKY.out).mono ?_); rintro e w2 ⟨rfl, ⟨m2, rfl⟩⟩))
              go_roundw
              case rel => exact ⟨y.drop sz, _, cy - sz, cn, n + 1, m + m2, by rw [List.length_drop]; simp [Kd.int, Kd.scalar], by go_num, by omega, by rw [List.length_drop]; omega, ⟨by rw [List.length_drop]; omega⟩, HREST, HBR, HCR, by first | rfl | rw [drewN_add]⟩
              case measure => simp; omega
      · obtain rfl : i = L.length := by omega
        go_wp2_with (first | (go_at_call 12; refine (imprimaturlaw18_known.calls true _ (by rfl)).mono ?_; rintro e w2 ⟨rfl, hb2⟩; have HB2 := Aside0.mk hb2; clear hb2))
        go_ret
        exact ⟨rfl, ⟨HB2.out.os.trans HB1.out.os, HB2.out.tape.trans HB1.out.tape, HB2.out.output.trans HB1.out.output, Nat.le_trans HB1.out.size HB2.out.size, fun k hk => (HB2.out.block k (Nat.lt_of_lt_of_le hk HB1.out.size)).trans (HB1.out.block k hk)⟩⟩
end Go.Proofs.Ytmmpppahagknpaa.Pure
