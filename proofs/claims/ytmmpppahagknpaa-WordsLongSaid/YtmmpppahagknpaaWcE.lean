/- words.Counts: the walk. -/
import Derived.Test.YtmmpppahagknpaaWcD
namespace Go.Proofs.Ytmmpppahagknpaa.Wc
open Go.RowKit Go.Proofs.Ytmmpppahagknpaa.P Go.Proofs.Ytmmpppahagknpaa.Pure Go.Proofs.YtmmpppahagknpaaW.PrintWords Go.Proofs.YtmmpppahagknpaaW.PrintLast Go.Proofs.YtmmpppahagknpaaW.PrintMore
set_option linter.unusedVariables false
set_option linter.unusedSimpArgs false
set_option maxRecDepth 30000
set_option maxHeartbeats 16000000 in
theorem counts_calls {w : World} (A : Option Addr) (c : Nat) (T : List (List Int)) (hT : Kd.C (Kd.slice 5 (Kd.int .u8)) w A T.length T) (hc : T.length ≤ c) (hB : ∀ t ∈ T, Byts t) (hl : ∀ t ∈ T, t.length ≤ 140737488355328) (hTl : T.length ≤ 140737488355328) :
    Calls Try.prog 22 #[.slice A T.length c] w fun e w' => (tot T ≤ 16384 ∧ ∃ v cs Z, e = .returned (.tuple #[v, .int .i64 0]) ∧ Ct w w' 45 Z v cs (countsR (wordsOf T))) ∨ (16384 < tot T ∧ e = .returned (.tuple #[.slice none 0 0, .int .i64 2]) ∧ Below w.heap.size w w') := by
  have HT := Aside0.mk hT
  have HB := Aside0.mk hB
  have HL := Aside0.mk hl
  clear hT hB hl
  obtain ⟨K, hK⟩ : ∃ K, K = 20000 := ⟨_, rfl⟩
  have hmm := @run_makeMap Try.prog
  go_enter Try.func22, Try.ntmps22
  go_wp2
  go_loopw [4, 17] (fun v4 v17 w' => ∃ (i : Nat), v4 = .int .i64 (tot (T.take i)) ∧ v17 = .int .i64 i ∧ i ≤ T.length ∧ tot (T.take i) ≤ 16384 ∧ w = w') (fun _ v17 _ => T.length - (intOf v17).toNat)
  case atStart => exact ⟨0, rfl, rfl, Nat.zero_le _, Nat.zero_le _, rfl⟩
  case round =>
    obtain ⟨i, rfl, rfl, hi, hti, rfl⟩ := hrel
    by_cases hlt : i < T.length
    · obtain ⟨adT, A0, c0, rfl, hcw, hl0, hC0⟩ := at_L1 HT.out (i : Int) (by omega) (by omega)
      rw [Int.toNat_natCast] at hcw
      obtain ⟨t, ht⟩ : ∃ t, rd_L1 T (i : Int) = t := ⟨_, rfl⟩
      have htt : T[i] = t := by rw [← ht]; unfold rd_L1; rw [Int.toNat_natCast, List.getD_eq_getElem?_getD, List.getElem?_eq_getElem hlt]; rfl
      rw [ht] at hcw hl0 hC0
      have htl := HL.out _ (List.getElem_mem hlt)
      have hsn := tot_snoc hlt
      rw [htt] at hsn htl
      have hle := tot_take T (i + 1)
      obtain ⟨n, hn⟩ : ∃ n, tot (T.take i) = n := ⟨_, rfl⟩
      obtain ⟨n1, hn1⟩ : ∃ n, tot (T.take (i + 1)) = n := ⟨_, rfl⟩
      obtain ⟨N, hN⟩ : ∃ n, tot T = n := ⟨_, rfl⟩
      rw [hn] at hti hsn ⊢
      rw [hn1] at hsn hle
      rw [hN] at hle
      clear hl0 hC0 ht htt
      by_cases hbig : (t.length : Int) > 16384 - (n : Int)
      · go_wp2_with (fail)
        go_ret2
        exact .inr ⟨by omega, rfl, Below.refl _ _⟩
      · go_wp2_with (fail)
        go_roundw
        case rel => exact ⟨i + 1, by rw [hn1]; go_num, by go_num, by omega, by omega, (by first | trivial | rfl)⟩
        case measure => simp [intOf]; omega
    · obtain rfl : i = T.length := by omega
      rw [List.take_length] at hti ⊢
      have HTT := Aside0.mk hti
      have HWN := Aside0.mk (wordsOf_tot HB.out (by omega))
      clear hti
      go_wp2
      obtain ⟨B, hB⟩ : ∃ B, w.heap.size = B := ⟨_, rfl⟩
      rw [hB]
      go_loopw [8, 34] (fun v8 v34 w' => ∃ (i : Nat) (cs : List CE) (Z : Nat → Prop), v34 = .int .i64 i ∧ i ≤ T.length ∧ Aside0 (Ct w w' 45 Z v8 cs (countsP (wordsOf (T.take i)))) ∧ Aside0 (¬ Z B ∧ Mp w' B ((countsP (wordsOf (T.take i))).map (·.1)))) (fun _ v34 _ => T.length - (intOf v34).toNat)
      case atStart => exact ⟨0, [], _, rfl, Nat.zero_le _, ⟨(Ct.nil w 45).below (below_alloc (Below.refl _ _) _)⟩, ⟨⟨by omega, by rw [← hB]; exact Mp.made w⟩⟩⟩
      case round =>
        obtain ⟨i, cs, Z, rfl, hi, HR, HM⟩ := hrel
        by_cases hlt : i < T.length
        · obtain ⟨adT, A0, c0, rfl, hcw, hl0, hC0⟩ := at_L1 HT.out (i : Int) (by omega) (by omega)
          rw [Int.toNat_natCast] at hcw
          obtain ⟨t, ht⟩ : ∃ t, rd_L1 T (i : Int) = t := ⟨_, rfl⟩
          have hti : T[i] = t := by rw [← ht]; unfold rd_L1; rw [Int.toNat_natCast, List.getD_eq_getElem?_getD, List.getElem?_eq_getElem hlt]; rfl
          rw [ht] at hcw hl0 hC0
          have htb : Byts t := by rw [← hti]; exact HB.out _ (List.getElem_mem hlt)
          have htl : t.length ≤ 16384 := by rw [← hti]; exact Nat.le_trans (tot_mem (List.getElem_mem hlt)) HTT.out
          have hcell := Kd.cell_heap (fun k hk => HR.out.b.block k hk) hcw
          have HV0 := Aside0.mk (Kd.V_lower (Kd.V_below (Kd.V_mk (e := 5) (base := wr.heap.size) hl0 (C_came (Kd.heap_int .u8) hC0)) HR.out.b) (Nat.le_refl _))
          obtain ⟨L, hL⟩ : ∃ L, cutM t = L := ⟨_, rfl⟩
          have HCT := Aside0.mk (words_cut.calls K (fun k => k < w.heap.size) A0 c0 t L wr HV0.out (by rw [← hL]; exact pcut_eq t htb htl K (by omega)))
          have HSN := Aside0.mk (show wordsOf (T.take (i + 1)) = wordsOf (T.take i) ++ L by rw [wordsOf_snoc hlt, hti, hL])
          have HLN := Aside0.mk (show (wordsOf (T.take i) ++ L).length ≤ 16384 by rw [← HSN.out]; exact Nat.le_trans (wordsOf_take T (i + 1)) (Nat.le_trans HWN.out HTT.out))
          have HLB := Aside0.mk (show ∀ x ∈ wordsOf (T.take i) ++ L, Byts x by
            rw [← HSN.out]
            exact words_byts (fun t ht => HB.out t (List.mem_of_mem_take ht)) (fun t ht => Nat.le_trans (tot_mem (List.mem_of_mem_take ht)) HTT.out))
          have HLX := Aside0.mk (show ∀ x ∈ L, x.length ≤ 16384 from fun x hx => Nat.le_trans (cut_len htb (by omega) (by rw [hL]; exact hx)) htl)
          obtain ⟨W0, hW0⟩ : ∃ W0, wordsOf (T.take i) = W0 := ⟨_, rfl⟩
          rw [hW0] at HR HM HSN HLN HLB
          clear hcw hC0 hl0 ht hti htb htl hL hW0
          go_wp2_with (first | (go_at_call 27; (with_reducible refine HCT.out.mono ?_); rintro e w1 ⟨v5, rfl, hs5, hb5⟩; obtain ⟨A5, c5, rfl⟩ := Kd.S_slice hs5; have hn5 := Kd.S_N hs5; have HR5 := Aside0.mk (HR.out.cut hb5); have HM5 := Aside0.mk (HM.out.2.below hb5); have HV5 := Aside0.mk (show Kd.V (Kd.slice 5 (Kd.int .u8)) 22 w1 0 (fun k => Z k ∨ (wr.heap.size ≤ k ∧ k < w1.heap.size)) (.slice A5 L.length c5) L from Kd.V_mk (Kd.N_reads' hn5).2.1 (Kd.F_mono (Kd.F_bound (Kd.N_F hn5)) (fun k hk => .inr ⟨hk.1, hk.2⟩))); have HZ5 := Aside0.mk (show ¬ (Z B ∨ (wr.heap.size ≤ B ∧ B < w1.heap.size)) from fun h => h.elim HM.out.1 (fun h => absurd HM.out.2.lt (by omega))); clear hn5 hb5 hs5))
          obtain ⟨Z5, hZ5⟩ : ∃ Z5, (fun k => Z k ∨ (wr.heap.size ≤ k ∧ k < w1.heap.size)) = Z5 := ⟨_, rfl⟩
          rw [hZ5] at HR5 HV5
          have HZB := Aside0.mk (show ¬ Z5 B by rw [← hZ5]; exact HZ5.out)
          clear hZ5 HZ5
          go_loopw [8, 41] (fun v8 v41 w' => ∃ (k : Nat) (cs : List CE), v41 = .int .i64 k ∧ k ≤ L.length ∧ Aside0 (Ct w w' 45 Z5 v8 cs (countsP (W0 ++ L.take k))) ∧ Aside0 (Mp w' B ((countsP (W0 ++ L.take k)).map (·.1))) ∧ Aside0 (Kd.V (Kd.slice 5 (Kd.int .u8)) 22 w' 0 Z5 (.slice A5 L.length c5) L)) (fun _ v41 _ => L.length - (intOf v41).toNat)
          case atStart => exact ⟨0, cs, rfl, Nat.zero_le _, by rw [List.take_zero, List.append_nil]; exact HR5, by rw [List.take_zero, List.append_nil]; exact HM5, HV5⟩
          case round =>
            clear HR5 HM5 HV5 HR HM HV0 HCT hcell
            obtain ⟨k, cs, rfl, hk, HR, HM, HV⟩ := hrel
            have hLL : L.length ≤ 16384 := by have := HLN.out; rw [List.length_append] at this; omega
            by_cases hkl : k < L.length
            · obtain ⟨adL, A6, c6, rfl, hcl, hl6, hC6⟩ := at_L1 (Kd.V_reads' HV.out).2.2 (k : Int) (by omega) (by omega)
              obtain ⟨ce, _, hMe, hcc⟩ := Kd.V_get HV.out ([] : List Int) (k : Int) (by omega) (by omega)
              obtain ⟨A6', c6', rfl, hl6', hF6⟩ := Kd.FK_slice_open hMe
              have hcc0 := hcc 0 _ rfl
              rw [Int.toNat_natCast] at hcl hcc0 hF6 hl6'
              obtain ⟨x, hx⟩ : ∃ x, rd_L1 L (k : Int) = x := ⟨_, rfl⟩
              have hxg : L.getD k [] = x := by rw [← hx]; unfold rd_L1; rw [Int.toNat_natCast]
              have hxk : L[k] = x := by rw [← hx]; unfold rd_L1; rw [Int.toNat_natCast, List.getD_eq_getElem?_getD, List.getElem?_eq_getElem hkl]; rfl
              rw [hx] at hcl hl6 hC6
              rw [hxg] at hF6 hl6' hcc0
              have hcc1 : wr.cell? (adL.add k) = some (.slice A6' x.length c6') := by rw [show k * (Kd.slice 5 (Kd.int .u8)).sz + 0 = k from by show k * 1 + 0 = k; omega] at hcc0; exact hcc0
              rw [hcc1] at hcl
              injection hcl with hcl
              injection hcl with hcA _ hcC
              subst hcA
              subst hcC
              have HX := Aside0.mk (show CE.Ok wr Z5 ⟨A6', c6', x, 0⟩ from Kd.V_mk hl6' hF6)
              have HXB := Aside0.mk (show Byts x from HLB.out x (List.mem_append_right _ (by rw [← hxk]; exact List.getElem_mem hkl)))
              have HXL := Aside0.mk (show x.length ≤ 16384 from HLX.out x (by rw [← hxk]; exact List.getElem_mem hkl))
              have HTK := Aside0.mk (show countsP (W0 ++ L.take (k + 1)) = addP x (countsP (W0 ++ L.take k)) by rw [List.take_succ_eq_append_getElem hkl, ← List.append_assoc, countsP_snoc, hxk])
              have HND := Aside0.mk (nodup_P (W0 ++ L.take k))
              obtain ⟨l, hl⟩ : ∃ l, countsP (W0 ++ L.take k) = l := ⟨_, rfl⟩
              have HLE := Aside0.mk (show l.length ≤ 16384 ∧ (∀ p ∈ l, 1 ≤ p.2 ∧ p.2 ≤ 16384) ∧ (∀ p ∈ l, Byts p.1) by
                have h1 := countsP_length (W0 ++ L.take k)
                have h2 : (W0 ++ L.take k).length ≤ 16384 := by have := HLN.out; simp only [List.length_append, List.length_take] at this ⊢; omega
                rw [hl] at h1
                refine ⟨by omega, fun p hp => ?_, fun p hp => ?_⟩
                · have := countsP_bound (W0 ++ L.take k) p (by rw [hl]; exact hp); omega
                · have := keys_R (W0 ++ L.take k) p ((counts_same _).symm.subset (by rw [hl]; exact hp))
                  refine HLB.out _ ?_
                  rcases List.mem_append.1 this with h | h
                  · exact List.mem_append_left _ h
                  · exact List.mem_append_right _ (List.mem_of_mem_take h))
              rw [hl] at HR HTK HM HND
              clear hcc hMe hC6 hl6 hl6' hF6 hcc0 hx hxg hxk hl
              have hcsl : cs.length ≤ 16384 := by rw [HR.out.len]; exact HLE.out.1
              have hcv := Kd.C_string (P := Try.prog) (A := A6') (c := c6') Try.underlying22 Try.underlying5 Try.underlying9 (Kd.V_reads' HX.out).2.2
              obtain ⟨ks, hks⟩ : ∃ ks, l.map (·.1) = ks := ⟨_, rfl⟩
              rw [hks] at HM HND
              by_cases hin : x ∈ ks
              · obtain ⟨j, hjk, hjx⟩ := List.mem_iff_getElem.1 hin
                have hjl : j < l.length := by rw [← hks, List.length_map] at hjk; exact hjk
                have hj : j < cs.length := by rw [HR.out.len]; exact hjl
                have hks? : ks[j]? = some x := by rw [List.getElem?_eq_getElem hjk, hjx]
                have hlj : l.getD j ([], 0) = (cs[j].b, cs[j].n) := HR.out.key hj
                have hljx : (l.getD j ([], 0)).1 = x := by
                  rw [← hks, List.getElem?_map, List.getElem?_eq_getElem hjl] at hks?
                  rw [List.getD_eq_getElem?_getD, List.getElem?_eq_getElem hjl]
                  exact Option.some.inj hks?
                have hadd := addP_at (by rw [hks]; exact HND.out) hjl hljx
                have HYN := HLE.out.2.1 (l.getD j ([], 0)) (by rw [List.getD_eq_getElem?_getD, List.getElem?_eq_getElem hjl]; exact List.getElem_mem hjl)
                obtain ⟨g, cg, rfl, hg1, hg2, hg3, hg4, hg5⟩ := HR.out.form (by omega)
                obtain ⟨hca, hcb⟩ := HR.out.cells hj
                obtain ⟨y, hy⟩ : ∃ y, cs[j] = y := ⟨_, rfl⟩
                rw [hlj] at hljx hadd HYN
                rw [hy] at hca hcb hljx hadd HYN
                have hfz : wr.frozen? ⟨g, j * 2 + 1, none⟩ = false := by obtain ⟨cells, hb⟩ := hg5; exact blk_frozen hb _
                have hwr : wrap64 (y.n + 1) = y.n + 1 := by simp only [wrap64]; omega
                have HS := Aside0.mk (HR.out.set hj (y.n + 1))
                rw [hy] at HS
                have HA := Aside0.mk (show countsP (W0 ++ L.take (k + 1)) = l.set j (y.b, y.n + 1) by rw [HTK.out, hadd, show y.b = x from hljx])
                have HK2 := Aside0.mk (show (l.set j (y.b, y.n + 1)).map (·.1) = ks by rw [List.map_set, hks]; rw [show ((y.b, y.n + 1) : Cn).1 = x from hljx, ← hjx]; exact List.set_getElem_self hjk)
                clear hlj hadd hljx HYN hg5 hin hjx hks hy
                go_wp2_with (first | (at_lookup; refine look_in rfl _ _ rfl HM.out rfl HXL.out HXB.out rfl hks? ?_))
                go_roundw
                case rel => exact ⟨k + 1, _, by go_num, by omega, ⟨by rw [HA.out]; exact HS.out⟩, ⟨by rw [HA.out, HK2.out]; exact HM.out.block (Below.heap_setCell _ _ _ _ (fun e => HR.out.notB HM.out (congrArg some e)))⟩, ⟨Kd.V_far HV.out (fun j' hj' e => hg3 (by rw [← show j' = g from e]; exact hj')) _⟩⟩
                case measure => simp [intOf]; omega
              · have HIN := Aside0.mk hin
                have HKL := Aside0.mk (show ks.length = l.length by rw [← hks, List.length_map])
                have HA := Aside0.mk (show countsP (W0 ++ L.take (k + 1)) = l ++ [(x, 1)] by rw [HTK.out, addP_new (by rw [hks]; exact hin)])
                have HKS := Aside0.mk (show ∀ y ∈ ks, Byts y by
                  rw [← hks]
                  intro y hy
                  obtain ⟨p, hp, rfl⟩ := List.mem_map.1 hy
                  exact HLE.out.2.2 p hp)
                have HK2 := Aside0.mk (show (l ++ [(x, 1)] : List Cn).map (fun p : Cn => p.1) = ks ++ [x] by rw [List.map_append, hks]; rfl)
                obtain ⟨A8, c8, rfl⟩ := Kd.R_slice HR.out.row
                have hbb := fun W => build45 A6' x.length c6' W
                clear hin hks
                go_wp2_with (first | (at_lookup; refine look_out rfl _ _ rfl HM.out rfl HXL.out HXB.out rfl HIN.out ?_) | (at_mapUpdate; refine put_new rfl _ _ _ rfl HM.out rfl HXL.out HXB.out HKS.out rfl HIN.out (by have := HLE.out.1; have := HKL.out; omega) rfl (by rw [HKL.out, HR.out.len]) ?_; intro w2 hm2 hg2; have HR2 := Aside0.mk (HR.out.turned HM.out hg2 (by omega) HZB.out); have HV2 := Aside0.mk (Kd.V_step HV.out (fun k hk hlt => hg2.block k hlt (fun e => HZB.out (by rw [← Option.some.inj e]; exact hk)))); have HX2 := Aside0.mk (show CE.Ok w2 Z5 ⟨A6', c6', x, 0⟩ from Kd.V_step HX.out (fun k hk hlt => hg2.block k hlt (fun e => HZB.out (by rw [← Option.some.inj e]; exact hk)))); have HM2 := Aside0.mk hm2; have HB3 := Aside0.mk (below_alloc (Below.refl w2.heap.size w2) (.cells #[.slice A6' x.length c6', .int .i64 0] 45)); have HR3 := Aside0.mk (HR2.out.below HB3.out); have HM3 := Aside0.mk (HM2.out.below HB3.out); clear hm2 hg2) | ((with_reducible refine gate_builtin (b := .append) (xs := #[.tmp 60, .tmp 63]) rfl ?_); at_builtin; refine Kd.R_append_rows kE (Rr := fun x cs => cs = CE.enc x) (w0 := w) w.heap.size rfl (.tmp 60) (.tmp 63) 36 45 (.agg #[.slice none 0 0, .int .i64 0]) 32 rfl Try.underlying36 info45 rfl (by decide) (by decide) (.slice A8 cs.length c8) cs [⟨A6', c6', x, 0⟩] _ 1 1 (fun k => w.heap.size ≤ k ∧ ¬ Z5 k) (fun _ => False) rfl rfl HR3.out.row (C_one (heap_alloc_new w2 _)) (fun _ _ h => h) (fun _ h => h.elim) (fun k hk => ⟨Nat.le_trans HR3.out.b.size hk, fun hz => Nat.not_lt.2 hk (HR3.out.zl k hz)⟩) HR3.out.b HR3.out.b.size (by omega) ?_; intro v6 w6 hr6 hb6 hg6 _; have HR6 := Aside0.mk (HR3.out.appended hr6 hb6 hg6 (Kd.V_below HX2.out HB3.out)); have HM6 := Aside0.mk (HM3.out.block (hg6.block B HM3.out.lt (HR3.out.notB HM3.out))); have HV6 := Aside0.mk (Kd.V_step (Kd.V_below HV2.out HB3.out) (fun k hk hlt => hg6.block k hlt (fun e => (HR3.out.row.1 k e.symm).2 hk))); clear hr6 hb6 hg6; obtain ⟨g, cg, rfl, hg2, hg3, hg4, hfz⟩ := HR6.out.formLast; obtain ⟨hca, hcb⟩ := HR6.out.last; have HS := Aside0.mk (HR6.out.setLast 1)))
                go_roundw
                case rel => exact ⟨k + 1, _, by go_num, by omega, ⟨by rw [HA.out]; exact HS.out⟩, ⟨by rw [HA.out, HK2.out]; exact HM6.out.block (Below.heap_setCell _ _ _ _ (fun e => HR6.out.notB HM6.out (congrArg some e)))⟩, ⟨Kd.V_far HV6.out (fun j' hj' e => hg3 (by rw [← show j' = g from e]; exact hj')) _⟩⟩
                case measure => simp [intOf]; omega
            · obtain rfl : k = L.length := by omega
              have HR7 := Aside0.mk (show Ct w wr 45 Z5 _ cs (countsP (wordsOf (T.take (i + 1)))) by rw [HSN.out]; have h := HR.out; rw [List.take_length] at h; exact h)
              have HM7 := Aside0.mk (show ¬ Z5 B ∧ Mp wr B ((countsP (wordsOf (T.take (i + 1)))).map (·.1)) from ⟨HZB.out, by rw [HSN.out]; have h := HM.out; rw [List.take_length] at h; exact h⟩)
              go_wp2_with (fail)
              go_roundw
              case rel => exact ⟨i + 1, cs, Z5, by go_num, by omega, HR7, HM7⟩
              case measure => simp [intOf]; omega
        · obtain rfl : i = T.length := by omega
          rw [List.take_length] at HR HM
          have hkb : ∀ x ∈ cs, Byts x.b := fun x hx => by
            have h1 : x.pr ∈ countsP (wordsOf T) := by rw [← HR.out.pr]; exact List.mem_map.2 ⟨x, hx, rfl⟩
            exact words_byts HB.out (fun t ht => Nat.le_trans (tot_mem ht) HTT.out) _ (keys_R _ _ ((counts_same _).symm.subset h1))
          have hcl : cs.length ≤ 1000000 := by
            rw [HR.out.len]
            have := countsP_length (wordsOf T)
            have := HWN.out
            have := HTT.out
            omega
          have HSC := Aside0.mk (sort_calls HR.out hkb hcl)
          clear hkb hcl
          go_wp2_with (first | (go_at_call 34; (with_reducible refine HSC.out.mono ?_); rintro e w1 ⟨rfl, cs', hp, hs, hct⟩; have HF0 := Aside0.mk (And.intro hp (And.intro hs hct)); clear hp hs hct))
          have HF := Aside0.mk (show Ct w w1 45 Z _ cs' (countsR (wordsOf T)) by
            have h := HF0.out.2.2
            rw [sorted_eq (l := cs'.map CE.pr) (by rw [← HR.out.pr]; exact HF0.out.1.map _) (by rw [List.pairwise_map]; exact HF0.out.2.1)] at h
            exact h)
          go_ret2
          exact .inl ⟨HTT.out, _, cs', Z, rfl, HF.out⟩
end Go.Proofs.Ytmmpppahagknpaa.Wc
