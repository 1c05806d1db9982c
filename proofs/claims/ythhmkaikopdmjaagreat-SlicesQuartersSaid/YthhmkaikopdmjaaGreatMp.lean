/- slices: sorting by insertion; slices: SortFunc for short rows; slices: Refine. Conditions: none. -/
import Derived.Test.YthhmkaikopdmjaaGreatMo
import Derived.Test.YthhmkaikopdmjaaGreatFc
set_option linter.unusedSimpArgs false
set_option linter.unusedVariables false
set_option maxRecDepth 8000
namespace Go.Proofs.YthhmkaikopdmjaaGreat
open Go Go.Fw

theorem leq_cmp {a b : RR} (ha : a.err = 0) (hb : b.err = 0) : a.leq b ↔ ¬ cmpS b a < 0 := by rw [cmpS_ok hb ha]; rfl

theorem insertionS (T0 : Heap) {b : Nat} {L0 : List RR} {k c lo hi : Nat} (hown : OwnR T0 b L0) (hle : ∀ r ∈ L0, r.le k) (hk : k ≤ 19000) (hok : ∀ r ∈ L0, r.err = 0) (hlo : lo ≤ hi) (hhi : hi ≤ L0.length) (hlen : L0.length ≤ 1000000) :
    ∃ L, Sim Tryz.prog 177 #[.slice (some ⟨b, 0, none⟩) L0.length c, .int .i64 (lo : Nat), .int .i64 (hi : Nat), .func (.func 54) #[] #[]] T0 (.tuple #[]) (putR T0 b L) ∧ Within L0 L lo hi ∧ SrtTo RR.leq L lo hi := by
  suffices hx : ∃ w H', Sim Tryz.prog 177 #[.slice (some ⟨b, 0, none⟩) L0.length c, .int .i64 (lo : Nat), .int .i64 (hi : Nat), .func (.func 54) #[] #[]] T0 w H' ∧ w = .tuple #[] ∧ ∃ L, H' = putR T0 b L ∧ Within L0 L lo hi ∧ SrtTo RR.leq L lo hi by
    obtain ⟨w, H', h1, rfl, L, rfl, h2⟩ := hx
    exact ⟨L, h1, h2⟩
  have hb := hown.lt
  have a1 : IntKind.i64.wrap ((lo : Int) + 1) = ((lo + 1 : Nat) : Int) := by rw [w64 (by omega) (by omega)]; rfl
  have hself := putR_self hown
  refine sim_ex tok mixed Tryz.func177 rfl (by kernel_rfl) (by kernel_rfl) (by simp only [Tryz.ntmps177, List.size_toArray, List.length_cons, List.length_nil]; omega) ?_
  simp -implicitDefEqProofs only [go_sem, Nat.reduceAdd, Nat.reduceSub, Nat.reduceMul, Nat.reduceLT, Nat.reduceLeDiff, Nat.reduceEqDiff, Nat.reduceBEq, Nat.reduceGT, Nat.reduceMod, Nat.reduceDiv, ↓reduceIte, reduceCtorEq, Int.reduceLE, Int.reduceLT, Int.reduceToNat, Int.reduceEq, Int.reduceNeg, Int.reduceAdd, Int.reduceSub, Int.reduceMul, a1]
  refine ax_loopx (fun (i : Nat) s T => s 0 = .slice (some ⟨b, 0, none⟩) L0.length c ∧ s 1 = .int .i64 (lo : Nat) ∧ s 2 = .int .i64 (hi : Nat) ∧ s 3 = .func (.func 54) #[] #[] ∧ s 8 = .int .i64 (i : Nat) ∧ lo + 1 ≤ i ∧ i ≤ hi + 1 ∧
    ∃ L, T = putR T0 b L ∧ Within L0 L lo hi ∧ SrtTo RR.leq L lo i) (fun i => hi + 1 - i) (lo + 1) ?_ ?_
  · simp -implicitDefEqProofs only [go_sem, Nat.reduceAdd, Nat.reduceSub, Nat.reduceMul, Nat.reduceLT, Nat.reduceLeDiff, Nat.reduceEqDiff, Nat.reduceBEq, Nat.reduceGT, Nat.reduceMod, Nat.reduceDiv, ↓reduceIte, reduceCtorEq, Int.reduceLE, Int.reduceLT, Int.reduceToNat, Int.reduceEq, Int.reduceNeg, Int.reduceAdd, Int.reduceSub, Int.reduceMul]
    exact ⟨by omega, L0, hself.symm, .refl _ _ _, .one _ (by omega)⟩
  rintro i s T ⟨s0, s1, s2, s3, s8, hi1, hi2, L, rfl, hw, hs⟩
  simp -implicitDefEqProofs only [go_sem, Nat.reduceAdd, Nat.reduceSub, Nat.reduceMul, Nat.reduceLT, Nat.reduceLeDiff, Nat.reduceEqDiff, Nat.reduceBEq, Nat.reduceGT, Nat.reduceMod, Nat.reduceDiv, ↓reduceIte, reduceCtorEq, Int.reduceLE, Int.reduceLT, Int.reduceToNat, Int.reduceEq, Int.reduceNeg, Int.reduceAdd, Int.reduceSub, Int.reduceMul, s2, s8]
  refine ax_cond2 ?_
  simp only [ev_tmp, ev_const, ev_func, upd_at, put_some, put_none, bndB_bool, Nat.reduceEqDiff, if_true, if_false, ↓reduceIte, reduceCtorEq]
  refine ⟨fun hc0 => have hlt := of_decide_eq_true hc0; ?_, fun hc0 => have hlt := of_decide_eq_false hc0; ?_⟩
  · have hih : i < hi := by omega
    simp -implicitDefEqProofs only [go_sem, Nat.reduceAdd, Nat.reduceSub, Nat.reduceMul, Nat.reduceLT, Nat.reduceLeDiff, Nat.reduceEqDiff, Nat.reduceBEq, Nat.reduceGT, Nat.reduceMod, Nat.reduceDiv, ↓reduceIte, reduceCtorEq, Int.reduceLE, Int.reduceLT, Int.reduceToNat, Int.reduceEq, Int.reduceNeg, Int.reduceAdd, Int.reduceSub, Int.reduceMul, s8]
    refine ax_midl2 (fun s T => s 0 = .slice (some ⟨b, 0, none⟩) L0.length c ∧ s 1 = .int .i64 (lo : Nat) ∧ s 2 = .int .i64 (hi : Nat) ∧ s 3 = .func (.func 54) #[] #[] ∧ s 8 = .int .i64 (i : Nat) ∧
      ∃ L, T = putR T0 b L ∧ Within L0 L lo hi ∧ SrtTo RR.leq L lo (i + 1)) ?_ ?_
    · refine ax_loopx (fun (j : Nat) s T => s 0 = .slice (some ⟨b, 0, none⟩) L0.length c ∧ s 1 = .int .i64 (lo : Nat) ∧ s 2 = .int .i64 (hi : Nat) ∧ s 3 = .func (.func 54) #[] #[] ∧ s 8 = .int .i64 (i : Nat) ∧ s 9 = .int .i64 (j : Nat) ∧ lo ≤ j ∧ j ≤ i ∧
        ∃ L, T = putR T0 b L ∧ Within L0 L lo hi ∧ InsI RR.leq L lo i j) (fun j => j) i ?_ ?_
      · simp -implicitDefEqProofs only [go_sem, Nat.reduceAdd, Nat.reduceSub, Nat.reduceMul, Nat.reduceLT, Nat.reduceLeDiff, Nat.reduceEqDiff, Nat.reduceBEq, Nat.reduceGT, Nat.reduceMod, Nat.reduceDiv, ↓reduceIte, reduceCtorEq, Int.reduceLE, Int.reduceLT, Int.reduceToNat, Int.reduceEq, Int.reduceNeg, Int.reduceAdd, Int.reduceSub, Int.reduceMul, s0, s1, s2, s3, s8]
        exact ⟨by omega, L, rfl, hw, hs.ins⟩
      clear s0 s1 s2 s3 s8 hw hs hself a1
      clear L
      rintro j s T ⟨s0, s1, s2, s3, s8, s9, hj1, hj2, L, rfl, hw, hs⟩
      have hLl := hw.len
      have hoL := hw.oks hok
      have hlL := hw.oks hle
      have ho := putR_own T0 L hb
      simp -implicitDefEqProofs only [go_sem, Nat.reduceAdd, Nat.reduceSub, Nat.reduceMul, Nat.reduceLT, Nat.reduceLeDiff, Nat.reduceEqDiff, Nat.reduceBEq, Nat.reduceGT, Nat.reduceMod, Nat.reduceDiv, ↓reduceIte, reduceCtorEq, Int.reduceLE, Int.reduceLT, Int.reduceToNat, Int.reduceEq, Int.reduceNeg, Int.reduceAdd, Int.reduceSub, Int.reduceMul]
      refine ax_quiet (by kernel_rfl) ?_
      by_cases hjl : lo < j
      · obtain ⟨j, rfl⟩ : ∃ j', j = j' + 1 := ⟨j - 1, by omega⟩
        have hjn : j + 1 < L.length := by omega
        have r1 := (ho.at (c := 0) (.inl rfl)).rdR (j := j + 1) hjn
        have r2 := (ho.at (c := 0) (.inl rfl)).rdR (j := j) (by omega)
        have hcm := fun H => compareS H (hlL _ (List.getElem_mem hjn)) (hlL _ (List.getElem_mem (show j < L.length by omega))) hk
        have g1 : (lo : Int) < ((j + 1 : Nat) : Int) := by omega
        have g2 : (0 : Int) ≤ ((j + 1 : Nat) : Int) := by omega
        have g3 : ((j + 1 : Nat) : Int) < (L0.length : Int) := by omega
        have g4 : (0 : Int) ≤ (j : Int) := by omega
        have g5 : (j : Int) < (L0.length : Int) := by omega
        have m1 : IntKind.i64.wrap (((j + 1 : Nat) : Int) - 1) = (j : Int) := by rw [w64 (by omega) (by omega)]; omega
        have hiff := leq_cmp (hoL _ (List.getElem_mem (show j < L.length by omega))) (hoL _ (List.getElem_mem hjn))
        have hstep := fun hlt => hs.step (by omega) hjn hj2 hlt
        have hstop := fun hle => InsI.stop RR.tot hoL hs hjl hj2 hjn hle
        have htot := RR.lt_leq (hoL _ (List.getElem_mem hjn)) (hoL _ (List.getElem_mem (show j < L.length by omega)))
        have hcr := cmpS_ok (hoL _ (List.getElem_mem hjn)) (hoL _ (List.getElem_mem (show j < L.length by omega)))
        have hww := hw.trans (.swp L j hjn (by omega) (by omega))
        have w1 := ho.wr (j := j + 1) hjn L[j]
        have w2 := (putR_own T0 (L.set (j + 1) L[j]) hb).wr (j := j) (by simp; omega) L[j + 1]
        rw [putR_put] at w1 w2
        have hsw : (L.set (j + 1) L[j]).set j L[j + 1] = swp L j hjn := rfl
        rw [hsw] at w2
        generalize swp L j hjn = L2 at *
        generalize L.set (j + 1) L[j] = L1 at *
        simp only [Nat.add_sub_cancel] at hstop
        generalize L[j] = y at *
        generalize L[j + 1] = x at *
        unfold RR.cells at r1 r2 w1 w2
        unfold RR.val rV at hcm
        simp only [Nat.zero_add] at r1 r2
        simp -implicitDefEqProofs only [go_sem, Nat.reduceAdd, Nat.reduceSub, Nat.reduceMul, Nat.reduceLT, Nat.reduceLeDiff, Nat.reduceEqDiff, Nat.reduceBEq, Nat.reduceGT, Nat.reduceMod, Nat.reduceDiv, ↓reduceIte, reduceCtorEq, Int.reduceLE, Int.reduceLT, Int.reduceToNat, Int.reduceEq, Int.reduceNeg, Int.reduceAdd, Int.reduceSub, Int.reduceMul, s0, s1, s2, s3, s9, aIndexAddr, g1, g2, g3, g4, g5, m1, r1, r2]
        refine wl_callO _ (by simp -implicitDefEqProofs only [go_sem, Nat.reduceAdd, Nat.reduceSub, Nat.reduceMul, Nat.reduceLT, Nat.reduceLeDiff, Nat.reduceEqDiff, Nat.reduceBEq, Nat.reduceGT, Nat.reduceMod, Nat.reduceDiv, ↓reduceIte, reduceCtorEq, Int.reduceLE, Int.reduceLT, Int.reduceToNat, Int.reduceEq, Int.reduceNeg, Int.reduceAdd, Int.reduceSub, Int.reduceMul, s3]) _ (by simp -implicitDefEqProofs only [go_sem, Nat.reduceAdd, Nat.reduceSub, Nat.reduceMul, Nat.reduceLT, Nat.reduceLeDiff, Nat.reduceEqDiff, Nat.reduceBEq, Nat.reduceGT, Nat.reduceMod, Nat.reduceDiv, ↓reduceIte, reduceCtorEq, Int.reduceLE, Int.reduceLT, Int.reduceToNat, Int.reduceEq, Int.reduceNeg, Int.reduceAdd, Int.reduceSub, Int.reduceMul]) (hcm _) ?_
        by_cases hc : cmpS x y < 0
        · simp -implicitDefEqProofs only [go_sem, Nat.reduceAdd, Nat.reduceSub, Nat.reduceMul, Nat.reduceLT, Nat.reduceLeDiff, Nat.reduceEqDiff, Nat.reduceBEq, Nat.reduceGT, Nat.reduceMod, Nat.reduceDiv, ↓reduceIte, reduceCtorEq, Int.reduceLE, Int.reduceLT, Int.reduceToNat, Int.reduceEq, Int.reduceNeg, Int.reduceAdd, Int.reduceSub, Int.reduceMul, wa_cond, axC_t, axC_f, hc]
          refine ax_loud (by kernel_rfl) ?_
          simp -implicitDefEqProofs only [go_sem, Nat.reduceAdd, Nat.reduceSub, Nat.reduceMul, Nat.reduceLT, Nat.reduceLeDiff, Nat.reduceEqDiff, Nat.reduceBEq, Nat.reduceGT, Nat.reduceMod, Nat.reduceDiv, ↓reduceIte, reduceCtorEq, Int.reduceLE, Int.reduceLT, Int.reduceToNat, Int.reduceEq, Int.reduceNeg, Int.reduceAdd, Int.reduceSub, Int.reduceMul, s0, s1, s2, s3, s8, s9, aIndexAddr, g1, g2, g3, g4, g5, m1, r1, r2, w1, w2]
          refine ⟨j, ⟨rfl, by omega, by omega, L2, rfl, hww, hstep (htot (by rw [hcr] at hc; exact hc))⟩, by omega⟩
        · simp -implicitDefEqProofs only [go_sem, Nat.reduceAdd, Nat.reduceSub, Nat.reduceMul, Nat.reduceLT, Nat.reduceLeDiff, Nat.reduceEqDiff, Nat.reduceBEq, Nat.reduceGT, Nat.reduceMod, Nat.reduceDiv, ↓reduceIte, reduceCtorEq, Int.reduceLE, Int.reduceLT, Int.reduceToNat, Int.reduceEq, Int.reduceNeg, Int.reduceAdd, Int.reduceSub, Int.reduceMul, wa_cond, axC_t, axC_f, hc, s0, s1, s2, s3, s8]
          exact ⟨L, rfl, hw, hstop (hiff.2 hc)⟩
      · have : j = lo := by omega
        subst this
        have g1 : ¬ (j : Int) < (j : Int) := by omega
        simp -implicitDefEqProofs only [go_sem, Nat.reduceAdd, Nat.reduceSub, Nat.reduceMul, Nat.reduceLT, Nat.reduceLeDiff, Nat.reduceEqDiff, Nat.reduceBEq, Nat.reduceGT, Nat.reduceMod, Nat.reduceDiv, ↓reduceIte, reduceCtorEq, Int.reduceLE, Int.reduceLT, Int.reduceToNat, Int.reduceEq, Int.reduceNeg, Int.reduceAdd, Int.reduceSub, Int.reduceMul, wa_cond, axC_t, axC_f, s0, s1, s2, s3, s8, s9, g1]
        exact ⟨L, rfl, hw, hs.zero⟩
    clear s0 s1 s2 s3 s8 hw hs hself a1
    clear L
    rintro s T ⟨s0, s1, s2, s3, s8, L, rfl, hw, hs⟩
    have m1 : IntKind.i64.wrap ((i : Int) + 1) = ((i + 1 : Nat) : Int) := by rw [w64 (by omega) (by omega)]; rfl
    simp -implicitDefEqProofs only [go_sem, Nat.reduceAdd, Nat.reduceSub, Nat.reduceMul, Nat.reduceLT, Nat.reduceLeDiff, Nat.reduceEqDiff, Nat.reduceBEq, Nat.reduceGT, Nat.reduceMod, Nat.reduceDiv, ↓reduceIte, reduceCtorEq, Int.reduceLE, Int.reduceLT, Int.reduceToNat, Int.reduceEq, Int.reduceNeg, Int.reduceAdd, Int.reduceSub, Int.reduceMul, s0, s1, s2, s3, s8, m1]
    exact ⟨i + 1, ⟨rfl, by omega, by omega, L, rfl, hw, hs⟩, by omega⟩
  · have hih : hi ≤ i := by omega
    simp -implicitDefEqProofs only [go_sem, Nat.reduceAdd, Nat.reduceSub, Nat.reduceMul, Nat.reduceLT, Nat.reduceLeDiff, Nat.reduceEqDiff, Nat.reduceBEq, Nat.reduceGT, Nat.reduceMod, Nat.reduceDiv, ↓reduceIte, reduceCtorEq, Int.reduceLE, Int.reduceLT, Int.reduceToNat, Int.reduceEq, Int.reduceNeg, Int.reduceAdd, Int.reduceSub, Int.reduceMul]
    refine ⟨[], rfl, rfl, L, rfl, hw, ?_⟩
    exact fun p q h0 h1 h2 hp hq => hs p q h0 h1 (by omega) hp hq
end Go.Proofs.YthhmkaikopdmjaaGreat
set_option linter.unusedSimpArgs false
set_option linter.unusedVariables false
set_option maxRecDepth 8000
namespace Go.Proofs.YthhmkaikopdmjaaGreat
open Go Go.Fw

theorem len64_sim (H : Heap) {x : Nat} (hx : x < 256) : Sim Tryz.prog 186 #[.int .u64 (x : Nat)] H (.int .i64 (bitLen x : Nat)) H := by
  have hbl : bitLen x ≤ 8 := by
    by_cases h : x = 0
    · subst h; decide
    · exact bitLen_le (by omega) hx
  have c3 : (0 : Int) ≤ (x : Int) := by omega
  have c4 : IntKind.u8.wrap (x : Int) = (x : Int) := wu8 (by omega) (by omega)
  have c6 : IntKind.i64.wrap (((UInt8.ofNat (bitLen x)).toNat : Nat) : Int) = (bitLen x : Int) := by
    have : (UInt8.ofNat (bitLen x)).toNat = bitLen x := by simp; omega
    rw [this, w64n (by omega)]
  have c7 : IntKind.i64.wrap (0 + (bitLen x : Int)) = (bitLen x : Int) := by rw [Int.zero_add, w64n (by omega)]
  have key : ∀ (B : ByteArray), (∀ z : Fin 256, B[z.1]? = some (UInt8.ofNat (bitLen z.1))) → B[x]? = some (UInt8.ofNat (bitLen x)) := fun B h => h ⟨x, hx⟩
  have d1 : ¬ ((4294967296 : Int) ≤ (x : Int)) := by omega
  have d2 : ¬ ((65536 : Int) ≤ (x : Int)) := by omega
  have d3 : ¬ ((256 : Int) ≤ (x : Int)) := by omega
  refine sim_of_ax tok mixed Tryz.func186 rfl (by kernel_rfl) (by kernel_rfl) (by simp only [Tryz.ntmps186, List.size_toArray, List.length_cons, List.length_nil]; omega) ?_
  generalize hB : (⟨(List.toArray _)⟩ : ByteArray) = B
  have hg := key B (by rw [← hB]; decide +kernel)
  clear hB key
  simp -implicitDefEqProofs only [go_sem, Nat.reduceAdd, Nat.reduceSub, Nat.reduceMul, Nat.reduceLT, Nat.reduceLeDiff, Nat.reduceEqDiff, Nat.reduceBEq, Nat.reduceGT, Nat.reduceMod, Nat.reduceDiv, ↓reduceIte, reduceCtorEq, Int.reduceLE, Int.reduceLT, Int.reduceToNat, Int.reduceEq, Int.reduceNeg, Int.reduceAdd, Int.reduceSub, Int.reduceMul, wa_cond, axC_t, axC_f, d1, d2, d3, aConv, c3, c4, hg, c6, c7, res186]
theorem len_sim (H : Heap) {x : Nat} (hx : x < 256) : Sim Tryz.prog 119 #[.int .u64 (x : Nat)] H (.int .i64 (bitLen x : Nat)) H := by
  have o1 := fun H => len64_sim H hx
  refine sim_of_ax tok mixed Tryz.func119 rfl (by kernel_rfl) (by kernel_rfl) (by simp only [Tryz.ntmps119, List.size_toArray, List.length_cons, List.length_nil]; omega) ?_
  simp -implicitDefEqProofs only [go_sem, Nat.reduceAdd, Nat.reduceSub, Nat.reduceMul, Nat.reduceLT, Nat.reduceLeDiff, Nat.reduceEqDiff, Nat.reduceBEq, Nat.reduceGT, Nat.reduceMod, Nat.reduceDiv, ↓reduceIte, reduceCtorEq, Int.reduceLE, Int.reduceLT, Int.reduceToNat, Int.reduceEq, Int.reduceNeg, Int.reduceAdd, Int.reduceSub, Int.reduceMul, wa_cond, axC_t, axC_f]
  refine wl_callV _ (by simp -implicitDefEqProofs only [go_sem, Nat.reduceAdd, Nat.reduceSub, Nat.reduceMul, Nat.reduceLT, Nat.reduceLeDiff, Nat.reduceEqDiff, Nat.reduceBEq, Nat.reduceGT, Nat.reduceMod, Nat.reduceDiv, ↓reduceIte, reduceCtorEq, Int.reduceLE, Int.reduceLT, Int.reduceToNat, Int.reduceEq, Int.reduceNeg, Int.reduceAdd, Int.reduceSub, Int.reduceMul]) (o1 _) ?_
  simp -implicitDefEqProofs only [go_sem, Nat.reduceAdd, Nat.reduceSub, Nat.reduceMul, Nat.reduceLT, Nat.reduceLeDiff, Nat.reduceEqDiff, Nat.reduceBEq, Nat.reduceGT, Nat.reduceMod, Nat.reduceDiv, ↓reduceIte, reduceCtorEq, Int.reduceLE, Int.reduceLT, Int.reduceToNat, Int.reduceEq, Int.reduceNeg, Int.reduceAdd, Int.reduceSub, Int.reduceMul, res119]
theorem pdq12 (T0 : Heap) {b : Nat} {L0 : List RR} {k c lo hi : Nat} {z : Int} (hown : OwnR T0 b L0) (hle : ∀ r ∈ L0, r.le k) (hk : k ≤ 19000) (hok : ∀ r ∈ L0, r.err = 0) (hlo : lo ≤ hi) (hhi : hi ≤ L0.length) (hlen : L0.length ≤ 1000000) (h12 : hi - lo ≤ 12) :
    ∃ L, Sim Tryz.prog 118 #[.slice (some ⟨b, 0, none⟩) L0.length c, .int .i64 (lo : Nat), .int .i64 (hi : Nat), .int .i64 z, .func (.func 54) #[] #[]] T0 (.tuple #[]) (putR T0 b L) ∧ Within L0 L lo hi ∧ SrtTo RR.leq L lo hi := by
  obtain ⟨L, o1, hw⟩ := insertionS T0 (c := c) hown hle hk hok hlo hhi hlen
  refine ⟨L, ?_, hw⟩
  have m1 : IntKind.i64.wrap ((hi : Int) - (lo : Int)) = ((hi - lo : Nat) : Int) := by rw [w64 (by omega) (by omega)]; omega
  have m2 : ((hi - lo : Nat) : Int) ≤ 12 := by omega
  refine sim_of_ax tok mixed Tryz.func118 rfl (by kernel_rfl) (by kernel_rfl) (by simp only [Tryz.ntmps118, List.size_toArray, List.length_cons, List.length_nil]; omega) ?_
  simp -implicitDefEqProofs only [go_sem, Nat.reduceAdd, Nat.reduceSub, Nat.reduceMul, Nat.reduceLT, Nat.reduceLeDiff, Nat.reduceEqDiff, Nat.reduceBEq, Nat.reduceGT, Nat.reduceMod, Nat.reduceDiv, ↓reduceIte, reduceCtorEq, Int.reduceLE, Int.reduceLT, Int.reduceToNat, Int.reduceEq, Int.reduceNeg, Int.reduceAdd, Int.reduceSub, Int.reduceMul]
  refine ax_loopx (fun (_ : Unit) s T => s 0 = .slice (some ⟨b, 0, none⟩) L0.length c ∧ s 1 = .int .i64 (lo : Nat) ∧ s 2 = .int .i64 (hi : Nat) ∧ s 4 = .func (.func 54) #[] #[] ∧ T = T0) (fun _ => 0) () ?_ ?_
  · simp -implicitDefEqProofs only [go_sem, Nat.reduceAdd, Nat.reduceSub, Nat.reduceMul, Nat.reduceLT, Nat.reduceLeDiff, Nat.reduceEqDiff, Nat.reduceBEq, Nat.reduceGT, Nat.reduceMod, Nat.reduceDiv, ↓reduceIte, reduceCtorEq, Int.reduceLE, Int.reduceLT, Int.reduceToNat, Int.reduceEq, Int.reduceNeg, Int.reduceAdd, Int.reduceSub, Int.reduceMul]
  rintro _ s T ⟨s0, s1, s2, s4, rfl⟩
  simp -implicitDefEqProofs only [go_sem, Nat.reduceAdd, Nat.reduceSub, Nat.reduceMul, Nat.reduceLT, Nat.reduceLeDiff, Nat.reduceEqDiff, Nat.reduceBEq, Nat.reduceGT, Nat.reduceMod, Nat.reduceDiv, ↓reduceIte, reduceCtorEq, Int.reduceLE, Int.reduceLT, Int.reduceToNat, Int.reduceEq, Int.reduceNeg, Int.reduceAdd, Int.reduceSub, Int.reduceMul, wa_cond, axC_t, axC_f, s0, s1, s2, s4, m1, m2]
  refine wl_callF _ (by simp -implicitDefEqProofs only [go_sem, Nat.reduceAdd, Nat.reduceSub, Nat.reduceMul, Nat.reduceLT, Nat.reduceLeDiff, Nat.reduceEqDiff, Nat.reduceBEq, Nat.reduceGT, Nat.reduceMod, Nat.reduceDiv, ↓reduceIte, reduceCtorEq, Int.reduceLE, Int.reduceLT, Int.reduceToNat, Int.reduceEq, Int.reduceNeg, Int.reduceAdd, Int.reduceSub, Int.reduceMul]) o1 (fun h => by cases h) ?_
  simp -implicitDefEqProofs only [go_sem, Nat.reduceAdd, Nat.reduceSub, Nat.reduceMul, Nat.reduceLT, Nat.reduceLeDiff, Nat.reduceEqDiff, Nat.reduceBEq, Nat.reduceGT, Nat.reduceMod, Nat.reduceDiv, ↓reduceIte, reduceCtorEq, Int.reduceLE, Int.reduceLT, Int.reduceToNat, Int.reduceEq, Int.reduceNeg, Int.reduceAdd, Int.reduceSub, Int.reduceMul]
  first | rfl | exact ⟨[], rfl, rfl, rfl⟩
theorem sort12 (T0 : Heap) {b : Nat} {L0 : List RR} {k c : Nat} (hown : OwnR T0 b L0) (hle : ∀ r ∈ L0, r.le k) (hk : k ≤ 19000) (hok : ∀ r ∈ L0, r.err = 0) (h12 : L0.length ≤ 12) :
    ∃ L, Sim Tryz.prog 67 #[.slice (some ⟨b, 0, none⟩) L0.length c, .func (.func 54) #[] #[]] T0 (.tuple #[]) (putR T0 b L) ∧ L.Perm L0 ∧ L.Pairwise RR.leq := by
  obtain ⟨L, o1, hw, hs⟩ := pdq12 T0 (c := c) (z := (bitLen L0.length : Nat)) hown hle hk hok (Nat.zero_le _) (Nat.le_refl _) (by omega) (by omega)
  refine ⟨L, ?_, hw.perm, ?_⟩
  · have e1 : aLen tt [22] (.slice (some ⟨b, 0, none⟩) L0.length c) = some (.int .i64 (L0.length : Nat)) := rfl
    have o2 := fun H => len_sim H (x := L0.length) (by omega)
    have c1 : IntKind.u64.wrap (L0.length : Int) = (L0.length : Int) := wu64n (by omega)
    refine sim_of_ax tok mixed Tryz.func67 rfl (by kernel_rfl) (by kernel_rfl) (by simp only [Tryz.ntmps67, List.size_toArray, List.length_cons, List.length_nil]; omega) ?_
    simp -implicitDefEqProofs only [go_sem, Nat.reduceAdd, Nat.reduceSub, Nat.reduceMul, Nat.reduceLT, Nat.reduceLeDiff, Nat.reduceEqDiff, Nat.reduceBEq, Nat.reduceGT, Nat.reduceMod, Nat.reduceDiv, ↓reduceIte, reduceCtorEq, Int.reduceLE, Int.reduceLT, Int.reduceToNat, Int.reduceEq, Int.reduceNeg, Int.reduceAdd, Int.reduceSub, Int.reduceMul, e1, aConv, c1]
    refine wl_callV _ (by simp -implicitDefEqProofs only [go_sem, Nat.reduceAdd, Nat.reduceSub, Nat.reduceMul, Nat.reduceLT, Nat.reduceLeDiff, Nat.reduceEqDiff, Nat.reduceBEq, Nat.reduceGT, Nat.reduceMod, Nat.reduceDiv, ↓reduceIte, reduceCtorEq, Int.reduceLE, Int.reduceLT, Int.reduceToNat, Int.reduceEq, Int.reduceNeg, Int.reduceAdd, Int.reduceSub, Int.reduceMul]) (o2 _) ?_
    simp -implicitDefEqProofs only [go_sem, Nat.reduceAdd, Nat.reduceSub, Nat.reduceMul, Nat.reduceLT, Nat.reduceLeDiff, Nat.reduceEqDiff, Nat.reduceBEq, Nat.reduceGT, Nat.reduceMod, Nat.reduceDiv, ↓reduceIte, reduceCtorEq, Int.reduceLE, Int.reduceLT, Int.reduceToNat, Int.reduceEq, Int.reduceNeg, Int.reduceAdd, Int.reduceSub, Int.reduceMul]
    refine wl_callF _ (by simp -implicitDefEqProofs only [go_sem, Nat.reduceAdd, Nat.reduceSub, Nat.reduceMul, Nat.reduceLT, Nat.reduceLeDiff, Nat.reduceEqDiff, Nat.reduceBEq, Nat.reduceGT, Nat.reduceMod, Nat.reduceDiv, ↓reduceIte, reduceCtorEq, Int.reduceLE, Int.reduceLT, Int.reduceToNat, Int.reduceEq, Int.reduceNeg, Int.reduceAdd, Int.reduceSub, Int.reduceMul]) o1 (fun h => by cases h) ?_
    simp -implicitDefEqProofs only [go_sem, Nat.reduceAdd, Nat.reduceSub, Nat.reduceMul, Nat.reduceLT, Nat.reduceLeDiff, Nat.reduceEqDiff, Nat.reduceBEq, Nat.reduceGT, Nat.reduceMod, Nat.reduceDiv, ↓reduceIte, reduceCtorEq, Int.reduceLE, Int.reduceLT, Int.reduceToNat, Int.reduceEq, Int.reduceNeg, Int.reduceAdd, Int.reduceSub, Int.reduceMul]
    first | rfl | exact ⟨[], rfl, rfl, rfl⟩
  · rw [← hw.len] at hs
    exact hs.pairwise
end Go.Proofs.YthhmkaikopdmjaaGreat
set_option linter.unusedSimpArgs false
set_option linter.unusedVariables false
set_option maxRecDepth 8000
namespace Go.Proofs.YthhmkaikopdmjaaGreat
open Go Go.Fw

theorem mid_ok {a b : Rot} (ha : a.ok) : (Rot.mid a b).ok := by
  unfold Rot.mid
  split
  · exact Rot.thn_ok ha (by unfold Rot.ok; simp only; grind)
  · exact Rot.thn_ok ha (Rot.ofT_ok _)
theorem mid_sz {a b : RR} {k : Nat} (ha : a.le k) (hb : b.le k) (hk : k ≤ 80) (ea : a.err = 0) (eb : b.err = 0) : (Rot.mid a.rot b.rot).Sz 18000 := by
  have oka := (RR.err_zero.1 ea).2
  have okb := (RR.err_zero.1 eb).2
  have okd : (a.rot.back.thn b.rot).ok := Rot.thn_ok (Rot.back_ok oka) okb
  have zd : (a.rot.back.thn b.rot).Sz (4 * k + 21) := by
    have := ha.bk.sz.thn hb.sz
    rw [RR.bk_rot] at this
    exact this.mono (by omega)
  have hhalf := Rot.half_one okd
  unfold Rot.mid
  generalize hdd : a.rot.back.thn b.rot = d at *
  by_cases hh : d.half = 1
  · rw [if_pos hh]
    have hq0 : (Rot.mk 0 1).Sz 2 := ⟨⟨by decide, by decide⟩, sz_one (by decide)⟩
    exact (ha.sz.thn hq0).mono (by omega)
  · rw [if_neg hh]
    obtain ⟨hs0, hc0, hc1⟩ := hhalf hh
    have hpos : 0 ≤ d.s / (1 + d.c) := by
      rw [Rat.div_def]
      exact Rat.mul_nonneg hs0 (Rat.le_of_lt (Rat.inv_pos.2 hc1))
    have zt := zd.s.div ((sz_one (k := 2) (by decide)).add zd.c) (by omega)
    have z3 := Sz.int (z := 3) (k := 2) (by decide) (by decide)
    rw [show ((3 : Int) : Rat) = 3 from rfl] at z3
    have zth := zt.div z3 (by decide)
    generalize hth : d.s / (1 + d.c) / 3 = th at *
    have hth0 : 0 ≤ th := by
      rw [← hth, Rat.div_def]
      exact Rat.mul_nonneg hpos (Rat.le_of_lt (Rat.inv_pos.2 (by decide)))
    have zs := Sz.smp (a := th) (b := th + th) (k := 16 * k + 100) (by grind) (zth.mono (by omega)) ((zth.add zth).mono (by omega)) (by omega)
    exact (ha.sz.thn (Rot.Sz.ofT zs)).mono (by omega)

def rr0 : RR := ⟨false, [], [], false, [], []⟩
def midsTo (l : List RR) (i : Nat) : List RR := (List.range i).map fun j => RR.of (Rot.mid (l.getD j rr0).rot (l.getD (nextR l j) rr0).rot)
theorem midsTo_len (l : List RR) (i : Nat) : (midsTo l i).length = i := by simp [midsTo]
theorem midsTo_succ (l : List RR) (i : Nat) : midsTo l (i + 1) = midsTo l i ++ [RR.of (Rot.mid (l.getD i rr0).rot (l.getD (nextR l i) rr0).rot)] := by simp [midsTo, List.range_succ]
theorem getD_eq {l : List RR} {i : Nat} (h : i < l.length) : l.getD i rr0 = l[i] := by simp [List.getD, List.getElem?_eq_getElem h]
theorem mids_le {l : List RR} {k i : Nat} (hle : ∀ r ∈ l, r.le k) (hok : ∀ r ∈ l, r.err = 0) (hk : k ≤ 80) (hi : i ≤ l.length) : ∀ r ∈ midsTo l i, r.le 18007 ∧ r.err = 0 := by
  intro r hr
  obtain ⟨j, hj, rfl⟩ := List.mem_map.1 hr
  have hj := List.mem_range.1 hj
  have hjl : j < l.length := by omega
  have hn := nextR_lt (l := l) (fun h => by rw [h] at hjl; simp at hjl) j
  rw [getD_eq hjl, getD_eq hn]
  have m1 := List.getElem_mem hjl
  have m2 := List.getElem_mem hn
  exact ⟨(mid_sz (hle _ m1) (hle _ m2) hk (hok _ m1) (hok _ m2)).le, by rw [RR.err_of, if_pos (mid_ok (RR.err_zero.1 (hok _ m1)).2)]⟩
theorem next_ne {l : List RR} (ho : Ord l) (h2 : 2 ≤ l.length) {i : Nat} (hi : i < l.length) : (l[i]).rot ≠ (l[nextR l i]'(nextR_lt ho.ne i)).rot := by
  have hn := nextR_lt ho.ne i
  have hp := List.pairwise_iff_getElem.1 ho.ord
  have hne : i ≠ nextR l i := by
    unfold nextR
    by_cases h : i + 1 = l.length
    · rw [h, Nat.mod_self]; omega
    · rw [Nat.mod_eq_of_lt (by omega)]; omega
  intro he
  have ok := (RR.err_zero.1 (ho.ok _ (List.getElem_mem hi))).2
  rcases Nat.lt_or_gt_of_ne hne with h | h
  · have := hp i (nextR l i) hi hn h
    rw [← he] at this
    exact Rot.lt_irrefl ok this
  · have := hp (nextR l i) i hn hi h
    rw [← he] at this
    exact Rot.lt_irrefl ok this

theorem wr_cell {T : Heap} {p : Nat} {w v : Value} (h : T[p]? = some ⟨[w], 1, true⟩) (hv : isCell v = true) : wr T p 0 [v] = some (T.set p ⟨[v], 1, true⟩) := by
  rw [wr_eq, h]
  simp [splice, hv, allC_cons, allC_nil]
theorem rd_cell {T : Heap} {p : Nat} {w : Value} (h : T[p]? = some ⟨[w], 1, true⟩) : rd T p 0 1 = some [w] := by
  unfold rd
  rw [h]; rfl
def RefInv (H : Heap) (p : Nat) (v : Value) (l : List RR) (i : Nat) (T : Heap) : Prop :=
  ∃ b', H.length ≤ b' ∧ b' ≠ p ∧ b' ≠ p + 1 ∧ T[p]? = some ⟨[.slice (some ⟨b', 0, none⟩) (l.length + i) 0], 1, true⟩ ∧ T[p + 1]? = some ⟨[v], 1, true⟩ ∧ OwnR T b' (l ++ midsTo l i) ∧ Ext H T
theorem RefineS (H : Heap) {v : Value} {l : List RR} {k : Nat} (hv : RL H v l) (hle : ∀ r ∈ l, r.le k) (hk : k ≤ 80) (ho : Ord l) (h2 : 2 ≤ l.length) (h6 : l.length ≤ 6) :
    ∃ w H', Sim Tryz.prog 26 #[v] H w H' ∧ Ext H H' ∧ ∃ b L, H.length ≤ b ∧ w = .tuple #[.slice (some ⟨b, 0, none⟩) (2 * l.length) 0, .int .i64 0] ∧ OwnR H' b L ∧ L.Perm (l ++ midsTo l l.length) ∧ L.Pairwise RR.leq := by
  have hne := ho.ne
  have o1 := CheckS H hv hle (by omega) (by omega)
  have hchk := ok_chk ho
  rw [hchk] at o1
  have e1 := hv.len (tt := tt) tt22
  obtain ⟨b, i0, c, rfl, hA⟩ := hv.at hne
  have m1 : IntKind.i64.wrap (2 * (l.length : Int)) = ((2 * l.length : Nat) : Int) := by rw [w64 (by omega) (by omega)]; omega
  have m2 : (1 : Int) < (l.length : Int) := by omega
  have m3 : ¬ (64 : Int) < ((2 * l.length : Nat) : Int) := by omega
  obtain ⟨vc, T1, ocl, hE1, b1, hb1, rfl, hown1⟩ := cloneR H hA hne (by omega)
  refine sim_exT tok mixed Tryz.func26 rfl (by kernel_rfl) (by kernel_rfl) (by simp only [Tryz.ntmps26, List.size_toArray, List.length_cons, List.length_nil]; omega) ?_
  simp -implicitDefEqProofs only [go_sem, Nat.reduceAdd, Nat.reduceSub, Nat.reduceMul, Nat.reduceLT, Nat.reduceLeDiff, Nat.reduceEqDiff, Nat.reduceBEq, Nat.reduceGT, Nat.reduceMod, Nat.reduceDiv, ↓reduceIte, reduceCtorEq, Int.reduceLE, Int.reduceLT, Int.reduceToNat, Int.reduceEq, Int.reduceNeg, Int.reduceAdd, Int.reduceSub, Int.reduceMul, wt_seq, wt_block, wt_region, wt_loop, wt_skip, wt_exit, wt_ret, wt_cond, axCT_t, axCT_f]
  refine wl_callV _ (by simp -implicitDefEqProofs only [go_sem, Nat.reduceAdd, Nat.reduceSub, Nat.reduceMul, Nat.reduceLT, Nat.reduceLeDiff, Nat.reduceEqDiff, Nat.reduceBEq, Nat.reduceGT, Nat.reduceMod, Nat.reduceDiv, ↓reduceIte, reduceCtorEq, Int.reduceLE, Int.reduceLT, Int.reduceToNat, Int.reduceEq, Int.reduceNeg, Int.reduceAdd, Int.reduceSub, Int.reduceMul]) o1 ?_
  simp -implicitDefEqProofs only [go_sem, Nat.reduceAdd, Nat.reduceSub, Nat.reduceMul, Nat.reduceLT, Nat.reduceLeDiff, Nat.reduceEqDiff, Nat.reduceBEq, Nat.reduceGT, Nat.reduceMod, Nat.reduceDiv, ↓reduceIte, reduceCtorEq, Int.reduceLE, Int.reduceLT, Int.reduceToNat, Int.reduceEq, Int.reduceNeg, Int.reduceAdd, Int.reduceSub, Int.reduceMul, wt_seq, wt_block, wt_region, wt_loop, wt_skip, wt_exit, wt_ret, wt_cond, axCT_t, axCT_f, e1, m1, m2, m3]
  refine wl_callF _ (by simp -implicitDefEqProofs only [go_sem, Nat.reduceAdd, Nat.reduceSub, Nat.reduceMul, Nat.reduceLT, Nat.reduceLeDiff, Nat.reduceEqDiff, Nat.reduceBEq, Nat.reduceGT, Nat.reduceMod, Nat.reduceDiv, ↓reduceIte, reduceCtorEq, Int.reduceLE, Int.reduceLT, Int.reduceToNat, Int.reduceEq, Int.reduceNeg, Int.reduceAdd, Int.reduceSub, Int.reduceMul]) ocl (fun h => by cases h) ?_
  simp -implicitDefEqProofs only [go_sem, Nat.reduceAdd, Nat.reduceSub, Nat.reduceMul, Nat.reduceLT, Nat.reduceLeDiff, Nat.reduceEqDiff, Nat.reduceBEq, Nat.reduceGT, Nat.reduceMod, Nat.reduceDiv, ↓reduceIte, reduceCtorEq, Int.reduceLE, Int.reduceLT, Int.reduceToNat, Int.reduceEq, Int.reduceNeg, Int.reduceAdd, Int.reduceSub, Int.reduceMul, wt_seq, wt_block, wt_region, wt_loop, wt_skip, wt_exit, wt_ret, wt_cond, axCT_t, axCT_f]
  have on := neighboursS (T1 ++ [⟨[.slice (some ⟨b1, 0, none⟩) l.length 0], 1, true⟩]) (some ⟨b, i0, none⟩) l.length c
  refine wl_callF _ (by simp -implicitDefEqProofs only [go_sem, Nat.reduceAdd, Nat.reduceSub, Nat.reduceMul, Nat.reduceLT, Nat.reduceLeDiff, Nat.reduceEqDiff, Nat.reduceBEq, Nat.reduceGT, Nat.reduceMod, Nat.reduceDiv, ↓reduceIte, reduceCtorEq, Int.reduceLE, Int.reduceLT, Int.reduceToNat, Int.reduceEq, Int.reduceNeg, Int.reduceAdd, Int.reduceSub, Int.reduceMul]) on (fun h => by cases h) ?_
  simp -implicitDefEqProofs only [go_sem, Nat.reduceAdd, Nat.reduceSub, Nat.reduceMul, Nat.reduceLT, Nat.reduceLeDiff, Nat.reduceEqDiff, Nat.reduceBEq, Nat.reduceGT, Nat.reduceMod, Nat.reduceDiv, ↓reduceIte, reduceCtorEq, Int.reduceLE, Int.reduceLT, Int.reduceToNat, Int.reduceEq, Int.reduceNeg, Int.reduceAdd, Int.reduceSub, Int.reduceMul, wt_seq, wt_block, wt_region, wt_loop, wt_skip, wt_exit, wt_ret, wt_cond, axCT_t, axCT_f]
  have hlen1 := hE1.len
  have hvs : ∀ T, Ext H T → RL T (.slice (some ⟨b, i0, none⟩) l.length c) l := fun T hT => hv.ext hT
  refine axT_range (RefInv H T1.length (.slice (some ⟨b, i0, none⟩) l.length c) l l.length) (by simp -implicitDefEqProofs only [go_sem, Nat.reduceAdd, Nat.reduceSub, Nat.reduceMul, Nat.reduceLT, Nat.reduceLeDiff, Nat.reduceEqDiff, Nat.reduceBEq, Nat.reduceGT, Nat.reduceMod, Nat.reduceDiv, ↓reduceIte, reduceCtorEq, Int.reduceLE, Int.reduceLT, Int.reduceToNat, Int.reduceEq, Int.reduceNeg, Int.reduceAdd, Int.reduceSub, Int.reduceMul]; rfl) (neighY (v := .slice (some ⟨b, i0, none⟩) l.length c) (RefInv H T1.length (.slice (some ⟨b, i0, none⟩) l.length c) l) h2 (by omega) ?_ ?_ ?_ ?_) ?_
  · refine ⟨b1, hb1, ?_, ?_, ?_, ?_, ?_, ?_⟩
    · have := hown1.lt; omega
    · have := hown1.lt; omega
    · simp
    · simp
    · simp only [midsTo, List.range_zero, List.map_nil, List.append_nil]; exact Own.app hown1 _
    · exact hE1.trans (.app _ _)
  · rintro i T ⟨b', g1, g2, g3, g4, g5, g6, g7⟩
    exact ⟨g5, hvs T g7⟩
  · rintro i T B ⟨b', g1, g2, g3, g4, g5, g6, g7⟩
    have l1 := (List.getElem?_eq_some_iff.1 g4).1
    have l2 := (List.getElem?_eq_some_iff.1 g5).1
    exact ⟨b', g1, g2, g3, by rw [List.getElem?_append_left l1]; exact g4, by rw [List.getElem?_append_left l2]; exact g5, Own.app g6 _, g7.trans (.app _ _)⟩
  · rintro i T hi ⟨b', g1, g2, g3, g4, g5, g6, g7⟩
    refine yr_ex rfl ?_
    have hj := nextR_lt hne i
    have mi := List.getElem_mem hi
    have mj := List.getElem_mem hj
    have om := fun H => MiddleR H (hle _ mi) (hle _ mj) (by omega) (ho.ok _ mi) (ho.ok _ mj) (next_ne ho h2 hi)
    have hsucc := midsTo_succ l i
    rw [getD_eq hi, getD_eq hj] at hsucc
    generalize RR.of (Rot.mid l[i].rot l[nextR l i].rot) = m at *
    generalize l[nextR l i] = z at om ⊢
    generalize l[i] = x at om ⊢
    have rp := fun B => rd_more (rd_cell g4) B
    have hlen2 : (l ++ midsTo l i).length = l.length + i := by rw [List.length_append, midsTo_len]
    have hpT := (List.getElem?_eq_some_iff.1 g4).1
    have hpT1 := (List.getElem?_eq_some_iff.1 g5).1
    have hT2 : ∀ B : Heap, ∃ T2, T2 = T ++ B ∧ OwnR T2 b' (l ++ midsTo l i) ∧ T2[T1.length]? = some ⟨[.slice (some ⟨b', 0, none⟩) (l.length + i) 0], 1, true⟩ ∧ T2[T1.length + 1]? = some ⟨[.slice (some ⟨b, i0, none⟩) l.length c], 1, true⟩ ∧ Ext H T2 ∧ T.length ≤ T2.length := fun B =>
      ⟨_, rfl, Own.app g6 _, by rw [List.getElem?_append_left hpT]; exact g4, by rw [List.getElem?_append_left hpT1]; exact g5, g7.trans (.app _ _), by simp⟩
    obtain ⟨T2, hT2, f1, f2, f3, f4, f5⟩ := hT2 [⟨x.cells, 1, true⟩, ⟨z.cells, 1, true⟩, ⟨m.cells, 1, true⟩]
    obtain ⟨T3, happ, ho3, hT3⟩ := append_R m f1 (by rw [hlen2]; omega)
    rw [hlen2] at happ
    have q1 : T3[T1.length]? = some ⟨[.slice (some ⟨b', 0, none⟩) (l.length + i) 0], 1, true⟩ := by
      rw [hT3, List.getElem?_append_left (by simp; omega), List.getElem?_set_ne g2, List.getElem?_append_left (by omega)]; exact f2
    have q2 : T3[T1.length + 1]? = some ⟨[.slice (some ⟨b, i0, none⟩) l.length c], 1, true⟩ := by
      rw [hT3, List.getElem?_append_left (by simp; omega), List.getElem?_set_ne g3, List.getElem?_append_left (by omega)]; exact f3
    have q3 : Ext H T3 := by rw [hT3]; exact ((f4.trans (.app _ _)).set g1 _).trans (.app _ _)
    have hw := wr_cell q1 (v := .slice (some ⟨T2.length + 1, 0, none⟩) (l.length + i + 1) 0) rfl
    have q4 : OwnR (T3.set T1.length ⟨[.slice (some ⟨T2.length + 1, 0, none⟩) (l.length + i + 1) 0], 1, true⟩) (T2.length + 1) (l ++ midsTo l (i + 1)) := by
      rw [hsucc, ← List.append_assoc]; exact Own.other ho3 (by omega) _
    have q5 := q3.set hlen1 ⟨[.slice (some ⟨T2.length + 1, 0, none⟩) (l.length + i + 1) 0], 1, true⟩
    have q6 : (T3.set T1.length ⟨[.slice (some ⟨T2.length + 1, 0, none⟩) (l.length + i + 1) 0], 1, true⟩)[T1.length]? = some ⟨[.slice (some ⟨T2.length + 1, 0, none⟩) (l.length + i + 1) 0], 1, true⟩ := by
      rw [List.getElem?_set_self (List.getElem?_eq_some_iff.1 q1).1]
    have q7 : (T3.set T1.length ⟨[.slice (some ⟨T2.length + 1, 0, none⟩) (l.length + i + 1) 0], 1, true⟩)[T1.length + 1]? = some ⟨[.slice (some ⟨b, i0, none⟩) l.length c], 1, true⟩ := by
      rw [List.getElem?_set_ne (by omega)]; exact q2
    have row := row1 T2 m
    generalize T3.set T1.length ⟨[.slice (some ⟨T2.length + 1, 0, none⟩) (l.length + i + 1) 0], 1, true⟩ = T4 at *
    clear hT3 q1 q2 q3 ho3 f1 f2 f3 f4
    generalize (T2 ++ [(⟨m.cells, 6, true⟩ : Blk)]) = T5 at *
    simp only [RR.cells] at hT2
    unfold RR.val rV at om ⊢
    unfold RR.val rV at row
    simp -implicitDefEqProofs only [go_sem, Nat.reduceAdd, Nat.reduceSub, Nat.reduceMul, Nat.reduceLT, Nat.reduceLeDiff, Nat.reduceEqDiff, Nat.reduceBEq, Nat.reduceGT, Nat.reduceMod, Nat.reduceDiv, ↓reduceIte, reduceCtorEq, Int.reduceLE, Int.reduceLT, Int.reduceToNat, Int.reduceEq, Int.reduceNeg, Int.reduceAdd, Int.reduceSub, Int.reduceMul, putPs_two, mkR]
    refine wl_callV _ (by simp -implicitDefEqProofs only [go_sem, Nat.reduceAdd, Nat.reduceSub, Nat.reduceMul, Nat.reduceLT, Nat.reduceLeDiff, Nat.reduceEqDiff, Nat.reduceBEq, Nat.reduceGT, Nat.reduceMod, Nat.reduceDiv, ↓reduceIte, reduceCtorEq, Int.reduceLE, Int.reduceLT, Int.reduceToNat, Int.reduceEq, Int.reduceNeg, Int.reduceAdd, Int.reduceSub, Int.reduceMul]) (om _) ?_
    simp -implicitDefEqProofs only [go_sem, Nat.reduceAdd, Nat.reduceSub, Nat.reduceMul, Nat.reduceLT, Nat.reduceLeDiff, Nat.reduceEqDiff, Nat.reduceBEq, Nat.reduceGT, Nat.reduceMod, Nat.reduceDiv, ↓reduceIte, reduceCtorEq, Int.reduceLE, Int.reduceLT, Int.reduceToNat, Int.reduceEq, Int.reduceNeg, Int.reduceAdd, Int.reduceSub, Int.reduceMul, rp]
    rw [← hT2]
    clear hT2
    simp -implicitDefEqProofs only [go_sem, Nat.reduceAdd, Nat.reduceSub, Nat.reduceMul, Nat.reduceLT, Nat.reduceLeDiff, Nat.reduceEqDiff, Nat.reduceBEq, Nat.reduceGT, Nat.reduceMod, Nat.reduceDiv, ↓reduceIte, reduceCtorEq, Int.reduceLE, Int.reduceLT, Int.reduceToNat, Int.reduceEq, Int.reduceNeg, Int.reduceAdd, Int.reduceSub, Int.reduceMul, row, happ, hw]
    exact ⟨T2.length + 1, by omega, by omega, by omega, q6, q7, q4, q5⟩
  · rintro T ⟨b', g1, g2, g3, g4, g5, g6, g7⟩
    have rp := rd_cell g4
    have hlen2 : (l ++ midsTo l l.length).length = l.length + l.length := by rw [List.length_append, midsTo_len]
    have hle2 : ∀ r ∈ l ++ midsTo l l.length, r.le 18007 := by
      intro r hr
      rcases List.mem_append.1 hr with hr | hr
      · exact (hle r hr).mono (by omega)
      · exact (mids_le hle ho.ok hk (Nat.le_refl _) r hr).1
    have hok2 : ∀ r ∈ l ++ midsTo l l.length, r.err = 0 := by
      intro r hr
      rcases List.mem_append.1 hr with hr | hr
      · exact ho.ok r hr
      · exact (mids_le hle ho.ok hk (Nat.le_refl _) r hr).2
    obtain ⟨L, os, hperm, hpair⟩ := sort12 T (c := 0) g6 hle2 (by omega) hok2 (by omega)
    rw [hlen2] at os
    have rp2 : rd (putR T b' L) T1.length 0 1 = some [.slice (some ⟨b', 0, none⟩) (l.length + l.length) 0] := by
      refine rd_cell ?_
      unfold putR
      rw [List.getElem?_set_ne g2]; exact g4
    simp -implicitDefEqProofs only [go_sem, Nat.reduceAdd, Nat.reduceSub, Nat.reduceMul, Nat.reduceLT, Nat.reduceLeDiff, Nat.reduceEqDiff, Nat.reduceBEq, Nat.reduceGT, Nat.reduceMod, Nat.reduceDiv, ↓reduceIte, reduceCtorEq, Int.reduceLE, Int.reduceLT, Int.reduceToNat, Int.reduceEq, Int.reduceNeg, Int.reduceAdd, Int.reduceSub, Int.reduceMul, wt_seq, wt_block, wt_region, wt_loop, wt_skip, wt_exit, wt_ret, wt_cond, axCT_t, axCT_f, rp]
    refine wl_callF _ (by simp -implicitDefEqProofs only [go_sem, Nat.reduceAdd, Nat.reduceSub, Nat.reduceMul, Nat.reduceLT, Nat.reduceLeDiff, Nat.reduceEqDiff, Nat.reduceBEq, Nat.reduceGT, Nat.reduceMod, Nat.reduceDiv, ↓reduceIte, reduceCtorEq, Int.reduceLE, Int.reduceLT, Int.reduceToNat, Int.reduceEq, Int.reduceNeg, Int.reduceAdd, Int.reduceSub, Int.reduceMul]) os (fun h => by cases h) ?_
    simp -implicitDefEqProofs only [go_sem, Nat.reduceAdd, Nat.reduceSub, Nat.reduceMul, Nat.reduceLT, Nat.reduceLeDiff, Nat.reduceEqDiff, Nat.reduceBEq, Nat.reduceGT, Nat.reduceMod, Nat.reduceDiv, ↓reduceIte, reduceCtorEq, Int.reduceLE, Int.reduceLT, Int.reduceToNat, Int.reduceEq, Int.reduceNeg, Int.reduceAdd, Int.reduceSub, Int.reduceMul, wt_seq, wt_block, wt_region, wt_loop, wt_skip, wt_exit, wt_ret, wt_cond, axCT_t, axCT_f, rp2, res26]
    refine ⟨g7.set g1 _, b', L, g1, by rw [Nat.two_mul], putR_own _ _ (Own.lt g6), hperm, hpair⟩
end Go.Proofs.YthhmkaikopdmjaaGreat
