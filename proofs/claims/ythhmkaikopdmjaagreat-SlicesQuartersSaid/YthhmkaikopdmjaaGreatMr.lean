/- SlicesQuarters. Conditions: none. -/
import Derived.Test.YthhmkaikopdmjaaGreatMq
set_option linter.unusedSimpArgs false
set_option linter.unusedVariables false
set_option maxRecDepth 8000
namespace Go.Proofs.YthhmkaikopdmjaaGreat
open Go Go.Fw

theorem plainQ : ∀ k : Fin 17, 0 < k.1 → (List.range (4 * k.1)).all (fun i => decide (RR.of (((listR k.1).getD i rr0).rot.thn (rotI 0 1 1)) = (listR k.1).getD ((i + k.1) % (4 * k.1)) rr0)) = true := by decide +kernel
theorem plainD : ∀ k m : Fin 17, 0 < k.1 → 0 < m.1 → k.1 % m.1 = 0 → (listR m.1).any (fun r => !((listR k.1).any fun x => decide (r = x))) = false := by decide +kernel
theorem quarter_ok : (RR.of (rotI 0 1 1)).err = 0 := by decide +kernel
theorem quarter_le : (RR.of (rotI 0 1 1)).le 67 := (show (rotI 0 1 1).Sz 60 from ⟨⟨by decide +kernel, by decide +kernel⟩, ⟨by decide +kernel, by decide +kernel⟩⟩).le

theorem quartersS (H : Heap) {n d : Nat} (hn : n < 256) (hd : d < 256) : Sim Tryz.prog 4 #[.int .u8 (n : Nat), .int .u8 (d : Nat)] H (.bool true) H := by
  refine flat_ex rfl ?_
  obtain ⟨k, hk⟩ : ∃ k, k = n % 16 + 1 := ⟨_, rfl⟩
  obtain ⟨m, hm⟩ : ∃ m, m = d % k + 1 := ⟨_, rfl⟩
  have hk0 : 0 < k := by omega
  have hk16 : k ≤ 16 := by omega
  have hmk : m ≤ k := by have := Nat.mod_lt d hk0; omega
  have hm0 : 0 < m := by omega
  have c1 : IntKind.i64.wrap (n : Int) = (n : Int) := w64n (by omega)
  have c2 := tmod_nat n 16
  have c3 : IntKind.i64.wrap (1 + ((n % 16 : Nat) : Int)) = (k : Int) := by rw [w64 (by omega) (by omega)]; omega
  have c4 : IntKind.i64.wrap (4 * (k : Int)) = ((4 * k : Nat) : Int) := by rw [w64 (by omega) (by omega)]; omega
  have c5 : IntKind.i64.wrap (d : Int) = (d : Int) := w64n (by omega)
  have c6 := tmod_nat d k
  have c7 : IntKind.i64.wrap (1 + ((d % k : Nat) : Int)) = (m : Int) := by rw [w64 (by omega) (by omega)]; omega
  have c8 := tmod_nat k m
  have c9 : ¬ (k : Int) = 0 := by omega
  have c10 : ¬ (m : Int) = 0 := by omega
  have b16 : ((16 : Nat) : Int) = 16 := rfl
  rw [b16] at c2
  have e1 : ∀ b c, aLen tt [22] (.slice (some ⟨b, 0, none⟩) (4 * k) c) = some (.int .i64 ((4 * k : Nat) : Int)) := fun _ _ => rfl
  have hlen := listR_len k
  have hle := listR_le hk0 hk16
  have hord := listR_ord hk0 hk16
  have t0 := fun H => turnS H (a := 0) (b := 1) (c := 1) (by decide) (by decide) (by decide)
  have aw := awakeS
  refine sim_ex tok mixed Tryz.func4 rfl (by kernel_rfl) (by kernel_rfl) (by simp only [Tryz.ntmps4, List.size_toArray, List.length_cons, List.length_nil]; omega) ?_
  simp -implicitDefEqProofs only [go_sem, Nat.reduceAdd, Nat.reduceSub, Nat.reduceMul, Nat.reduceLT, Nat.reduceLeDiff, Nat.reduceEqDiff, Nat.reduceBEq, Nat.reduceGT, Nat.reduceMod, Nat.reduceDiv, ↓reduceIte, reduceCtorEq, Int.reduceLE, Int.reduceLT, Int.reduceToNat, Int.reduceEq, Int.reduceNeg, Int.reduceAdd, Int.reduceSub, Int.reduceMul, aConv, c1, c2, c3]
  refine wl_callT _ (by simp -implicitDefEqProofs only [go_sem, Nat.reduceAdd, Nat.reduceSub, Nat.reduceMul, Nat.reduceLT, Nat.reduceLeDiff, Nat.reduceEqDiff, Nat.reduceBEq, Nat.reduceGT, Nat.reduceMod, Nat.reduceDiv, ↓reduceIte, reduceCtorEq, Int.reduceLE, Int.reduceLT, Int.reduceToNat, Int.reduceEq, Int.reduceNeg, Int.reduceAdd, Int.reduceSub, Int.reduceMul]) (ListK H hk0 hk16) ?_
  rintro _ T1 hE1 ⟨b1, hb1, rfl, hown1⟩
  have hr1 := hown1.rl
  rw [hlen] at hr1
  simp -implicitDefEqProofs only [go_sem, Nat.reduceAdd, Nat.reduceSub, Nat.reduceMul, Nat.reduceLT, Nat.reduceLeDiff, Nat.reduceEqDiff, Nat.reduceBEq, Nat.reduceGT, Nat.reduceMod, Nat.reduceDiv, ↓reduceIte, reduceCtorEq, Int.reduceLE, Int.reduceLT, Int.reduceToNat, Int.reduceEq, Int.reduceNeg, Int.reduceAdd, Int.reduceSub, Int.reduceMul]
  obtain ⟨T2, hT2⟩ : ∃ T, T = T1 ++ [(⟨[.slice (some ⟨b1, 0, none⟩) (4 * k) 0], 1, true⟩ : Blk)] := ⟨_, rfl⟩
  have hcell : T2[T1.length]? = some ⟨[.slice (some ⟨b1, 0, none⟩) (4 * k) 0], 1, true⟩ := by rw [hT2]; simp
  have hE2 : Ext T1 T2 := by rw [hT2]; exact .app _ _
  have hr2 := hr1.ext hE2
  rw [← hT2]
  have rp := rd_cell hcell
  have ock := CheckS T2 hr2 hle (by decide) (by omega)
  rw [ok_chk hord] at ock
  simp -implicitDefEqProofs only [go_sem, Nat.reduceAdd, Nat.reduceSub, Nat.reduceMul, Nat.reduceLT, Nat.reduceLeDiff, Nat.reduceEqDiff, Nat.reduceBEq, Nat.reduceGT, Nat.reduceMod, Nat.reduceDiv, ↓reduceIte, reduceCtorEq, Int.reduceLE, Int.reduceLT, Int.reduceToNat, Int.reduceEq, Int.reduceNeg, Int.reduceAdd, Int.reduceSub, Int.reduceMul, rp, e1, c4]
  refine wl_callV _ (by simp -implicitDefEqProofs only [go_sem, Nat.reduceAdd, Nat.reduceSub, Nat.reduceMul, Nat.reduceLT, Nat.reduceLeDiff, Nat.reduceEqDiff, Nat.reduceBEq, Nat.reduceGT, Nat.reduceMod, Nat.reduceDiv, ↓reduceIte, reduceCtorEq, Int.reduceLE, Int.reduceLT, Int.reduceToNat, Int.reduceEq, Int.reduceNeg, Int.reduceAdd, Int.reduceSub, Int.reduceMul]) ock ?_
  simp -implicitDefEqProofs only [go_sem, Nat.reduceAdd, Nat.reduceSub, Nat.reduceMul, Nat.reduceLT, Nat.reduceLeDiff, Nat.reduceEqDiff, Nat.reduceBEq, Nat.reduceGT, Nat.reduceMod, Nat.reduceDiv, ↓reduceIte, reduceCtorEq, Int.reduceLE, Int.reduceLT, Int.reduceToNat, Int.reduceEq, Int.reduceNeg, Int.reduceAdd, Int.reduceSub, Int.reduceMul, wa_cond, axC_t, axC_f, rp, e1]
  refine ax_midl (fun s T => s 1 = .int .u8 (d : Nat) ∧ s 5 = .int .i64 (k : Nat) ∧ s 6 = .pointer (some ⟨T1.length, 0, none⟩) ∧ Ext T2 T) ?_ ?_
  · refine ax_loopx (fun (i : Nat) s T => s 1 = .int .u8 (d : Nat) ∧ s 5 = .int .i64 (k : Nat) ∧ s 6 = .pointer (some ⟨T1.length, 0, none⟩) ∧ s 38 = .slice (some ⟨b1, 0, none⟩) (4 * k) 0 ∧ s 39 = .int .i64 ((4 * k : Nat) : Int) ∧ s 40 = .int .i64 (i : Nat) ∧ i ≤ 4 * k ∧ Ext T2 T) (fun i => 4 * k - i) 0 ?_ ?_
    · simp -implicitDefEqProofs only [go_sem, Nat.reduceAdd, Nat.reduceSub, Nat.reduceMul, Nat.reduceLT, Nat.reduceLeDiff, Nat.reduceEqDiff, Nat.reduceBEq, Nat.reduceGT, Nat.reduceMod, Nat.reduceDiv, ↓reduceIte, reduceCtorEq, Int.reduceLE, Int.reduceLT, Int.reduceToNat, Int.reduceEq, Int.reduceNeg, Int.reduceAdd, Int.reduceSub, Int.reduceMul]
      exact .refl _
    rintro i s T ⟨s1, s5, s6, s38, s39, s40, hi, hE⟩
    simp -implicitDefEqProofs only [go_sem, Nat.reduceAdd, Nat.reduceSub, Nat.reduceMul, Nat.reduceLT, Nat.reduceLeDiff, Nat.reduceEqDiff, Nat.reduceBEq, Nat.reduceGT, Nat.reduceMod, Nat.reduceDiv, ↓reduceIte, reduceCtorEq, Int.reduceLE, Int.reduceLT, Int.reduceToNat, Int.reduceEq, Int.reduceNeg, Int.reduceAdd, Int.reduceSub, Int.reduceMul, s39, s40]
    refine ax_cond2 ?_
    simp only [ev_tmp, ev_const, ev_func, upd_at, put_some, put_none, bndB_bool, Nat.reduceEqDiff, if_true, if_false, ↓reduceIte, reduceCtorEq]
    refine ⟨fun hc0 => have hlt := of_decide_eq_true hc0; ?_, fun hc0 => have hlt := of_decide_eq_false hc0; ?_⟩
    · have hi4 : i < 4 * k := by omega
      have hil : i < (listR k).length := by omega
      have hjl : (i + k) % (4 * k) < (listR k).length := by rw [hlen]; exact Nat.mod_lt _ (by omega)
      have hown : OwnR T b1 (listR k) := by
        obtain ⟨G, rfl⟩ := hE2.trans hE
        exact Own.app hown1 G
      have r1 := (hown.at (c := 0) (.inl rfl)).rdR hil
      have r2 := fun G => rd_more ((hown.at (c := 0) (.inl rfl)).rdR hjl) G
      have rp2 : ∀ G, rd (T ++ G) T1.length 0 1 = some [.slice (some ⟨b1, 0, none⟩) (4 * k) 0] := by
        obtain ⟨G0, rfl⟩ := hE
        intro G
        rw [List.append_assoc]
        exact rd_more rp _
      have hq := plainQ ⟨k, by omega⟩ hk0
      simp only [List.all_eq_true, List.mem_range, decide_eq_true_eq] at hq
      have hq := hq i hi4
      rw [getD_eq hil, getD_eq hjl] at hq
      have ot := fun H => ThenR H (hle _ (List.getElem_mem hil)) quarter_le (by decide)
      rw [hord.ok _ (List.getElem_mem hil), quarter_ok, RR.of_rot, hq] at ot
      simp only [ne_eq, not_true_eq_false, or_self, if_false] at ot
      have hnn : (0 : Int) ≤ (i : Int) := by omega
      have hlt2 : (i : Int) < ((4 * k : Nat) : Int) := by omega
      have m1 : IntKind.i64.wrap ((i : Int) + 1) = ((i + 1 : Nat) : Int) := by rw [w64 (by omega) (by omega)]; rfl
      have m2 : IntKind.i64.wrap ((i : Int) + (k : Int)) = ((i + k : Nat) : Int) := by rw [addc, w64n (by omega)]
      have m3 := tmod_nat (i + k) (4 * k)
      have m4 : ¬ ((4 * k : Nat) : Int) = 0 := by omega
      have hnn2 : (0 : Int) ≤ (((i + k) % (4 * k) : Nat) : Int) := by omega
      have hlt3 : (((i + k) % (4 * k) : Nat) : Int) < ((4 * k : Nat) : Int) := by rw [hlen] at hjl; omega
      have hnq := neq26 ((listR k)[(i + k) % (4 * k)]) ((listR k)[(i + k) % (4 * k)])
      simp only [not_true_eq_false, decide_false] at hnq
      clear hq
      generalize (listR k)[(i + k) % (4 * k)] = y at *
      generalize (listR k)[i] = x at *
      generalize (i + k) % (4 * k) = j at *
      generalize RR.of (rotI 0 1 1) = z at *
      unfold RR.val rV at t0 ot
      unfold RR.cells at r1 r2
      simp only [Nat.zero_add] at r1 r2
      simp -implicitDefEqProofs only [go_sem, Nat.reduceAdd, Nat.reduceSub, Nat.reduceMul, Nat.reduceLT, Nat.reduceLeDiff, Nat.reduceEqDiff, Nat.reduceBEq, Nat.reduceGT, Nat.reduceMod, Nat.reduceDiv, ↓reduceIte, reduceCtorEq, Int.reduceLE, Int.reduceLT, Int.reduceToNat, Int.reduceEq, Int.reduceNeg, Int.reduceAdd, Int.reduceSub, Int.reduceMul, s38, s40, aIndexAddr, hnn, hlt2, r1]
      refine ax_quiet (by kernel_rfl) ?_
      simp -implicitDefEqProofs only [go_sem, Nat.reduceAdd, Nat.reduceSub, Nat.reduceMul, Nat.reduceLT, Nat.reduceLeDiff, Nat.reduceEqDiff, Nat.reduceBEq, Nat.reduceGT, Nat.reduceMod, Nat.reduceDiv, ↓reduceIte, reduceCtorEq, Int.reduceLE, Int.reduceLT, Int.reduceToNat, Int.reduceEq, Int.reduceNeg, Int.reduceAdd, Int.reduceSub, Int.reduceMul]
      refine wl_callV _ (by simp -implicitDefEqProofs only [go_sem, Nat.reduceAdd, Nat.reduceSub, Nat.reduceMul, Nat.reduceLT, Nat.reduceLeDiff, Nat.reduceEqDiff, Nat.reduceBEq, Nat.reduceGT, Nat.reduceMod, Nat.reduceDiv, ↓reduceIte, reduceCtorEq, Int.reduceLE, Int.reduceLT, Int.reduceToNat, Int.reduceEq, Int.reduceNeg, Int.reduceAdd, Int.reduceSub, Int.reduceMul]) (t0 _) ?_
      simp -implicitDefEqProofs only [go_sem, Nat.reduceAdd, Nat.reduceSub, Nat.reduceMul, Nat.reduceLT, Nat.reduceLeDiff, Nat.reduceEqDiff, Nat.reduceBEq, Nat.reduceGT, Nat.reduceMod, Nat.reduceDiv, ↓reduceIte, reduceCtorEq, Int.reduceLE, Int.reduceLT, Int.reduceToNat, Int.reduceEq, Int.reduceNeg, Int.reduceAdd, Int.reduceSub, Int.reduceMul]
      refine wl_callV _ (by simp -implicitDefEqProofs only [go_sem, Nat.reduceAdd, Nat.reduceSub, Nat.reduceMul, Nat.reduceLT, Nat.reduceLeDiff, Nat.reduceEqDiff, Nat.reduceBEq, Nat.reduceGT, Nat.reduceMod, Nat.reduceDiv, ↓reduceIte, reduceCtorEq, Int.reduceLE, Int.reduceLT, Int.reduceToNat, Int.reduceEq, Int.reduceNeg, Int.reduceAdd, Int.reduceSub, Int.reduceMul]) (ot _) ?_
      simp -implicitDefEqProofs only [go_sem, Nat.reduceAdd, Nat.reduceSub, Nat.reduceMul, Nat.reduceLT, Nat.reduceLeDiff, Nat.reduceEqDiff, Nat.reduceBEq, Nat.reduceGT, Nat.reduceMod, Nat.reduceDiv, ↓reduceIte, reduceCtorEq, Int.reduceLE, Int.reduceLT, Int.reduceToNat, Int.reduceEq, Int.reduceNeg, Int.reduceAdd, Int.reduceSub, Int.reduceMul]
      refine ax_quiet (by kernel_rfl) ?_
      simp -implicitDefEqProofs only [go_sem, Nat.reduceAdd, Nat.reduceSub, Nat.reduceMul, Nat.reduceLT, Nat.reduceLeDiff, Nat.reduceEqDiff, Nat.reduceBEq, Nat.reduceGT, Nat.reduceMod, Nat.reduceDiv, ↓reduceIte, reduceCtorEq, Int.reduceLE, Int.reduceLT, Int.reduceToNat, Int.reduceEq, Int.reduceNeg, Int.reduceAdd, Int.reduceSub, Int.reduceMul, wa_cond, axC_t, axC_f, s1, s5, s6, s38, s39, s40, rp2, r2, e1, m1, m2, m3, m4, aIndexAddr, hnn2, hlt3, hnq]
      exact ⟨i + 1, ⟨rfl, by omega, hE.trans (.app _ _)⟩, by omega⟩
    · simp -implicitDefEqProofs only [go_sem, Nat.reduceAdd, Nat.reduceSub, Nat.reduceMul, Nat.reduceLT, Nat.reduceLeDiff, Nat.reduceEqDiff, Nat.reduceBEq, Nat.reduceGT, Nat.reduceMod, Nat.reduceDiv, ↓reduceIte, reduceCtorEq, Int.reduceLE, Int.reduceLT, Int.reduceToNat, Int.reduceEq, Int.reduceNeg, Int.reduceAdd, Int.reduceSub, Int.reduceMul, s1, s5, s6]
      exact hE
  clear t0
  rintro s T ⟨s1, s5, s6, hE⟩
  simp -implicitDefEqProofs only [go_sem, Nat.reduceAdd, Nat.reduceSub, Nat.reduceMul, Nat.reduceLT, Nat.reduceLeDiff, Nat.reduceEqDiff, Nat.reduceBEq, Nat.reduceGT, Nat.reduceMod, Nat.reduceDiv, ↓reduceIte, reduceCtorEq, Int.reduceLE, Int.reduceLT, Int.reduceToNat, Int.reduceEq, Int.reduceNeg, Int.reduceAdd, Int.reduceSub, Int.reduceMul, s1, s5, aConv, c5, c6, c7, c8, c9, c10]
  by_cases hmod : k % m = 0
  · have hz : ((k % m : Nat) : Int) = 0 := by omega
    simp -implicitDefEqProofs only [go_sem, Nat.reduceAdd, Nat.reduceSub, Nat.reduceMul, Nat.reduceLT, Nat.reduceLeDiff, Nat.reduceEqDiff, Nat.reduceBEq, Nat.reduceGT, Nat.reduceMod, Nat.reduceDiv, ↓reduceIte, reduceCtorEq, Int.reduceLE, Int.reduceLT, Int.reduceToNat, Int.reduceEq, Int.reduceNeg, Int.reduceAdd, Int.reduceSub, Int.reduceMul, wa_cond, axC_t, axC_f, hz]
    have hr3 := hr2.ext hE
    have hc3 : T[T1.length]? = some ⟨[.slice (some ⟨b1, 0, none⟩) (4 * k) 0], 1, true⟩ := by
      obtain ⟨G, rfl⟩ := hE
      rw [List.getElem?_append_left (List.getElem?_eq_some_iff.1 hcell).1]; exact hcell
    refine wl_callT _ (by simp -implicitDefEqProofs only [go_sem, Nat.reduceAdd, Nat.reduceSub, Nat.reduceMul, Nat.reduceLT, Nat.reduceLeDiff, Nat.reduceEqDiff, Nat.reduceBEq, Nat.reduceGT, Nat.reduceMod, Nat.reduceDiv, ↓reduceIte, reduceCtorEq, Int.reduceLE, Int.reduceLT, Int.reduceToNat, Int.reduceEq, Int.reduceNeg, Int.reduceAdd, Int.reduceSub, Int.reduceMul]) (ListK T hm0 (by omega)) ?_
    rintro _ T4 hE4 ⟨b4, hb4, rfl, hown4⟩
    have hr4 := hown4.rl
    rw [listR_len] at hr4
    have hc4 : T4[T1.length]? = some ⟨[.slice (some ⟨b1, 0, none⟩) (4 * k) 0], 1, true⟩ := by
      obtain ⟨G, rfl⟩ := hE4
      rw [List.getElem?_append_left (List.getElem?_eq_some_iff.1 hc3).1]; exact hc3
    have of1 := fun x (_ : x ∈ listR m) => quartersF T4 (r := x) hc4 (hr3.ext hE4) (by omega) rfl
    have of2 := containsFuncR T4 (cap := #[.pointer (some ⟨T1.length, 0, none⟩)]) (p := fun r => !((listR k).any fun x => decide (r = x))) hr4 (by rw [listR_len]; omega) of1
    rw [plainD ⟨k, by omega⟩ ⟨m, by omega⟩ hk0 hm0 hmod] at of2
    simp -implicitDefEqProofs only [go_sem, Nat.reduceAdd, Nat.reduceSub, Nat.reduceMul, Nat.reduceLT, Nat.reduceLeDiff, Nat.reduceEqDiff, Nat.reduceBEq, Nat.reduceGT, Nat.reduceMod, Nat.reduceDiv, ↓reduceIte, reduceCtorEq, Int.reduceLE, Int.reduceLT, Int.reduceToNat, Int.reduceEq, Int.reduceNeg, Int.reduceAdd, Int.reduceSub, Int.reduceMul, s6]
    refine wl_callV _ (by simp -implicitDefEqProofs only [go_sem, Nat.reduceAdd, Nat.reduceSub, Nat.reduceMul, Nat.reduceLT, Nat.reduceLeDiff, Nat.reduceEqDiff, Nat.reduceBEq, Nat.reduceGT, Nat.reduceMod, Nat.reduceDiv, ↓reduceIte, reduceCtorEq, Int.reduceLE, Int.reduceLT, Int.reduceToNat, Int.reduceEq, Int.reduceNeg, Int.reduceAdd, Int.reduceSub, Int.reduceMul]) of2 ?_
    simp -implicitDefEqProofs only [go_sem, Nat.reduceAdd, Nat.reduceSub, Nat.reduceMul, Nat.reduceLT, Nat.reduceLeDiff, Nat.reduceEqDiff, Nat.reduceBEq, Nat.reduceGT, Nat.reduceMod, Nat.reduceDiv, ↓reduceIte, reduceCtorEq, Int.reduceLE, Int.reduceLT, Int.reduceToNat, Int.reduceEq, Int.reduceNeg, Int.reduceAdd, Int.reduceSub, Int.reduceMul]
    refine wl_callV _ (by simp -implicitDefEqProofs only [go_sem, Nat.reduceAdd, Nat.reduceSub, Nat.reduceMul, Nat.reduceLT, Nat.reduceLeDiff, Nat.reduceEqDiff, Nat.reduceBEq, Nat.reduceGT, Nat.reduceMod, Nat.reduceDiv, ↓reduceIte, reduceCtorEq, Int.reduceLE, Int.reduceLT, Int.reduceToNat, Int.reduceEq, Int.reduceNeg, Int.reduceAdd, Int.reduceSub, Int.reduceMul]) (aw _) ?_
    simp -implicitDefEqProofs only [go_sem, Nat.reduceAdd, Nat.reduceSub, Nat.reduceMul, Nat.reduceLT, Nat.reduceLeDiff, Nat.reduceEqDiff, Nat.reduceBEq, Nat.reduceGT, Nat.reduceMod, Nat.reduceDiv, ↓reduceIte, reduceCtorEq, Int.reduceLE, Int.reduceLT, Int.reduceToNat, Int.reduceEq, Int.reduceNeg, Int.reduceAdd, Int.reduceSub, Int.reduceMul, res4]
    first | exact hE1.trans (hE2.trans (hE.trans hE4)) | exact ⟨hE1.trans (hE2.trans (hE.trans hE4)), rfl⟩
  · have hz : ¬ ((k % m : Nat) : Int) = 0 := by omega
    simp -implicitDefEqProofs only [go_sem, Nat.reduceAdd, Nat.reduceSub, Nat.reduceMul, Nat.reduceLT, Nat.reduceLeDiff, Nat.reduceEqDiff, Nat.reduceBEq, Nat.reduceGT, Nat.reduceMod, Nat.reduceDiv, ↓reduceIte, reduceCtorEq, Int.reduceLE, Int.reduceLT, Int.reduceToNat, Int.reduceEq, Int.reduceNeg, Int.reduceAdd, Int.reduceSub, Int.reduceMul, wa_cond, axC_t, axC_f, hz]
    refine wl_callV _ (by simp -implicitDefEqProofs only [go_sem, Nat.reduceAdd, Nat.reduceSub, Nat.reduceMul, Nat.reduceLT, Nat.reduceLeDiff, Nat.reduceEqDiff, Nat.reduceBEq, Nat.reduceGT, Nat.reduceMod, Nat.reduceDiv, ↓reduceIte, reduceCtorEq, Int.reduceLE, Int.reduceLT, Int.reduceToNat, Int.reduceEq, Int.reduceNeg, Int.reduceAdd, Int.reduceSub, Int.reduceMul]) (aw _) ?_
    simp -implicitDefEqProofs only [go_sem, Nat.reduceAdd, Nat.reduceSub, Nat.reduceMul, Nat.reduceLT, Nat.reduceLeDiff, Nat.reduceEqDiff, Nat.reduceBEq, Nat.reduceGT, Nat.reduceMod, Nat.reduceDiv, ↓reduceIte, reduceCtorEq, Int.reduceLE, Int.reduceLT, Int.reduceToNat, Int.reduceEq, Int.reduceNeg, Int.reduceAdd, Int.reduceSub, Int.reduceMul, res4]
    first | exact hE1.trans (hE2.trans hE) | exact ⟨hE1.trans (hE2.trans hE), rfl⟩
end Go.Proofs.YthhmkaikopdmjaaGreat
