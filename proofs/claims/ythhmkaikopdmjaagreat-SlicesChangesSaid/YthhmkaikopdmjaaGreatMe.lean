/- rational: digits, machine, text; rational: ratio; rational: Of, New, Ratio, Check, Neg; rational: Neg, both, Add, Mul, Sub, Compare; rational: Add, Mul, Sub; rational: Add, Mul, Sub, Compare, Quo, Sign, Floor, Ceil; rational: Sign, Floor, Ceil, simplest, Simplest; rational: simplest, Simplest; rational: Simplest; rotation: sum, minus, over; rotation: minus, over, back, then; rotation: half, compare, Check, wrong; rotation: Check, wrong; rotation: wrong, Then, Compare, Between; rotation: Then, Compare, Between, Of, Tangent, Middle; rotation: Tangent, Middle; slices: compare, Equal, Clone, Check, check; slices: Clone, Check, check; slices: check, BinarySearchFunc, Find; slices: Find, List; slices: List; slices: neighbours; slices: sorting by insertion; slices: SortFunc for short rows; slices: Refine; slices: turn, awake; slices: Contains, ContainsFunc, SlicesQuarters; slices: IndexFunc, ContainsFunc; SlicesQuarters; sorting: any order; by insertion. Conditions: none. -/
import Derived.Test.YthhmkaikopdmjaaGreatMd
set_option linter.unusedSimpArgs false
set_option linter.unusedVariables false
set_option maxRecDepth 8000
namespace Go.Proofs.YthhmkaikopdmjaaGreat
open Go Go.Fw
theorem pow256_le {i : Nat} (hi : i ≤ 7) : 256 ^ i ≤ 72057594037927936 := by
  have : 256 ^ i ≤ 256 ^ 7 := Nat.pow_le_pow_right (by decide) hi
  exact this
theorem digits_sim (H : Heap) {m : List UInt8} (hm : m.length ≤ 7) : Sim Tryz.prog 248 #[.string (bs m)] H (.int .i64 (valB m : Nat)) H := by
  refine flat_ex rfl ?_
  refine sxA tok mixed Tryz.func248 ?_
  simp -implicitDefEqProofs only [go_sem, Nat.reduceAdd, Nat.reduceSub, Nat.reduceMul, Nat.reduceLT, Nat.reduceLeDiff, Nat.reduceEqDiff, Nat.reduceBEq, Nat.reduceGT, Nat.reduceMod, Nat.reduceDiv, ↓reduceIte, reduceCtorEq, Int.reduceLE, Int.reduceLT, Int.reduceToNat, Int.reduceEq, Int.reduceNeg, Int.reduceAdd, Int.reduceSub, Int.reduceMul, aLen]
  refine ax_loopx (fun (i : Nat) s T => s 0 = .string (bs m) ∧ s 3 = .int .i64 (valB (m.take i) : Nat) ∧ s 6 = .int .i64 (m.length : Nat) ∧ s 7 = .int .i64 (i : Nat) ∧ i ≤ m.length ∧ T = H) (fun i => m.length - i) 0 ?_ ?_
  · simp -implicitDefEqProofs only [go_sem, Nat.reduceAdd, Nat.reduceSub, Nat.reduceMul, Nat.reduceLT, Nat.reduceLeDiff, Nat.reduceEqDiff, Nat.reduceBEq, Nat.reduceGT, Nat.reduceMod, Nat.reduceDiv, ↓reduceIte, reduceCtorEq, Int.reduceLE, Int.reduceLT, Int.reduceToNat, Int.reduceEq, Int.reduceNeg, Int.reduceAdd, Int.reduceSub, Int.reduceMul]
    trivial
  rintro i s T ⟨h0, h3, h6, h7, hi, hT⟩
  subst T
  simp -implicitDefEqProofs only [go_sem, Nat.reduceAdd, Nat.reduceSub, Nat.reduceMul, Nat.reduceLT, Nat.reduceLeDiff, Nat.reduceEqDiff, Nat.reduceBEq, Nat.reduceGT, Nat.reduceMod, Nat.reduceDiv, ↓reduceIte, reduceCtorEq, Int.reduceLE, Int.reduceLT, Int.reduceToNat, Int.reduceEq, Int.reduceNeg, Int.reduceAdd, Int.reduceSub, Int.reduceMul, h6, h7]
  refine ax_cond2 ?_
  simp only [ev_tmp, ev_const, ev_func, upd_at, put_some, put_none, bndB_bool, Nat.reduceEqDiff, if_true, if_false, ↓reduceIte, reduceCtorEq]
  refine ⟨fun hc0 => have hlt := of_decide_eq_true hc0; ?_, fun hc0 => have hlt := of_decide_eq_false hc0; ?_⟩
  · have hil : i < m.length := by omega
    have hg : m[i]? = some m[i] := List.getElem?_eq_getElem hil
    have hts := valB_take_succ hil
    have hvl := valB_take_lt m i
    have hvl2 := valB_take_lt m (i + 1)
    have hm1 := pow256_le (i := i) (by omega)
    have hm2 := pow256_le (i := i + 1) (by omega)
    have hb : m[i].toNat < 256 := UInt8.toNat_lt _
    generalize m[i] = x at *
    generalize valB (m.take i) = n at *
    have a1 : IntKind.i64.wrap ((n : Int) * 2 ^ 8) = ((n * 2 ^ 8 : Nat) : Int) := by
      rw [show ((n : Int) * 2 ^ 8) = ((n * 2 ^ 8 : Nat) : Int) by simp, w64n (by omega)]
    have a2 := w64n (n := x.toNat) (by omega)
    have a3 := or_i64 (a := n * 2 ^ 8) (b := x.toNat) (by omega) (by omega)
    have a4 : n * 2 ^ 8 ||| x.toNat = valB (m.take (i + 1)) := by rw [Nat.or_comm, or_add (by omega), hts]; omega
    rw [a4] at a3
    have a5 : IntKind.i64.wrap ((i : Int) + 1) = ((i + 1 : Nat) : Int) := by rw [w64 (by omega) (by omega)]; rfl
    have h8 : ¬ ((8 : Int) < 0) := by omega
    have hnn : (0 : Int) ≤ (i : Int) := by omega
    simp -implicitDefEqProofs only [go_sem, Nat.reduceAdd, Nat.reduceSub, Nat.reduceMul, Nat.reduceLT, Nat.reduceLeDiff, Nat.reduceEqDiff, Nat.reduceBEq, Nat.reduceGT, Nat.reduceMod, Nat.reduceDiv, ↓reduceIte, reduceCtorEq, Int.reduceLE, Int.reduceLT, Int.reduceToNat, Int.reduceEq, Int.reduceNeg, Int.reduceAdd, Int.reduceSub, Int.reduceMul, h0, h3, h6, h7, hg, aConv, a1, a2, a3, a5, h8, hnn, show min 8 64 = 8 from rfl]
    exact ⟨i + 1, ⟨rfl, rfl, by omega⟩, by omega⟩
  · have hil : i = m.length := by omega
    subst hil
    rw [List.take_length] at h3
    simp -implicitDefEqProofs only [go_sem, Nat.reduceAdd, Nat.reduceSub, Nat.reduceMul, Nat.reduceLT, Nat.reduceLeDiff, Nat.reduceEqDiff, Nat.reduceBEq, Nat.reduceGT, Nat.reduceMod, Nat.reduceDiv, ↓reduceIte, reduceCtorEq, Int.reduceLE, Int.reduceLT, Int.reduceToNat, Int.reduceEq, Int.reduceNeg, Int.reduceAdd, Int.reduceSub, Int.reduceMul, h3, res248]
    first | exact .refl _ | exact ⟨.refl _, rfl⟩
theorem machine_big (H : Heap) {g : Bool} {n d : List UInt8} (h : 3 < n.length ∨ 3 < d.length) : Sim Tryz.prog 194 #[qV g n d] H (.tuple #[.int .i64 0, .int .i64 0, .bool false]) H := by
  refine flat_ex rfl ?_
  unfold qV
  refine sxA tok mixed Tryz.func194 ?_
  by_cases h1 : 3 < n.length
  · have h2 : (3 : Int) < (n.length : Int) := by omega
    simp -implicitDefEqProofs only [go_sem, Nat.reduceAdd, Nat.reduceSub, Nat.reduceMul, Nat.reduceLT, Nat.reduceLeDiff, Nat.reduceEqDiff, Nat.reduceBEq, Nat.reduceGT, Nat.reduceMod, Nat.reduceDiv, ↓reduceIte, reduceCtorEq, Int.reduceLE, Int.reduceLT, Int.reduceToNat, Int.reduceEq, Int.reduceNeg, Int.reduceAdd, Int.reduceSub, Int.reduceMul, wa_cond, axC_t, axC_f, aLen, h2, res194]
    first | exact .app _ _ | exact ⟨.app _ _, rfl⟩
  · have h2 : ¬ (3 : Int) < (n.length : Int) := by omega
    have h3 : (3 : Int) < (d.length : Int) := by omega
    simp -implicitDefEqProofs only [go_sem, Nat.reduceAdd, Nat.reduceSub, Nat.reduceMul, Nat.reduceLT, Nat.reduceLeDiff, Nat.reduceEqDiff, Nat.reduceBEq, Nat.reduceGT, Nat.reduceMod, Nat.reduceDiv, ↓reduceIte, reduceCtorEq, Int.reduceLE, Int.reduceLT, Int.reduceToNat, Int.reduceEq, Int.reduceNeg, Int.reduceAdd, Int.reduceSub, Int.reduceMul, wa_cond, axC_t, axC_f, aLen, h2, h3, res194]
    first | exact .app _ _ | exact ⟨.app _ _, rfl⟩
theorem machine_small (H : Heap) {g : Bool} {n d : List UInt8} (hn : n.length ≤ 3) (hd : d.length ≤ 3) : Sim Tryz.prog 194 #[qV g n d] H (.tuple #[.int .i64 (ival g n), .int .i64 (dval d : Nat), .bool true]) H := by
  refine flat_ex rfl ?_
  have h2 : ¬ (3 : Int) < (n.length : Int) := by omega
  have h3 : ¬ (3 : Int) < (d.length : Int) := by omega
  have hv := valB_lt n
  have hp := pow256_le (i := n.length) (by omega)
  have a1 : IntKind.i64.wrap (0 - (valB n : Int)) = -(valB n : Int) := by rw [w64 (by omega) (by omega)]; omega
  have hmx : ∀ H, aBuiltin tt H .max [3, 3] [.int .i64 (valB d : Nat), .int .i64 1] = some (.int .i64 (dval d : Nat), H) := by
    intro H
    unfold dval aBuiltin
    by_cases h0 : valB d = 0
    · simp [maxInts, h0]
    · have : ¬ (1 : Int) > (valB d : Int) := by omega
      simp [maxInts, h0, this]
  unfold qV ival
  refine sxA tok mixed Tryz.func194 ?_
  simp -implicitDefEqProofs only [go_sem, Nat.reduceAdd, Nat.reduceSub, Nat.reduceMul, Nat.reduceLT, Nat.reduceLeDiff, Nat.reduceEqDiff, Nat.reduceBEq, Nat.reduceGT, Nat.reduceMod, Nat.reduceDiv, ↓reduceIte, reduceCtorEq, Int.reduceLE, Int.reduceLT, Int.reduceToNat, Int.reduceEq, Int.reduceNeg, Int.reduceAdd, Int.reduceSub, Int.reduceMul, wa_cond, axC_t, axC_f, aLen, h2, h3]
  refine ax_quiet (by kernel_rfl) ?_
  simp -implicitDefEqProofs only [go_sem, Nat.reduceAdd, Nat.reduceSub, Nat.reduceMul, Nat.reduceLT, Nat.reduceLeDiff, Nat.reduceEqDiff, Nat.reduceBEq, Nat.reduceGT, Nat.reduceMod, Nat.reduceDiv, ↓reduceIte, reduceCtorEq, Int.reduceLE, Int.reduceLT, Int.reduceToNat, Int.reduceEq, Int.reduceNeg, Int.reduceAdd, Int.reduceSub, Int.reduceMul]
  refine wl_callV #[.string (bs n)] (by simp -implicitDefEqProofs only [go_sem, Nat.reduceAdd, Nat.reduceSub, Nat.reduceMul, Nat.reduceLT, Nat.reduceLeDiff, Nat.reduceEqDiff, Nat.reduceBEq, Nat.reduceGT, Nat.reduceMod, Nat.reduceDiv, ↓reduceIte, reduceCtorEq, Int.reduceLE, Int.reduceLT, Int.reduceToNat, Int.reduceEq, Int.reduceNeg, Int.reduceAdd, Int.reduceSub, Int.reduceMul]) (digits_sim _ (by omega)) ?_
  simp -implicitDefEqProofs only [go_sem, Nat.reduceAdd, Nat.reduceSub, Nat.reduceMul, Nat.reduceLT, Nat.reduceLeDiff, Nat.reduceEqDiff, Nat.reduceBEq, Nat.reduceGT, Nat.reduceMod, Nat.reduceDiv, ↓reduceIte, reduceCtorEq, Int.reduceLE, Int.reduceLT, Int.reduceToNat, Int.reduceEq, Int.reduceNeg, Int.reduceAdd, Int.reduceSub, Int.reduceMul]
  refine wl_callV #[.string (bs d)] (by simp -implicitDefEqProofs only [go_sem, Nat.reduceAdd, Nat.reduceSub, Nat.reduceMul, Nat.reduceLT, Nat.reduceLeDiff, Nat.reduceEqDiff, Nat.reduceBEq, Nat.reduceGT, Nat.reduceMod, Nat.reduceDiv, ↓reduceIte, reduceCtorEq, Int.reduceLE, Int.reduceLT, Int.reduceToNat, Int.reduceEq, Int.reduceNeg, Int.reduceAdd, Int.reduceSub, Int.reduceMul]) (digits_sim _ (by omega)) ?_
  cases g
  · simp -implicitDefEqProofs only [go_sem, Nat.reduceAdd, Nat.reduceSub, Nat.reduceMul, Nat.reduceLT, Nat.reduceLeDiff, Nat.reduceEqDiff, Nat.reduceBEq, Nat.reduceGT, Nat.reduceMod, Nat.reduceDiv, ↓reduceIte, reduceCtorEq, Int.reduceLE, Int.reduceLT, Int.reduceToNat, Int.reduceEq, Int.reduceNeg, Int.reduceAdd, Int.reduceSub, Int.reduceMul, wa_cond, axC_t, axC_f, hmx, res194]
    first | exact .app _ _ | exact ⟨.app _ _, rfl⟩
  · simp -implicitDefEqProofs only [go_sem, Nat.reduceAdd, Nat.reduceSub, Nat.reduceMul, Nat.reduceLT, Nat.reduceLeDiff, Nat.reduceEqDiff, Nat.reduceBEq, Nat.reduceGT, Nat.reduceMod, Nat.reduceDiv, ↓reduceIte, reduceCtorEq, Int.reduceLE, Int.reduceLT, Int.reduceToNat, Int.reduceEq, Int.reduceNeg, Int.reduceAdd, Int.reduceSub, Int.reduceMul, wa_cond, axC_t, axC_f, hmx, a1, res194]
    first | exact .app _ _ | exact ⟨.app _ _, rfl⟩
theorem text_sim (H : Heap) {n : Nat} (h0 : 0 < n) (hn : n < 9223372036854775808) : Sim Tryz.prog 195 #[.int .i64 (n : Nat)] H (.string (bs (digB n))) H := by
  refine flat_ex rfl ?_
  refine sxA tok mixed Tryz.func195 ?_
  simp -implicitDefEqProofs only [go_sem, Nat.reduceAdd, Nat.reduceSub, Nat.reduceMul, Nat.reduceLT, Nat.reduceLeDiff, Nat.reduceEqDiff, Nat.reduceBEq, Nat.reduceGT, Nat.reduceMod, Nat.reduceDiv, ↓reduceIte, reduceCtorEq, Int.reduceLE, Int.reduceLT, Int.reduceToNat, Int.reduceEq, Int.reduceNeg, Int.reduceAdd, Int.reduceSub, Int.reduceMul]
  refine ax_loopx (fun (r : Nat) s T => ∃ (i : Nat) (o : List UInt8), s 0 = .int .i64 (r : Nat) ∧ s 3 = .pointer (some ⟨H.length, 0, none⟩) ∧ s 4 = .int .i64 (i : Nat) ∧ i ≤ 8 ∧ o.length = 8 ∧ r < 256 ^ i ∧ r < 9223372036854775808 ∧ digB n = digB r ++ o.drop i ∧ (r = 0 → i < 8) ∧
    T = H ++ [⟨u8s o, 1, true⟩]) id n ?_ ?_
  · refine ⟨8, List.replicate 8 0, ?_⟩
    simp -implicitDefEqProofs only [go_sem, Nat.reduceAdd, Nat.reduceSub, Nat.reduceMul, Nat.reduceLT, Nat.reduceLeDiff, Nat.reduceEqDiff, Nat.reduceBEq, Nat.reduceGT, Nat.reduceMod, Nat.reduceDiv, ↓reduceIte, reduceCtorEq, Int.reduceLE, Int.reduceLT, Int.reduceToNat, Int.reduceEq, Int.reduceNeg, Int.reduceAdd, Int.reduceSub, Int.reduceMul]
    exact ⟨rfl, by simp, by rw [show 256 ^ 8 = 18446744073709551616 from rfl]; omega, hn, by simp, by omega, rfl⟩
  rintro r s T ⟨i, o, s0, s3, s4, hi, ho, hr, hr2, hd, h8, hT⟩
  subst T
  simp -implicitDefEqProofs only [go_sem, Nat.reduceAdd, Nat.reduceSub, Nat.reduceMul, Nat.reduceLT, Nat.reduceLeDiff, Nat.reduceEqDiff, Nat.reduceBEq, Nat.reduceGT, Nat.reduceMod, Nat.reduceDiv, ↓reduceIte, reduceCtorEq, Int.reduceLE, Int.reduceLT, Int.reduceToNat, Int.reduceEq, Int.reduceNeg, Int.reduceAdd, Int.reduceSub, Int.reduceMul, s0]
  refine ax_cond2 ?_
  simp only [ev_tmp, ev_const, ev_func, upd_at, put_some, put_none, bndB_bool, Nat.reduceEqDiff, if_true, if_false, ↓reduceIte, reduceCtorEq]
  refine ⟨fun hc0 => have hc := of_decide_eq_true hc0; ?_, fun hc0 => have hc := of_decide_eq_false hc0; ?_⟩
  · have hr0 : r ≠ 0 := by omega
    obtain ⟨i, rfl⟩ : ∃ i', i = i' + 1 := ⟨i - 1, by
      cases i with
      | zero => simp at hr; omega
      | succ i => omega⟩
    have a1 : IntKind.i64.wrap (((i + 1 : Nat) : Int) - 1) = (i : Int) := by rw [castS]; exact w64 (by omega) (by omega)
    have a2 := low_u8 r
    have a3 := fdiv_pow r 8
    have hi2 : (0 : Int) ≤ (i : Int) ∧ (i : Int) < ((8 : Nat) : Int) := by omega
    have hw := u8_wr (L := []) (l := o) (k := i) (b := UInt8.ofNat r) (by omega)
    have hd8 : ¬ ((8 : Int) < 0) := by omega
    simp -implicitDefEqProofs only [go_sem, Nat.reduceAdd, Nat.reduceSub, Nat.reduceMul, Nat.reduceLT, Nat.reduceLeDiff, Nat.reduceEqDiff, Nat.reduceBEq, Nat.reduceGT, Nat.reduceMod, Nat.reduceDiv, ↓reduceIte, reduceCtorEq, Int.reduceLE, Int.reduceLT, Int.reduceToNat, Int.reduceEq, Int.reduceNeg, Int.reduceAdd, Int.reduceSub, Int.reduceMul, s0, s3, s4, a1, aConv, a2, aIndexAddr, hi2, Nat.mul_one, hw, a3, hd8, show min 8 64 = 8 from rfl]
    refine ⟨r / 2 ^ 8, ⟨i, o.set i (UInt8.ofNat r), ?_⟩, Nat.div_lt_self (by omega) (by decide)⟩
    refine ⟨rfl, rfl, by omega, by simpa using ho, ?_, by omega, ?_, by omega, rfl⟩
    · rw [Nat.div_lt_iff_lt_mul (by decide)]
      rw [Nat.pow_succ] at hr
      exact hr
    · rw [hd, digB_step hr0, List.append_assoc]
      congr 1
      rw [List.drop_eq_getElem_cons (l := o.set i (UInt8.ofNat r)) (i := i) (by simp; omega), List.getElem_set_self, List.drop_set_of_lt (by omega)]
      rfl
  · have hr0 : r = 0 := by omega
    subst hr0
    have hi8 := h8 rfl
    rw [digB_zero, List.nil_append] at hd
    have hs : aSlice tt (H ++ [⟨u8s o, 1, true⟩]) 204 (.pointer (some ⟨H.length, 0, none⟩)) (some (.int .i64 (i : Nat))) none none = some (.slice (some ⟨H.length, i, none⟩) (8 - i) (8 - i)) := by
      simp only [aSlice, tt204, sizeT, tt5, bnd, Option.map_some, Int.toNat_natCast]
      simp [show i ≤ 8 by omega, hi8]
    have hrd := u8_rd (L := []) (l := o) (k := i) (n := 8 - i) (by omega)
    simp -implicitDefEqProofs only [go_sem, Nat.reduceAdd, Nat.reduceSub, Nat.reduceMul, Nat.reduceLT, Nat.reduceLeDiff, Nat.reduceEqDiff, Nat.reduceBEq, Nat.reduceGT, Nat.reduceMod, Nat.reduceDiv, ↓reduceIte, reduceCtorEq, Int.reduceLE, Int.reduceLT, Int.reduceToNat, Int.reduceEq, Int.reduceNeg, Int.reduceAdd, Int.reduceSub, Int.reduceMul, s3, s4, hs, aConv, hrd, bytesOf_u8s, res195]
    rw [hd]
    first | exact .app _ _ | exact ⟨.app _ _, rfl⟩
end Go.Proofs.YthhmkaikopdmjaaGreat
namespace Go.Proofs.YthhmkaikopdmjaaGreat
open Go Go.Fw
theorem max_abs (H : Heap) (a : Int) (ha : a.natAbs < 4611686018427387904) : aBuiltin tt H .max [3, 3] [.int .i64 a, .int .i64 (IntKind.i64.wrap (0 - a))] = some (.int .i64 (a.natAbs : Nat), H) := by
  rw [w64 (by omega) (by omega)]
  unfold aBuiltin
  simp only [maxInts, Option.map_some]
  congr 3
  split <;> omega
theorem ratio_sim (H : Heap) {n : Int} {d : Nat} (hn : n.natAbs < 4611686018427387904) (hd : d < 4611686018427387904) (h0 : 0 < d) : Sim Tryz.prog 129 #[.int .i64 n, .int .i64 (d : Nat)] H (mkQ (mkRat n d)) H := by
  refine flat_ex rfl ?_
  have hgp : 0 < Nat.gcd n.natAbs d := Nat.gcd_pos_of_pos_right _ h0
  have hgd : Nat.gcd n.natAbs d ≤ d := Nat.gcd_le_right _ h0
  have hd1 : Nat.gcd n.natAbs d ∣ d := Nat.gcd_dvd_right _ _
  have hd2 : Nat.gcd n.natAbs d ∣ n.natAbs := Nat.gcd_dvd_left _ _
  have hG0 : n = 0 → Nat.gcd n.natAbs d = d := by rintro rfl; simp
  refine sxA tok mixed Tryz.func129 ?_
  simp -implicitDefEqProofs only [go_sem, simprocAttr]
  refine ax_loopx (fun (k : Nat) s T => ∃ (a b : Int), s 0 = .int .i64 n ∧ s 1 = .int .i64 (d : Nat) ∧ s 4 = .pointer (some ⟨H.length, 0, none⟩) ∧ s 5 = .int .i64 a ∧ s 6 = .int .i64 b ∧ b.natAbs = k ∧ a.natAbs < 4611686018427387904 ∧ k < 4611686018427387904 ∧
    Nat.gcd a.natAbs k = Nat.gcd n.natAbs d ∧ T = H ++ [⟨[.bool false, .string (bs []), .string (bs [])], 1, true⟩]) id d ?_ ?_
  · refine ⟨n, (d : Nat), ?_⟩
    simp -implicitDefEqProofs only [go_sem, simprocAttr]
    exact ⟨by simp, hn, hd⟩
  rintro k s T ⟨a, b, s0, s1, s4, s5, s6, hb, ha, hk, hg, hT⟩
  subst T
  simp -implicitDefEqProofs only [go_sem, simprocAttr, s6]
  refine ax_cond2 ?_
  simp only [ev_tmp, ev_const, ev_func, upd_at, put_some, put_none, bndB_bool, Nat.reduceEqDiff, if_true, if_false, ↓reduceIte, reduceCtorEq]
  refine ⟨fun hc0 => have hc := of_decide_eq_true hc0; ?_, fun hc0 => have hc := of_decide_eq_false hc0; ?_⟩
  · have hkp : 0 < k := by omega
    simp -implicitDefEqProofs only [go_sem, simprocAttr]
    refine ax_quiet (by kernel_rfl) ?_
    simp -implicitDefEqProofs only [go_sem, simprocAttr, s0, s1, s4, s5, s6, hc]
    have hm : (a.tmod b).natAbs = a.natAbs % k := by rw [Int.natAbs_tmod, hb]
    have hml := Nat.mod_lt a.natAbs hkp
    refine ⟨a.natAbs % k, ⟨b, a.tmod b, ?_⟩, hml⟩
    refine ⟨rfl, rfl, hm, by omega, by omega, ?_⟩
    rw [hb, ← hg, Nat.gcd_comm a.natAbs k, Nat.gcd_comm k, ← Nat.gcd_rec]
  · have hk0 : k = 0 := by omega
    subst hk0
    rw [Nat.gcd_zero_right] at hg
    have hma := max_abs (H ++ [⟨[.bool false, .string (bs []), .string (bs [])], 1, true⟩]) a ha
    have hmn := max_abs (H ++ [⟨[.bool false, .string (bs []), .string (bs [])], 1, true⟩]) n hn
    rw [hg] at hma
    rw [mkQ_pos h0]
    generalize Nat.gcd n.natAbs d = G at *
    simp -implicitDefEqProofs only [go_sem, simprocAttr, s0, s1, s4, s5, hma]
    by_cases hn0 : n = 0
    · subst hn0
      have e0 : (digB (0 / (G : Int)).natAbs) = [] := by simp [digB_zero]
      have e1 : denB (d / G) = [] := by rw [hG0 rfl, Nat.div_self h0]; rfl
      rw [e0, e1]
      simp -implicitDefEqProofs only [go_sem, simprocAttr, wa_cond, axC_t, axC_f, s0, s1, s4, res129]
      first | exact .app _ _ | exact ⟨.app _ _, rfl⟩
    have hz : ¬ (G : Int) = 0 := by omega
    have t1 := tdiv_nat n.natAbs G
    have t2 := tdiv_nat d G
    have hq1 : n.natAbs / G < 9223372036854775808 := by have := Nat.div_le_self n.natAbs G; omega
    have hq2 : d / G < 9223372036854775808 := by have := Nat.div_le_self d G; omega
    have q1 : 0 < n.natAbs / G := Nat.div_pos (Nat.le_of_dvd (by omega) hd2) hgp
    have q2 : 0 < d / G := Nat.div_pos hgd hgp
    have wq1 := w64n hq1
    have wq2 := w64n hq2
    have e0 : (n / (G : Int)).natAbs = n.natAbs / G := by
      rw [Int.natAbs_ediv_of_dvd (Int.ofNat_dvd_left.2 hd2)]; rfl
    rw [e0]
    have hdG : d / G = 1 ↔ d = G := by
      constructor
      · intro h
        have := Nat.div_mul_cancel hd1
        rw [h] at this; omega
      · rintro rfl; exact Nat.div_self h0
    simp -implicitDefEqProofs only [go_sem, simprocAttr, wa_cond, axC_t, axC_f, hn0, s0, s1, s4, hmn, hz, t1, wq1]
    refine wl_callV #[.int .i64 (n.natAbs / G : Nat)] (by simp -implicitDefEqProofs only [go_sem, simprocAttr]) (text_sim _ q1 hq1) ?_
    simp -implicitDefEqProofs only [go_sem, simprocAttr, s0, s1, s4]
    by_cases hdg : d = G
    · have hdg2 : (d : Int) = (G : Int) := by omega
      have e1 : denB (d / G) = [] := by unfold denB; rw [if_pos (hdG.2 hdg)]
      rw [e1]
      simp -implicitDefEqProofs only [go_sem, simprocAttr, wa_cond, axC_t, axC_f, hdg2, s4, res129]
      first | exact .app _ _ | exact ⟨.app _ _, rfl⟩
    · have hdg2 : ¬ (d : Int) = (G : Int) := by omega
      have e1 : denB (d / G) = digB (d / G) := by unfold denB; rw [if_neg (fun h => hdg (hdG.1 h))]
      rw [e1]
      simp -implicitDefEqProofs only [go_sem, simprocAttr, wa_cond, axC_t, axC_f, hdg2, s1, hz, t2, wq2]
      refine wl_callV #[.int .i64 (d / G : Nat)] (by simp -implicitDefEqProofs only [go_sem, simprocAttr]) (text_sim _ q2 hq2) ?_
      simp -implicitDefEqProofs only [go_sem, simprocAttr, wa_cond, axC_t, axC_f, s4, res129]
      first | exact .app _ _ | exact ⟨.app _ _, rfl⟩
end Go.Proofs.YthhmkaikopdmjaaGreat
namespace Go.Proofs.YthhmkaikopdmjaaGreat
open Go Go.Fw
theorem number_mk (H : Heap) {x : Int} {d k : Nat} (hx : x.natAbs < 2 ^ k) (hd : d < 2 ^ k) (hk : k ≤ 380000) (h0 : 0 < d) :
    Sim Tryz.prog 97 #[fV (decide (x < 0)) (digB x.natAbs) (decide ((d : Int) < 0)) (digB (d : Int).natAbs)] H (mkQ (mkRat x d)) H :=
  number_sim H (FV.mk (y := (d : Nat)) hx (by rw [Int.natAbs_natCast]; exact hd)) (by omega) h0
theorem ofN_sim (H : Heap) {n : Int} (h1 : -9223372036854775808 ≤ n) (h2 : n < 9223372036854775808) : Sim Tryz.prog 76 #[.int .i64 n] H (mkQ (n : Rat)) H := by
  refine flat_ex rfl ?_
  have o1 := fun H => of_sim H h1 h2
  have o2 := fun H => of_sim H (z := 1) (by decide) (by decide)
  have o3 := fun H => number_mk H (x := n) (d := 1) (k := 64) (by omega) (by decide) (by decide) (by decide)
  rw [mkRat_one, show ((1 : Nat) : Int) = 1 from rfl] at o3
  refine sxA tok mixed Tryz.func76 ?_
  simp -implicitDefEqProofs only [go_sem, simprocAttr, UU]
  refine kw (o1 _) ?_
  refine kw (o2 _) ?_
  refine kw (o3 _) ?_
  simp -implicitDefEqProofs only [go_sem, simprocAttr, UU, res76]
  first | exact .app _ _ | exact ⟨.app _ _, rfl⟩ | exact .refl _ | exact ⟨.refl _, rfl⟩
theorem divInt_pos {n d : Int} (h : 0 < d) : Rat.divInt n d = mkRat n d.natAbs := by
  obtain ⟨m, rfl⟩ : ∃ m : Nat, d = m := ⟨d.natAbs, by omega⟩
  rw [Rat.divInt_ofNat]; rfl
theorem divInt_neg2 {n d : Int} (h : d < 0) : Rat.divInt n d = mkRat (-n) d.natAbs := by
  obtain ⟨m, rfl⟩ : ∃ m : Nat, d = -(m : Int) := ⟨d.natAbs, by omega⟩
  rw [Rat.divInt_neg', Rat.divInt_ofNat]; simp
theorem sgn_cases (z : Int) : (sgn z = 0 ∧ z = 0) ∨ (sgn z = -1 ∧ z < 0) ∨ (sgn z = 1 ∧ 0 < z) := by
  unfold sgn
  by_cases h : z < 0
  · rw [if_pos h]; omega
  · rw [if_neg h]
    by_cases h2 : 0 < z
    · rw [if_pos h2]; omega
    · rw [if_neg h2]; omega
theorem new_sim (H : Heap) {v w : Value} {n d : Int} {k : Nat} (hv : IA v n k) (hw : IA w d k) (hk : k ≤ 370000) :
    Sim Tryz.prog 98 #[v, w] H (if d = 0 then .tuple #[mkQ 0, .int .i64 10] else .tuple #[mkQ (Rat.divInt n d), .int .i64 0]) H := by
  refine flat_ex (by split <;> rfl) ?_
  have hd := hw.sz
  have hn := hv.sz
  have c0 := fun H => cmpI H hw (IA.raw false [] (k := 8) (by decide)) (by omega) (by omega)
  have e0 : ival false [] = 0 := rfl
  rw [e0, Int.sub_zero] at c0
  have n1 := fun H => negI H hv (by omega)
  have n2 := fun H => negI H hw (by omega)
  have m1 := fun (h : d < 0) H => number_sim H (v := fV (decide (-n < 0)) (digB (-n).natAbs) (decide (-d < 0)) (digB (-d).natAbs)) (n := -n) (d := d.natAbs) (k := k + 7)
    ⟨_, _, _, _, rfl, ival_mk (-n), (ival_mk (-d)).trans (by omega), digB_len2 (by omega), digB_len2 (by omega)⟩ (by omega) (by omega)
  obtain ⟨g, m, rfl, h1, h2⟩ := hv
  obtain ⟨g', m', rfl, h3, h4⟩ := hw
  have m0 := fun (h : 0 < d) H => number_sim H (v := fV g m g' m') (n := n) (d := d.natAbs) (k := k) ⟨_, _, _, _, rfl, h1, h3.trans (by omega), h2, h4⟩ (by omega) (by omega)
  have sc := sgn_cases d
  generalize sgn d = sd at *
  unfold iV at c0 n1 n2 ⊢
  rw [mkQ_zero]
  refine sxA tok mixed Tryz.func98 ?_
  simp -implicitDefEqProofs only [go_sem, simprocAttr, UU]
  refine kw (c0 _) ?_
  rcases sc with ⟨s1, s2⟩ | ⟨s1, s2⟩ | ⟨s1, s2⟩
  · simp only [s1, s2, if_true]
    simp -implicitDefEqProofs only [go_sem, simprocAttr, UU, wa_cond, axC_t, axC_f]
    simp -implicitDefEqProofs only [go_sem, simprocAttr, UU, res98]
    first | exact .app _ _ | exact ⟨.app _ _, rfl⟩ | exact .refl _ | exact ⟨.refl _, rfl⟩
  · have hd0 : ¬ d = 0 := by omega
    simp only [s1, hd0, if_false]
    rw [divInt_neg2 s2]
    have m1 := m1 s2
    simp -implicitDefEqProofs only [go_sem, simprocAttr, UU, wa_cond, axC_t, axC_f]
    refine ax_quiet (by kernel_rfl) ?_
    simp -implicitDefEqProofs only [go_sem, simprocAttr, UU]
    refine kw (n1 _) ?_
    refine kw (n2 _) ?_
    refine kw (m1 _) ?_
    simp -implicitDefEqProofs only [go_sem, simprocAttr, UU, res98]
    first | exact .app _ _ | exact ⟨.app _ _, rfl⟩ | exact .refl _ | exact ⟨.refl _, rfl⟩
  · have hd0 : ¬ d = 0 := by omega
    simp only [s1, hd0, if_false]
    rw [divInt_pos s2]
    have m0 := m0 s2
    simp -implicitDefEqProofs only [go_sem, simprocAttr, UU, wa_cond, axC_t, axC_f]
    refine kw (m0 _) ?_
    simp -implicitDefEqProofs only [go_sem, simprocAttr, UU, res98]
    first | exact .app _ _ | exact ⟨.app _ _, rfl⟩ | exact .refl _ | exact ⟨.refl _, rfl⟩
theorem ratioI_sim (H : Heap) {n d : Int} (h1 : -9223372036854775808 ≤ n) (h2 : n < 9223372036854775808) (h3 : -9223372036854775808 ≤ d) (h4 : d < 9223372036854775808) :
    Sim Tryz.prog 45 #[.int .i64 n, .int .i64 d] H (if d = 0 then .tuple #[mkQ 0, .int .i64 10] else .tuple #[mkQ (Rat.divInt n d), .int .i64 0]) H := by
  refine flat_ex (by split <;> rfl) ?_
  have o1 := fun H => of_sim H h1 h2
  have o2 := fun H => of_sim H h3 h4
  have o3 := fun H => new_sim H (IA.mk (z := n) (k := 64) (by omega)) (IA.mk (z := d) (k := 64) (by omega)) (by decide)
  by_cases h0 : d = 0
  · simp only [h0, if_true] at o3 o2 ⊢
    rw [mkQ_zero] at o3 ⊢
    refine sxA tok mixed Tryz.func45 ?_
    simp -implicitDefEqProofs only [go_sem, simprocAttr, UU]
    refine kw (o1 _) ?_
    refine kw (o2 _) ?_
    refine kw (o3 _) ?_
    simp -implicitDefEqProofs only [go_sem, simprocAttr, UU, res45]
    first | exact .app _ _ | exact ⟨.app _ _, rfl⟩ | exact .refl _ | exact ⟨.refl _, rfl⟩
  · simp only [h0, if_false] at o3 ⊢
    refine sxA tok mixed Tryz.func45 ?_
    simp -implicitDefEqProofs only [go_sem, simprocAttr, UU]
    refine kw (o1 _) ?_
    refine kw (o2 _) ?_
    refine kw (o3 _) ?_
    simp -implicitDefEqProofs only [go_sem, simprocAttr, UU, res45]
    first | exact .app _ _ | exact ⟨.app _ _, rfl⟩ | exact .refl _ | exact ⟨.refl _, rfl⟩
theorem neq24 (g g' : Bool) (n d n' d' : List UInt8) : aBin tt .neq 24 (.agg #[.bool g, .string (bs n), .string (bs d)]) (.agg #[.bool g', .string (bs n'), .string (bs d')]) = some (.bool (decide (¬ (g = g' ∧ n = n' ∧ d = d')))) := by
  have e : aBin tt .neq 24 (.agg #[.bool g, .string (bs n), .string (bs d)]) (.agg #[.bool g', .string (bs n'), .string (bs d')]) = some (.bool (!((g == g') && ((bs n == bs n') && ((bs d == bs d') && true))))) := rfl
  rw [e]
  congr 2
  by_cases h1 : g = g' <;> by_cases h2 : n = n' <;> by_cases h3 : d = d' <;> simp [h1, h2, h3, bs_beq]
theorem rcheck_sim (H : Heap) {g : Bool} {n d : List UInt8} (hn : n.length ≤ 40000) (hd : d.length ≤ 40000) : Sim Tryz.prog 73 #[qV g n d] H (.int .i64 (if isCan g n d = true then 0 else 1)) H := by
  refine flat_ex rfl ?_
  have o1 := fun H => of_rat H (g := g) (n := n) (d := d) (by omega)
  have o2 := fun H => number_sim H (ofV_FV g n d (k := 320000) (by omega) (by omega) (by decide)) (by decide) (dval_pos d)
  have e : mkRat (ival g n) (dval d) = qval g n d := rfl
  rw [e] at o2
  have hq := neq24 g (decide ((qval g n d).num < 0)) n d (digB (qval g n d).num.natAbs) (denB (qval g n d).den)
  have e2 : decide (¬ (g = decide ((qval g n d).num < 0) ∧ n = digB (qval g n d).num.natAbs ∧ d = denB (qval g n d).den)) = !(isCan g n d) := by
    unfold isCan; simp only [decide_not]
  rw [e2] at hq
  unfold qV
  cases h0 : isCan g n d
  · rw [h0] at hq
    generalize qval g n d = q at *
    unfold qV at o1
    refine sxA tok mixed Tryz.func73 ?_
    simp -implicitDefEqProofs only [go_sem, simprocAttr, UU]
    refine ax_quiet (by kernel_rfl) ?_
    simp -implicitDefEqProofs only [go_sem, simprocAttr, UU]
    refine kw (o1 _) ?_
    refine kv (o2 _) ?_
    simp -implicitDefEqProofs only [go_sem, simprocAttr, UU, hq]
    simp -implicitDefEqProofs only [go_sem, simprocAttr, UU, wa_cond, axC_t, axC_f]
    simp -implicitDefEqProofs only [go_sem, simprocAttr, UU, res73]
    first | exact .app _ _ | exact ⟨.app _ _, rfl⟩ | exact .refl _ | exact ⟨.refl _, rfl⟩
  · rw [h0] at hq
    generalize qval g n d = q at *
    unfold qV at o1
    refine sxA tok mixed Tryz.func73 ?_
    simp -implicitDefEqProofs only [go_sem, simprocAttr, UU]
    refine ax_quiet (by kernel_rfl) ?_
    simp -implicitDefEqProofs only [go_sem, simprocAttr, UU]
    refine kw (o1 _) ?_
    refine kv (o2 _) ?_
    simp -implicitDefEqProofs only [go_sem, simprocAttr, UU, hq]
    simp -implicitDefEqProofs only [go_sem, simprocAttr, UU, wa_cond, axC_t, axC_f]
    simp -implicitDefEqProofs only [go_sem, simprocAttr, UU, res73]
    first | exact .app _ _ | exact ⟨.app _ _, rfl⟩ | exact .refl _ | exact ⟨.refl _, rfl⟩
end Go.Proofs.YthhmkaikopdmjaaGreat
namespace Go.Proofs.YthhmkaikopdmjaaGreat
open Go Go.Fw
theorem qval_not (g : Bool) (n d : List UInt8) : qval (!g) n d = -qval g n d := by
  unfold qval; rw [ival_not, Rat.neg_mkRat]
theorem normal_sim (H : Heap) {g : Bool} {n d : List UInt8} (hn : n.length ≤ 40000) (hd : d.length ≤ 40000) : Sim Tryz.prog 97 #[ofV g n d] H (mkQ (qval g n d)) H :=
  number_sim H (ofV_FV g n d (k := 320000) (by omega) (by omega) (by decide)) (by decide) (dval_pos d)
theorem negQ (H : Heap) {v : Value} {q : Rat} {k : Nat} (hv : QV v q k) (hk : k ≤ 320000) : Sim Tryz.prog 44 #[v] H (mkQ (-q)) H := by
  refine flat_ex rfl ?_
  obtain ⟨g, n, d, rfl, rfl, h1, h2⟩ := hv
  have o1 := fun H => of_rat H (g := !g) (n := n) (d := d) (by omega)
  have o2 := fun H => normal_sim H (g := !g) (n := n) (d := d) (by omega) (by omega)
  rw [qval_not] at o2
  unfold qV at o1 ⊢
  refine sxA tok mixed Tryz.func44 ?_
  simp -implicitDefEqProofs only [go_sem, simprocAttr, UU]
  refine kw (o1 _) ?_
  refine kw (o2 _) ?_
  simp -implicitDefEqProofs only [go_sem, simprocAttr, UU, res44]
  first | exact .app _ _ | exact ⟨.app _ _, rfl⟩ | exact .refl _ | exact ⟨.refl _, rfl⟩
theorem bothQ (H : Heap) {fs fa : FuncId} {g g' : Bool} {n d n' d' : List UInt8} {q : Rat}
    (hs : n.length ≤ 3 → d.length ≤ 3 → n'.length ≤ 3 → d'.length ≤ 3 → ∀ H, Sim Tryz.prog fs #[.int .i64 (ival g n), .int .i64 (dval d : Nat), .int .i64 (ival g' n'), .int .i64 (dval d' : Nat)] H (mkQ q) H)
    (ha : ∀ H, Sim Tryz.prog fa #[ofV g n d, ofV g' n' d'] H (mkQ q) H) (h1 : d.length ≤ 60000) (h2 : d'.length ≤ 60000) :
    Sim Tryz.prog 127 #[qV g n d, qV g' n' d', .func (.func fs) #[] #[], .func (.func fa) #[] #[]] H (mkQ q) H := by
  refine flat_ex rfl ?_
  have b1 := fun h H => machine_big H (g := g) (n := n) (d := d) h
  have b2 := fun h h' H => machine_small H (g := g) (n := n) (d := d) h h'
  have b1' := fun h H => machine_big H (g := g') (n := n') (d := d') h
  have b2' := fun h h' H => machine_small H (g := g') (n := n') (d := d') h h'
  have o1 := fun H => of_rat H (g := g) (n := n) (d := d) h1
  have o2 := fun H => of_rat H (g := g') (n := n') (d := d') h2
  unfold qV at b1 b2 b1' b2' o1 o2 ⊢
  by_cases s1 : n.length ≤ 3 ∧ d.length ≤ 3
  · have b2 := b2 s1.1 s1.2
    by_cases s2 : n'.length ≤ 3 ∧ d'.length ≤ 3
    · have b2' := b2' s2.1 s2.2
      have hs := hs s1.1 s1.2 s2.1 s2.2
      refine sxA tok mixed Tryz.func127 ?_
      simp -implicitDefEqProofs only [go_sem, simprocAttr, UU]
      refine kw (b2 _) ?_
      refine kw (b2' _) ?_
      simp -implicitDefEqProofs only [go_sem, simprocAttr, UU, wa_cond, axC_t, axC_f]
      refine wl_callO _ (by simp -implicitDefEqProofs only [go_sem, simprocAttr, UU]) _ (by simp -implicitDefEqProofs only [go_sem, simprocAttr, UU]) (hs _) ?_
      simp -implicitDefEqProofs only [go_sem, simprocAttr, UU]
      simp -implicitDefEqProofs only [go_sem, simprocAttr, UU, res127]
      first | exact .app _ _ | exact ⟨.app _ _, rfl⟩ | exact .refl _ | exact ⟨.refl _, rfl⟩
    · have b1' := b1' (by omega)
      refine sxA tok mixed Tryz.func127 ?_
      simp -implicitDefEqProofs only [go_sem, simprocAttr, UU]
      refine kw (b2 _) ?_
      refine kw (b1' _) ?_
      simp -implicitDefEqProofs only [go_sem, simprocAttr, UU, wa_cond, axC_t, axC_f]
      refine ax_quiet (by kernel_rfl) ?_
      simp -implicitDefEqProofs only [go_sem, simprocAttr, UU]
      refine kw (o1 _) ?_
      refine kw (o2 _) ?_
      refine wl_callO _ (by simp -implicitDefEqProofs only [go_sem, simprocAttr, UU]) _ (by simp -implicitDefEqProofs only [go_sem, simprocAttr, UU]) (ha _) ?_
      simp -implicitDefEqProofs only [go_sem, simprocAttr, UU]
      simp -implicitDefEqProofs only [go_sem, simprocAttr, UU, res127]
      first | exact .app _ _ | exact ⟨.app _ _, rfl⟩ | exact .refl _ | exact ⟨.refl _, rfl⟩
  · have b1 := b1 (by omega)
    obtain ⟨x, y, b, hb⟩ : ∃ (x y : Int) (b : Bool), ∀ H, Sim Tryz.prog 194 #[.agg #[.bool g', .string (bs n'), .string (bs d')]] H (.tuple #[.int .i64 x, .int .i64 y, .bool b]) H := by
      by_cases s2 : n'.length ≤ 3 ∧ d'.length ≤ 3
      · exact ⟨_, _, _, b2' s2.1 s2.2⟩
      · exact ⟨_, _, _, b1' (by omega)⟩
    refine sxA tok mixed Tryz.func127 ?_
    simp -implicitDefEqProofs only [go_sem, simprocAttr, UU]
    refine kw (b1 _) ?_
    refine kw (hb _) ?_
    simp -implicitDefEqProofs only [go_sem, simprocAttr, UU, wa_cond, axC_t, axC_f]
    refine ax_quiet (by kernel_rfl) ?_
    simp -implicitDefEqProofs only [go_sem, simprocAttr, UU]
    refine kw (o1 _) ?_
    refine kw (o2 _) ?_
    refine wl_callO _ (by simp -implicitDefEqProofs only [go_sem, simprocAttr, UU]) _ (by simp -implicitDefEqProofs only [go_sem, simprocAttr, UU]) (ha _) ?_
    simp -implicitDefEqProofs only [go_sem, simprocAttr, UU]
    simp -implicitDefEqProofs only [go_sem, simprocAttr, UU, res127]
    first | exact .app _ _ | exact ⟨.app _ _, rfl⟩ | exact .refl _ | exact ⟨.refl _, rfl⟩
end Go.Proofs.YthhmkaikopdmjaaGreat
namespace Go.Proofs.YthhmkaikopdmjaaGreat
open Go Go.Fw
theorem ival3 (g : Bool) {n : List UInt8} (h : n.length ≤ 3) : (ival g n).natAbs ≤ 16777216 := by
  rw [ival_abs]
  have := valB_lt2 n (k := 24) (by omega)
  omega
theorem dval3 {n : List UInt8} (h : n.length ≤ 3) : dval n ≤ 16777216 := by
  have := valB_lt2 n (k := 24) (by omega)
  unfold dval
  split <;> omega
theorem prod3 {x y : Int} (hx : x.natAbs ≤ 16777216) (hy : y.natAbs ≤ 16777216) : (x * y).natAbs ≤ 281474976710656 := by
  rw [Int.natAbs_mul]
  exact Nat.mul_le_mul hx hy
theorem mkRat_add' (n m : Int) {d e : Nat} (hd : 0 < d) (he : 0 < e) : mkRat n d + mkRat m e = mkRat (n * (e : Int) + m * (d : Int)) (d * e) := Rat.mkRat_add_mkRat _ _ (by omega) (by omega)
theorem add1 (H : Heap) {n m : Int} {d e : Nat} (hn : n.natAbs ≤ 16777216) (hm : m.natAbs ≤ 16777216) (hd : d ≤ 16777216) (he : e ≤ 16777216) (d0 : 0 < d) (e0 : 0 < e) :
    Sim Tryz.prog 191 #[.int .i64 n, .int .i64 (d : Nat), .int .i64 m, .int .i64 (e : Nat)] H (mkQ (mkRat n d + mkRat m e)) H := by
  refine flat_ex rfl ?_
  rw [mkRat_add' n m d0 e0]
  have p1 := prod3 (x := n) (y := (e : Int)) hn (by omega)
  have p2 := prod3 (x := m) (y := (d : Int)) hm (by omega)
  have p3 : d * e ≤ 16777216 * 16777216 := Nat.mul_le_mul hd he
  have w1 : IntKind.i64.wrap (n * (e : Int)) = n * (e : Int) := w64 (by omega) (by omega)
  have w2 : IntKind.i64.wrap (m * (d : Int)) = m * (d : Int) := w64 (by omega) (by omega)
  have w3 : IntKind.i64.wrap (n * (e : Int) + m * (d : Int)) = n * (e : Int) + m * (d : Int) := w64 (by omega) (by omega)
  have w4 : IntKind.i64.wrap ((d : Int) * (e : Int)) = ((d * e : Nat) : Int) := by rw [mulc, w64n (by omega)]
  have o1 := fun H => ratio_sim H (n := n * (e : Int) + m * (d : Int)) (d := d * e) (by omega) (by omega) (Nat.mul_pos d0 e0)
  refine sxA tok mixed Tryz.func191 ?_
  simp -implicitDefEqProofs only [go_sem, simprocAttr, UU, w1, w2, w3, w4]
  refine kw (o1 _) ?_
  simp -implicitDefEqProofs only [go_sem, simprocAttr, UU, res191]
  first | exact .app _ _ | exact ⟨.app _ _, rfl⟩ | exact .refl _ | exact ⟨.refl _, rfl⟩
theorem mul1 (H : Heap) {n m : Int} {d e : Nat} (hn : n.natAbs ≤ 16777216) (hm : m.natAbs ≤ 16777216) (hd : d ≤ 16777216) (he : e ≤ 16777216) (d0 : 0 < d) (e0 : 0 < e) :
    Sim Tryz.prog 128 #[.int .i64 n, .int .i64 (d : Nat), .int .i64 m, .int .i64 (e : Nat)] H (mkQ (mkRat n d * mkRat m e)) H := by
  refine flat_ex rfl ?_
  rw [Rat.mkRat_mul_mkRat]
  have p1 := prod3 (x := n) (y := m) hn hm
  have p3 : d * e ≤ 16777216 * 16777216 := Nat.mul_le_mul hd he
  have w1 : IntKind.i64.wrap (n * m) = n * m := w64 (by omega) (by omega)
  have w4 : IntKind.i64.wrap ((d : Int) * (e : Int)) = ((d * e : Nat) : Int) := by rw [mulc, w64n (by omega)]
  have o1 := fun H => ratio_sim H (n := n * m) (d := d * e) (by omega) (by omega) (Nat.mul_pos d0 e0)
  refine sxA tok mixed Tryz.func128 ?_
  simp -implicitDefEqProofs only [go_sem, simprocAttr, UU, w1, w4]
  refine kw (o1 _) ?_
  simp -implicitDefEqProofs only [go_sem, simprocAttr, UU, res128]
  first | exact .app _ _ | exact ⟨.app _ _, rfl⟩ | exact .refl _ | exact ⟨.refl _, rfl⟩
theorem cmpQ_eq {n m : Int} {d e : Nat} (hd : 0 < d) (he : 0 < e) : cmpQ (mkRat n d) (mkRat m e) = sgn (n * (e : Int) - m * (d : Int)) := mkRat_cmp hd he
theorem cmp1 (H : Heap) {n m : Int} {d e : Nat} (hn : n.natAbs ≤ 16777216) (hm : m.natAbs ≤ 16777216) (hd : d ≤ 16777216) (he : e ≤ 16777216) (d0 : 0 < d) (e0 : 0 < e) :
    Sim Tryz.prog 233 #[.int .i64 n, .int .i64 (d : Nat), .int .i64 m, .int .i64 (e : Nat)] H (.int .i64 (cmpQ (mkRat n d) (mkRat m e))) H := by
  refine flat_ex rfl ?_
  rw [cmpQ_eq d0 e0]
  have p1 := prod3 (x := n) (y := (e : Int)) hn (by omega)
  have p2 := prod3 (x := m) (y := (d : Int)) hm (by omega)
  obtain ⟨x, hx⟩ : ∃ x : Int, n * (e : Int) = x := ⟨_, rfl⟩
  obtain ⟨y, hy⟩ : ∃ x : Int, m * (d : Int) = x := ⟨_, rfl⟩
  have w1 : IntKind.i64.wrap (n * (e : Int)) = x := by rw [hx] at p1 ⊢; exact w64 (by omega) (by omega)
  have w2 : IntKind.i64.wrap (m * (d : Int)) = y := by rw [hy] at p2 ⊢; exact w64 (by omega) (by omega)
  rw [hx, hy]
  by_cases h1 : x < y
  · have e1 : sgn (x - y) = -1 := sgn_neg (by omega)
    rw [e1]
    refine sxA tok mixed Tryz.func233 ?_
    simp -implicitDefEqProofs only [go_sem, simprocAttr, UU, w1, w2, h1, wa_cond, axC_t, axC_f]
    simp -implicitDefEqProofs only [go_sem, simprocAttr, UU, res233]
    first | exact .app _ _ | exact ⟨.app _ _, rfl⟩ | exact .refl _ | exact ⟨.refl _, rfl⟩
  · by_cases h2 : y < x
    · have e1 : sgn (x - y) = 1 := sgn_pos (by omega)
      rw [e1]
      refine sxA tok mixed Tryz.func233 ?_
      simp -implicitDefEqProofs only [go_sem, simprocAttr, UU, w1, w2, h1, h2, wa_cond, axC_t, axC_f]
      simp -implicitDefEqProofs only [go_sem, simprocAttr, UU, res233]
      first | exact .app _ _ | exact ⟨.app _ _, rfl⟩ | exact .refl _ | exact ⟨.refl _, rfl⟩
    · have e1 : sgn (x - y) = 0 := sgn_zero.2 (by omega)
      rw [e1]
      refine sxA tok mixed Tryz.func233 ?_
      simp -implicitDefEqProofs only [go_sem, simprocAttr, UU, w1, w2, h1, h2, wa_cond, axC_t, axC_f]
      simp -implicitDefEqProofs only [go_sem, simprocAttr, UU, res233]
      first | exact .app _ _ | exact ⟨.app _ _, rfl⟩ | exact .refl _ | exact ⟨.refl _, rfl⟩
theorem ofV_parts (g : Bool) (n d : List UInt8) {k : Nat} (h : 8 * n.length ≤ k) (h' : 8 * d.length ≤ k) (hk : 8 ≤ k) : ∃ dd, ofV g n d = .agg #[.bool g, .string (bs n), .bool false, .string (bs dd)] ∧ IA (.agg #[.bool g, .string (bs n)]) (ival g n) k ∧ IA (.agg #[.bool false, .string (bs dd)]) (dval d : Nat) k := by
  obtain ⟨x1, x2, x3, x4, e1, e2, e3, e4, e5⟩ := ofV_FV g n d h h' hk
  refine ⟨if valB d = 0 then digB 1 else d, rfl, ⟨_, _, rfl, rfl, h⟩, false, _, rfl, ?_, ?_⟩
  · unfold ival dval
    by_cases h0 : valB d = 0
    · simp only [h0, if_true]; rw [valB_dig]; rfl
    · simp only [h0, if_false]; rfl
  · by_cases h0 : valB d = 0
    · simp only [h0, if_true]
      have := digB_len2 (n := 1) (k := 1) (by decide)
      omega
    · simp only [h0, if_false]; exact h'
theorem absmul {x y : Int} {j k : Nat} (hx : x.natAbs < 2 ^ j) (hy : y.natAbs < 2 ^ k) : (x * y).natAbs < 2 ^ (j + k) := by
  rw [Int.natAbs_mul]; exact lt_mul_pow hx hy
theorem lt_pow_to {n k j : Nat} (h : n < 2 ^ k) (hk : k ≤ j) : n < 2 ^ j := Nat.lt_of_lt_of_le h (Nat.pow_le_pow_right (by decide) hk)
theorem absadd {x y : Int} {k : Nat} (hx : x.natAbs < 2 ^ k) (hy : y.natAbs < 2 ^ k) : (x + y).natAbs < 2 ^ (k + 1) := by
  rw [Nat.pow_succ]; omega
theorem add2 (H : Heap) {g g' : Bool} {n d n' d' : List UInt8} (h1 : 8 * n.length ≤ 150000) (h2 : 8 * d.length ≤ 150000) (h3 : 8 * n'.length ≤ 150000) (h4 : 8 * d'.length ≤ 150000) :
    Sim Tryz.prog 192 #[ofV g n d, ofV g' n' d'] H (mkQ (qval g n d + qval g' n' d')) H := by
  refine flat_ex rfl ?_
  obtain ⟨dd, e1, a1, a2⟩ := ofV_parts g n d h1 h2 (by decide)
  obtain ⟨dd', e2, a3, a4⟩ := ofV_parts g' n' d' h3 h4 (by decide)
  have d0 := dval_pos d
  have d0' := dval_pos d'
  have o1 := fun H => mulI H a1 a4 (by decide) (by decide)
  have o2 := fun H => mulI H a3 a2 (by decide) (by decide)
  have o3 := fun H => mulI H a2 a4 (by decide) (by decide)
  have z1 := absmul a1.sz a4.sz
  have z2 := absmul a3.sz a2.sz
  have z3 := absmul a2.sz a4.sz
  have o4 := fun H => addI H (IA.mk z1) (IA.mk z2) (by decide) (by decide)
  have z4 := absadd z1 z2
  have hmul : ((dval d : Nat) : Int) * ((dval d' : Nat) : Int) = ((dval d * dval d' : Nat) : Int) := by simp
  have z5 := z3
  rw [hmul, Int.natAbs_natCast] at z5
  have z5 := lt_pow_to (j := 150000 + 150000 + 1) z5 (by decide)
  have o5 := fun H => number_mk H z4 z5 (by decide) (Nat.mul_pos d0 d0')
  have q1 : qval g n d + qval g' n' d' = mkRat (ival g n * (dval d' : Nat) + ival g' n' * (dval d : Nat)) (dval d * dval d') := mkRat_add' _ _ d0 d0'
  rw [hmul] at o3
  rw [e1, e2, q1]
  clear z1 z2 z3 z4 z5 q1 e1 e2
  generalize ival g n * (dval d' : Nat) = x at *
  generalize ival g' n' * (dval d : Nat) = y at *
  generalize dval d * dval d' = w at *
  refine sxA tok mixed Tryz.func192 ?_
  simp -implicitDefEqProofs only [go_sem, simprocAttr, UU]
  refine ax_quiet (by kernel_rfl) ?_
  simp -implicitDefEqProofs only [go_sem, simprocAttr, UU]
  refine kw (o1 _) ?_
  refine kw (o2 _) ?_
  refine kw (o4 _) ?_
  refine kw (o3 _) ?_
  refine kw (o5 _) ?_
  simp -implicitDefEqProofs only [go_sem, simprocAttr, UU, res192]
  first | exact .app _ _ | exact ⟨.app _ _, rfl⟩ | exact .refl _ | exact ⟨.refl _, rfl⟩
end Go.Proofs.YthhmkaikopdmjaaGreat
namespace Go.Proofs.YthhmkaikopdmjaaGreat
open Go Go.Fw
theorem mul2 (H : Heap) {g g' : Bool} {n d n' d' : List UInt8} (h1 : 8 * n.length ≤ 150000) (h2 : 8 * d.length ≤ 150000) (h3 : 8 * n'.length ≤ 150000) (h4 : 8 * d'.length ≤ 150000) :
    Sim Tryz.prog 130 #[ofV g n d, ofV g' n' d'] H (mkQ (qval g n d * qval g' n' d')) H := by
  refine flat_ex rfl ?_
  obtain ⟨dd, e1, a1, a2⟩ := ofV_parts g n d h1 h2 (by decide)
  obtain ⟨dd', e2, a3, a4⟩ := ofV_parts g' n' d' h3 h4 (by decide)
  have d0 := dval_pos d
  have d0' := dval_pos d'
  have o1 := fun H => mulI H a1 a3 (by decide) (by decide)
  have o3 := fun H => mulI H a2 a4 (by decide) (by decide)
  have z1 := absmul a1.sz a3.sz
  have z3 := absmul a2.sz a4.sz
  have hmul : ((dval d : Nat) : Int) * ((dval d' : Nat) : Int) = ((dval d * dval d' : Nat) : Int) := by simp
  rw [hmul, Int.natAbs_natCast] at z3
  have o5 := fun H => number_mk H z1 z3 (by decide) (Nat.mul_pos d0 d0')
  have q1 : qval g n d * qval g' n' d' = mkRat (ival g n * ival g' n') (dval d * dval d') := Rat.mkRat_mul_mkRat _ _ _ _
  rw [hmul] at o3
  rw [e1, e2, q1]
  clear z1 z3 q1 e1 e2
  generalize ival g n * ival g' n' = x at *
  generalize dval d * dval d' = w at *
  refine sxA tok mixed Tryz.func130 ?_
  simp -implicitDefEqProofs only [go_sem, simprocAttr, UU]
  refine ax_quiet (by kernel_rfl) ?_
  simp -implicitDefEqProofs only [go_sem, simprocAttr, UU]
  refine kw (o1 _) ?_
  refine kw (o3 _) ?_
  refine kw (o5 _) ?_
  simp -implicitDefEqProofs only [go_sem, simprocAttr, UU, res130]
  first | exact .app _ _ | exact ⟨.app _ _, rfl⟩ | exact .refl _ | exact ⟨.refl _, rfl⟩
theorem cmp2 (H : Heap) {g g' : Bool} {n d n' d' : List UInt8} (h1 : 8 * n.length ≤ 150000) (h2 : 8 * d.length ≤ 150000) (h3 : 8 * n'.length ≤ 150000) (h4 : 8 * d'.length ≤ 150000) :
    Sim Tryz.prog 234 #[ofV g n d, ofV g' n' d'] H (.int .i64 (cmpQ (qval g n d) (qval g' n' d'))) H := by
  refine flat_ex rfl ?_
  obtain ⟨dd, e1, a1, a2⟩ := ofV_parts g n d h1 h2 (by decide)
  obtain ⟨dd', e2, a3, a4⟩ := ofV_parts g' n' d' h3 h4 (by decide)
  have d0 := dval_pos d
  have d0' := dval_pos d'
  have o1 := fun H => mulI H a1 a4 (by decide) (by decide)
  have o2 := fun H => mulI H a3 a2 (by decide) (by decide)
  have z1 := absmul a1.sz a4.sz
  have z2 := absmul a3.sz a2.sz
  have o4 := fun H => cmpI H (IA.mk z1) (IA.mk z2) (by decide) (by decide)
  have q1 : cmpQ (qval g n d) (qval g' n' d') = sgn (ival g n * (dval d' : Nat) - ival g' n' * (dval d : Nat)) := cmpQ_eq d0 d0'
  rw [e1, e2, q1]
  clear z1 z2 q1 e1 e2
  generalize sgn (ival g n * (dval d' : Nat) - ival g' n' * (dval d : Nat)) = c at *
  generalize ival g n * (dval d' : Nat) = x at *
  generalize ival g' n' * (dval d : Nat) = y at *
  refine sxA tok mixed Tryz.func234 ?_
  simp -implicitDefEqProofs only [go_sem, simprocAttr, UU]
  refine ax_quiet (by kernel_rfl) ?_
  simp -implicitDefEqProofs only [go_sem, simprocAttr, UU]
  refine kw (o1 _) ?_
  refine kw (o2 _) ?_
  refine kw (o4 _) ?_
  simp -implicitDefEqProofs only [go_sem, simprocAttr, UU, res234]
  first | exact .app _ _ | exact ⟨.app _ _, rfl⟩ | exact .refl _ | exact ⟨.refl _, rfl⟩
theorem bothC (H : Heap) {fs fa : FuncId} {g g' : Bool} {n d n' d' : List UInt8} {q : Int}
    (hs : n.length ≤ 3 → d.length ≤ 3 → n'.length ≤ 3 → d'.length ≤ 3 → ∀ H, Sim Tryz.prog fs #[.int .i64 (ival g n), .int .i64 (dval d : Nat), .int .i64 (ival g' n'), .int .i64 (dval d' : Nat)] H (.int .i64 q) H)
    (ha : ∀ H, Sim Tryz.prog fa #[ofV g n d, ofV g' n' d'] H (.int .i64 q) H) (h1 : d.length ≤ 60000) (h2 : d'.length ≤ 60000) :
    Sim Tryz.prog 232 #[qV g n d, qV g' n' d', .func (.func fs) #[] #[], .func (.func fa) #[] #[]] H (.int .i64 q) H := by
  refine flat_ex rfl ?_
  have b1 := fun h H => machine_big H (g := g) (n := n) (d := d) h
  have b2 := fun h h' H => machine_small H (g := g) (n := n) (d := d) h h'
  have b1' := fun h H => machine_big H (g := g') (n := n') (d := d') h
  have b2' := fun h h' H => machine_small H (g := g') (n := n') (d := d') h h'
  have o1 := fun H => of_rat H (g := g) (n := n) (d := d) h1
  have o2 := fun H => of_rat H (g := g') (n := n') (d := d') h2
  unfold qV at b1 b2 b1' b2' o1 o2 ⊢
  by_cases s1 : n.length ≤ 3 ∧ d.length ≤ 3
  · have b2 := b2 s1.1 s1.2
    by_cases s2 : n'.length ≤ 3 ∧ d'.length ≤ 3
    · have b2' := b2' s2.1 s2.2
      have hs := hs s1.1 s1.2 s2.1 s2.2
      refine sxA tok mixed Tryz.func232 ?_
      simp -implicitDefEqProofs only [go_sem, simprocAttr, UU]
      refine kw (b2 _) ?_
      refine kw (b2' _) ?_
      simp -implicitDefEqProofs only [go_sem, simprocAttr, UU, wa_cond, axC_t, axC_f]
      refine wl_callO _ (by simp -implicitDefEqProofs only [go_sem, simprocAttr, UU]) _ (by simp -implicitDefEqProofs only [go_sem, simprocAttr, UU]) (hs _) ?_
      simp -implicitDefEqProofs only [go_sem, simprocAttr, UU]
      simp -implicitDefEqProofs only [go_sem, simprocAttr, UU, res232]
      first | exact .app _ _ | exact ⟨.app _ _, rfl⟩ | exact .refl _ | exact ⟨.refl _, rfl⟩
    · have b1' := b1' (by omega)
      refine sxA tok mixed Tryz.func232 ?_
      simp -implicitDefEqProofs only [go_sem, simprocAttr, UU]
      refine kw (b2 _) ?_
      refine kw (b1' _) ?_
      simp -implicitDefEqProofs only [go_sem, simprocAttr, UU, wa_cond, axC_t, axC_f]
      refine ax_quiet (by kernel_rfl) ?_
      simp -implicitDefEqProofs only [go_sem, simprocAttr, UU]
      refine kw (o1 _) ?_
      refine kw (o2 _) ?_
      refine wl_callO _ (by simp -implicitDefEqProofs only [go_sem, simprocAttr, UU]) _ (by simp -implicitDefEqProofs only [go_sem, simprocAttr, UU]) (ha _) ?_
      simp -implicitDefEqProofs only [go_sem, simprocAttr, UU]
      simp -implicitDefEqProofs only [go_sem, simprocAttr, UU, res232]
      first | exact .app _ _ | exact ⟨.app _ _, rfl⟩ | exact .refl _ | exact ⟨.refl _, rfl⟩
  · have b1 := b1 (by omega)
    obtain ⟨x, y, b, hb⟩ : ∃ (x y : Int) (b : Bool), ∀ H, Sim Tryz.prog 194 #[.agg #[.bool g', .string (bs n'), .string (bs d')]] H (.tuple #[.int .i64 x, .int .i64 y, .bool b]) H := by
      by_cases s2 : n'.length ≤ 3 ∧ d'.length ≤ 3
      · exact ⟨_, _, _, b2' s2.1 s2.2⟩
      · exact ⟨_, _, _, b1' (by omega)⟩
    refine sxA tok mixed Tryz.func232 ?_
    simp -implicitDefEqProofs only [go_sem, simprocAttr, UU]
    refine kw (b1 _) ?_
    refine kw (hb _) ?_
    simp -implicitDefEqProofs only [go_sem, simprocAttr, UU, wa_cond, axC_t, axC_f]
    refine ax_quiet (by kernel_rfl) ?_
    simp -implicitDefEqProofs only [go_sem, simprocAttr, UU]
    refine kw (o1 _) ?_
    refine kw (o2 _) ?_
    refine wl_callO _ (by simp -implicitDefEqProofs only [go_sem, simprocAttr, UU]) _ (by simp -implicitDefEqProofs only [go_sem, simprocAttr, UU]) (ha _) ?_
    simp -implicitDefEqProofs only [go_sem, simprocAttr, UU]
    simp -implicitDefEqProofs only [go_sem, simprocAttr, UU, res232]
    first | exact .app _ _ | exact ⟨.app _ _, rfl⟩ | exact .refl _ | exact ⟨.refl _, rfl⟩
theorem addQ (H : Heap) {v w : Value} {a b : Rat} {k k' : Nat} (hv : QV v a k) (hw : QV w b k') (hk : k ≤ 150000) (hk' : k' ≤ 150000) : Sim Tryz.prog 126 #[v, w] H (mkQ (a + b)) H := by
  refine flat_ex rfl ?_
  obtain ⟨g, n, d, rfl, rfl, h1, h2⟩ := hv
  obtain ⟨g', n', d', rfl, rfl, h3, h4⟩ := hw
  have o1 := fun H => bothQ H (g := g) (g' := g') (n := n) (d := d) (n' := n') (d' := d') (q := qval g n d + qval g' n' d') (fs := 191) (fa := 192)
    (fun x1 x2 x3 x4 H => add1 H (ival3 g x1) (ival3 g' x3) (dval3 x2) (dval3 x4) (dval_pos d) (dval_pos d')) (fun H => add2 H (by omega) (by omega) (by omega) (by omega)) (by omega) (by omega)
  generalize qval g n d + qval g' n' d' = q at *
  unfold qV at o1 ⊢
  refine sxA tok mixed Tryz.func126 ?_
  simp -implicitDefEqProofs only [go_sem, simprocAttr, UU]
  refine kw (o1 _) ?_
  simp -implicitDefEqProofs only [go_sem, simprocAttr, UU, res126]
  first | exact .app _ _ | exact ⟨.app _ _, rfl⟩ | exact .refl _ | exact ⟨.refl _, rfl⟩
theorem mulQ (H : Heap) {v w : Value} {a b : Rat} {k k' : Nat} (hv : QV v a k) (hw : QV w b k') (hk : k ≤ 150000) (hk' : k' ≤ 150000) : Sim Tryz.prog 75 #[v, w] H (mkQ (a * b)) H := by
  refine flat_ex rfl ?_
  obtain ⟨g, n, d, rfl, rfl, h1, h2⟩ := hv
  obtain ⟨g', n', d', rfl, rfl, h3, h4⟩ := hw
  have o1 := fun H => bothQ H (g := g) (g' := g') (n := n) (d := d) (n' := n') (d' := d') (q := qval g n d * qval g' n' d') (fs := 128) (fa := 130)
    (fun x1 x2 x3 x4 H => mul1 H (ival3 g x1) (ival3 g' x3) (dval3 x2) (dval3 x4) (dval_pos d) (dval_pos d')) (fun H => mul2 H (by omega) (by omega) (by omega) (by omega)) (by omega) (by omega)
  generalize qval g n d * qval g' n' d' = q at *
  unfold qV at o1 ⊢
  refine sxA tok mixed Tryz.func75 ?_
  simp -implicitDefEqProofs only [go_sem, simprocAttr, UU]
  refine kw (o1 _) ?_
  simp -implicitDefEqProofs only [go_sem, simprocAttr, UU, res75]
  first | exact .app _ _ | exact ⟨.app _ _, rfl⟩ | exact .refl _ | exact ⟨.refl _, rfl⟩
theorem cmpR (H : Heap) {v w : Value} {a b : Rat} {k k' : Nat} (hv : QV v a k) (hw : QV w b k') (hk : k ≤ 150000) (hk' : k' ≤ 150000) : Sim Tryz.prog 175 #[v, w] H (.int .i64 (cmpQ a b)) H := by
  refine flat_ex rfl ?_
  obtain ⟨g, n, d, rfl, rfl, h1, h2⟩ := hv
  obtain ⟨g', n', d', rfl, rfl, h3, h4⟩ := hw
  have o1 := fun H => bothC H (g := g) (g' := g') (n := n) (d := d) (n' := n') (d' := d') (q := cmpQ (qval g n d) (qval g' n' d')) (fs := 233) (fa := 234)
    (fun x1 x2 x3 x4 H => cmp1 H (ival3 g x1) (ival3 g' x3) (dval3 x2) (dval3 x4) (dval_pos d) (dval_pos d')) (fun H => cmp2 H (by omega) (by omega) (by omega) (by omega)) (by omega) (by omega)
  generalize cmpQ (qval g n d) (qval g' n' d') = q at *
  unfold qV at o1 ⊢
  refine sxA tok mixed Tryz.func175 ?_
  simp -implicitDefEqProofs only [go_sem, simprocAttr, UU]
  refine kw (o1 _) ?_
  simp -implicitDefEqProofs only [go_sem, simprocAttr, UU, res175]
  first | exact .app _ _ | exact ⟨.app _ _, rfl⟩ | exact .refl _ | exact ⟨.refl _, rfl⟩
theorem subQ (H : Heap) {v w : Value} {a b : Rat} {k k' : Nat} (hv : QV v a k) (hw : QV w b k') (hk : k ≤ 150000) (hk' : k' ≤ 150000) : Sim Tryz.prog 95 #[v, w] H (mkQ (a - b)) H := by
  refine flat_ex rfl ?_
  obtain ⟨g', n', d', rfl, rfl, h3, h4⟩ := hw
  have o1 := fun H => addQ H hv (QV.raw (!g') n' d' h3 h4) hk hk'
  rw [qval_not, ← Rat.sub_eq_add_neg] at o1
  obtain ⟨g, n, d, rfl, rfl, h1, h2⟩ := hv
  generalize qval g n d - qval g' n' d' = q at *
  unfold qV at o1 ⊢
  refine sxA tok mixed Tryz.func95 ?_
  simp -implicitDefEqProofs only [go_sem, simprocAttr, UU]
  refine kw (o1 _) ?_
  simp -implicitDefEqProofs only [go_sem, simprocAttr, UU, res95]
  first | exact .app _ _ | exact ⟨.app _ _, rfl⟩ | exact .refl _ | exact ⟨.refl _, rfl⟩
theorem quo_law (n m : Int) {d e : Nat} (hd : 0 < d) (he : 0 < e) (hm : m ≠ 0) : mkRat n d / mkRat m e = Rat.divInt (n * (e : Int)) ((d : Int) * m) := by
  have hd' : (0 : Int) < d := by omega
  rcases Int.lt_or_gt_of_ne hm with h | h
  · rw [quo_neg hd he h, divInt_neg2 (Int.mul_neg_of_pos_of_neg hd' h), Int.natAbs_mul, Int.natAbs_natCast]
  · rw [quo_pos hd he h, divInt_pos (Int.mul_pos hd' h), Int.natAbs_mul, Int.natAbs_natCast]
theorem quoQ (H : Heap) {v w : Value} {a b : Rat} {k k' : Nat} (hv : QV v a k) (hw : QV w b k') (hk : k ≤ 150000) (hk' : k' ≤ 150000) :
    Sim Tryz.prog 151 #[v, w] H (if b = 0 then .tuple #[mkQ 0, .int .i64 10] else .tuple #[mkQ (a / b), .int .i64 0]) H := by
  refine flat_ex (by split <;> rfl) ?_
  obtain ⟨g, n, d, rfl, rfl, h1, h2⟩ := hv
  obtain ⟨g', n', d', rfl, rfl, h3, h4⟩ := hw
  have p1 := fun H => of_rat H (g := g) (n := n) (d := d) (by omega)
  have p2 := fun H => of_rat H (g := g') (n := n') (d := d') (by omega)
  obtain ⟨dd, e1, a1, a2⟩ := ofV_parts g n d (k := 150000) (by omega) (by omega) (by decide)
  obtain ⟨dd', e2, a3, a4⟩ := ofV_parts g' n' d' (k := 150000) (by omega) (by omega) (by decide)
  have d0 := dval_pos d
  have d0' := dval_pos d'
  have o1 := fun H => mulI H a1 a4 (by decide) (by decide)
  have o2 := fun H => mulI H a2 a3 (by decide) (by decide)
  have z1 := absmul a1.sz a4.sz
  have z2 := absmul a2.sz a3.sz
  have o4 := fun H => new_sim H (IA.mk z1) (IA.mk z2) (by decide)
  rw [e1] at p1
  rw [e2] at p2
  clear z1 z2 e1 e2
  have hb : qval g' n' d' = 0 ↔ ival g' n' = 0 := mkRat_ne d0'
  by_cases hz : ival g' n' = 0
  · have hb2 := hb.2 hz
    simp only [hz, Int.mul_zero, if_true] at o4 o2
    simp only [hb2, if_true]
    rw [mkQ_zero] at o4 ⊢
    generalize ival g n * (dval d' : Nat) = x at *
    unfold qV at p1 p2 ⊢
    refine sxA tok mixed Tryz.func151 ?_
    simp -implicitDefEqProofs only [go_sem, simprocAttr, UU]
    refine ax_quiet (by kernel_rfl) ?_
    simp -implicitDefEqProofs only [go_sem, simprocAttr, UU]
    refine kw (p1 _) ?_
    refine kw (p2 _) ?_
    refine ax_quiet (by kernel_rfl) ?_
    simp -implicitDefEqProofs only [go_sem, simprocAttr, UU]
    refine kw (o1 _) ?_
    refine kw (o2 _) ?_
    refine kw (o4 _) ?_
    simp -implicitDefEqProofs only [go_sem, simprocAttr, UU, res151]
    first | exact .app _ _ | exact ⟨.app _ _, rfl⟩ | exact .refl _ | exact ⟨.refl _, rfl⟩
  · have hb2 : ¬ qval g' n' d' = 0 := fun h => hz (hb.1 h)
    have hne : ¬ (dval d : Int) * ival g' n' = 0 := Int.mul_ne_zero (by omega) hz
    have ql : qval g n d / qval g' n' d' = Rat.divInt (ival g n * (dval d' : Nat)) ((dval d : Nat) * ival g' n') := quo_law _ _ d0 d0' hz
    simp only [hne, if_false] at o4
    simp only [hb2, if_false]
    rw [ql]
    generalize Rat.divInt (ival g n * (dval d' : Nat)) ((dval d : Nat) * ival g' n') = q at *
    generalize ival g n * (dval d' : Nat) = x at *
    generalize (dval d : Int) * ival g' n' = y at *
    unfold qV at p1 p2 ⊢
    refine sxA tok mixed Tryz.func151 ?_
    simp -implicitDefEqProofs only [go_sem, simprocAttr, UU]
    refine ax_quiet (by kernel_rfl) ?_
    simp -implicitDefEqProofs only [go_sem, simprocAttr, UU]
    refine kw (p1 _) ?_
    refine kw (p2 _) ?_
    refine ax_quiet (by kernel_rfl) ?_
    simp -implicitDefEqProofs only [go_sem, simprocAttr, UU]
    refine kw (o1 _) ?_
    refine kw (o2 _) ?_
    refine kw (o4 _) ?_
    simp -implicitDefEqProofs only [go_sem, simprocAttr, UU, res151]
    first | exact .app _ _ | exact ⟨.app _ _, rfl⟩ | exact .refl _ | exact ⟨.refl _, rfl⟩
end Go.Proofs.YthhmkaikopdmjaaGreat
namespace Go.Proofs.YthhmkaikopdmjaaGreat
open Go Go.Fw
theorem cmpQ_num (n : Int) {d : Nat} (hd : 0 < d) : cmpQ (mkRat n d) 0 = sgn n := by
  have := @cmpQ_eq n 0 d 1 hd (by decide)
  rw [mkRat_one] at this
  simpa using this
theorem signQ (H : Heap) {v : Value} {q : Rat} {k : Nat} (hv : QV v q k) (hk : k ≤ 150000) : Sim Tryz.prog 88 #[v] H (.int .i64 (cmpQ q 0)) H := by
  refine flat_ex rfl ?_
  obtain ⟨g, n, d, rfl, rfl, h1, h2⟩ := hv
  have p1 := fun H => of_rat H (g := g) (n := n) (d := d) (by omega)
  obtain ⟨dd, e1, a1, a2⟩ := ofV_parts g n d (k := 150000) (by omega) (by omega) (by decide)
  have o1 := fun H => cmpI H a1 (IA.raw false [] (k := 8) (by decide)) (by decide) (by decide)
  have e0 : ival false [] = 0 := rfl
  have e2 : cmpQ (qval g n d) 0 = sgn (ival g n) := cmpQ_num _ (dval_pos d)
  rw [e0, Int.sub_zero] at o1
  rw [e1] at p1
  rw [e2]
  generalize sgn (ival g n) = c at *
  unfold qV at p1 ⊢
  unfold iV at o1
  refine sxA tok mixed Tryz.func88 ?_
  simp -implicitDefEqProofs only [go_sem, simprocAttr, UU]
  refine kv (p1 _) ?_
  simp -implicitDefEqProofs only [go_sem, simprocAttr, UU, aField, partL]
  refine kw (o1 _) ?_
  simp -implicitDefEqProofs only [go_sem, simprocAttr, UU, res88]
  first | exact .app _ _ | exact ⟨.app _ _, rfl⟩ | exact .refl _ | exact ⟨.refl _, rfl⟩
theorem floorQ (H : Heap) {v : Value} {q : Rat} {k : Nat} (hv : QV v q k) (hk : k ≤ 150000) : Sim Tryz.prog 267 #[v] H (mkI q.floor) H := by
  refine flat_ex rfl ?_
  obtain ⟨g, n, d, rfl, rfl, h1, h2⟩ := hv
  have d0 := dval_pos d
  have p1 := fun H => of_rat H (g := g) (n := n) (d := d) (by omega)
  obtain ⟨dd, e1, a1, a2⟩ := ofV_parts g n d (k := 150000) (by omega) (by omega) (by decide)
  have o1 := fun H => divI H a1 a2 (by decide) (by decide) (by omega)
  have e2 : (qval g n d).floor = (ival g n).fdiv (dval d : Nat) := by
    rw [gcd_fdiv _ _ d0]; exact mkRat_floor _ d0
  rw [e1] at p1
  rw [e2]
  generalize (ival g n).fdiv (dval d : Nat) = x at *
  generalize (ival g n).fmod (dval d : Nat) = y at *
  unfold qV at p1 ⊢
  refine sxA tok mixed Tryz.func267 ?_
  simp -implicitDefEqProofs only [go_sem, simprocAttr, UU]
  refine kw (p1 _) ?_
  refine kw (o1 _) ?_
  simp -implicitDefEqProofs only [go_sem, simprocAttr, UU, res267]
  first | exact .app _ _ | exact ⟨.app _ _, rfl⟩ | exact .refl _ | exact ⟨.refl _, rfl⟩
theorem floor_le {q : Rat} {k : Nat} (h : Sz q k) : q.floor.natAbs < 2 ^ k := by
  rw [Rat.floor_def]
  exact Nat.lt_of_le_of_lt (Int.natAbs_ediv_le_natAbs _ _) h.num
theorem ceil_le {q : Rat} {k : Nat} (h : Sz q k) : q.ceil.natAbs < 2 ^ k := by
  rw [Rat.ceil_eq_neg_floor_neg, Int.natAbs_neg]
  exact floor_le h.neg
theorem ceilQ (H : Heap) {v : Value} {q : Rat} {k : Nat} (hv : QV v q k) (hk : k ≤ 140000) : Sim Tryz.prog 235 #[v] H (mkI q.ceil) H := by
  refine flat_ex rfl ?_
  have o1 := fun H => negQ H hv (by omega)
  have o2 := fun H => floorQ H hv.sz.neg.qv (by omega)
  have o3 := fun H => negI H (IA.mk (floor_le hv.sz.neg)) (by omega)
  rw [← Rat.ceil_eq_neg_floor_neg] at o3
  generalize q.ceil = c at *
  generalize (-q).floor = f at *
  generalize -q = r at *
  obtain ⟨g, n, d, rfl, rfl, h1, h2⟩ := hv
  unfold qV at o1 ⊢
  refine sxA tok mixed Tryz.func235 ?_
  simp -implicitDefEqProofs only [go_sem, simprocAttr, UU]
  refine kw (o1 _) ?_
  refine kw (o2 _) ?_
  refine kw (o3 _) ?_
  simp -implicitDefEqProofs only [go_sem, simprocAttr, UU, res235]
  first | exact .app _ _ | exact ⟨.app _ _, rfl⟩ | exact .refl _ | exact ⟨.refl _, rfl⟩
end Go.Proofs.YthhmkaikopdmjaaGreat
namespace Go.Proofs.YthhmkaikopdmjaaGreat
open Go Go.Fw
theorem divInt_one (z : Int) : Rat.divInt z 1 = (z : Rat) := by rw [divInt_pos (by decide)]; exact mkRat_one z
theorem simplest_sim {K : Nat} (hK : K ≤ 60000) (h3 : 10 ≤ K) : ∀ (fuel : Nat) (v w : Value) (a b : Rat), QV v a (K + 7) → QV w b (K + 7) → Sz a K → Sz b K → 0 < a → a ≤ b → a.den + b.den ≤ fuel → ∀ H, Sim Tryz.prog 176 #[v, w] H (mkQ (simpQ fuel a b)) H := by
  intro fuel
  induction fuel with
  | zero => intro v w a b _ _ _ _ _ _ h; have := a.den_pos; omega
  | succ fuel ih =>
  intro v w a b hv hw ha hb ha0 hab hf H
  refine flat_ex rfl ?_
  have c1 := ceil_le ha
  have hone : Sz (1 : Rat) K := by
    have := Sz.int (z := 1) (k := K) (by have : 2 ^ 1 ≤ 2 ^ K := Nat.pow_le_pow_right (by decide) (by omega); simp; omega) (by omega)
    simpa using this
  have o1 := fun H => ceilQ H hv (by omega)
  have o2 := fun H => of_sim H (z := 1) (by decide) (by decide)
  have o3 := fun H => new_sim H (IA.mk c1) ((IA.mk (z := 1) (k := 8) (by decide)).mono (show 15 ≤ K + 7 by omega)) (by omega)
  simp only [show ¬ (1 : Int) = 0 by decide, if_false, divInt_one] at o3
  have hv5 := Sz.int (k := K) c1 (by omega)
  have o4 := fun H => cmpR H hv5.qv hw (by omega) (by omega)
  have hb0 : 0 < b := by grind
  by_cases hup : (a.ceil : Rat) ≤ b
  · have h1 : cmpQ (a.ceil : Rat) b ≤ 0 := cmpQ_le.2 hup
    have e1 : simpQ (fuel + 1) a b = (a.ceil : Rat) := by unfold simpQ; rw [if_pos hup]
    rw [e1]
    clear e1
    generalize cmpQ (a.ceil : Rat) b = c at *
    clear hup hv5
    generalize (a.ceil : Rat) = u at *
    generalize a.ceil = z at *
    obtain ⟨g, n, d, rfl, -, -, -⟩ := hv
    obtain ⟨g', n', d', rfl, -, -, -⟩ := hw
    unfold qV at o1 o4 ⊢
    refine sxA tok mixed Tryz.func176 ?_
    simp -implicitDefEqProofs only [go_sem, simprocAttr, UU]
    refine kw (o1 _) ?_
    refine kw (o2 _) ?_
    refine kw (o3 _) ?_
    refine kv (o4 _) ?_
    simp -implicitDefEqProofs only [go_sem, simprocAttr, UU, h1, wa_cond, axC_t, axC_f]
    simp -implicitDefEqProofs only [go_sem, simprocAttr, UU, res176]
    first | exact .app _ _ | exact ⟨.app _ _, rfl⟩ | exact .refl _ | exact ⟨.refl _, rfl⟩
  · have h1 : ¬ cmpQ (a.ceil : Rat) b ≤ 0 := fun h => hup (cmpQ_le.1 h)
    have hs := Simp.of ha0 hab hup
    obtain ⟨sx, sy⟩ := hs.sz ha hb
    have hl1 := (ceil_bounds a)
    have hcl : (a.ceil : Rat) - ((1 : Int) : Rat) = ((a.ceil - 1 : Int) : Rat) := by rw [Rat.intCast_sub]
    have hc0 := (ceil_num ha0).1
    have hlow : Sz (((a.ceil - 1 : Int) : Rat)) K := Sz.int (by omega) (by omega)
    have e1 : simpQ (fuel + 1) a b = ((a.ceil - 1 : Int) : Rat) + 1 / simpQ fuel (1 / (b - ((a.ceil - 1 : Int) : Rat))) (1 / (a - ((a.ceil - 1 : Int) : Rat))) := by
      conv => lhs; unfold simpQ
      rw [if_neg hup]
    have o5 := fun H => ofN_sim H (n := 1) (by decide) (by decide)
    have h1K : QV (mkQ ((1 : Int) : Rat)) ((1 : Int) : Rat) (K + 7) := (Sz.int (z := 1) (by have : 2 ^ 1 ≤ 2 ^ K := Nat.pow_le_pow_right (by decide) (by omega); simp; omega) (by omega)).qv
    have o6 := fun H => subQ H hv5.qv h1K (by omega) (by omega)
    rw [hcl] at o6
    have up : (a.ceil : Rat) = ((a.ceil - 1 : Int) : Rat) + 1 := by rw [Rat.intCast_sub]; grind
    rw [e1]
    generalize hll : a.ceil - 1 = l at *
    have pb : 0 < b - (l : Rat) := by grind
    have pa : 0 < a - (l : Rat) := by grind
    have lb : b - (l : Rat) < 1 := by grind
    have la : a - (l : Rat) < 1 := by grind
    have tb := hb.subI pb lb
    have ta := ha.subI pa la
    have o7 := fun H => subQ H hw hlow.qv (by omega) (by omega)
    have o8 := fun H => subQ H hv hlow.qv (by omega) (by omega)
    have o9 := fun H => quoQ H h1K tb.qv (by omega) (by omega)
    have o10 := fun H => quoQ H h1K ta.qv (by omega) (by omega)
    have nb : ¬ b - (l : Rat) = 0 := by grind
    have na : ¬ a - (l : Rat) = 0 := by grind
    simp only [nb, if_false] at o9
    simp only [na, if_false] at o10
    have e11 : ((1 : Int) : Rat) = 1 := rfl
    rw [e11] at o9 o10
    have o11 := ih (mkQ (1 / (b - (l : Rat)))) (mkQ (1 / (a - (l : Rat)))) _ _ sy.qv sx.qv sy sx hs.pos hs.le (by have := hs.da; have := hs.db; omega)
    have hz := simpQ_small fuel _ _ hs.pos hs.le (by have := hs.da; have := hs.db; omega)
    have sz := Sz.simp hs.pos hs.le (by have := hs.da; have := hs.db; omega) sy (n := fuel)
    generalize simpQ fuel (1 / (b - (l : Rat))) (1 / (a - (l : Rat))) = z at *
    have o12 := fun H => quoQ H h1K sz.qv (by omega) (by omega)
    have nz : ¬ z = 0 := by grind
    simp only [nz, if_false] at o12
    rw [e11] at o12 o5 o6
    have o13 := fun H => addQ H hlow.qv (sz.inv1 hz.1).qv (by omega) (by omega)
    clear hz sz hs sx sy hl1 up pb pa lb la tb ta nb na nz e1 h1K hlow hv5 e11
    generalize 1 / z = z2 at *
    generalize (l : Rat) + z2 = res at *
    generalize 1 / (b - (l : Rat)) = x at *
    generalize 1 / (a - (l : Rat)) = y at *
    generalize b - (l : Rat) = bl at *
    generalize a - (l : Rat) = al at *
    generalize (l : Rat) = lq at *
    generalize cmpQ (a.ceil : Rat) b = c at *
    clear hup
    generalize (a.ceil : Rat) = u at *
    generalize a.ceil = zc at *
    obtain ⟨g, n, d, rfl, -, -, -⟩ := hv
    obtain ⟨g', n', d', rfl, -, -, -⟩ := hw
    unfold qV at o1 o4 o7 o8 ⊢
    refine sxA tok mixed Tryz.func176 ?_
    simp -implicitDefEqProofs only [go_sem, simprocAttr, UU]
    refine kw (o1 _) ?_
    refine kw (o2 _) ?_
    refine kw (o3 _) ?_
    refine kv (o4 _) ?_
    simp -implicitDefEqProofs only [go_sem, simprocAttr, UU, h1, wa_cond, axC_t, axC_f]
    refine ax_quiet (by kernel_rfl) ?_
    simp -implicitDefEqProofs only [go_sem, simprocAttr, UU]
    refine kw (o5 _) ?_
    refine kw (o6 _) ?_
    refine ax_quiet (by kernel_rfl) ?_
    simp -implicitDefEqProofs only [go_sem, simprocAttr, UU]
    refine kw (o5 _) ?_
    refine kw (o7 _) ?_
    refine kw (o9 _) ?_
    refine ax_quiet (by kernel_rfl) ?_
    simp -implicitDefEqProofs only [go_sem, simprocAttr, UU]
    refine kw (o5 _) ?_
    refine kw (o8 _) ?_
    refine kw (o10 _) ?_
    refine ax_quiet (by kernel_rfl) ?_
    simp -implicitDefEqProofs only [go_sem, simprocAttr, UU]
    refine kw (o5 _) ?_
    refine kw (o11 _) ?_
    refine kw (o12 _) ?_
    refine kw (o13 _) ?_
    simp -implicitDefEqProofs only [go_sem, simprocAttr, UU, res176]
    first | exact .app _ _ | exact ⟨.app _ _, rfl⟩ | exact .refl _ | exact ⟨.refl _, rfl⟩
end Go.Proofs.YthhmkaikopdmjaaGreat
namespace Go.Proofs.YthhmkaikopdmjaaGreat
open Go Go.Fw
theorem smpR (H : Heap) {v w : Value} {a b : Rat} {k : Nat} (hv : QV v a k) (hw : QV w b k) (hk : k ≤ 50000) :
    Sim Tryz.prog 117 #[v, w] H (if b < a then .tuple #[mkQ 0, .int .i64 8] else .tuple #[mkQ (smpQ a b), .int .i64 0]) H := by
  refine flat_ex (by split <;> rfl) ?_
  have hv' := hv.mono (show k ≤ k + 17 by omega)
  have hw' := hw.mono (show k ≤ k + 17 by omega)
  have sa := hv.sz.mono (show k + 1 ≤ k + 10 by omega)
  have sb := hw.sz.mono (show k + 1 ≤ k + 10 by omega)
  have o1 := fun H => cmpR H hv hw (by omega) (by omega)
  have o2 := fun H => signQ H hv (by omega)
  have o3 := fun H => signQ H hw (by omega)
  have n1 := fun H => negQ H hv (by omega)
  have n2 := fun H => negQ H hw (by omega)
  by_cases h1 : b < a
  · have c1 : 0 < cmpQ a b := cmpQ_pos.2 h1
    simp only [h1, if_true]
    rw [mkQ_zero]
    generalize cmpQ a b = c at *
    clear h1 o2 o3 n1 n2
    obtain ⟨g, n, d, rfl, -, -, -⟩ := hv
    obtain ⟨g', n', d', rfl, -, -, -⟩ := hw
    unfold qV at o1 ⊢
    refine sxA tok mixed Tryz.func117 ?_
    simp -implicitDefEqProofs only [go_sem, simprocAttr, UU]
    refine kv (o1 _) ?_
    simp -implicitDefEqProofs only [go_sem, simprocAttr, UU, c1, wa_cond, axC_t, axC_f]
    simp -implicitDefEqProofs only [go_sem, simprocAttr, UU, res117]
    first | exact .app _ _ | exact ⟨.app _ _, rfl⟩ | exact .refl _ | exact ⟨.refl _, rfl⟩
  have hab : a ≤ b := by grind
  have c1 : ¬ 0 < cmpQ a b := fun h => h1 (cmpQ_pos.1 h)
  simp only [h1, if_false]
  by_cases h2 : a ≤ 0
  · have c2 := cmpQ_le.2 h2
    by_cases h3 : 0 ≤ b
    · have c3 := cmpQ_ge.2 h3
      have e : smpQ a b = 0 := by unfold smpQ; rw [if_pos ⟨h2, h3⟩]
      rw [e, mkQ_zero]
      generalize cmpQ a b = c at *
      generalize cmpQ a 0 = c' at *
      generalize cmpQ b 0 = c'' at *
      obtain ⟨g, n, d, rfl, -, -, -⟩ := hv
      obtain ⟨g', n', d', rfl, -, -, -⟩ := hw
      unfold qV at o1 o2 o3 ⊢
      refine sxA tok mixed Tryz.func117 ?_
      simp -implicitDefEqProofs only [go_sem, simprocAttr, UU]
      refine kv (o1 _) ?_
      simp -implicitDefEqProofs only [go_sem, simprocAttr, UU, c1, wa_cond, axC_t, axC_f]
      refine kv (o2 _) ?_
      simp -implicitDefEqProofs only [go_sem, simprocAttr, UU, c2, wa_cond, axC_t, axC_f]
      refine kv (o3 _) ?_
      simp -implicitDefEqProofs only [go_sem, simprocAttr, UU, c3, wa_cond, axC_t, axC_f]
      simp -implicitDefEqProofs only [go_sem, simprocAttr, UU, res117]
      first | exact .app _ _ | exact ⟨.app _ _, rfl⟩ | exact .refl _ | exact ⟨.refl _, rfl⟩
    · have c3 : ¬ 0 ≤ cmpQ b 0 := fun h => h3 (cmpQ_ge.1 h)
      have c4 : cmpQ b 0 < 0 := by omega
      have e : smpQ a b = -(simpQ (a.den + b.den) (-b) (-a)) := by unfold smpQ; rw [if_neg (fun h => h3 h.2), if_pos (by grind)]
      have o4 := fun H => simplest_sim (K := k + 10) (by omega) (by omega) (a.den + b.den) (mkQ (-b)) (mkQ (-a)) (-b) (-a) sb.neg.qv sa.neg.qv sb.neg sa.neg (by grind) (by grind) (by rw [Rat.neg_den, Rat.neg_den]; omega) H
      have sz := Sz.simp (a := -b) (b := -a) (n := a.den + b.den) (by grind) (by grind) (by rw [Rat.neg_den, Rat.neg_den]; omega) sb.neg
      have o5 := fun H => negQ H sz.qv (by omega)
      rw [e]
      clear e sz
      generalize simpQ (a.den + b.den) (-b) (-a) = z at *
      generalize -z = z2 at *
      generalize cmpQ a b = c at *
      generalize cmpQ a 0 = c' at *
      generalize cmpQ b 0 = c'' at *
      generalize -a = na at *
      generalize -b = nb at *
      obtain ⟨g, n, d, rfl, -, -, -⟩ := hv
      obtain ⟨g', n', d', rfl, -, -, -⟩ := hw
      unfold qV at o1 o2 o3 n1 n2 ⊢
      refine sxA tok mixed Tryz.func117 ?_
      simp -implicitDefEqProofs only [go_sem, simprocAttr, UU]
      refine kv (o1 _) ?_
      simp -implicitDefEqProofs only [go_sem, simprocAttr, UU, c1, wa_cond, axC_t, axC_f]
      refine kv (o2 _) ?_
      simp -implicitDefEqProofs only [go_sem, simprocAttr, UU, c2, wa_cond, axC_t, axC_f]
      refine kv (o3 _) ?_
      simp -implicitDefEqProofs only [go_sem, simprocAttr, UU, c3, wa_cond, axC_t, axC_f]
      refine kv (o3 _) ?_
      simp -implicitDefEqProofs only [go_sem, simprocAttr, UU, c4, wa_cond, axC_t, axC_f]
      refine ax_quiet (by kernel_rfl) ?_
      simp -implicitDefEqProofs only [go_sem, simprocAttr, UU]
      refine kw (n2 _) ?_
      refine kw (n1 _) ?_
      refine kw (o4 _) ?_
      refine kw (o5 _) ?_
      simp -implicitDefEqProofs only [go_sem, simprocAttr, UU, res117]
      first | exact .app _ _ | exact ⟨.app _ _, rfl⟩ | exact .refl _ | exact ⟨.refl _, rfl⟩
  · have c2 : ¬ cmpQ a 0 ≤ 0 := fun h => h2 (cmpQ_le.1 h)
    have c4 : ¬ cmpQ b 0 < 0 := fun h => by have := cmpQ_lt.1 h; grind
    have e : smpQ a b = simpQ (a.den + b.den) a b := by unfold smpQ; rw [if_neg (fun h => h2 h.1), if_neg (by grind)]
    have o4 := fun H => simplest_sim (K := k + 10) (by omega) (by omega) (a.den + b.den) v w a b hv' hw' sa sb (by grind) hab (Nat.le_refl _) H
    rw [e]
    clear e
    generalize simpQ (a.den + b.den) a b = z at *
    generalize cmpQ a b = c at *
    generalize cmpQ a 0 = c' at *
    generalize cmpQ b 0 = c'' at *
    obtain ⟨g, n, d, rfl, -, -, -⟩ := hv
    obtain ⟨g', n', d', rfl, -, -, -⟩ := hw
    unfold qV at o1 o2 o3 o4 ⊢
    refine sxA tok mixed Tryz.func117 ?_
    simp -implicitDefEqProofs only [go_sem, simprocAttr, UU]
    refine kv (o1 _) ?_
    simp -implicitDefEqProofs only [go_sem, simprocAttr, UU, c1, wa_cond, axC_t, axC_f]
    refine kv (o2 _) ?_
    simp -implicitDefEqProofs only [go_sem, simprocAttr, UU, c2, wa_cond, axC_t, axC_f]
    refine kv (o3 _) ?_
    simp -implicitDefEqProofs only [go_sem, simprocAttr, UU, c4, wa_cond, axC_t, axC_f]
    refine kw (o4 _) ?_
    simp -implicitDefEqProofs only [go_sem, simprocAttr, UU, res117]
    first | exact .app _ _ | exact ⟨.app _ _, rfl⟩ | exact .refl _ | exact ⟨.refl _, rfl⟩
end Go.Proofs.YthhmkaikopdmjaaGreat
namespace Go.Proofs.YthhmkaikopdmjaaGreat
open Go Go.Fw
theorem sum2 {H : Heap} {b c : Nat} {g g' : Bool} {n d n' d' : List UInt8} {x y : Rat} {k : Nat}
    (r0 : rd H b 0 3 = some [.bool g, .string (bs n), .string (bs d)]) (r1 : rd H b 3 3 = some [.bool g', .string (bs n'), .string (bs d')])
    (hx : QV (qV g n d) x k) (hy : QV (qV g' n' d') y k) (hk : k ≤ 60000) :
    Sim Tryz.prog 74 #[.slice (some ⟨b, 0, none⟩) 2 c] H (mkQ (x + y)) H := by
  refine flat_ex rfl ?_
  have z0 : QV (mkQ 0) 0 15 := by rw [mkQ_zero]; exact ⟨_, _, _, rfl, rfl, by decide, by decide⟩
  have o1 := fun H => addQ H z0 hx (by decide) (by omega)
  rw [Rat.zero_add] at o1
  have o2 := fun H => addQ H hx.sz.qv hy (by omega) (by omega)
  rw [mkQ_zero] at o1
  generalize x + y = z at *
  refine sxA tok mixed Tryz.func74 ?_
  simp -implicitDefEqProofs only [go_sem, Nat.reduceAdd, Nat.reduceSub, Nat.reduceMul, Nat.reduceLT, Nat.reduceLeDiff, Nat.reduceEqDiff, Nat.reduceBEq, Nat.reduceGT, Nat.reduceMod, Nat.reduceDiv, ↓reduceIte, reduceCtorEq, Int.reduceLE, Int.reduceLT, Int.reduceToNat, Int.reduceEq, Int.reduceNeg, Int.reduceAdd, Int.reduceSub, Int.reduceMul, aLen]
  refine ax_loopx (fun (i : Nat) s T => ∃ (gg : Bool) (nn dd : List UInt8) (G : Heap), s 2 = .pointer (some ⟨H.length, 0, none⟩) ∧ s 3 = .pointer (some ⟨H.length + 1, 0, none⟩) ∧ s 7 = .slice (some ⟨b, 0, none⟩) 2 c ∧ s 8 = .int .i64 2 ∧ s 9 = .int .i64 (i : Nat) ∧
    T = H ++ ⟨[.bool false, .string (bs []), .string (bs [])], 1, true⟩ :: ⟨[.bool gg, .string (bs nn), .string (bs dd)], 1, true⟩ :: G ∧ ((i = 0 ∧ qV gg nn dd = qV false [] []) ∨ (i = 1 ∧ qV gg nn dd = mkQ x) ∨ (i = 2 ∧ qV gg nn dd = mkQ z))) (fun i => 2 - i) 0 ?_ ?_
  · refine ⟨false, [], [], [], ?_⟩
    simp -implicitDefEqProofs only [go_sem, Nat.reduceAdd, Nat.reduceSub, Nat.reduceMul, Nat.reduceLT, Nat.reduceLeDiff, Nat.reduceEqDiff, Nat.reduceBEq, Nat.reduceGT, Nat.reduceMod, Nat.reduceDiv, ↓reduceIte, reduceCtorEq, Int.reduceLE, Int.reduceLT, Int.reduceToNat, Int.reduceEq, Int.reduceNeg, Int.reduceAdd, Int.reduceSub, Int.reduceMul]
    exact ⟨rfl, .inl trivial⟩
  rintro i s T ⟨gg, nn, dd, G, s2, s3, s7, s8, s9, hT, hi⟩
  subst T
  have l0 : (0 : Int) < ((2 : Nat) : Int) := by decide
  have l1 : (1 : Int) < ((2 : Nat) : Int) := by decide
  have w0 : IntKind.i64.wrap 1 = ((1 : Nat) : Int) := rfl
  have w1 : IntKind.i64.wrap 2 = ((2 : Nat) : Int) := rfl
  rcases hi with ⟨rfl, hi⟩ | ⟨rfl, hi⟩ | ⟨rfl, hi⟩
  · rw [← hi] at o1
    have r := fun G => rd_more r0 G
    unfold qV at o1
    simp -implicitDefEqProofs only [go_sem, Nat.reduceAdd, Nat.reduceSub, Nat.reduceMul, Nat.reduceLT, Nat.reduceLeDiff, Nat.reduceEqDiff, Nat.reduceBEq, Nat.reduceGT, Nat.reduceMod, Nat.reduceDiv, ↓reduceIte, reduceCtorEq, Int.reduceLE, Int.reduceLT, Int.reduceToNat, Int.reduceEq, Int.reduceNeg, Int.reduceAdd, Int.reduceSub, Int.reduceMul, wa_cond, axC_t, axC_f, s7, s8, s9, aIndexAddr, r, l0, Nat.zero_mul, s3]
    obtain ⟨g1, n1, d1, h1⟩ : ∃ g1 n1 d1, mkQ x = qV g1 n1 d1 := ⟨_, _, _, rfl⟩
    rw [h1] at o1
    unfold qV at o1
    refine kv (o1 _) ?_
    simp -implicitDefEqProofs only [go_sem, Nat.reduceAdd, Nat.reduceSub, Nat.reduceMul, Nat.reduceLT, Nat.reduceLeDiff, Nat.reduceEqDiff, Nat.reduceBEq, Nat.reduceGT, Nat.reduceMod, Nat.reduceDiv, ↓reduceIte, reduceCtorEq, Int.reduceLE, Int.reduceLT, Int.reduceToNat, Int.reduceEq, Int.reduceNeg, Int.reduceAdd, Int.reduceSub, Int.reduceMul, s2, s3, s7, s8, s9, Int.zero_add]
    exact ⟨1, ⟨g1, n1, d1, _, rfl, rfl, .inr (.inl ⟨rfl, h1.symm⟩)⟩, by decide⟩
  · rw [← hi] at o2
    have r := fun G => rd_more r1 G
    unfold qV at o2
    simp -implicitDefEqProofs only [go_sem, Nat.reduceAdd, Nat.reduceSub, Nat.reduceMul, Nat.reduceLT, Nat.reduceLeDiff, Nat.reduceEqDiff, Nat.reduceBEq, Nat.reduceGT, Nat.reduceMod, Nat.reduceDiv, ↓reduceIte, reduceCtorEq, Int.reduceLE, Int.reduceLT, Int.reduceToNat, Int.reduceEq, Int.reduceNeg, Int.reduceAdd, Int.reduceSub, Int.reduceMul, wa_cond, axC_t, axC_f, s7, s8, s9, aIndexAddr, r, l1, Nat.one_mul, s3, show (0 : Int) ≤ 1 by decide, show Int.toNat 1 = 1 from rfl]
    obtain ⟨g1, n1, d1, h1⟩ : ∃ g1 n1 d1, mkQ z = qV g1 n1 d1 := ⟨_, _, _, rfl⟩
    rw [h1] at o2
    unfold qV at o2
    refine kv (o2 _) ?_
    simp -implicitDefEqProofs only [go_sem, Nat.reduceAdd, Nat.reduceSub, Nat.reduceMul, Nat.reduceLT, Nat.reduceLeDiff, Nat.reduceEqDiff, Nat.reduceBEq, Nat.reduceGT, Nat.reduceMod, Nat.reduceDiv, ↓reduceIte, reduceCtorEq, Int.reduceLE, Int.reduceLT, Int.reduceToNat, Int.reduceEq, Int.reduceNeg, Int.reduceAdd, Int.reduceSub, Int.reduceMul, s2, s3, s7, s8, s9]
    exact ⟨2, ⟨g1, n1, d1, _, rfl, rfl, .inr (.inr ⟨rfl, h1.symm⟩)⟩, by decide⟩
  · have l2 : ¬ ((2 : Nat) : Int) < 2 := by decide
    rw [← hi]
    unfold qV
    simp -implicitDefEqProofs only [go_sem, Nat.reduceAdd, Nat.reduceSub, Nat.reduceMul, Nat.reduceLT, Nat.reduceLeDiff, Nat.reduceEqDiff, Nat.reduceBEq, Nat.reduceGT, Nat.reduceMod, Nat.reduceDiv, ↓reduceIte, reduceCtorEq, Int.reduceLE, Int.reduceLT, Int.reduceToNat, Int.reduceEq, Int.reduceNeg, Int.reduceAdd, Int.reduceSub, Int.reduceMul, wa_cond, axC_t, axC_f, s2, s3, s7, s8, s9, l2, res74]
    first | exact .app _ _ | exact ⟨.app _ _, rfl⟩
end Go.Proofs.YthhmkaikopdmjaaGreat
namespace Go.Proofs.YthhmkaikopdmjaaGreat
open Go Go.Fw
theorem build125 (H : Heap) (a b c d e f : Value) : aBuildSlice tt H 125 2 [(0, .agg #[a, b, c]), (1, .agg #[d, e, f])] = some (.slice (some ⟨H.length, 0, none⟩) 2 2, H ++ [⟨[a, b, c, d, e, f], 3, true⟩]) := rfl
theorem minusQ (H : Heap) {v w : Value} {a b : Rat} {k k' : Nat} (hv : QV v a k) (hw : QV w b k') (hk : k ≤ 100000) (hk' : k' ≤ 100000) : Sim Tryz.prog 113 #[v, w] H (mkQ (-(a * b))) H := by
  refine flat_ex rfl ?_
  have o1 := fun H => mulQ H hv hw (by omega) (by omega)
  have o2 := fun H => negQ H (hv.sz.mul hw.sz).qv (by omega)
  generalize -(a * b) = z at *
  generalize a * b = y at *
  obtain ⟨g, n, d, rfl, rfl, h1, h2⟩ := hv
  obtain ⟨g', n', d', rfl, rfl, h3, h4⟩ := hw
  unfold qV at o1 ⊢
  refine sxA tok mixed Tryz.func113 ?_
  simp -implicitDefEqProofs only [go_sem, simprocAttr, UU]
  refine kw (o1 _) ?_
  refine kw (o2 _) ?_
  simp -implicitDefEqProofs only [go_sem, simprocAttr, UU, res113]
  first | exact .app _ _ | exact ⟨.app _ _, rfl⟩ | exact .refl _ | exact ⟨.refl _, rfl⟩
theorem overQ (H : Heap) {v w : Value} {a b : Rat} {k k' : Nat} (hv : QV v a k) (hw : QV w b k') (hk : k ≤ 150000) (hk' : k' ≤ 150000) : Sim Tryz.prog 100 #[v, w] H (mkQ (a / b)) H := by
  refine flat_ex rfl ?_
  obtain ⟨e, o1⟩ : ∃ e : Int, ∀ H, Sim Tryz.prog 151 #[v, w] H (.tuple #[mkQ (a / b), .int .i64 e]) H := by
    by_cases h0 : b = 0
    · refine ⟨10, fun H => ?_⟩
      have := quoQ H hv hw hk hk'
      rw [if_pos h0] at this
      rw [h0, Rat.div_def, Rat.inv_zero, Rat.mul_zero]
      exact this
    · refine ⟨0, fun H => ?_⟩
      have := quoQ H hv hw hk hk'
      rw [if_neg h0] at this
      exact this
  generalize a / b = z at *
  obtain ⟨g, n, d, rfl, rfl, h1, h2⟩ := hv
  obtain ⟨g', n', d', rfl, rfl, h3, h4⟩ := hw
  unfold qV at o1 ⊢
  refine sxA tok mixed Tryz.func100 ?_
  simp -implicitDefEqProofs only [go_sem, simprocAttr, UU]
  refine kw (o1 _) ?_
  simp -implicitDefEqProofs only [go_sem, simprocAttr, UU, res100]
  first | exact .app _ _ | exact ⟨.app _ _, rfl⟩ | exact .refl _ | exact ⟨.refl _, rfl⟩
theorem backR (H : Heap) {r : RR} {k : Nat} (hr : r.le k) (hk : k ≤ 100000) : Sim Tryz.prog 64 #[r.val] H (.agg #[.bool r.g, .string (bs r.n), .string (bs r.d), .bool (decide ((-r.rot.s).num < 0)), .string (bs (digB (-r.rot.s).num.natAbs)), .string (bs (denB (-r.rot.s).den))]) H := by
  refine flat_ex rfl ?_
  have o1 := fun H => negQ H hr.s (by omega)
  generalize -r.rot.s = z at *
  unfold qV at o1
  unfold RR.val rV
  refine sxA tok mixed Tryz.func64 ?_
  simp -implicitDefEqProofs only [go_sem, simprocAttr, UU]
  refine ax_quiet (by kernel_rfl) ?_
  simp -implicitDefEqProofs only [go_sem, simprocAttr, UU]
  refine kw (o1 _) ?_
  simp -implicitDefEqProofs only [go_sem, simprocAttr, UU, res64]
  first | exact .app _ _ | exact ⟨.app _ _, rfl⟩ | exact .refl _ | exact ⟨.refl _, rfl⟩
theorem thenR (H : Heap) {a b : RR} {k : Nat} (ha : a.le k) (hb : b.le k) (hk : k ≤ 20000) : Sim Tryz.prog 59 #[a.val, b.val] H (RR.of (a.rot.thn b.rot)).val H := by
  refine flat_ex rfl ?_
  have o1 := fun H => mulQ H ha.c hb.c (by omega) (by omega)
  have o2 := fun H => minusQ H ha.s hb.s (by omega) (by omega)
  have o3 := fun H => mulQ H ha.s hb.c (by omega) (by omega)
  have o4 := fun H => mulQ H ha.c hb.s (by omega) (by omega)
  have q1 := (ha.c.sz.mul hb.c.sz).qv
  have q2 := (ha.s.sz.mul hb.s.sz).neg.qv
  have q3 := (ha.s.sz.mul hb.c.sz).qv
  have q4 := (ha.c.sz.mul hb.s.sz).qv
  have s1 := fun {T : Heap} {b : Nat} r0 r1 => sum2 (H := T) (b := b) (c := 2) r0 r1 q1 q2 (by omega)
  have s2 := fun {T : Heap} {b : Nat} r0 r1 => sum2 (H := T) (b := b) (c := 2) r0 r1 q3 q4 (by omega)
  have e1 : a.rot.c * b.rot.c + -(a.rot.s * b.rot.s) = (a.rot.thn b.rot).c := by unfold Rot.thn; rw [← Rat.sub_eq_add_neg]
  have e2 : a.rot.s * b.rot.c + a.rot.c * b.rot.s = (a.rot.thn b.rot).s := rfl
  rw [e1] at s1
  rw [e2] at s2
  rw [RR.of_val]
  generalize (a.rot.thn b.rot).c = x at *
  generalize (a.rot.thn b.rot).s = y at *
  clear q1 q2 q3 q4 e1 e2
  generalize a.rot.c * b.rot.c = p1 at *
  generalize -(a.rot.s * b.rot.s) = p2 at *
  generalize a.rot.s * b.rot.c = p3 at *
  generalize a.rot.c * b.rot.s = p4 at *
  unfold qV at o1 o2 o3 o4
  unfold RR.val rV
  refine sxA tok mixed Tryz.func59 ?_
  simp -implicitDefEqProofs only [go_sem, simprocAttr, UU]
  refine ax_quiet (by kernel_rfl) ?_
  simp -implicitDefEqProofs only [go_sem, simprocAttr, UU]
  refine kw (o1 _) ?_
  refine kv (o2 _) ?_
  simp -implicitDefEqProofs only [go_sem, simprocAttr, UU, build125]
  refine wl_callV #[.slice (some ⟨H.length + 3, 0, none⟩) 2 2] (by simp -implicitDefEqProofs only [go_sem, simprocAttr, UU]) (s1 (b := H.length + 3) (by simp -implicitDefEqProofs only [go_sem, simprocAttr, UU]) (by simp -implicitDefEqProofs only [go_sem, simprocAttr, UU])) ?_
  simp -implicitDefEqProofs only [go_sem, simprocAttr, UU]
  refine kw (o3 _) ?_
  refine kv (o4 _) ?_
  simp -implicitDefEqProofs only [go_sem, simprocAttr, UU, build125]
  refine wl_callV #[.slice (some ⟨H.length + 4, 0, none⟩) 2 2] (by simp -implicitDefEqProofs only [go_sem, simprocAttr, UU]) (s2 (b := H.length + 4) (by simp -implicitDefEqProofs only [go_sem, simprocAttr, UU]) (by simp -implicitDefEqProofs only [go_sem, simprocAttr, UU])) ?_
  simp -implicitDefEqProofs only [go_sem, simprocAttr, UU]
  simp -implicitDefEqProofs only [go_sem, simprocAttr, UU, res59]
  first | exact .app _ _ | exact ⟨.app _ _, rfl⟩ | exact .refl _ | exact ⟨.refl _, rfl⟩
end Go.Proofs.YthhmkaikopdmjaaGreat
namespace Go.Proofs.YthhmkaikopdmjaaGreat
open Go Go.Fw
theorem halfR (H : Heap) {r : RR} {k : Nat} (hr : r.le k) (hk : k ≤ 150000) : Sim Tryz.prog 114 #[r.val] H (.int .i64 r.rot.half) H := by
  refine flat_ex rfl ?_
  have o1 := fun H => signQ H hr.c hk
  have o2 := fun H => signQ H hr.s hk
  unfold qV at o1 o2
  unfold RR.val rV Rot.half
  have hc := cmpQ_cases r.rot.c 0
  have hs := cmpQ_cases r.rot.s 0
  generalize cmpQ r.rot.c 0 = x at *
  generalize cmpQ r.rot.s 0 = y at *
  have k2 : IntKind.i64.wrap 2 = 2 := rfl
  have k1 : IntKind.i64.wrap 1 = 1 := rfl
  have k0 : IntKind.i64.wrap 0 = 0 := rfl
  have t2 : (2 : Int).tdiv 2 = 1 := rfl
  have t1 : (1 : Int).tdiv 2 = 0 := rfl
  have t0 : (0 : Int).tdiv 2 = 0 := rfl
  have i0 : (0 : Int) < ((3 : Nat) : Int) := by decide
  have i1 : (1 : Int) < ((3 : Nat) : Int) := by decide
  have i2 : (2 : Int) < ((3 : Nat) : Int) := by decide
  rcases hs with ⟨rfl, hs⟩ | ⟨rfl, hs⟩ | ⟨rfl, hs⟩
  · rw [if_neg (by grind), if_pos hs]
    rcases hc with ⟨rfl, hc⟩ | ⟨rfl, hc⟩ | ⟨rfl, hc⟩
    · skip
      refine sxA tok mixed Tryz.func114 ?_
      simp -implicitDefEqProofs only [go_sem, simprocAttr, UU]
      refine ax_quiet (by kernel_rfl) ?_
      simp -implicitDefEqProofs only [go_sem, simprocAttr, UU]
      refine kv (o1 _) ?_
      simp -implicitDefEqProofs only [go_sem, simprocAttr, UU, k0, k1, k2, t0, t1, t2]
      refine kv (o2 _) ?_
      simp -implicitDefEqProofs only [go_sem, simprocAttr, UU, k0, k1, k2, i0, i1, i2, partL, show Int.toNat 1 = 1 from rfl, show Int.toNat 2 = 2 from rfl, show Int.toNat 0 = 0 from rfl]
      simp -implicitDefEqProofs only [go_sem, simprocAttr, UU, res114]
      first | exact .app _ _ | exact ⟨.app _ _, rfl⟩ | exact .refl _ | exact ⟨.refl _, rfl⟩
    · skip
      refine sxA tok mixed Tryz.func114 ?_
      simp -implicitDefEqProofs only [go_sem, simprocAttr, UU]
      refine ax_quiet (by kernel_rfl) ?_
      simp -implicitDefEqProofs only [go_sem, simprocAttr, UU]
      refine kv (o1 _) ?_
      simp -implicitDefEqProofs only [go_sem, simprocAttr, UU, k0, k1, k2, t0, t1, t2]
      refine kv (o2 _) ?_
      simp -implicitDefEqProofs only [go_sem, simprocAttr, UU, k0, k1, k2, i0, i1, i2, partL, show Int.toNat 1 = 1 from rfl, show Int.toNat 2 = 2 from rfl, show Int.toNat 0 = 0 from rfl]
      simp -implicitDefEqProofs only [go_sem, simprocAttr, UU, res114]
      first | exact .app _ _ | exact ⟨.app _ _, rfl⟩ | exact .refl _ | exact ⟨.refl _, rfl⟩
    · skip
      refine sxA tok mixed Tryz.func114 ?_
      simp -implicitDefEqProofs only [go_sem, simprocAttr, UU]
      refine ax_quiet (by kernel_rfl) ?_
      simp -implicitDefEqProofs only [go_sem, simprocAttr, UU]
      refine kv (o1 _) ?_
      simp -implicitDefEqProofs only [go_sem, simprocAttr, UU, k0, k1, k2, t0, t1, t2]
      refine kv (o2 _) ?_
      simp -implicitDefEqProofs only [go_sem, simprocAttr, UU, k0, k1, k2, i0, i1, i2, partL, show Int.toNat 1 = 1 from rfl, show Int.toNat 2 = 2 from rfl, show Int.toNat 0 = 0 from rfl]
      simp -implicitDefEqProofs only [go_sem, simprocAttr, UU, res114]
      first | exact .app _ _ | exact ⟨.app _ _, rfl⟩ | exact .refl _ | exact ⟨.refl _, rfl⟩
  · rw [if_neg (by grind), if_neg (by grind)]
    rcases hc with ⟨rfl, hc⟩ | ⟨rfl, hc⟩ | ⟨rfl, hc⟩
    · rw [if_pos hc]
      refine sxA tok mixed Tryz.func114 ?_
      simp -implicitDefEqProofs only [go_sem, simprocAttr, UU]
      refine ax_quiet (by kernel_rfl) ?_
      simp -implicitDefEqProofs only [go_sem, simprocAttr, UU]
      refine kv (o1 _) ?_
      simp -implicitDefEqProofs only [go_sem, simprocAttr, UU, k0, k1, k2, t0, t1, t2]
      refine kv (o2 _) ?_
      simp -implicitDefEqProofs only [go_sem, simprocAttr, UU, k0, k1, k2, i0, i1, i2, partL, show Int.toNat 1 = 1 from rfl, show Int.toNat 2 = 2 from rfl, show Int.toNat 0 = 0 from rfl]
      simp -implicitDefEqProofs only [go_sem, simprocAttr, UU, res114]
      first | exact .app _ _ | exact ⟨.app _ _, rfl⟩ | exact .refl _ | exact ⟨.refl _, rfl⟩
    · rw [if_neg (by grind)]
      refine sxA tok mixed Tryz.func114 ?_
      simp -implicitDefEqProofs only [go_sem, simprocAttr, UU]
      refine ax_quiet (by kernel_rfl) ?_
      simp -implicitDefEqProofs only [go_sem, simprocAttr, UU]
      refine kv (o1 _) ?_
      simp -implicitDefEqProofs only [go_sem, simprocAttr, UU, k0, k1, k2, t0, t1, t2]
      refine kv (o2 _) ?_
      simp -implicitDefEqProofs only [go_sem, simprocAttr, UU, k0, k1, k2, i0, i1, i2, partL, show Int.toNat 1 = 1 from rfl, show Int.toNat 2 = 2 from rfl, show Int.toNat 0 = 0 from rfl]
      simp -implicitDefEqProofs only [go_sem, simprocAttr, UU, res114]
      first | exact .app _ _ | exact ⟨.app _ _, rfl⟩ | exact .refl _ | exact ⟨.refl _, rfl⟩
    · rw [if_neg (by grind)]
      refine sxA tok mixed Tryz.func114 ?_
      simp -implicitDefEqProofs only [go_sem, simprocAttr, UU]
      refine ax_quiet (by kernel_rfl) ?_
      simp -implicitDefEqProofs only [go_sem, simprocAttr, UU]
      refine kv (o1 _) ?_
      simp -implicitDefEqProofs only [go_sem, simprocAttr, UU, k0, k1, k2, t0, t1, t2]
      refine kv (o2 _) ?_
      simp -implicitDefEqProofs only [go_sem, simprocAttr, UU, k0, k1, k2, i0, i1, i2, partL, show Int.toNat 1 = 1 from rfl, show Int.toNat 2 = 2 from rfl, show Int.toNat 0 = 0 from rfl]
      simp -implicitDefEqProofs only [go_sem, simprocAttr, UU, res114]
      first | exact .app _ _ | exact ⟨.app _ _, rfl⟩ | exact .refl _ | exact ⟨.refl _, rfl⟩
  · rw [if_pos hs]
    rcases hc with ⟨rfl, hc⟩ | ⟨rfl, hc⟩ | ⟨rfl, hc⟩
    · skip
      refine sxA tok mixed Tryz.func114 ?_
      simp -implicitDefEqProofs only [go_sem, simprocAttr, UU]
      refine ax_quiet (by kernel_rfl) ?_
      simp -implicitDefEqProofs only [go_sem, simprocAttr, UU]
      refine kv (o1 _) ?_
      simp -implicitDefEqProofs only [go_sem, simprocAttr, UU, k0, k1, k2, t0, t1, t2]
      refine kv (o2 _) ?_
      simp -implicitDefEqProofs only [go_sem, simprocAttr, UU, k0, k1, k2, i0, i1, i2, partL, show Int.toNat 1 = 1 from rfl, show Int.toNat 2 = 2 from rfl, show Int.toNat 0 = 0 from rfl]
      simp -implicitDefEqProofs only [go_sem, simprocAttr, UU, res114]
      first | exact .app _ _ | exact ⟨.app _ _, rfl⟩ | exact .refl _ | exact ⟨.refl _, rfl⟩
    · skip
      refine sxA tok mixed Tryz.func114 ?_
      simp -implicitDefEqProofs only [go_sem, simprocAttr, UU]
      refine ax_quiet (by kernel_rfl) ?_
      simp -implicitDefEqProofs only [go_sem, simprocAttr, UU]
      refine kv (o1 _) ?_
      simp -implicitDefEqProofs only [go_sem, simprocAttr, UU, k0, k1, k2, t0, t1, t2]
      refine kv (o2 _) ?_
      simp -implicitDefEqProofs only [go_sem, simprocAttr, UU, k0, k1, k2, i0, i1, i2, partL, show Int.toNat 1 = 1 from rfl, show Int.toNat 2 = 2 from rfl, show Int.toNat 0 = 0 from rfl]
      simp -implicitDefEqProofs only [go_sem, simprocAttr, UU, res114]
      first | exact .app _ _ | exact ⟨.app _ _, rfl⟩ | exact .refl _ | exact ⟨.refl _, rfl⟩
    · skip
      refine sxA tok mixed Tryz.func114 ?_
      simp -implicitDefEqProofs only [go_sem, simprocAttr, UU]
      refine ax_quiet (by kernel_rfl) ?_
      simp -implicitDefEqProofs only [go_sem, simprocAttr, UU]
      refine kv (o1 _) ?_
      simp -implicitDefEqProofs only [go_sem, simprocAttr, UU, k0, k1, k2, t0, t1, t2]
      refine kv (o2 _) ?_
      simp -implicitDefEqProofs only [go_sem, simprocAttr, UU, k0, k1, k2, i0, i1, i2, partL, show Int.toNat 1 = 1 from rfl, show Int.toNat 2 = 2 from rfl, show Int.toNat 0 = 0 from rfl]
      simp -implicitDefEqProofs only [go_sem, simprocAttr, UU, res114]
      first | exact .app _ _ | exact ⟨.app _ _, rfl⟩ | exact .refl _ | exact ⟨.refl _, rfl⟩
theorem compareR (H : Heap) {a b : RR} {k : Nat} (ha : a.le k) (hb : b.le k) (hk : k ≤ 19000) : Sim Tryz.prog 63 #[a.val, b.val] H (.int .i64 (a.rot.cmp b.rot)) H := by
  refine flat_ex rfl ?_
  have o1 := fun H => halfR H ha (by omega)
  have o2 := fun H => halfR H hb (by omega)
  have o3 := fun H => backR H hb (by omega)
  have o4 := fun H => thenR H hb.bk (ha.mono (show k ≤ k + 8 by omega)) (by omega)
  have o5 := fun H => signQ H ((hb.bk.sz.thn ha.sz).s.qv) (by omega)
  rw [RR.bk_rot] at o4 o5
  have hd : IntKind.i64.wrap (a.rot.half - b.rot.half) = a.rot.half - b.rot.half := by
    have h1 := a.rot.half_le
    have h2 := b.rot.half_le
    exact w64 (by omega) (by omega)
  unfold Rot.cmp
  generalize a.rot.half = x at *
  generalize b.rot.half = y at *
  rw [RR.of_val] at o4
  by_cases h0 : x - y ≠ 0
  · rw [if_pos h0]
    have h1 : ¬ x - y = 0 := h0
    unfold RR.val rV at o1 o2 ⊢
    refine sxA tok mixed Tryz.func63 ?_
    simp -implicitDefEqProofs only [go_sem, simprocAttr, UU]
    refine ax_quiet (by kernel_rfl) ?_
    simp -implicitDefEqProofs only [go_sem, simprocAttr, UU]
    refine kw (o1 _) ?_
    refine kv (o2 _) ?_
    simp -implicitDefEqProofs only [go_sem, simprocAttr, UU, hd, h1, wa_cond, axC_t, axC_f]
    simp -implicitDefEqProofs only [go_sem, simprocAttr, UU, res63]
    first | exact .app _ _ | exact ⟨.app _ _, rfl⟩ | exact .refl _ | exact ⟨.refl _, rfl⟩
  · rw [if_neg h0]
    have h1 : x - y = 0 := by omega
    generalize cmpQ (b.rot.back.thn a.rot).s 0 = z at *
    generalize (b.rot.back.thn a.rot).s = ss at *
    generalize (b.rot.back.thn a.rot).c = cc at *
    unfold RR.bk at o4
    unfold RR.val rV at o1 o2 o3 o4 ⊢
    refine sxA tok mixed Tryz.func63 ?_
    simp -implicitDefEqProofs only [go_sem, simprocAttr, UU]
    refine ax_quiet (by kernel_rfl) ?_
    simp -implicitDefEqProofs only [go_sem, simprocAttr, UU]
    refine kw (o1 _) ?_
    refine kv (o2 _) ?_
    simp -implicitDefEqProofs only [go_sem, simprocAttr, UU, hd, h1, show IntKind.i64.wrap 0 = 0 from rfl, wa_cond, axC_t, axC_f]
    refine ax_quiet (by kernel_rfl) ?_
    simp -implicitDefEqProofs only [go_sem, simprocAttr, UU]
    refine kw (o3 _) ?_
    refine kv (o4 _) ?_
    simp -implicitDefEqProofs only [go_sem, simprocAttr, UU, aField, partL]
    refine kw (o5 _) ?_
    simp -implicitDefEqProofs only [go_sem, simprocAttr, UU, res63]
    first | exact .app _ _ | exact ⟨.app _ _, rfl⟩ | exact .refl _ | exact ⟨.refl _, rfl⟩
end Go.Proofs.YthhmkaikopdmjaaGreat
namespace Go.Proofs.YthhmkaikopdmjaaGreat
open Go Go.Fw
theorem neqmk (x y : Rat) : aBin tt .neq 24 (mkQ x) (mkQ y) = some (.bool (decide (x ≠ y))) := by
  have := neq24 (decide (x.num < 0)) (decide (y.num < 0)) (digB x.num.natAbs) (denB x.den) (digB y.num.natAbs) (denB y.den)
  refine Eq.trans this ?_
  congr 2
  have e : (decide (x.num < 0) = decide (y.num < 0) ∧ digB x.num.natAbs = digB y.num.natAbs ∧ denB x.den = denB y.den) ↔ x = y := by
    rw [← mkQ_inj]; unfold mkQ; rw [qV_inj]
  by_cases h : x = y
  · simp [h]
  · have h2 : ¬ (decide (x.num < 0) = decide (y.num < 0) ∧ digB x.num.natAbs = digB y.num.natAbs ∧ denB x.den = denB y.den) := fun z => h (e.1 z)
    rw [decide_eq_true h2, decide_eq_true h]
theorem rcheckQ (H : Heap) {r : RR} {k : Nat} (hr : r.le k) (hk : k ≤ 100000) : (Sim Tryz.prog 73 #[.agg #[.bool r.g, .string (bs r.n), .string (bs r.d)]] H (.int .i64 (if isCan r.g r.n r.d = true then 0 else 1)) H) ∧
    Sim Tryz.prog 73 #[.agg #[.bool r.g', .string (bs r.n'), .string (bs r.d')]] H (.int .i64 (if isCan r.g' r.n' r.d' = true then 0 else 1)) H := by
  have h1 := hr.n
  have h2 := hr.d
  have h3 := hr.n'
  have h4 := hr.d'
  exact ⟨rcheck_sim H (by omega) (by omega), rcheck_sim H (by omega) (by omega)⟩
theorem checkR (H : Heap) {r : RR} {k : Nat} (hr : r.le k) (hk : k ≤ 20000) : Sim Tryz.prog 34 #[r.val] H (.int .i64 r.err) H := by
  refine flat_ex rfl ?_
  have c1 := fun H => (rcheckQ H hr (by omega)).1
  have c2 := fun H => (rcheckQ H hr (by omega)).2
  unfold RR.err
  unfold RR.val rV
  cases i1 : isCan r.g r.n r.d
  · simp only [i1, Bool.false_and, Bool.false_eq_true, if_false] at c1 ⊢
    refine sxA tok mixed Tryz.func34 ?_
    simp -implicitDefEqProofs only [go_sem, simprocAttr, UU]
    refine kv (c1 _) ?_
    simp -implicitDefEqProofs only [go_sem, simprocAttr, UU, wa_cond, axC_t, axC_f]
    simp -implicitDefEqProofs only [go_sem, simprocAttr, UU, res34]
    first | exact .app _ _ | exact ⟨.app _ _, rfl⟩ | exact .refl _ | exact ⟨.refl _, rfl⟩
  cases i2 : isCan r.g' r.n' r.d'
  · simp only [i1, i2, Bool.and_false, Bool.false_eq_true, if_false, if_true] at c1 c2 ⊢
    refine sxA tok mixed Tryz.func34 ?_
    simp -implicitDefEqProofs only [go_sem, simprocAttr, UU]
    refine kv (c1 _) ?_
    simp -implicitDefEqProofs only [go_sem, simprocAttr, UU, wa_cond, axC_t, axC_f]
    refine kv (c2 _) ?_
    simp -implicitDefEqProofs only [go_sem, simprocAttr, UU, wa_cond, axC_t, axC_f]
    simp -implicitDefEqProofs only [go_sem, simprocAttr, UU, res34]
    first | exact .app _ _ | exact ⟨.app _ _, rfl⟩ | exact .refl _ | exact ⟨.refl _, rfl⟩
  simp only [i1, i2, Bool.and_true, if_true] at c1 c2 ⊢
  have o1 := fun H => mulQ H hr.c hr.c (by omega) (by omega)
  have o2 := fun H => mulQ H hr.s hr.s (by omega) (by omega)
  have q1 := (hr.c.sz.mul hr.c.sz).qv
  have q2 := (hr.s.sz.mul hr.s.sz).qv
  have s1 := fun {T : Heap} {b : Nat} r0 r1 => sum2 (H := T) (b := b) (c := 2) r0 r1 q1 q2 (by omega)
  have o3 := fun H => ofN_sim H (n := 1) (by decide) (by decide)
  rw [show ((1 : Int) : Rat) = 1 from rfl] at o3
  have hq := neqmk (r.rot.c * r.rot.c + r.rot.s * r.rot.s) 1
  have hok : r.rot.ok ↔ r.rot.c * r.rot.c + r.rot.s * r.rot.s = 1 := Iff.rfl
  clear q1 q2
  generalize r.rot.c * r.rot.c + r.rot.s * r.rot.s = z at *
  generalize r.rot.c * r.rot.c = p1 at *
  generalize r.rot.s * r.rot.s = p2 at *
  unfold qV at o1 o2
  unfold mkQ qV at hq
  by_cases h0 : r.rot.ok
  · have hz := hok.1 h0
    simp only [h0, if_true]
    subst hz
    simp only [ne_eq, not_true_eq_false, decide_false] at hq
    refine sxA tok mixed Tryz.func34 ?_
    simp -implicitDefEqProofs only [go_sem, simprocAttr, UU]
    refine kv (c1 _) ?_
    simp -implicitDefEqProofs only [go_sem, simprocAttr, UU, wa_cond, axC_t, axC_f]
    refine kv (c2 _) ?_
    simp -implicitDefEqProofs only [go_sem, simprocAttr, UU, wa_cond, axC_t, axC_f]
    refine ax_quiet (by kernel_rfl) ?_
    simp -implicitDefEqProofs only [go_sem, simprocAttr, UU]
    refine kw (o1 _) ?_
    refine kv (o2 _) ?_
    simp -implicitDefEqProofs only [go_sem, simprocAttr, UU, build125]
    refine wl_callV #[.slice (some ⟨H.length + 1, 0, none⟩) 2 2] (by simp -implicitDefEqProofs only [go_sem, simprocAttr, UU]) (s1 (b := H.length + 1) (by simp -implicitDefEqProofs only [go_sem, simprocAttr, UU]) (by simp -implicitDefEqProofs only [go_sem, simprocAttr, UU])) ?_
    simp -implicitDefEqProofs only [go_sem, simprocAttr, UU]
    refine kv (o3 _) ?_
    simp -implicitDefEqProofs only [go_sem, simprocAttr, UU, hq, wa_cond, axC_t, axC_f]
    simp -implicitDefEqProofs only [go_sem, simprocAttr, UU, res34]
    first | exact .app _ _ | exact ⟨.app _ _, rfl⟩ | exact .refl _ | exact ⟨.refl _, rfl⟩
  · have hz : ¬ z = 1 := fun h => h0 (hok.2 h)
    simp only [h0, if_false]
    simp only [ne_eq, hz, not_false_eq_true, decide_true] at hq
    refine sxA tok mixed Tryz.func34 ?_
    simp -implicitDefEqProofs only [go_sem, simprocAttr, UU]
    refine kv (c1 _) ?_
    simp -implicitDefEqProofs only [go_sem, simprocAttr, UU, wa_cond, axC_t, axC_f]
    refine kv (c2 _) ?_
    simp -implicitDefEqProofs only [go_sem, simprocAttr, UU, wa_cond, axC_t, axC_f]
    refine ax_quiet (by kernel_rfl) ?_
    simp -implicitDefEqProofs only [go_sem, simprocAttr, UU]
    refine kw (o1 _) ?_
    refine kv (o2 _) ?_
    simp -implicitDefEqProofs only [go_sem, simprocAttr, UU, build125]
    refine wl_callV #[.slice (some ⟨H.length + 1, 0, none⟩) 2 2] (by simp -implicitDefEqProofs only [go_sem, simprocAttr, UU]) (s1 (b := H.length + 1) (by simp -implicitDefEqProofs only [go_sem, simprocAttr, UU]) (by simp -implicitDefEqProofs only [go_sem, simprocAttr, UU])) ?_
    simp -implicitDefEqProofs only [go_sem, simprocAttr, UU]
    refine kv (o3 _) ?_
    simp -implicitDefEqProofs only [go_sem, simprocAttr, UU, hq, wa_cond, axC_t, axC_f]
    simp -implicitDefEqProofs only [go_sem, simprocAttr, UU, res34]
    first | exact .app _ _ | exact ⟨.app _ _, rfl⟩ | exact .refl _ | exact ⟨.refl _, rfl⟩
end Go.Proofs.YthhmkaikopdmjaaGreat
namespace Go.Proofs.YthhmkaikopdmjaaGreat
open Go Go.Fw
def badR (l : List RR) : Bool := l.any fun r => decide (r.err ≠ 0)
theorem badR_take {l : List RR} {i : Nat} (h : i < l.length) (h0 : badR (l.take i) = false) (h1 : l[i].err = 0) : badR (l.take (i + 1)) = false := by
  unfold badR at *
  rw [List.take_add_one, List.getElem?_eq_getElem h, Option.toList_some, List.any_append, h0]
  simp [h1]
theorem badR_at {l : List RR} {i : Nat} (h : i < l.length) (h1 : ¬ l[i].err = 0) : badR l = true := by
  unfold badR
  rw [List.any_eq_true]
  exact ⟨_, List.getElem_mem h, by simpa using h1⟩
theorem wrongR {H : Heap} {b i0 c k : Nat} {l : List RR} (hrd : ∀ i (h : i < l.length), rd H b (i0 + i * 6) 6 = some l[i].cells) (hle : ∀ r ∈ l, r.le k) (hk : k ≤ 20000) (hl : l.length ≤ 100000) :
    Sim Tryz.prog 58 #[.slice (some ⟨b, i0, none⟩) l.length c] H (.bool (badR l)) H := by
  refine flat_ex rfl ?_
  refine sxA tok mixed Tryz.func58 ?_
  simp -implicitDefEqProofs only [go_sem, simprocAttr, aLen]
  refine ax_loopx (fun (i : Nat) s T => ∃ (G : Heap), s 5 = .slice (some ⟨b, i0, none⟩) l.length c ∧ s 6 = .int .i64 (l.length : Nat) ∧ s 7 = .int .i64 (i : Nat) ∧ i ≤ l.length ∧ badR (l.take i) = false ∧ T = H ++ G) (fun i => l.length - i) 0 ?_ ?_
  · refine ⟨[], ?_⟩
    simp -implicitDefEqProofs only [go_sem, simprocAttr]
    rfl
  rintro i s T ⟨G, s5, s6, s7, hi, hb, hT⟩
  subst T
  simp -implicitDefEqProofs only [go_sem, simprocAttr, s6, s7]
  refine ax_cond2 ?_
  simp only [ev_tmp, ev_const, ev_func, upd_at, put_some, put_none, bndB_bool, Nat.reduceEqDiff, if_true, if_false, ↓reduceIte, reduceCtorEq]
  refine ⟨fun hc0 => have hlt := of_decide_eq_true hc0; ?_, fun hc0 => have hlt := of_decide_eq_false hc0; ?_⟩
  · have hil : i < l.length := by omega
    have hr := fun G => rd_more (hrd i hil) G
    have hc := fun H => checkR H (hle _ (List.getElem_mem hil)) hk
    unfold RR.cells at hr
    unfold RR.val rV at hc
    have hnn : (0 : Int) ≤ (i : Int) := by omega
    have hbt := fun h1 => badR_take hil hb h1
    have hba := fun h1 => badR_at hil h1
    generalize l[i] = r at *
    have w1 : IntKind.i64.wrap ((i : Int) + 1) = ((i + 1 : Nat) : Int) := by rw [w64 (by omega) (by omega)]; rfl
    simp -implicitDefEqProofs only [go_sem, simprocAttr, s5, s7, aIndexAddr, hlt, hnn, hr]
    refine kv (hc _) ?_
    by_cases h0 : r.err = 0
    · simp -implicitDefEqProofs only [go_sem, simprocAttr, wa_cond, axC_t, axC_f, h0, s5, s6, s7, w1]
      exact ⟨i + 1, ⟨_, rfl, by omega, hbt h0, rfl⟩, by omega⟩
    · simp -implicitDefEqProofs only [go_sem, simprocAttr, wa_cond, axC_t, axC_f, h0, res58]
      rw [hba h0]
      first | exact .app _ _ | exact ⟨.app _ _, rfl⟩
  · have hil : i = l.length := by omega
    subst hil
    rw [List.take_length] at hb
    rw [hb]
    simp -implicitDefEqProofs only [go_sem, simprocAttr, res58]
    first | exact .app _ _ | exact ⟨.app _ _, rfl⟩
theorem wrong1 {a : RR} {k : Nat} (ha : a.le k) (hk : k ≤ 20000) {T : Heap} {b : Nat} (r0 : rd T b 0 6 = some a.cells) : Sim Tryz.prog 58 #[.slice (some ⟨b, 0, none⟩) 1 1] T (.bool (decide (a.err ≠ 0))) T := by
  have := wrongR (H := T) (b := b) (i0 := 0) (c := 1) (l := [a]) (k := k) (fun i h => by
    have : i = 0 := by simp at h; omega
    subst this; exact r0) (fun r hr => by simp at hr; subst hr; exact ha) hk (by simp)
  simpa [badR] using this
theorem wrong2 {a b : RR} {k : Nat} (ha : a.le k) (hb : b.le k) (hk : k ≤ 20000) {T : Heap} {bb : Nat} (r0 : rd T bb 0 6 = some a.cells) (r1 : rd T bb 6 6 = some b.cells) : Sim Tryz.prog 58 #[.slice (some ⟨bb, 0, none⟩) 2 2] T (.bool (decide (a.err ≠ 0 ∨ b.err ≠ 0))) T := by
  have := wrongR (H := T) (b := bb) (i0 := 0) (c := 2) (l := [a, b]) (k := k) (fun i h => by
    have : i = 0 ∨ i = 1 := by simp at h; omega
    rcases this with rfl | rfl
    · exact r0
    · exact r1) (fun r hr => by simp at hr; rcases hr with rfl | rfl <;> assumption) hk (by simp)
  simpa [badR, Bool.decide_or] using this
end Go.Proofs.YthhmkaikopdmjaaGreat
namespace Go.Proofs.YthhmkaikopdmjaaGreat
open Go Go.Fw
theorem build22_1 (H : Heap) (a b c d e f : Value) : aBuildSlice tt H 22 1 [(0, .agg #[a, b, c, d, e, f])] = some (.slice (some ⟨H.length, 0, none⟩) 1 1, H ++ [⟨[a, b, c, d, e, f], 6, true⟩]) := rfl
theorem build22_2 (H : Heap) (a b c d e f a' b' c' d' e' f' : Value) : aBuildSlice tt H 22 2 [(0, .agg #[a, b, c, d, e, f]), (1, .agg #[a', b', c', d', e', f'])] = some (.slice (some ⟨H.length, 0, none⟩) 2 2, H ++ [⟨[a, b, c, d, e, f, a', b', c', d', e', f'], 6, true⟩]) := rfl
def zeroR : Value := rV false [] [] false [] []
theorem ThenR (H : Heap) {a b : RR} {k : Nat} (ha : a.le k) (hb : b.le k) (hk : k ≤ 20000) :
    Sim Tryz.prog 19 #[a.val, b.val] H (if a.err ≠ 0 ∨ b.err ≠ 0 then .tuple #[zeroR, .int .i64 1] else .tuple #[(RR.of (a.rot.thn b.rot)).val, .int .i64 0]) H := by
  refine flat_ex (by split <;> rfl) ?_
  have w := fun {T : Heap} {b1 : Nat} r0 r1 => wrong2 ha hb hk (T := T) (bb := b1) r0 r1
  have w := fun {T : Heap} {b : Nat} r0 r1 => @w T b r0 r1
  have o1 := fun H => thenR H ha hb hk
  rw [RR.of_val] at o1 ⊢
  unfold zeroR
  unfold RR.cells at w
  unfold RR.val rV at o1 ⊢
  by_cases h : a.err ≠ 0 ∨ b.err ≠ 0
  · rw [if_pos h]
    rw [decide_eq_true h] at w
    refine sxA tok mixed Tryz.func19 ?_
    simp -implicitDefEqProofs only [go_sem, simprocAttr, UU, build22_2]
    refine wl_callV #[.slice (some ⟨H.length + 3, 0, none⟩) 2 2] (by simp -implicitDefEqProofs only [go_sem, simprocAttr, UU, wa_cond, axC_t, axC_f]) (w (b := H.length + 3) (by simp -implicitDefEqProofs only [go_sem, simprocAttr, UU, wa_cond, axC_t, axC_f]) (by simp -implicitDefEqProofs only [go_sem, simprocAttr, UU, wa_cond, axC_t, axC_f])) ?_
    simp -implicitDefEqProofs only [go_sem, simprocAttr, UU, wa_cond, axC_t, axC_f]
    simp -implicitDefEqProofs only [go_sem, simprocAttr, UU, res19]
    first | exact .app _ _ | exact ⟨.app _ _, rfl⟩ | exact .refl _ | exact ⟨.refl _, rfl⟩
  · rw [if_neg h]
    rw [decide_eq_false h] at w
    refine sxA tok mixed Tryz.func19 ?_
    simp -implicitDefEqProofs only [go_sem, simprocAttr, UU, build22_2]
    refine wl_callV #[.slice (some ⟨H.length + 3, 0, none⟩) 2 2] (by simp -implicitDefEqProofs only [go_sem, simprocAttr, UU, wa_cond, axC_t, axC_f]) (w (b := H.length + 3) (by simp -implicitDefEqProofs only [go_sem, simprocAttr, UU, wa_cond, axC_t, axC_f]) (by simp -implicitDefEqProofs only [go_sem, simprocAttr, UU, wa_cond, axC_t, axC_f])) ?_
    simp -implicitDefEqProofs only [go_sem, simprocAttr, UU, wa_cond, axC_t, axC_f]
    refine kw (o1 _) ?_
    simp -implicitDefEqProofs only [go_sem, simprocAttr, UU, res19]
    first | exact .app _ _ | exact ⟨.app _ _, rfl⟩ | exact .refl _ | exact ⟨.refl _, rfl⟩
theorem CompareR (H : Heap) {a b : RR} {k : Nat} (ha : a.le k) (hb : b.le k) (hk : k ≤ 19000) :
    Sim Tryz.prog 109 #[a.val, b.val] H (if a.err ≠ 0 ∨ b.err ≠ 0 then .tuple #[.int .i64 0, .int .i64 1] else .tuple #[.int .i64 (a.rot.cmp b.rot), .int .i64 0]) H := by
  refine flat_ex (by split <;> rfl) ?_
  have w := fun {T : Heap} {b1 : Nat} r0 r1 => wrong2 ha hb (by omega) (T := T) (bb := b1) r0 r1
  have w := fun {T : Heap} {b : Nat} r0 r1 => @w T b r0 r1
  have o1 := fun H => compareR H ha hb hk
  generalize a.rot.cmp b.rot = z at *
  unfold RR.cells at w
  unfold RR.val rV at o1 ⊢
  by_cases h : a.err ≠ 0 ∨ b.err ≠ 0
  · rw [if_pos h]
    rw [decide_eq_true h] at w
    refine sxA tok mixed Tryz.func109 ?_
    simp -implicitDefEqProofs only [go_sem, simprocAttr, UU, build22_2]
    refine wl_callV #[.slice (some ⟨H.length + 2, 0, none⟩) 2 2] (by simp -implicitDefEqProofs only [go_sem, simprocAttr, UU, wa_cond, axC_t, axC_f]) (w (b := H.length + 2) (by simp -implicitDefEqProofs only [go_sem, simprocAttr, UU, wa_cond, axC_t, axC_f]) (by simp -implicitDefEqProofs only [go_sem, simprocAttr, UU, wa_cond, axC_t, axC_f])) ?_
    simp -implicitDefEqProofs only [go_sem, simprocAttr, UU, wa_cond, axC_t, axC_f]
    simp -implicitDefEqProofs only [go_sem, simprocAttr, UU, res109]
    first | exact .app _ _ | exact ⟨.app _ _, rfl⟩ | exact .refl _ | exact ⟨.refl _, rfl⟩
  · rw [if_neg h]
    rw [decide_eq_false h] at w
    refine sxA tok mixed Tryz.func109 ?_
    simp -implicitDefEqProofs only [go_sem, simprocAttr, UU, build22_2]
    refine wl_callV #[.slice (some ⟨H.length + 2, 0, none⟩) 2 2] (by simp -implicitDefEqProofs only [go_sem, simprocAttr, UU, wa_cond, axC_t, axC_f]) (w (b := H.length + 2) (by simp -implicitDefEqProofs only [go_sem, simprocAttr, UU, wa_cond, axC_t, axC_f]) (by simp -implicitDefEqProofs only [go_sem, simprocAttr, UU, wa_cond, axC_t, axC_f])) ?_
    simp -implicitDefEqProofs only [go_sem, simprocAttr, UU, wa_cond, axC_t, axC_f]
    refine kw (o1 _) ?_
    simp -implicitDefEqProofs only [go_sem, simprocAttr, UU, res109]
    first | exact .app _ _ | exact ⟨.app _ _, rfl⟩ | exact .refl _ | exact ⟨.refl _, rfl⟩
theorem OfR (H : Heap) {v : Value} {t : Rat} {k : Nat} (hv : QV v t k) (hk : k ≤ 20000) : Sim Tryz.prog 46 #[v] H (RR.of (Rot.ofT t)).val H := by
  refine flat_ex rfl ?_
  have o1 := fun H => ofN_sim H (n := 1) (by decide) (by decide)
  rw [show ((1 : Int) : Rat) = 1 from rfl] at o1
  have o2 := fun H => mulQ H hv hv (by omega) (by omega)
  have z1 := (sz_one (k := 2) (by decide)).qv.mono (show 2 + 7 ≤ 2 * k + 9 by omega)
  have z2 := (hv.sz.mul hv.sz).qv.mono (show k + 1 + (k + 1) + 7 ≤ 2 * k + 9 by omega)
  have s1 := fun {T : Heap} {b : Nat} r0 r1 => sum2 (H := T) (b := b) (c := 2) r0 r1 z1 z2 (by omega)
  have o3 := fun H => subQ H z1 z2 (by omega) (by omega)
  have z3 := ((sz_one (k := 2) (by decide)).add (hv.sz.mul hv.sz)).qv
  have z4 := ((sz_one (k := 2) (by decide)).sub (hv.sz.mul hv.sz)).qv
  have o4 := fun H => overQ H z4 z3 (by omega) (by omega)
  have z5 := (hv.sz.add hv.sz).qv
  have o5 := fun H => overQ H z5 z3 (by omega) (by omega)
  obtain ⟨g, n, d, rfl, ht, h1, h2⟩ := hv
  have hv2 : QV (qV g n d) t k := ⟨_, _, _, rfl, ht, h1, h2⟩
  have s2 := fun {T : Heap} {b : Nat} r0 r1 => sum2 (H := T) (b := b) (c := 2) r0 r1 hv2 hv2 (by omega)
  rw [RR.of_val]
  unfold Rot.ofT
  clear z1 z2 z3 z4 z5 ht
  simp only
  generalize (1 - t * t) / (1 + t * t) = x at *
  generalize (t + t) / (1 + t * t) = y at *
  generalize 1 + t * t = al at *
  generalize 1 - t * t = mi at *
  generalize t + t = tw at *
  generalize t * t = sq at *
  unfold qV at o2 ⊢
  refine sxA tok mixed Tryz.func46 ?_
  simp -implicitDefEqProofs only [go_sem, simprocAttr, UU]
  refine ax_quiet (by kernel_rfl) ?_
  simp -implicitDefEqProofs only [go_sem, simprocAttr, UU]
  refine kw (o1 _) ?_
  refine kv (o2 _) ?_
  simp -implicitDefEqProofs only [go_sem, simprocAttr, UU, build125]
  refine wl_callV #[.slice (some ⟨H.length + 4, 0, none⟩) 2 2] (by simp -implicitDefEqProofs only [go_sem, simprocAttr, UU]) (s1 (b := H.length + 4) (by simp -implicitDefEqProofs only [go_sem, simprocAttr, UU]) (by simp -implicitDefEqProofs only [go_sem, simprocAttr, UU])) ?_
  simp -implicitDefEqProofs only [go_sem, simprocAttr, UU]
  refine ax_quiet (by kernel_rfl) ?_
  simp -implicitDefEqProofs only [go_sem, simprocAttr, UU]
  refine kw (o3 _) ?_
  refine kv (o4 _) ?_
  simp -implicitDefEqProofs only [go_sem, simprocAttr, UU, build125]
  refine wl_callV #[.slice (some ⟨H.length + 6, 0, none⟩) 2 2] (by simp -implicitDefEqProofs only [go_sem, simprocAttr, UU]) (s2 (b := H.length + 6) (by simp -implicitDefEqProofs only [go_sem, simprocAttr, UU]) (by simp -implicitDefEqProofs only [go_sem, simprocAttr, UU])) ?_
  simp -implicitDefEqProofs only [go_sem, simprocAttr, UU]
  refine kw (o5 _) ?_
  simp -implicitDefEqProofs only [go_sem, simprocAttr, UU, res46]
  first | exact .app _ _ | exact ⟨.app _ _, rfl⟩ | exact .refl _ | exact ⟨.refl _, rfl⟩
end Go.Proofs.YthhmkaikopdmjaaGreat
namespace Go.Proofs.YthhmkaikopdmjaaGreat
open Go Go.Fw
theorem TangentR (H : Heap) {r : RR} {k : Nat} (hr : r.le k) (hk : k ≤ 20000) (he : r.err = 0) (hc : 1 + r.rot.c ≠ 0) :
    Sim Tryz.prog 116 #[r.val] H (.tuple #[mkQ (r.rot.s / (1 + r.rot.c)), .int .i64 0]) H := by
  refine flat_ex rfl ?_
  have w := fun {T : Heap} {b1 : Nat} r0 => wrong1 hr hk (T := T) (b := b1) r0
  have w := fun {T : Heap} {b : Nat} r0 => @w T b r0
  have o1 := fun H => ofN_sim H (n := 1) (by decide) (by decide)
  rw [show ((1 : Int) : Rat) = 1 from rfl] at o1
  have z1 := (sz_one (k := 2) (by decide)).qv.mono (show 2 + 7 ≤ k + 9 by omega)
  have z2 := hr.c.mono (show k ≤ k + 9 by omega)
  have s1 := fun {T : Heap} {b : Nat} r0 r1 => sum2 (H := T) (b := b) (c := 2) r0 r1 z1 z2 (by omega)
  have z3 := ((sz_one (k := 2) (by decide)).add hr.c.sz).qv
  have o2 := fun H => signQ H z3 (by omega)
  have hz : ¬ cmpQ (1 + r.rot.c) 0 = 0 := fun h => hc (cmpQ_zero_eq.1 h)
  have o3 := fun H => overQ H hr.s z3 (by omega) (by omega)
  rw [he] at w
  simp only [ne_eq, not_true_eq_false, decide_false] at w
  clear z1 z2 z3
  generalize r.rot.s / (1 + r.rot.c) = t at *
  generalize cmpQ (1 + r.rot.c) 0 = c at *
  generalize 1 + r.rot.c = al at *
  unfold RR.cells at w
  unfold qV at o3
  unfold RR.val rV
  refine sxA tok mixed Tryz.func116 ?_
  simp -implicitDefEqProofs only [go_sem, simprocAttr, UU, build22_1]
  refine wl_callV #[.slice (some ⟨H.length + 2, 0, none⟩) 1 1] (by simp -implicitDefEqProofs only [go_sem, simprocAttr, UU, wa_cond, axC_t, axC_f]) (w (b := H.length + 2) (by simp -implicitDefEqProofs only [go_sem, simprocAttr, UU, wa_cond, axC_t, axC_f])) ?_
  simp -implicitDefEqProofs only [go_sem, simprocAttr, UU, wa_cond, axC_t, axC_f]
  refine ax_quiet (by kernel_rfl) ?_
  simp -implicitDefEqProofs only [go_sem, simprocAttr, UU]
  refine kv (o1 _) ?_
  simp -implicitDefEqProofs only [go_sem, simprocAttr, UU, build125]
  refine wl_callV #[.slice (some ⟨H.length + 3, 0, none⟩) 2 2] (by simp -implicitDefEqProofs only [go_sem, simprocAttr, UU]) (s1 (b := H.length + 3) (by simp -implicitDefEqProofs only [go_sem, simprocAttr, UU]) (by simp -implicitDefEqProofs only [go_sem, simprocAttr, UU])) ?_
  simp -implicitDefEqProofs only [go_sem, simprocAttr, UU]
  refine kv (o2 _) ?_
  simp -implicitDefEqProofs only [go_sem, simprocAttr, UU, hz, wa_cond, axC_t, axC_f]
  refine kw (o3 _) ?_
  simp -implicitDefEqProofs only [go_sem, simprocAttr, UU, res116]
  first | exact .app _ _ | exact ⟨.app _ _, rfl⟩ | exact .refl _ | exact ⟨.refl _, rfl⟩
theorem eq26 (a b : RR) : aBin tt .eql 26 (.agg #[.bool a.g, .string (bs a.n), .string (bs a.d), .bool a.g', .string (bs a.n'), .string (bs a.d')]) (.agg #[.bool b.g, .string (bs b.n), .string (bs b.d), .bool b.g', .string (bs b.n'), .string (bs b.d')]) = some (.bool (decide (a = b))) := by
  have e : aBin tt .eql 26 (.agg #[.bool a.g, .string (bs a.n), .string (bs a.d), .bool a.g', .string (bs a.n'), .string (bs a.d')]) (.agg #[.bool b.g, .string (bs b.n), .string (bs b.d), .bool b.g', .string (bs b.n'), .string (bs b.d')]) =
    some (.bool ((a.g == b.g) && ((bs a.n == bs b.n) && ((bs a.d == bs b.d) && ((a.g' == b.g') && ((bs a.n' == bs b.n') && ((bs a.d' == bs b.d') && true))))))) := rfl
  rw [e]
  congr 2
  obtain ⟨g, n, d, g', n', d'⟩ := a
  obtain ⟨h, m, c, h', m', c'⟩ := b
  simp only [bs_beq, RR.mk.injEq]
  by_cases h1 : g = h <;> by_cases h2 : n = m <;> by_cases h3 : d = c <;> by_cases h4 : g' = h' <;> by_cases h5 : n' = m' <;> by_cases h6 : d' = c' <;> simp [h1, h2, h3, h4, h5, h6]
theorem quarterR_val : (RR.of ⟨0, 1⟩).val = .agg #[.bool false, .string (bs []), .string (bs []), .bool (decide ((1 : Rat).num < 0)), .string (bs (digB (1 : Rat).num.natAbs)), .string (bs (denB (1 : Rat).den))] := by
  have h := mkQ_zero
  unfold mkQ at h
  obtain ⟨h1, h2, h3⟩ := qV_inj.1 h
  unfold RR.of RR.val rV
  simp only [h1, h2, h3]
theorem MiddleR (H : Heap) {a b : RR} {k : Nat} (ha : a.le k) (hb : b.le k) (hk : k ≤ 180) (ea : a.err = 0) (eb : b.err = 0) (hne : a.rot ≠ b.rot) :
    Sim Tryz.prog 66 #[a.val, b.val] H (.tuple #[(RR.of (Rot.mid a.rot b.rot)).val, .int .i64 0]) H := by
  refine flat_ex rfl ?_
  have w := fun {T : Heap} {b1 : Nat} r0 r1 => wrong2 ha hb (by omega) (T := T) (bb := b1) r0 r1
  have w := fun {T : Heap} {b : Nat} r0 r1 => @w T b r0 r1
  rw [ea, eb] at w
  simp only [ne_eq, not_true_eq_false, or_self, decide_false] at w
  have hq := eq26 a b
  rw [decide_eq_false (fun h : a = b => hne (by rw [h]))] at hq
  have o1 := fun H => backR H ha (by omega)
  have o2 := fun H => thenR H ha.bk (hb.mono (show k ≤ k + 8 by omega)) (by omega)
  rw [RR.bk_rot] at o2
  have oka := (RR.err_zero.1 ea).2
  have okb := (RR.err_zero.1 eb).2
  have okd : (a.rot.back.thn b.rot).ok := Rot.thn_ok (Rot.back_ok oka) okb
  have zd : (a.rot.back.thn b.rot).Sz (4 * k + 21) := by
    have := ha.bk.sz.thn hb.sz
    rw [RR.bk_rot] at this
    exact this.mono (by omega)
  have o3 := fun H => halfR H zd.le (by omega)
  rw [RR.of_rot] at o3
  unfold Rot.mid
  have hhalf := Rot.half_one okd
  generalize hdd : a.rot.back.thn b.rot = d at *
  unfold RR.cells at w
  unfold RR.bk at o2
  have o4 := fun H => ofN_sim H (n := 1) (by decide) (by decide)
  rw [show ((1 : Int) : Rat) = 1 from rfl] at o4
  by_cases hh : d.half = 1
  · rw [if_pos hh]
    have hq0 : (Rot.mk 0 1).Sz 2 := ⟨⟨by decide, by decide⟩, sz_one (by decide)⟩
    have o5 := fun H => thenR H (ha.mono (show k ≤ k + 9 by omega)) (hq0.le.mono (show 2 + 7 ≤ k + 9 by omega)) (by omega)
    rw [RR.of_rot, quarterR_val] at o5
    rw [RR.of_val] at o5 o2 o3 ⊢
    generalize (a.rot.thn ⟨0, 1⟩).c = x at *
    generalize (a.rot.thn ⟨0, 1⟩).s = y at *
    generalize d.half = z at *
    generalize d.c = dc at *
    generalize d.s = ds at *
    unfold RR.val rV at o1 o2 o5 ⊢
    refine sxA tok mixed Tryz.func66 ?_
    simp -implicitDefEqProofs only [go_sem, simprocAttr, UU, build22_2]
    refine wl_callV #[.slice (some ⟨H.length + 3, 0, none⟩) 2 2] (by simp -implicitDefEqProofs only [go_sem, simprocAttr, UU, hq, wa_cond, axC_t, axC_f]) (w (b := H.length + 3) (by simp -implicitDefEqProofs only [go_sem, simprocAttr, UU, hq, wa_cond, axC_t, axC_f]) (by simp -implicitDefEqProofs only [go_sem, simprocAttr, UU, hq, wa_cond, axC_t, axC_f])) ?_
    simp -implicitDefEqProofs only [go_sem, simprocAttr, UU, hq, wa_cond, axC_t, axC_f]
    refine ax_quiet (by kernel_rfl) ?_
    simp -implicitDefEqProofs only [go_sem, simprocAttr, UU]
    refine kw (o1 _) ?_
    refine kw (o2 _) ?_
    refine kv (o3 _) ?_
    simp -implicitDefEqProofs only [go_sem, simprocAttr, UU, hh, wa_cond, axC_t, axC_f]
    refine ax_quiet (by kernel_rfl) ?_
    simp -implicitDefEqProofs only [go_sem, simprocAttr, UU]
    refine kw (o4 _) ?_
    refine kw (o5 _) ?_
    simp -implicitDefEqProofs only [go_sem, simprocAttr, UU, res66]
    first | exact .app _ _ | exact ⟨.app _ _, rfl⟩ | exact .refl _ | exact ⟨.refl _, rfl⟩
  · rw [if_neg hh]
    obtain ⟨hs0, hc0, hc1⟩ := hhalf hh
    have o6 := fun H => TangentR H zd.le (by omega) (by rw [RR.err_of, if_pos okd]) (by rw [RR.of_rot]; exact hc0)
    rw [RR.of_rot] at o6
    have o7 := fun H => ofN_sim H (n := 3) (by decide) (by decide)
    have hpos : 0 ≤ d.s / (1 + d.c) := by
      rw [Rat.div_def]
      exact Rat.mul_nonneg hs0 (Rat.le_of_lt (Rat.inv_pos.2 hc1))
    have zt := zd.s.div ((sz_one (k := 2) (by decide)).add zd.c) (by omega)
    have z3 := Sz.int (z := 3) (k := 2) (by decide) (by decide)
    have o8 := fun H => overQ H zt.qv z3.qv (by omega) (by decide)
    rw [show ((3 : Int) : Rat) = 3 from rfl] at o7 o8 z3
    have zth := zt.div z3 (by decide)
    generalize hth : d.s / (1 + d.c) / 3 = th at *
    have hth0 : 0 ≤ th := by
      rw [← hth, Rat.div_def]
      exact Rat.mul_nonneg hpos (Rat.le_of_lt (Rat.inv_pos.2 (by decide)))
    have s1 := fun {T : Heap} {b : Nat} r0 r1 => sum2 (H := T) (b := b) (c := 2) r0 r1 zth.qv zth.qv (by omega)
    have o9 := fun H => smpR H (zth.mono (show 4 * k + 21 + (2 + (4 * k + 21) + 1) + 2 ≤ 16 * k + 100 by omega)).qv ((zth.add zth).mono (show _ ≤ 16 * k + 100 by omega)).qv (by omega)
    simp only [show ¬ th + th < th by grind, if_false] at o9
    have zs := Sz.smp (a := th) (b := th + th) (k := 16 * k + 100) (by grind) (zth.mono (by omega)) ((zth.add zth).mono (by omega)) (by omega)
    generalize smpQ th (th + th) = sm at *
    have o10 := fun H => OfR H zs.qv (by omega)
    have zo := Rot.Sz.ofT zs
    have o11 := fun H => thenR H (ha.mono (show k ≤ 6 * (16 * k + 100) + 12 + 7 by omega)) zo.le (by omega)
    rw [RR.of_rot] at o11
    rw [RR.of_val] at o2 o3 o6 o10 o11 ⊢
    rw [RR.of_val] at o11
    clear zs zo zth zt z3 hpos hth0 hs0 hc0 hc1
    generalize (a.rot.thn (Rot.ofT sm)).c = x at *
    generalize (a.rot.thn (Rot.ofT sm)).s = y at *
    generalize (Rot.ofT sm).c = oc at *
    generalize (Rot.ofT sm).s = os at *
    generalize th + th = th2 at *
    generalize d.s / (1 + d.c) = t at *
    generalize d.half = z at *
    generalize d.c = dc at *
    generalize d.s = ds at *
    unfold RR.val rV at o1 o2 o11 ⊢
    refine sxA tok mixed Tryz.func66 ?_
    simp -implicitDefEqProofs only [go_sem, simprocAttr, UU, build22_2]
    refine wl_callV #[.slice (some ⟨H.length + 3, 0, none⟩) 2 2] (by simp -implicitDefEqProofs only [go_sem, simprocAttr, UU, hq, wa_cond, axC_t, axC_f]) (w (b := H.length + 3) (by simp -implicitDefEqProofs only [go_sem, simprocAttr, UU, hq, wa_cond, axC_t, axC_f]) (by simp -implicitDefEqProofs only [go_sem, simprocAttr, UU, hq, wa_cond, axC_t, axC_f])) ?_
    simp -implicitDefEqProofs only [go_sem, simprocAttr, UU, hq, wa_cond, axC_t, axC_f]
    refine ax_quiet (by kernel_rfl) ?_
    simp -implicitDefEqProofs only [go_sem, simprocAttr, UU]
    refine kw (o1 _) ?_
    refine kw (o2 _) ?_
    refine kv (o3 _) ?_
    simp -implicitDefEqProofs only [go_sem, simprocAttr, UU, hh, wa_cond, axC_t, axC_f]
    refine kw (o6 _) ?_
    refine ax_quiet (by kernel_rfl) ?_
    simp -implicitDefEqProofs only [go_sem, simprocAttr, UU]
    refine kw (o7 _) ?_
    refine kw (o8 _) ?_
    refine ax_quiet (by kernel_rfl) ?_
    simp -implicitDefEqProofs only [go_sem, simprocAttr, UU, build125]
    refine wl_callV #[.slice (some ⟨H.length + 7, 0, none⟩) 2 2] (by simp -implicitDefEqProofs only [go_sem, simprocAttr, UU]) (s1 (b := H.length + 7) (by simp -implicitDefEqProofs only [go_sem, simprocAttr, UU]) (by simp -implicitDefEqProofs only [go_sem, simprocAttr, UU])) ?_
    simp -implicitDefEqProofs only [go_sem, simprocAttr, UU]
    refine kw (o9 _) ?_
    refine ax_quiet (by kernel_rfl) ?_
    simp -implicitDefEqProofs only [go_sem, simprocAttr, UU]
    refine kw (o10 _) ?_
    refine kw (o11 _) ?_
    simp -implicitDefEqProofs only [go_sem, simprocAttr, UU, res66]
    first | exact .app _ _ | exact ⟨.app _ _, rfl⟩ | exact .refl _ | exact ⟨.refl _, rfl⟩
end Go.Proofs.YthhmkaikopdmjaaGreat
namespace Go.Proofs.YthhmkaikopdmjaaGreat
open Go Go.Fw
def cmpS (a b : RR) : Int := if a.err ≠ 0 ∨ b.err ≠ 0 then 0 else a.rot.cmp b.rot
theorem compareS (H : Heap) {a b : RR} {k : Nat} (ha : a.le k) (hb : b.le k) (hk : k ≤ 19000) : Sim Tryz.prog 54 #[a.val, b.val] H (.int .i64 (cmpS a b)) H := by
  refine flat_ex rfl ?_
  obtain ⟨e, o1⟩ : ∃ e : Int, ∀ H, Sim Tryz.prog 109 #[a.val, b.val] H (.tuple #[.int .i64 (cmpS a b), .int .i64 e]) H := by
    unfold cmpS
    by_cases h : a.err ≠ 0 ∨ b.err ≠ 0
    · refine ⟨1, fun H => ?_⟩
      have := CompareR H ha hb hk
      rw [if_pos h] at this ⊢
      exact this
    · refine ⟨0, fun H => ?_⟩
      have := CompareR H ha hb hk
      rw [if_neg h] at this ⊢
      exact this
  generalize cmpS a b = z at *
  unfold RR.val rV at o1 ⊢
  refine sxA tok mixed Tryz.func54 ?_
  simp -implicitDefEqProofs only [go_sem, simprocAttr, UU]
  refine kw (o1 _) ?_
  simp -implicitDefEqProofs only [go_sem, simprocAttr, UU, res54]
  first | exact .app _ _ | exact ⟨.app _ _, rfl⟩ | exact .refl _ | exact ⟨.refl _, rfl⟩
theorem neq26 (a b : RR) : aBin tt .neq 26 (.agg #[.bool a.g, .string (bs a.n), .string (bs a.d), .bool a.g', .string (bs a.n'), .string (bs a.d')]) (.agg #[.bool b.g, .string (bs b.n), .string (bs b.d), .bool b.g', .string (bs b.n'), .string (bs b.d')]) = some (.bool (decide (¬ a = b))) := by
  have h := eq26 a b
  have e : ∀ x y c, aBin tt .eql 26 (.agg x) (.agg y) = some (.bool c) → aBin tt .neq 26 (.agg x) (.agg y) = some (.bool !c) := by
    intro x y c h
    unfold aBin at h ⊢
    simp only [Option.map_eq_some_iff] at h ⊢
    obtain ⟨w, h1, h2⟩ := h
    injection h2 with h2
    exact ⟨w, h1, by rw [h2]⟩
  rw [e _ _ _ h]
  simp [decide_not]
theorem equalR (H : Heap) {v w : Value} {l m : List RR} (hv : RL H v l) (hw : RL H w m) (hl : l.length ≤ 1000000) : Sim Tryz.prog 16 #[v, w] H (.bool (decide (l = m))) H := by
  refine flat_ex rfl ?_
  have e1 := hv.len (tt := tt) tt22
  have e2 := hw.len (tt := tt) tt22
  refine sxA tok mixed Tryz.func16 ?_
  by_cases hlm : l.length = m.length
  case neg =>
    have h1 : ¬ (l.length : Int) = (m.length : Int) := by omega
    have h2 : ¬ l = m := fun h => hlm (by rw [h])
    rw [decide_eq_false h2]
    simp -implicitDefEqProofs only [go_sem, simprocAttr, wa_cond, axC_t, axC_f, e1, e2, h1, res16]
    exact .refl _
  have h1 : (l.length : Int) = (m.length : Int) := by omega
  simp -implicitDefEqProofs only [go_sem, simprocAttr, wa_cond, axC_t, axC_f, e1, e2, h1]
  refine ax_loopx (fun (i : Nat) s T => s 0 = v ∧ s 1 = w ∧ s 12 = .int .i64 (m.length : Nat) ∧ s 13 = .int .i64 (i : Nat) ∧ i ≤ m.length ∧ l.take i = m.take i ∧ T = H) (fun i => m.length - i) 0 ?_ ?_
  · simp -implicitDefEqProofs only [go_sem, simprocAttr]
  rintro i s T ⟨s0, s1, s12, s13, hi, ht, hT⟩
  subst T
  simp -implicitDefEqProofs only [go_sem, simprocAttr, s12, s13]
  refine ax_cond2 ?_
  simp only [ev_tmp, ev_const, ev_func, upd_at, put_some, put_none, bndB_bool, Nat.reduceEqDiff, if_true, if_false, ↓reduceIte, reduceCtorEq]
  refine ⟨fun hc0 => have hlt := of_decide_eq_true hc0; ?_, fun hc0 => have hlt := of_decide_eq_false hc0; ?_⟩
  · have hil : i < m.length := by omega
    obtain ⟨b, i0, c, rfl, hA⟩ := hv.at (by rintro rfl; simp at hlm; omega)
    obtain ⟨b', i0', c', rfl, hB⟩ := hw.at (by rintro rfl; simp at hil)
    have r1 := hA.rdR (j := i) (by omega)
    have r2 := hB.rdR (j := i) hil
    have g1 := List.take_append_getElem (l := l) (i := i) (by omega)
    have g2 := List.take_append_getElem (l := m) (i := i) hil
    have hne : ¬ l[i]'(by omega) = m[i] → ¬ l = m := fun h e => h (by subst e; rfl)
    generalize l[i]'(by omega) = x at *
    generalize m[i] = y at *
    unfold RR.cells at r1 r2
    have hq := neq26 x y
    have hnn : (0 : Int) ≤ (i : Int) := by omega
    have hlt1 : (i : Int) < (l.length : Int) := by omega
    have w1 : IntKind.i64.wrap ((i : Int) + 1) = ((i + 1 : Nat) : Int) := by rw [w64 (by omega) (by omega)]; rfl
    simp -implicitDefEqProofs only [go_sem, simprocAttr, s0, s1, s13]
    refine ax_quiet (by kernel_rfl) ?_
    by_cases hxy : x = y
    · rw [decide_eq_false (fun h => h hxy)] at hq
      simp -implicitDefEqProofs only [go_sem, simprocAttr, wa_cond, axC_t, axC_f, s0, s1, s12, s13, aIndexAddr, hlt, hlt1, hnn, r1, r2, hq, w1]
      refine ⟨i + 1, ⟨rfl, by omega, ?_⟩, by omega⟩
      rw [← g1, ← g2, ht, hxy]
    · rw [decide_eq_true hxy] at hq
      rw [decide_eq_false (hne hxy)]
      simp -implicitDefEqProofs only [go_sem, simprocAttr, wa_cond, axC_t, axC_f, s0, s1, s12, s13, aIndexAddr, hlt, hlt1, hnn, r1, r2, hq, res16]
      exact .refl _
  · have hil : i = m.length := by omega
    subst hil
    rw [List.take_length, ← hlm, List.take_length] at ht
    rw [decide_eq_true ht]
    simp -implicitDefEqProofs only [go_sem, simprocAttr, res16]
    exact .refl _
end Go.Proofs.YthhmkaikopdmjaaGreat
namespace Go.Proofs.YthhmkaikopdmjaaGreat
open Go Go.Fw
theorem build22_0 (H : Heap) : aBuildSlice tt H 22 0 [] = some (.slice (some ⟨H.length, 0, none⟩) 0 0, H ++ [⟨[], 6, true⟩]) := rfl
theorem eql22_some (a : Addr) (n c : Nat) : aBin tt .eql 22 (.slice (some a) n c) (.slice none 0 0) = some (.bool false) := rfl
theorem own_nil (T : Heap) : Own 6 (T ++ [⟨[], 6, true⟩]) T.length [] := ⟨by decide, (fun x h => by cases h), by simp, rfl⟩
theorem cloneR (H : Heap) {b i c : Nat} {l : List RR} (hv : ElAt 6 H b i c (l.map RR.cells)) (h0 : l ≠ []) (hl : l.length ≤ 1000000) :
    ∃ w H', Sim Tryz.prog 31 #[.slice (some ⟨b, i, none⟩) l.length c] H w H' ∧ Ext H H' ∧ ∃ b', H.length ≤ b' ∧ w = .slice (some ⟨b', 0, none⟩) l.length 0 ∧ OwnR H' b' l := by
  have happ := append_own (T := H ++ [⟨[], 6, true⟩]) (l := []) tt22 tt26 rfl (by decide) (by decide) (own_nil H) (hv.app [⟨[], 6, true⟩]) (by simpa using h0) (by simp; omega)
  simp only [List.length_nil, List.length_map, Nat.zero_add, List.nil_append, List.length_append, List.length_cons] at happ
  refine sxA tok mixed Tryz.func31 ?_
  simp -implicitDefEqProofs only [go_sem, simprocAttr, wa_cond, axC_t, axC_f, eql22_some, build22_0, happ, res31]
  refine ⟨?_, H.length + 1, by omega, rfl, ?_⟩
  · exact ((Ext.app H [(⟨[], 6, true⟩ : Blk)]).set (Nat.le_refl _) _).trans (.app _ _)
  · have := OwnR.new ((H ++ [(⟨[], 6, true⟩ : Blk)]).set H.length deadBlk) l
    simpa using this
def chkFrom : Option RR → List RR → Int
  | _, [] => 0
  | p, r :: l => if r.err ≠ 0 then r.err else if (match p with | some p => decide (cmpS r p ≤ 0) | none => false) = true then 8 else chkFrom (some r) l
def chkR (l : List RR) : Int := if l = [] then 11 else if 64 < l.length then 4 else chkFrom none l
def prevR (l : List RR) (i : Nat) : Option RR := if i = 0 then none else l[i - 1]?
theorem CheckS (H : Heap) {v : Value} {l : List RR} {k : Nat} (hv : RL H v l) (hle : ∀ r ∈ l, r.le k) (hk : k ≤ 19000) (hl : l.length ≤ 1000000) : Sim Tryz.prog 17 #[v] H (.int .i64 (chkR l)) H := by
  refine flat_ex rfl ?_
  have e1 := hv.len (tt := tt) tt22
  unfold chkR
  refine sxA tok mixed Tryz.func17 ?_
  by_cases h0 : l = []
  · rw [if_pos h0]
    have h1 : (l.length : Int) = 0 := by rw [h0]; rfl
    simp -implicitDefEqProofs only [go_sem, simprocAttr, wa_cond, axC_t, axC_f, e1, h1, res17]
    exact .refl _
  rw [if_neg h0]
  have hl0 := List.length_pos_iff.2 h0
  have h1 : ¬ (l.length : Int) = 0 := by omega
  by_cases h64 : 64 < l.length
  · rw [if_pos h64]
    have h2 : (64 : Int) < (l.length : Int) := by omega
    simp -implicitDefEqProofs only [go_sem, simprocAttr, wa_cond, axC_t, axC_f, e1, h1, h2, res17]
    exact .refl _
  rw [if_neg h64]
  have h2 : ¬ (64 : Int) < (l.length : Int) := by omega
  simp -implicitDefEqProofs only [go_sem, simprocAttr, wa_cond, axC_t, axC_f, e1, h1, h2]
  obtain ⟨b, i0, c, rfl, hA⟩ := hv.at h0
  refine ax_loopx (fun (i : Nat) s T => ∃ G : Heap, s 0 = .slice (some ⟨b, i0, none⟩) l.length c ∧ s 14 = .slice (some ⟨b, i0, none⟩) l.length c ∧ s 15 = .int .i64 (l.length : Nat) ∧ s 16 = .int .i64 (i : Nat) ∧ i ≤ l.length ∧ chkFrom none l = chkFrom (prevR l i) (l.drop i) ∧ T = H ++ G) (fun i => l.length - i) 0 ?_ ?_
  · refine ⟨[], ?_⟩
    simp -implicitDefEqProofs only [go_sem, simprocAttr]
    rfl
  rintro i s T ⟨G, s0, s14, s15, s16, hi, hch, hT⟩
  subst T
  simp -implicitDefEqProofs only [go_sem, simprocAttr, s15, s16]
  refine ax_cond2 ?_
  simp only [ev_tmp, ev_const, ev_func, upd_at, put_some, put_none, bndB_bool, Nat.reduceEqDiff, if_true, if_false, ↓reduceIte, reduceCtorEq]
  refine ⟨fun hc0 => have hlt := of_decide_eq_true hc0; ?_, fun hc0 => have hlt := of_decide_eq_false hc0; ?_⟩
  · have hil : i < l.length := by omega
    have r1 := fun G => rd_more (hA.rdR hil) G
    have hc := fun H => checkR H (hle _ (List.getElem_mem hil)) (by omega)
    have hdrop := List.drop_eq_getElem_cons hil
    have hx := hle _ (List.getElem_mem hil)
    have hnext : prevR l (i + 1) = some l[i] := by unfold prevR; rw [if_neg (by omega), Nat.add_sub_cancel, List.getElem?_eq_getElem hil]
    rw [hdrop] at hch
    have hnn : (0 : Int) ≤ (i : Int) := by omega
    have w1 : IntKind.i64.wrap ((i : Int) + 1) = ((i + 1 : Nat) : Int) := by rw [w64 (by omega) (by omega)]; rfl
    unfold RR.cells at r1
    unfold RR.val rV at hc
    have hcmp := fun p (hp : RR.le p k) H => compareS H hx hp hk
    unfold RR.val rV at hcmp
    generalize hxx : l[i] = x at *
    simp -implicitDefEqProofs only [go_sem, simprocAttr, s14, s16, aIndexAddr, hlt, hnn, r1]
    refine kv (hc _) ?_
    by_cases he : x.err = 0
    case neg =>
      have hch2 : chkFrom none l = x.err := by rw [hch]; unfold chkFrom; rw [if_pos he]
      rw [hch2]
      simp -implicitDefEqProofs only [go_sem, simprocAttr, wa_cond, axC_t, axC_f, he, res17]
      exact .app _ _
    have hch2 : chkFrom none l = if (match prevR l i with | some p => decide (cmpS x p ≤ 0) | none => false) = true then 8 else chkFrom (some x) (l.drop (i + 1)) := by
      rw [hch]; conv => lhs; unfold chkFrom
      rw [if_neg (by simpa using he)]
    simp -implicitDefEqProofs only [go_sem, simprocAttr, wa_cond, axC_t, axC_f, he]
    refine ax_quiet (by kernel_rfl) ?_
    by_cases hi0 : i = 0
    · subst hi0
      have hi1 : ¬ (0 : Int) < ((0 : Nat) : Int) := by decide
      have e2 : prevR l 0 = none := rfl
      rw [e2] at hch2
      simp -implicitDefEqProofs only [go_sem, simprocAttr, wa_cond, axC_t, axC_f, s0, s14, s15, s16, w1, show IntKind.i64.wrap 1 = ((1 : Nat) : Int) from rfl, Int.zero_add, Int.lt_irrefl]
      exact ⟨1, ⟨_, rfl, by omega, by rw [hch2, hnext]; rfl, rfl⟩, by omega⟩
    · obtain ⟨j, rfl⟩ : ∃ j, i = j + 1 := ⟨i - 1, by omega⟩
      have hj : j < l.length := by omega
      have hi1 : (0 : Int) < ((j + 1 : Nat) : Int) := by omega
      have wj : IntKind.i64.wrap (((j + 1 : Nat) : Int) - 1) = (j : Int) := by rw [castS]; exact w64 (by omega) (by omega)
      have r2 := fun G => rd_more (hA.rdR hj) G
      have hp := hle _ (List.getElem_mem hj)
      have e2 : prevR l (j + 1) = some l[j] := by unfold prevR; rw [if_neg (by omega), Nat.add_sub_cancel, List.getElem?_eq_getElem hj]
      rw [e2] at hch2
      simp only at hch2
      unfold RR.cells at r2
      have hcm := hcmp _ hp
      generalize l[j] = p at *
      have hjn : (0 : Int) ≤ (j : Int) := by omega
      have hjl : (j : Int) < (l.length : Int) := by omega
      simp -implicitDefEqProofs only [go_sem, simprocAttr, s0, hi1, wj, aIndexAddr, hjn, hjl, r2]
      refine kv (hcm _) ?_
      by_cases hle0 : cmpS x p ≤ 0
      · rw [if_pos (by simpa using hle0)] at hch2
        rw [hch2]
        simp -implicitDefEqProofs only [go_sem, simprocAttr, wa_cond, axC_t, axC_f, hle0, res17]
        exact .app _ _
      · rw [if_neg (by simpa using hle0)] at hch2
        simp -implicitDefEqProofs only [go_sem, simprocAttr, wa_cond, axC_t, axC_f, hle0, s0, s14, s15, s16, w1]
        exact ⟨j + 1 + 1, ⟨_, rfl, by omega, by rw [hch2, hnext], rfl⟩, by omega⟩
  · have hil : i = l.length := by omega
    subst hil
    rw [List.drop_length] at hch
    have : chkFrom none l = 0 := by rw [hch]; unfold chkFrom; rfl
    rw [this]
    simp -implicitDefEqProofs only [go_sem, simprocAttr, res17]
    exact .app _ _
end Go.Proofs.YthhmkaikopdmjaaGreat
namespace Go.Proofs.YthhmkaikopdmjaaGreat
open Go Go.Fw
theorem cmpS_ok {a b : RR} (ha : a.err = 0) (hb : b.err = 0) : cmpS a b = a.rot.cmp b.rot := by
  unfold cmpS; rw [if_neg (by simp [ha, hb])]
theorem chkFrom_ok : ∀ (l : List RR) (p : RR), p.err = 0 → chkFrom (some p) l = 0 → (∀ x ∈ l, x.err = 0) ∧ (∀ x ∈ l, p.rot.lt x.rot) ∧ l.Pairwise (fun a b => a.rot.lt b.rot) := by
  intro l
  induction l with
  | nil => intro p _ _; exact ⟨by simp, by simp, List.Pairwise.nil⟩
  | cons r l ih =>
    intro p hp h
    unfold chkFrom at h
    by_cases he : r.err = 0
    · rw [if_neg (by simpa using he)] at h
      by_cases hc : cmpS r p ≤ 0
      · rw [if_pos (by simpa using hc)] at h; omega
      · rw [if_neg (by simpa using hc)] at h
        obtain ⟨h1, h2, h3⟩ := ih r he h
        have hpr : p.rot.lt r.rot := by
          rw [cmpS_ok he hp] at hc
          exact Rot.cmp_pos.1 (by omega)
        have okp := (RR.err_zero.1 hp).2
        have okr := (RR.err_zero.1 he).2
        refine ⟨fun x hx => ?_, fun x hx => ?_, List.Pairwise.cons h2 h3⟩
        · rcases List.mem_cons.1 hx with rfl | hx
          · exact he
          · exact h1 x hx
        · rcases List.mem_cons.1 hx with rfl | hx
          · exact hpr
          · exact Rot.lt_trans okp okr (RR.err_zero.1 (h1 x hx)).2 hpr (h2 x hx)
    · rw [if_pos (by simpa using he)] at h; exact absurd h he
structure Ord (l : List RR) : Prop where
  ne : l ≠ []
  len : l.length ≤ 64
  ok : ∀ x ∈ l, x.err = 0
  ord : l.Pairwise (fun a b => a.rot.lt b.rot)
theorem chk_ok {l : List RR} (h : chkR l = 0) : Ord l := by
  unfold chkR at h
  by_cases h0 : l = []
  · rw [if_pos h0] at h; omega
  rw [if_neg h0] at h
  by_cases h1 : 64 < l.length
  · rw [if_pos h1] at h; omega
  rw [if_neg h1] at h
  cases l with
  | nil => exact absurd rfl h0
  | cons r l =>
    unfold chkFrom at h
    by_cases he : r.err = 0
    · rw [if_neg (by simpa using he)] at h
      simp only [Bool.false_eq_true, if_false] at h
      obtain ⟨g1, g2, g3⟩ := chkFrom_ok l r he h
      refine ⟨h0, by omega, fun x hx => ?_, List.Pairwise.cons g2 g3⟩
      rcases List.mem_cons.1 hx with rfl | hx
      · exact he
      · exact g1 x hx
    · rw [if_pos (by simpa using he)] at h; exact absurd h he
theorem ok_chkFrom : ∀ (l : List RR) (p : RR), p.err = 0 → (∀ x ∈ l, x.err = 0) → (∀ x ∈ l, p.rot.lt x.rot) → l.Pairwise (fun a b => a.rot.lt b.rot) → chkFrom (some p) l = 0 := by
  intro l
  induction l with
  | nil => intro p _ _ _ _; rfl
  | cons r l ih =>
    intro p hp h1 h2 h3
    have he := h1 r (by simp)
    have hlt := h2 r (by simp)
    have hc : ¬ cmpS r p ≤ 0 := by
      rw [cmpS_ok he hp]
      have := Rot.cmp_pos.2 hlt
      omega
    unfold chkFrom
    rw [if_neg (by simpa using he), if_neg (by simpa using hc)]
    exact ih r he (fun x hx => h1 x (by simp [hx])) (List.pairwise_cons.1 h3).1 (List.pairwise_cons.1 h3).2
theorem ok_chk {l : List RR} (h : Ord l) : chkR l = 0 := by
  unfold chkR
  rw [if_neg h.ne, if_neg (by have := h.len; omega)]
  obtain ⟨h0, h1, h2, h3⟩ := h
  cases l with
  | nil => exact absurd rfl h0
  | cons r l =>
    have he := h2 r (by simp)
    unfold chkFrom
    rw [if_neg (by simpa using he)]
    simp only [Bool.false_eq_true, if_false]
    exact ok_chkFrom l r he (fun x hx => h2 x (by simp [hx])) (List.pairwise_cons.1 h3).1 (List.pairwise_cons.1 h3).2
def cntLess : List RR → RR → Nat
  | [], _ => 0
  | x :: l, r => if cmpS x r < 0 then cntLess l r + 1 else 0
theorem cntLess_le : ∀ (l : List RR) (r : RR), cntLess l r ≤ l.length := by
  intro l r
  induction l with
  | nil => simp [cntLess]
  | cons x l ih =>
    unfold cntLess
    split
    · simp; exact ih
    · simp
theorem cntLess_below : ∀ (l : List RR) (r : RR) (j : Nat), j < cntLess l r → ∀ hl : j < l.length, cmpS l[j] r < 0 := by
  intro l r
  induction l with
  | nil => intro j _ hl; simp at hl
  | cons x l ih =>
    intro j hj hl
    unfold cntLess at hj
    by_cases hc : cmpS x r < 0
    · rw [if_pos hc] at hj
      cases j with
      | zero => exact hc
      | succ j => exact ih j (by omega) (by simpa using hl)
    · rw [if_neg hc] at hj; omega
theorem cntLess_above' (r : RR) (hr : r.err = 0) : ∀ (l : List RR), (∀ x ∈ l, x.err = 0) → l.Pairwise (fun a b => a.rot.lt b.rot) → ∀ j, cntLess l r ≤ j → ∀ hl : j < l.length, ¬ cmpS l[j] r < 0 := by
  have okr := (RR.err_zero.1 hr).2
  intro l
  induction l with
  | nil => intro _ _ j _ hl; simp at hl
  | cons x l ih =>
    intro h2 h3 j hj hl
    have hx := h2 x (by simp)
    have okx := (RR.err_zero.1 hx).2
    unfold cntLess at hj
    by_cases hc : cmpS x r < 0
    · rw [if_pos hc] at hj
      obtain ⟨j, rfl⟩ : ∃ j', j = j' + 1 := ⟨j - 1, by omega⟩
      exact ih (fun y hy => h2 y (by simp [hy])) (List.pairwise_cons.1 h3).2 j (by omega) (by simpa using hl)
    · cases j with
      | zero => exact hc
      | succ j =>
        have hjl : j < l.length := by simpa using hl
        have hm := List.getElem_mem hjl
        have hy := h2 l[j] (by simp)
        have hlt := (List.pairwise_cons.1 h3).1 _ hm
        simp only [List.getElem_cons_succ]
        intro hc2
        rw [cmpS_ok hy hr] at hc2
        rw [cmpS_ok hx hr] at hc
        exact hc (Rot.lt_trans okx (RR.err_zero.1 hy).2 okr hlt hc2)
theorem cntLess_above {l : List RR} {r : RR} (ho : Ord l) (hr : r.err = 0) (j : Nat) (hj : cntLess l r ≤ j) (hl : j < l.length) : ¬ cmpS l[j] r < 0 := cntLess_above' r hr l ho.ok ho.ord j hj hl
def chk2 (l : List RR) (r : RR) : Int := if chkR l = 0 then r.err else 1
theorem check2S (H : Heap) {v : Value} {l : List RR} {r : RR} {k : Nat} (hv : RL H v l) (hle : ∀ r ∈ l, r.le k) (hr : r.le k) (hk : k ≤ 19000) (hl : l.length ≤ 1000000) : Sim Tryz.prog 52 #[v, r.val] H (.int .i64 (chk2 l r)) H := by
  refine flat_ex rfl ?_
  have o1 := fun G => CheckS (H ++ G) (El.app hv G) hle hk hl
  have o2 := fun H => checkR H hr (by omega)
  unfold chk2
  unfold RR.val rV at o2 ⊢
  by_cases h : chkR l = 0
  · rw [if_pos h]
    refine sxA tok mixed Tryz.func52 ?_
    simp -implicitDefEqProofs only [go_sem, simprocAttr, -Int.reducePow, -Nat.reducePow, UU]
    refine kv (o1 _) ?_
    simp -implicitDefEqProofs only [go_sem, simprocAttr, -Int.reducePow, -Nat.reducePow, UU, h, wa_cond, axC_t, axC_f]
    refine kw (o2 _) ?_
    simp -implicitDefEqProofs only [go_sem, simprocAttr, -Int.reducePow, -Nat.reducePow, UU, res52]
    first | exact .app _ _ | exact ⟨.app _ _, rfl⟩ | exact .refl _ | exact ⟨.refl _, rfl⟩
  · rw [if_neg h]
    refine sxA tok mixed Tryz.func52 ?_
    simp -implicitDefEqProofs only [go_sem, simprocAttr, -Int.reducePow, -Nat.reducePow, UU]
    refine kv (o1 _) ?_
    simp -implicitDefEqProofs only [go_sem, simprocAttr, -Int.reducePow, -Nat.reducePow, UU, h, wa_cond, axC_t, axC_f]
    simp -implicitDefEqProofs only [go_sem, simprocAttr, -Int.reducePow, -Nat.reducePow, UU, res52]
    first | exact .app _ _ | exact ⟨.app _ _, rfl⟩ | exact .refl _ | exact ⟨.refl _, rfl⟩
theorem binR (H : Heap) {v : Value} {l : List RR} {r : RR} {k : Nat} (hv : RL H v l) (hle : ∀ r ∈ l, r.le k) (hr : r.le k) (hk : k ≤ 19000) (ho : Ord l) (hre : r.err = 0) :
    Sim Tryz.prog 53 #[v, r.val, .func (.func 54) #[] #[]] H
      (.tuple #[.int .i64 (cntLess l r : Nat), .bool (match l[cntLess l r]? with | some x => decide (cmpS x r = 0) | none => false)]) H := by
  refine flat_ex rfl ?_
  have e1 := hv.len (tt := tt) tt22
  have hkl := cntLess_le l r
  have hl64 := ho.len
  have hbelow := cntLess_below l r
  have habove := cntLess_above ho hre
  have hcmp := fun x (hx : RR.le x k) H => compareS H hx hr hk
  obtain ⟨b, i0, c, rfl, hA⟩ := hv.at ho.ne
  unfold RR.val rV at hcmp ⊢
  generalize cntLess l r = q at *
  refine sxA tok mixed Tryz.func53 ?_
  simp -implicitDefEqProofs only [go_sem, simprocAttr, -Int.reducePow, -Nat.reducePow, e1]
  refine ax_midl (fun s T => s 0 = .slice (some ⟨b, i0, none⟩) l.length c ∧ s 2 = .func (.func 54) #[] #[] ∧ s 4 = .pointer (some ⟨H.length, 0, none⟩) ∧ s 8 = .int .i64 (l.length : Nat) ∧ s 9 = .int .i64 (q : Nat) ∧
    T = H ++ [⟨[.bool r.g, .string (bs r.n), .string (bs r.d), .bool r.g', .string (bs r.n'), .string (bs r.d')], 1, true⟩]) ?_ ?_
  · refine ax_loopx (fun (x : Nat × Nat) s T => s 0 = .slice (some ⟨b, i0, none⟩) l.length c ∧ s 2 = .func (.func 54) #[] #[] ∧ s 4 = .pointer (some ⟨H.length, 0, none⟩) ∧ s 8 = .int .i64 (l.length : Nat) ∧ s 9 = .int .i64 (x.1 : Nat) ∧ s 10 = .int .i64 (x.2 : Nat) ∧
      x.1 ≤ q ∧ q ≤ x.2 ∧ x.2 ≤ l.length ∧ T = H ++ [⟨[.bool r.g, .string (bs r.n), .string (bs r.d), .bool r.g', .string (bs r.n'), .string (bs r.d')], 1, true⟩]) (fun x => x.2 - x.1) (0, l.length) ?_ ?_
    · simp -implicitDefEqProofs only [go_sem, simprocAttr, -Int.reducePow, -Nat.reducePow]
      exact hkl
    rintro ⟨i, j⟩ s T ⟨s0, s2, s4, s8, s9, s10, hi, hj, hjl, hT⟩
    subst T
    simp only at s9 s10 hi hj hjl
    simp -implicitDefEqProofs only [go_sem, simprocAttr, -Int.reducePow, -Nat.reducePow, s9, s10]
    refine ax_cond2 ?_
    simp only [ev_tmp, ev_const, ev_func, upd_at, put_some, put_none, bndB_bool, Nat.reduceEqDiff, if_true, if_false, ↓reduceIte, reduceCtorEq]
    refine ⟨fun hc0 => have hlt := of_decide_eq_true hc0; ?_, fun hc0 => have hlt := of_decide_eq_false hc0; ?_⟩
    · have hij : i < j := by omega
      have a1 : IntKind.i64.wrap ((i : Int) + (j : Int)) = ((i + j : Nat) : Int) := by rw [addc, w64n (by omega)]
      have a2 := wu64n (n := i + j) (by omega)
      have a3 := fdiv_pow (i + j) 1
      have a4 := w64n (n := (i + j) / 2 ^ 1) (by omega)
      have h1 : ¬ ((1 : Int) < 0) := by omega
      have hhj : (i + j) / 2 ^ 1 < j := by omega
      have hih : i ≤ (i + j) / 2 ^ 1 := by omega
      generalize (i + j) / 2 ^ 1 = h at *
      have hhl : h < l.length := by omega
      have r1 := fun G => rd_more (hA.rdR hhl) G
      have hcm := hcmp _ (hle _ (List.getElem_mem hhl))
      have hnn : (0 : Int) ≤ (h : Int) := by omega
      have hlt2 : (h : Int) < (l.length : Int) := by omega
      have a5 : IntKind.i64.wrap ((h : Int) + 1) = ((h + 1 : Nat) : Int) := by rw [w64 (by omega) (by omega)]; rfl
      have hb := fun hj => hbelow h hj hhl
      have ha := fun hj => habove h hj hhl
      generalize l[h] = x at *
      unfold RR.cells at r1
      simp -implicitDefEqProofs only [go_sem, simprocAttr, -Int.reducePow, -Nat.reducePow, s9, s10, aConv, a1, a2, a3, a4, h1, show min 1 64 = 1 from rfl, show Int.toNat 1 = 1 from rfl]
      refine ax_quiet (by kernel_rfl) ?_
      simp -implicitDefEqProofs only [go_sem, simprocAttr, -Int.reducePow, -Nat.reducePow, s0, s2, s4, aIndexAddr, hnn, hlt2, r1]
      refine wl_callO _ (by simp -implicitDefEqProofs only [go_sem, simprocAttr, -Int.reducePow, -Nat.reducePow, s2]) _ (by simp -implicitDefEqProofs only [go_sem, simprocAttr, -Int.reducePow, -Nat.reducePow]) (hcm _) ?_
      by_cases hc : cmpS x r < 0
      · simp -implicitDefEqProofs only [go_sem, simprocAttr, -Int.reducePow, -Nat.reducePow, wa_cond, axC_t, axC_f, hc, s0, s2, s4, s8, s9, s10, a5]
        refine ⟨(h + 1, j), ⟨rfl, rfl, ?_, hj, hjl⟩, by simp only; omega⟩
        exact Classical.byContradiction fun hn => ha (by omega) hc
      · simp -implicitDefEqProofs only [go_sem, simprocAttr, -Int.reducePow, -Nat.reducePow, wa_cond, axC_t, axC_f, hc, s0, s2, s4, s8, s9, s10, a5]
        refine ⟨(i, h), ⟨rfl, rfl, hi, ?_, by omega⟩, by simp only; omega⟩
        exact Classical.byContradiction fun hn => hc (hb (by omega))
    · have : i = q := by omega
      subst this
      simp -implicitDefEqProofs only [go_sem, simprocAttr, -Int.reducePow, -Nat.reducePow, s0, s2, s4, s8, s9]
  rintro s T ⟨s0, s2, s4, s8, s9, hT⟩
  subst T
  simp -implicitDefEqProofs only [go_sem, simprocAttr, -Int.reducePow, -Nat.reducePow]
  refine ax_quiet (by kernel_rfl) ?_
  by_cases hq : q < l.length
  · have r1 := fun G => rd_more (hA.rdR hq) G
    have hcm := hcmp _ (hle _ (List.getElem_mem hq))
    have hnn : (0 : Int) ≤ (q : Int) := by omega
    have hlt2 : (q : Int) < (l.length : Int) := by omega
    rw [List.getElem?_eq_getElem hq]
    simp only
    generalize l[q] = x at *
    unfold RR.cells at r1
    simp -implicitDefEqProofs only [go_sem, simprocAttr, -Int.reducePow, -Nat.reducePow, s0, s2, s4, s8, s9, aIndexAddr, hnn, hlt2, r1]
    refine wl_callO _ (by simp -implicitDefEqProofs only [go_sem, simprocAttr, -Int.reducePow, -Nat.reducePow, s2]) _ (by simp -implicitDefEqProofs only [go_sem, simprocAttr, -Int.reducePow, -Nat.reducePow]) (hcm _) ?_
    simp -implicitDefEqProofs only [go_sem, simprocAttr, -Int.reducePow, -Nat.reducePow, res53]
    first | exact .app _ _ | exact ⟨.app _ _, rfl⟩
  · have hlt2 : ¬ (q : Int) < (l.length : Int) := by omega
    rw [List.getElem?_eq_none (by omega)]
    simp -implicitDefEqProofs only [go_sem, simprocAttr, -Int.reducePow, -Nat.reducePow, s8, s9, hlt2, res53]
    first | exact ⟨.app _ _, rfl⟩ | exact .app _ _
end Go.Proofs.YthhmkaikopdmjaaGreat
namespace Go.Proofs.YthhmkaikopdmjaaGreat
open Go Go.Fw
def hasR (l : List RR) (r : RR) : Bool := match l[cntLess l r]? with | some x => decide (cmpS x r = 0) | none => false
def findV (l : List RR) (r : RR) : Value :=
  if chk2 l r ≠ 0 then .tuple #[.int .i64 0, .bool false, .int .i64 (chk2 l r)] else
  if hasR l r = true then .tuple #[.int .i64 (cntLess l r : Nat), .bool true, .int .i64 0] else .tuple #[.int .i64 ((cntLess l r + l.length - 1) % l.length : Nat), .bool false, .int .i64 0]
theorem flat_find (l : List RR) (r : RR) : flat (findV l r) = true := by
  unfold findV
  by_cases h : chk2 l r ≠ 0
  · rw [if_pos h]; rfl
  · rw [if_neg h]
    by_cases h2 : hasR l r = true
    · rw [if_pos h2]; rfl
    · rw [if_neg h2]; rfl
theorem FindS (H : Heap) {v : Value} {l : List RR} {r : RR} {k : Nat} (hv : RL H v l) (hle : ∀ r ∈ l, r.le k) (hr : r.le k) (hk : k ≤ 19000) (hl : l.length ≤ 1000000) : Sim Tryz.prog 14 #[v, r.val] H (findV l r) H := by
  refine flat_ex (flat_find l r) ?_
  have o1 := fun G => check2S (H ++ G) (El.app hv G) hle hr hk hl
  have e1 := hv.len (tt := tt) tt22
  unfold findV
  by_cases h : chk2 l r = 0
  case neg =>
    rw [if_pos h]
    generalize chk2 l r = c at *
    unfold RR.val rV at o1 ⊢
    refine sxA tok mixed Tryz.func14 ?_
    simp -implicitDefEqProofs only [go_sem, simprocAttr, UU]
    refine kv (o1 _) ?_
    simp -implicitDefEqProofs only [go_sem, simprocAttr, UU, h, wa_cond, axC_t, axC_f]
    simp -implicitDefEqProofs only [go_sem, simprocAttr, UU, res14]
    first | exact .app _ _ | exact ⟨.app _ _, rfl⟩ | exact .refl _ | exact ⟨.refl _, rfl⟩
  rw [if_neg (by simpa using h)]
  have hc1 : chkR l = 0 := by
    unfold chk2 at h
    by_cases hc : chkR l = 0
    · exact hc
    · rw [if_neg hc] at h; omega
  have hc2 : r.err = 0 := by unfold chk2 at h; rw [if_pos hc1] at h; exact h
  have ho := chk_ok hc1
  have o2 : ∀ G, Sim Tryz.prog 53 #[v, r.val, .func (.func 54) #[] #[]] (H ++ G) (.tuple #[.int .i64 (cntLess l r : Nat), .bool (hasR l r)]) (H ++ G) := fun G => binR (H ++ G) (El.app hv G) hle hr hk ho hc2
  have hl0 := List.length_pos_iff.2 ho.ne
  have hcl := cntLess_le l r
  rw [h] at o1
  generalize cntLess l r = q at *
  have a1 : IntKind.i64.wrap ((q : Int) + (l.length : Int)) = ((q + l.length : Nat) : Int) := by rw [addc, w64n (by omega)]
  have a2 : IntKind.i64.wrap (((q + l.length : Nat) : Int) - 1) = ((q + l.length - 1 : Nat) : Int) := by rw [w64 (by omega) (by omega)]; omega
  have a3 := tmod_nat (q + l.length - 1) l.length
  have a4 : ¬ (l.length : Int) = 0 := by omega
  unfold RR.val rV at o1 o2 ⊢
  generalize hasR l r = hb at *
  cases hb
  · rw [if_neg (by decide)]
    refine sxA tok mixed Tryz.func14 ?_
    simp -implicitDefEqProofs only [go_sem, simprocAttr, UU]
    refine kv (o1 _) ?_
    simp -implicitDefEqProofs only [go_sem, simprocAttr, UU, wa_cond, axC_t, axC_f]
    refine kv (o2 _) ?_
    simp -implicitDefEqProofs only [go_sem, simprocAttr, UU, wa_cond, axC_t, axC_f, e1, a1, a2, a3, a4]
    simp -implicitDefEqProofs only [go_sem, simprocAttr, UU, res14]
    first | exact .app _ _ | exact ⟨.app _ _, rfl⟩ | exact .refl _ | exact ⟨.refl _, rfl⟩
  · rw [if_pos rfl]
    refine sxA tok mixed Tryz.func14 ?_
    simp -implicitDefEqProofs only [go_sem, simprocAttr, UU]
    refine kv (o1 _) ?_
    simp -implicitDefEqProofs only [go_sem, simprocAttr, UU, wa_cond, axC_t, axC_f]
    refine kv (o2 _) ?_
    simp -implicitDefEqProofs only [go_sem, simprocAttr, UU, wa_cond, axC_t, axC_f]
    simp -implicitDefEqProofs only [go_sem, simprocAttr, UU, res14]
    first | exact .app _ _ | exact ⟨.app _ _, rfl⟩ | exact .refl _ | exact ⟨.refl _, rfl⟩
def Rot.qt (r : Rot) : Rot := ⟨-r.s, r.c⟩
theorem quarterS (H : Heap) {r : Rot} {k : Nat} (hr : r.Sz k) (hk : k ≤ 100000) : Sim Tryz.prog 43 #[(RR.of r).val] H (RR.of (Rot.qt r)).val H := by
  refine flat_ex rfl ?_
  have o1 := fun H => negQ H hr.s.qv (by omega)
  unfold Rot.qt
  rw [RR.of_val, RR.of_val]
  simp only
  generalize -r.s = z at *
  generalize r.c = x at *
  generalize r.s = y at *
  unfold mkR rV
  refine sxA tok mixed Tryz.func43 ?_
  simp -implicitDefEqProofs only [go_sem, simprocAttr, UU]
  refine ax_quiet (by kernel_rfl) ?_
  simp -implicitDefEqProofs only [go_sem, simprocAttr, UU]
  refine kw (o1 _) ?_
  simp -implicitDefEqProofs only [go_sem, simprocAttr, UU, res43]
  first | exact .app _ _ | exact ⟨.app _ _, rfl⟩ | exact .refl _ | exact ⟨.refl _, rfl⟩
end Go.Proofs.YthhmkaikopdmjaaGreat
namespace Go.Proofs.YthhmkaikopdmjaaGreat
open Go Go.Fw
def tanL (k i : Nat) : Rot := Rot.ofT (Rat.divInt (i : Int) (k : Int))
def baseL (k n : Nat) : List Rot := (List.range n).map (tanL k)
def qn : Nat → List Rot → List Rot | 0, l => l | j + 1, l => (qn j l).map Rot.qt
def outsL (k : Nat) : Nat → List Rot | 0 => baseL k k | j + 1 => outsL k j ++ qn (j + 1) (baseL k k)
theorem baseL_len (k n : Nat) : (baseL k n).length = n := by simp [baseL]
theorem qn_len (j : Nat) (l : List Rot) : (qn j l).length = l.length := by
  induction j with
  | zero => rfl
  | succ j ih => simp [qn, ih]
theorem outsL_len (k j : Nat) : (outsL k j).length = (j + 1) * k := by
  induction j with
  | zero => simp [outsL, baseL_len]
  | succ j ih =>
    unfold outsL
    rw [List.length_append, ih, qn_len, baseL_len, Nat.add_mul (j + 1) 1 k]; omega
theorem tanL_sz {k i : Nat} (hk : 0 < k) (hk2 : k ≤ 16) (hi : i ≤ 16) : (tanL k i).Sz 60 := by
  have : Fw.Sz (Rat.divInt (i : Int) (k : Int)) 6 := by
    rw [divInt_pos (by omega)]
    exact Sz.of (by omega) (by omega) (by omega)
  exact (Rot.Sz.ofT this).mono (by decide)
theorem base_sz {k n : Nat} (hk : 0 < k) (hk2 : k ≤ 16) (hn : n ≤ 16) : ∀ r ∈ baseL k n, r.Sz 60 := by
  intro r hr
  obtain ⟨i, hi, rfl⟩ := List.mem_map.1 hr
  have := List.mem_range.1 hi
  exact tanL_sz hk hk2 (by omega)
theorem qn_sz {l : List Rot} (h : ∀ r ∈ l, r.Sz 60) : ∀ j, ∀ r ∈ qn j l, r.Sz 60 := by
  intro j
  induction j with
  | zero => exact h
  | succ j ih =>
    intro r hr
    obtain ⟨x, hx, rfl⟩ := List.mem_map.1 hr
    exact ⟨(ih x hx).s.neg, (ih x hx).c⟩
theorem row1 (T : Heap) (r : RR) : aBuildSlice tt T 22 1 [(0, r.val)] = some (.slice (some ⟨T.length, 0, none⟩) 1 1, T ++ [⟨r.cells, 6, true⟩]) := rfl
theorem row1_at (T : Heap) (r : RR) : ElAt 6 (T ++ [⟨r.cells, 6, true⟩]) T.length 0 1 [r.cells] :=
  ⟨.inr (by simp), by decide, fun x hx => by simp at hx; subst hx; rfl, ⟨_, by simp; rfl, rfl, by simp [RR.cells], by simp [RR.cells]⟩, rfl⟩
theorem append_R {T : Heap} {b : Nat} {l : List RR} (r : RR) (h : OwnR T b l) (hl : l.length ≤ 100000) :
    ∃ T', aAppend tt (T ++ [⟨r.cells, 6, true⟩]) [22, 22] (.slice (some ⟨b, 0, none⟩) l.length 0) (.slice (some ⟨T.length, 0, none⟩) 1 1) = some (.slice (some ⟨T.length + 1, 0, none⟩) (l.length + 1) 0, T') ∧ OwnR T' (T.length + 1) (l ++ [r]) ∧ T' = (T ++ [(⟨r.cells, 6, true⟩ : Blk)]).set b deadBlk ++ [⟨((l ++ [r]).map RR.cells).flatten, 6, true⟩] := by
  have hb := h.lt
  have := append_own (T := T ++ [⟨r.cells, 6, true⟩]) tt22 tt26 rfl (by decide) (by decide) (Own.app h [⟨r.cells, 6, true⟩]) (row1_at T r) (by simp) (by simp; omega)
  simp only [List.length_map, List.length_cons, List.length_nil, List.length_append, Nat.zero_add] at this
  refine ⟨_, this, ?_, ?_⟩
  · have h2 := OwnR.new ((T ++ [(⟨r.cells, 6, true⟩ : Blk)]).set b deadBlk) (l ++ [r])
    simp only [List.length_set, List.length_append, List.length_cons, List.length_nil, Nat.zero_add, List.map_append, List.map_cons, List.map_nil] at h2
    exact h2
  · simp only [List.map_append, List.map_cons, List.map_nil]
theorem append_R0 {T : Heap} (r : RR) :
    ∃ T', aAppend tt (T ++ [⟨r.cells, 6, true⟩]) [22, 22] (.slice none 0 0) (.slice (some ⟨T.length, 0, none⟩) 1 1) = some (.slice (some ⟨T.length + 1, 0, none⟩) 1 0, T') ∧ OwnR T' (T.length + 1) [r] ∧ Ext T T' := by
  have := append_none (T := T ++ [⟨r.cells, 6, true⟩]) tt22 tt26 rfl (by decide) (by decide) (row1_at T r) (by simp) (by simp)
  simp only [List.length_cons, List.length_nil, List.length_append, Nat.zero_add] at this
  refine ⟨_, this, ?_, ?_⟩
  · have h2 := OwnR.new (T ++ [(⟨r.cells, 6, true⟩ : Blk)]) [r]
    simp only [List.length_append, List.length_cons, List.length_nil, Nat.zero_add, List.map_cons, List.map_nil] at h2
    exact h2
  · exact (Ext.app _ _).trans (.app _ _)
theorem append_RR {T : Heap} {b : Nat} {l m : List RR} {bx ix cx : Nat} (h : OwnR T b l) (hx : ElAt 6 T bx ix cx (m.map RR.cells)) (h0 : m ≠ []) (hl : l.length + m.length ≤ 100000) :
    ∃ T', aAppend tt T [22, 22] (.slice (some ⟨b, 0, none⟩) l.length 0) (.slice (some ⟨bx, ix, none⟩) m.length cx) = some (.slice (some ⟨T.length, 0, none⟩) (l.length + m.length) 0, T') ∧ OwnR T' T.length (l ++ m) ∧ T' = T.set b deadBlk ++ [⟨((l ++ m).map RR.cells).flatten, 6, true⟩] := by
  have := append_own tt22 tt26 rfl (by decide) (by decide) h hx (by simpa using h0) (by simp; omega)
  simp only [List.length_map] at this
  refine ⟨_, this, ?_, ?_⟩
  · have h2 := OwnR.new (T.set b deadBlk) (l ++ m)
    simp only [List.length_set, List.map_append] at h2
    exact h2
  · simp only [List.map_append]
def mixL (A : List Rot) (i : Nat) : List Rot := (A.map Rot.qt).take i ++ A.drop i
theorem mixL_zero (A : List Rot) : mixL A 0 = A := by simp [mixL]
theorem mixL_all (A : List Rot) : mixL A A.length = A.map Rot.qt := by
  unfold mixL
  rw [List.drop_length, List.append_nil, List.take_of_length_le (by simp)]
theorem mixL_len (A : List Rot) {i : Nat} (hi : i ≤ A.length) : (mixL A i).length = A.length := by simp [mixL]; omega
theorem mixL_at {A : List Rot} {i : Nat} (hi : i < A.length) : (mixL A i)[i]'(by rw [mixL_len A (by omega)]; exact hi) = A[i] := by
  unfold mixL
  rw [List.getElem_append_right (by simp; omega)]
  simp only [List.getElem_drop]
  congr 1
  simp; omega
theorem mixL_set {A : List Rot} {i : Nat} (hi : i < A.length) : (mixL A i).set i (Rot.qt A[i]) = mixL A (i + 1) := by
  unfold mixL
  rw [List.set_append_right _ _ (by simp; omega)]
  have e : i - ((A.map Rot.qt).take i).length = 0 := by simp; omega
  rw [e, List.drop_eq_getElem_cons hi, List.set_cons_zero, List.take_add_one, List.getElem?_map, List.getElem?_eq_getElem hi]
  simp
theorem ListS (H : Heap) {k : Nat} (h0 : 0 < k) (h16 : k ≤ 16) : ∃ w H', Sim Tryz.prog 12 #[.int .i64 (k : Nat)] H w H' ∧ Ext H H' ∧ ∃ b, H.length ≤ b ∧ w = .tuple #[.slice (some ⟨b, 0, none⟩) (4 * k) 0, .int .i64 0] ∧ OwnR H' b ((outsL k 3).map RR.of) := by
  have h1 : ¬ (k : Int) < 1 := by omega
  have h2 : ¬ 16 < (k : Int) := by omega
  refine sxA tok mixed Tryz.func12 ?_
  simp -implicitDefEqProofs only [go_sem, simprocAttr, wa_cond, axC_t, axC_f, h1, h2]
  refine ax_midl (fun s T => ∃ b, H.length ≤ b ∧ s 4 = .func (.func 43) #[] #[] ∧ s 5 = .slice (some ⟨b, 0, none⟩) k 0 ∧ OwnR T b ((baseL k k).map RR.of) ∧ Ext H T) ?_ ?_
  · refine ax_loopx (fun (i : Nat) s T => s 0 = .int .i64 (k : Nat) ∧ s 4 = .func (.func 43) #[] #[] ∧ s 18 = .int .i64 (k : Nat) ∧ s 19 = .int .i64 (i : Nat) ∧ i ≤ k ∧ Ext H T ∧
      ((i = 0 ∧ s 5 = .slice none 0 0) ∨ ∃ b, 0 < i ∧ H.length ≤ b ∧ s 5 = .slice (some ⟨b, 0, none⟩) i 0 ∧ OwnR T b ((baseL k i).map RR.of))) (fun i => k - i) 0 ?_ ?_
    · simp -implicitDefEqProofs only [go_sem, simprocAttr]
      exact ⟨.refl _, .inl trivial⟩
    rintro i s T ⟨s0, s4, s18, s19, hi, hE, h5⟩
    simp -implicitDefEqProofs only [go_sem, simprocAttr, s18, s19]
    refine ax_cond2 ?_
    simp only [ev_tmp, ev_const, ev_func, upd_at, put_some, put_none, bndB_bool, Nat.reduceEqDiff, if_true, if_false, ↓reduceIte, reduceCtorEq]
    refine ⟨fun hc0 => have hlt := of_decide_eq_true hc0; ?_, fun hc0 => have hlt := of_decide_eq_false hc0; ?_⟩
    · have hik : i < k := by omega
      have o1 := fun H => ratioI_sim H (n := (i : Int)) (d := (k : Int)) (by omega) (by omega) (by omega) (by omega)
      simp only [show ¬ (k : Int) = 0 by omega, if_false] at o1
      have hsz : Fw.Sz (Rat.divInt (i : Int) (k : Int)) 6 := by
        rw [divInt_pos (by omega)]
        exact Sz.of (by omega) (by omega) (by omega)
      have o2 := fun H => OfR H hsz.qv (by omega)
      have et : Rot.ofT (Rat.divInt (i : Int) (k : Int)) = tanL k i := rfl
      rw [et] at o2
      have w1 : IntKind.i64.wrap ((i : Int) + 1) = ((i + 1 : Nat) : Int) := by rw [w64 (by omega) (by omega)]; rfl
      have hbase : (baseL k (i + 1)).map RR.of = (baseL k i).map RR.of ++ [RR.of (tanL k i)] := by simp [baseL, List.range_succ]
      generalize Rat.divInt (i : Int) (k : Int) = q at *
      simp -implicitDefEqProofs only [go_sem, simprocAttr, s0, s19]
      refine kv (o1 _) ?_
      simp -implicitDefEqProofs only [go_sem, simprocAttr, mkQ, qV]
      refine wl_callV _ (by simp -implicitDefEqProofs only [go_sem, simprocAttr, mkQ, qV]) (o2 _) ?_
      generalize RR.of (tanL k i) = r at *
      simp -implicitDefEqProofs only [go_sem, simprocAttr, row1]
      obtain ⟨cQ, hcQ⟩ : ∃ c : Blk, c = ⟨[.bool (decide (q.num < 0)), .string (bs (digB q.num.natAbs)), .string (bs (denB q.den))], 1, true⟩ := ⟨_, rfl⟩
      rw [← hcQ]
      clear hcQ o1 o2
      rcases h5 with ⟨rfl, h5⟩ | ⟨b, hi0, hb, h5, hown⟩
      · obtain ⟨T', happ, ho', hE'⟩ := append_R0 (T := T ++ [cQ]) r
        simp only [List.append_assoc, List.cons_append, List.nil_append, List.length_append, List.length_cons, List.length_nil, Nat.zero_add] at happ ho' hE'
        rw [h5]
        have hE2 : Ext H T' := hE.trans ((Ext.app T [cQ]).trans hE')
        clear hE'
        generalize T ++ [cQ, (⟨r.cells, 6, true⟩ : Blk)] = T1 at happ ⊢
        simp -implicitDefEqProofs only [go_sem, simprocAttr, happ, s0, s4, s18, s19, w1]
        refine ⟨1, ⟨rfl, by omega, hE2, .inr ⟨_, by decide, ?_, rfl, ?_⟩⟩, by omega⟩
        · have := hE.len; omega
        · rw [hbase]; exact ho'
      · have hl : ((baseL k i).map RR.of).length = i := by rw [List.length_map, baseL_len]
        obtain ⟨T', happ, ho', hT'⟩ := append_R (T := T ++ [cQ]) r (Own.app hown [cQ]) (by rw [hl]; omega)
        rw [hl] at happ
        simp only [List.append_assoc, List.cons_append, List.nil_append, List.length_append, List.length_cons, List.length_nil, Nat.zero_add] at happ ho' hT'
        have hE2 : Ext H T' := by
          rw [hT']
          exact ((hE.trans (.app _ _)).set hb _).trans (.app _ _)
        clear hT'
        rw [h5]
        generalize T ++ [cQ, (⟨r.cells, 6, true⟩ : Blk)] = T1 at happ ⊢
        simp -implicitDefEqProofs only [go_sem, simprocAttr, happ, s0, s4, s18, s19, w1]
        refine ⟨i + 1, ⟨rfl, by omega, hE2, .inr ⟨_, by omega, ?_, rfl, ?_⟩⟩, by omega⟩
        · have := hE.len; omega
        · rw [hbase]; exact ho'
    · have hik : i = k := by omega
      subst hik
      rcases h5 with ⟨h, _⟩ | ⟨b, hi0, hb, h5, hown⟩
      · omega
      · simp -implicitDefEqProofs only [go_sem, simprocAttr, s4, h5]
        exact ⟨b, hb, rfl, hown, hE⟩
  rintro s T ⟨b, hb, s4, s5, hown, hE⟩
  have hbl : ((baseL k k).map RR.of).length = k := by rw [List.length_map, baseL_len]
  have hne : (baseL k k).map RR.of ≠ [] := fun h => by rw [h] at hbl; simp at hbl; omega
  have hcl := cloneR T (hown.at (c := 0) (.inl rfl)) hne (by omega)
  rw [hbl] at hcl
  simp -implicitDefEqProofs only [go_sem, simprocAttr, s5]
  refine wl_callT _ (by simp -implicitDefEqProofs only [go_sem, simprocAttr, s5]) hcl ?_
  rintro _ T1 hE1 ⟨b1, hb1, rfl, hown1⟩
  have hownb : OwnR T1 b ((baseL k k).map RR.of) := by obtain ⟨G, rfl⟩ := hE1; exact hown.app G
  have hE2 := hE.trans hE1
  have hbT := hown.lt
  clear hcl hown hE hE1
  simp -implicitDefEqProofs only [go_sem, simprocAttr, s4, s5]
  have hneb : b ≠ b1 := by omega
  refine ax_loopx (fun (j : Nat) s T => ∃ b1, H.length ≤ b1 ∧ b ≠ b1 ∧ s 4 = .func (.func 43) #[] #[] ∧ s 5 = .slice (some ⟨b, 0, none⟩) k 0 ∧ s 9 = .slice (some ⟨b1, 0, none⟩) ((j + 1) * k) 0 ∧ s 36 = .int .i64 (j : Nat) ∧ j ≤ 3 ∧
    OwnR T b ((qn j (baseL k k)).map RR.of) ∧ OwnR T b1 ((outsL k j).map RR.of) ∧ Ext H T) (fun j => 3 - j) 0 ?_ ?_
  · refine ⟨b1, ?_⟩
    simp -implicitDefEqProofs only [go_sem, simprocAttr, s4, s5]
    refine ⟨by omega, hneb, by rw [Nat.one_mul], hownb, hown1, hE2⟩
  clear s4 s5 hownb hown1 hE2 hbT hb1 hneb b1 T1 hne hbl
  rintro j s T ⟨b1, hb1, hneb, s4, s5, s9, s36, hj, hA, hO, hE⟩
  simp -implicitDefEqProofs only [go_sem, simprocAttr, s36]
  have hlA : (qn j (baseL k k)).length = k := by rw [qn_len, baseL_len]
  have hszA := qn_sz (base_sz h0 h16 h16 : ∀ r ∈ baseL k k, r.Sz 60) j
  have hnext : qn (j + 1) (baseL k k) = (qn j (baseL k k)).map Rot.qt := rfl
  have houts : outsL k (j + 1) = outsL k j ++ (qn j (baseL k k)).map Rot.qt := rfl
  have hlO := outsL_len k j
  refine ax_cond2 ?_
  simp only [ev_tmp, ev_const, ev_func, upd_at, put_some, put_none, bndB_bool, Nat.reduceEqDiff, if_true, if_false, ↓reduceIte, reduceCtorEq]
  refine ⟨fun hc0 => have hlt := of_decide_eq_true hc0; ?_, fun hc0 => have hlt := of_decide_eq_false hc0; ?_⟩
  · have hj3 : j < 3 := by omega
    generalize outsL k j = O at *
    generalize qn j (baseL k k) = A at *
    have aL : ∀ c, aLen tt [22] (.slice (some ⟨b, 0, none⟩) k c) = some (.int .i64 (k : Nat)) := fun _ => rfl
    simp -implicitDefEqProofs only [go_sem, simprocAttr, s5, aL]
    refine ax_midl (fun s T => s 4 = .func (.func 43) #[] #[] ∧ s 5 = .slice (some ⟨b, 0, none⟩) k 0 ∧ s 9 = .slice (some ⟨b1, 0, none⟩) ((j + 1) * k) 0 ∧ s 36 = .int .i64 (j : Nat) ∧ OwnR T b ((A.map Rot.qt).map RR.of) ∧ OwnR T b1 (O.map RR.of) ∧ Ext H T) ?_ ?_
    · refine ax_loopx (fun (i : Nat) s T => s 4 = .func (.func 43) #[] #[] ∧ s 5 = .slice (some ⟨b, 0, none⟩) k 0 ∧ s 9 = .slice (some ⟨b1, 0, none⟩) ((j + 1) * k) 0 ∧ s 36 = .int .i64 (j : Nat) ∧ s 38 = .slice (some ⟨b, 0, none⟩) k 0 ∧ s 39 = .int .i64 (k : Nat) ∧ s 40 = .int .i64 (i : Nat) ∧ i ≤ k ∧
        OwnR T b ((mixL A i).map RR.of) ∧ OwnR T b1 (O.map RR.of) ∧ Ext H T) (fun i => k - i) 0 ?_ ?_
      · simp -implicitDefEqProofs only [go_sem, simprocAttr, s4, s5, s9, s36]
        exact ⟨by rw [mixL_zero]; exact hA, hO, hE⟩
      clear s4 s5 s9 s36 hA hO hE
      rintro i s T ⟨s4, s5, s9, s36, s38, s39, s40, hi, hA, hO, hE⟩
      simp -implicitDefEqProofs only [go_sem, simprocAttr, s39, s40]
      refine ax_cond2 ?_
      simp only [ev_tmp, ev_const, ev_func, upd_at, put_some, put_none, bndB_bool, Nat.reduceEqDiff, if_true, if_false, ↓reduceIte, reduceCtorEq]
      refine ⟨fun hc0 => have hik := of_decide_eq_true hc0; ?_, fun hc0 => have hik := of_decide_eq_false hc0; ?_⟩
      · have hiA : i < A.length := by omega
        have hml := mixL_len A (i := i) (by omega)
        have hr := (hA.at (c := 0) (.inl rfl)).rdR (j := i) (by simp; omega)
        have hel : ((mixL A i).map RR.of)[i]'(by simp; omega) = RR.of A[i] := by rw [List.getElem_map, mixL_at hiA]
        rw [hel] at hr
        have hset : ((mixL A i).map RR.of).set i (RR.of (Rot.qt A[i])) = (mixL A (i + 1)).map RR.of := by rw [← mixL_set hiA, List.map_set]
        have o1 := fun H => quarterS H (hszA _ (List.getElem_mem hiA)) (by decide)
        generalize A[i] = x at *
        have hnn : (0 : Int) ≤ (i : Int) := by omega
        have hlt2 : (i : Int) < (k : Int) := by omega
        have w1 : IntKind.i64.wrap ((i : Int) + 1) = ((i + 1 : Nat) : Int) := by rw [w64 (by omega) (by omega)]; rfl
        simp only [Nat.zero_add] at hr
        unfold RR.cells at hr
        unfold RR.val rV at o1
        simp -implicitDefEqProofs only [go_sem, simprocAttr, s38, s40, aIndexAddr, hnn, hlt2, hr, s4, s5]
        refine wl_callO _ (by simp -implicitDefEqProofs only [go_sem, simprocAttr, s4]) _ (by simp -implicitDefEqProofs only [go_sem, simprocAttr]) (o1 _) ?_
        obtain ⟨cB, hcB⟩ : ∃ c : Blk, c = ⟨[.bool (RR.of x).g, .string (bs (RR.of x).n), .string (bs (RR.of x).d), .bool (RR.of x).g', .string (bs (RR.of x).n'), .string (bs (RR.of x).d')], 1, true⟩ := ⟨_, rfl⟩
        rw [← hcB]
        clear hcB hr o1
        have hw := Own.wr (T := T ++ [cB]) (Own.app hA [cB]) (j := i) (by simp; omega) (x := (RR.of (Rot.qt x)).cells) rfl rfl
        have hA2 := Own.set (T := T ++ [cB]) (Own.app hA [cB]) (j := i) (x := (RR.of (Rot.qt x)).cells) rfl rfl
        have hO2 : OwnR ((T ++ [cB]).set b ⟨((((mixL A i).map RR.of).map RR.cells).set i (RR.of (Rot.qt x)).cells).flatten, 6, true⟩) b1 (O.map RR.of) := Own.other (Own.app hO [cB]) hneb _
        have hE2 := (hE.trans (Ext.app T [cB])).set hb ⟨((((mixL A i).map RR.of).map RR.cells).set i (RR.of (Rot.qt x)).cells).flatten, 6, true⟩
        have hlist : (((mixL A i).map RR.of).map RR.cells).set i (RR.of (Rot.qt x)).cells = ((mixL A (i + 1)).map RR.of).map RR.cells := by rw [← hset, List.map_set]
        rw [hlist] at hw hA2 hO2 hE2
        generalize (T ++ [cB]).set b ⟨(((mixL A (i + 1)).map RR.of).map RR.cells).flatten, 6, true⟩ = T2 at *
        unfold RR.cells at hw
        simp -implicitDefEqProofs only [go_sem, simprocAttr, s4, s5, s9, s36, s38, s39, s40, aIndexAddr, hnn, hlt2, hw, w1]
        exact ⟨i + 1, ⟨rfl, by omega, hA2, hO2, hE2⟩, by omega⟩
      · have hik2 : i = A.length := by omega
        simp -implicitDefEqProofs only [go_sem, simprocAttr, s4, s5, s9, s36]
        refine ⟨?_, hO, hE⟩
        rw [hik2, mixL_all] at hA
        exact hA
    clear s4 s5 s9 s36 hA hO hE
    rintro s T ⟨s4, s5, s9, s36, hA, hO, hE⟩
    have hlA2 : ((A.map Rot.qt).map RR.of).length = k := by simp [hlA]
    have hlO2 : (O.map RR.of).length = (j + 1) * k := by simp [hlO]
    have hjk : (j + 1) * k ≤ 3 * 16 := Nat.mul_le_mul (by omega) h16
    obtain ⟨T', happ, hO', hT'⟩ := append_RR hO (hA.at (c := 0) (.inl rfl)) (fun h => by rw [h] at hlA2; simp at hlA2; omega) (by omega)
    rw [hlA2, hlO2] at happ
    have hbT := hA.lt
    have hA' : OwnR T' b ((A.map Rot.qt).map RR.of) := by rw [hT']; exact Own.app (Own.other hA (by omega) _) _
    have hE' : Ext H T' := by rw [hT']; exact (hE.set hb1 _).trans (.app _ _)
    have hTl := hE.len
    have w1 : IntKind.i64.wrap ((j : Int) + 1) = ((j + 1 : Nat) : Int) := by rw [w64 (by omega) (by omega)]; rfl
    have hmul : (j + 1) * k + k = (j + 1 + 1) * k := by rw [Nat.add_mul (j + 1) 1 k]; omega
    rw [hmul] at happ
    simp -implicitDefEqProofs only [go_sem, simprocAttr, s4, s5, s9, s36, happ, w1]
    refine ⟨j + 1, ⟨T.length, hTl, by omega, rfl, rfl, by omega, ?_, ?_, hE'⟩, by omega⟩
    · rw [hnext]; exact hA'
    · rw [houts, List.map_append]; exact hO'
  · have hj3 : j = 3 := by omega
    subst hj3
    simp -implicitDefEqProofs only [go_sem, simprocAttr, s9, res12]
    exact ⟨hE, b1, hb1, rfl, hO⟩
end Go.Proofs.YthhmkaikopdmjaaGreat
namespace Go.Proofs.YthhmkaikopdmjaaGreat
open Go Go.Fw
theorem neighboursS (H : Heap) (x : Option Addr) (n c : Nat) : Sim Tryz.prog 65 #[.slice x n c] H (.func (.func 115) #[] #[.pointer (some ⟨H.length, 0, none⟩)]) (H ++ [⟨[.slice x n c], 1, true⟩]) := by
  refine soA tok mixed Tryz.func65 ?_
  simp -implicitDefEqProofs only [go_sem, simprocAttr, res65]
def nextR (l : List RR) (i : Nat) : Nat := (i + 1) % l.length
theorem nextR_lt {l : List RR} (h : l ≠ []) (i : Nat) : nextR l i < l.length := Nat.mod_lt _ (List.length_pos_iff.2 h)
theorem neighY {Y : Array Value → Heap → Heap → Prop} {l : List RR} {v : Value} {b0 : Nat} {H : Heap} (Inv : Nat → Heap → Prop) (h2 : 2 ≤ l.length) (hl : l.length ≤ 100000) (h0 : Inv 0 H)
    (hbox : ∀ i T, Inv i T → T[b0]? = some ⟨[v], 1, true⟩ ∧ RL T v l) (happ : ∀ i T B, Inv i T → Inv i (T ++ [B]))
    (hY : ∀ i T, ∀ hi : i < l.length, Inv i T → ∃ T', Y #[l[i].val, (l[nextR l i]'(nextR_lt (fun h => by rw [h] at hi; simp at hi) i)).val] T T' ∧ Inv (i + 1) T') :
    ∃ H1, SimY Tryz.prog 115 Y #[.pointer (some ⟨b0, 0, none⟩)] H H1 ∧ Inv l.length H1 := by
  have hne : l ≠ [] := fun h => by rw [h] at h2; simp at h2
  obtain ⟨G, g0, g1, g2⟩ := chain_ex (Inv := Inv) (n := l.length) (H := H) (Y := fun i T T' => ∀ hi : i < l.length, Y #[l[i].val, (l[nextR l i]'(nextR_lt hne i)).val] T T') (fun i => ⟨(l.getD i ⟨false, [], [], false, [], []⟩).cells, 1, true⟩) h0 happ
    (fun i T hi h => by obtain ⟨T', a, b⟩ := hY i T hi h; exact ⟨T', fun _ => a, b⟩)
  refine ⟨G l.length, ?_, g1 _ (Nat.le_refl _)⟩
  refine simY_of_ax tok mixed Tryz.func115 rfl (by kernel_rfl) (by kernel_rfl) (by simp only [Tryz.ntmps115, List.size_toArray, List.length_cons, List.length_nil]; omega) ?_
  intro y
  have hb := hbox 0 H h0
  obtain ⟨b, i0, c, rfl, hA0⟩ := hb.2.at hne
  have box : ∀ i, i ≤ l.length → ∀ B, rd (G i ++ B) b0 0 1 = some [.slice (some ⟨b, i0, none⟩) l.length c] := by
    intro i hi B
    refine rd_more ?_ B
    have := (hbox i _ (g1 i hi)).1
    unfold rd
    rw [this]; rfl
  have box0 := fun i hi => by simpa using box i hi []
  have hrow : ∀ i, i ≤ l.length → ElAt 6 (G i) b i0 c (l.map RR.cells) := by
    intro i hi
    obtain ⟨b', i', c', e, h⟩ := ((hbox i _ (g1 i hi)).2).at hne
    injection e with e1 e2 e3
    injection e1 with e1
    injection e1 with e4 e5
    subst e4 e5 e3
    exact h
  have e1 : aLen tt [22] (.slice (some ⟨b, i0, none⟩) l.length c) = some (.int .i64 (l.length : Nat)) := rfl
  have hnlt : ¬ (l.length : Int) < 2 := by omega
  rw [← g0]
  have bx0 := box0 0 (by omega)
  have eini : (#[Value.func (Fn.yield y) #[] #[]] ++ #[Value.pointer (some ⟨b0, 0, none⟩)] : Array Value) = #[.func (.yield y) #[] #[], .pointer (some ⟨b0, 0, none⟩)] := rfl
  rw [eini]
  simp -implicitDefEqProofs only [go_sem, simprocAttr, bx0, e1]
  refine ax_loopx (fun (i : Nat) s T => s 0 = .func (.yield y) #[] #[] ∧ s 1 = .pointer (some ⟨b0, 0, none⟩) ∧ s 5 = .slice (some ⟨b, i0, none⟩) l.length c ∧ s 6 = .int .i64 (l.length : Nat) ∧ s 7 = .int .i64 (i : Nat) ∧ i ≤ l.length ∧ T = G i) (fun i => l.length - i) 0 ?_ ?_
  · simp -implicitDefEqProofs only [go_sem, simprocAttr]
  rintro i s T ⟨s0, s1, s5, s6, s7, hi, rfl⟩
  simp -implicitDefEqProofs only [go_sem, simprocAttr, s6, s7]
  refine ax_cond2 ?_
  simp only [ev_tmp, ev_const, ev_func, upd_at, put_some, put_none, bndB_bool, Nat.reduceEqDiff, if_true, if_false, ↓reduceIte, reduceCtorEq]
  refine ⟨fun hc0 => have hlt := of_decide_eq_true hc0; ?_, fun hc0 => have hlt := of_decide_eq_false hc0; ?_⟩
  · have hil : i < l.length := by omega
    have hr := (hrow i hi).rdR hil
    have hj := nextR_lt hne i
    have hr2 := fun B => rd_more ((hrow i hi).rdR hj) B
    have hy := g2 i hil hil
    have hgd : l.getD i ⟨false, [], [], false, [], []⟩ = l[i] := by simp [List.getD, List.getElem?_eq_getElem hil]
    rw [hgd] at hy
    have bxi := box0 i hi
    have bxi2 := box i hi
    have m1 : IntKind.i64.wrap ((i : Int) + 1) = ((i + 1 : Nat) : Int) := by rw [w64 (by omega) (by omega)]; rfl
    have m2 : Int.tmod ((i + 1 : Nat) : Int) (l.length : Int) = ((nextR l i : Nat) : Int) := by rw [tmod_nat]; rfl
    have m3 : ¬ (l.length : Int) = 0 := by omega
    have hnn : (0 : Int) ≤ (i : Int) := by omega
    have hlt2 : (i : Int) < (l.length : Int) := by omega
    have hnn2 : (0 : Int) ≤ (nextR l i : Int) := by omega
    have hlt3 : (nextR l i : Int) < (l.length : Int) := by omega
    generalize l[nextR l i] = z at hr2 hy
    generalize l[i] = x at hr hy
    generalize nextR l i = j at m2 hnn2 hlt3 hr2
    unfold RR.cells at hr hr2 hy
    simp -implicitDefEqProofs only [go_sem, simprocAttr, s0, s1, s5, s7, aIndexAddr, hnn, hlt2, hr]
    refine ax_loud (by kernel_rfl) ?_
    simp -implicitDefEqProofs only [go_sem, simprocAttr, s0, s1, s5, s7, aIndexAddr, hnn, hlt2, hnn2, hlt3, hr2, bxi, bxi2, e1, hnlt, m1, m2, m3]
    unfold RR.val rV at hy
    refine wl_yield y _ (by simp -implicitDefEqProofs only [go_sem, simprocAttr, s0]) (by simp -implicitDefEqProofs only [go_sem, simprocAttr]) ⟨rfl, rfl, hy⟩ ?_
    simp -implicitDefEqProofs only [go_sem, simprocAttr, wa_cond, axC_t, axC_f, s0, s1, s5, s6, s7, m1]
    exact ⟨i + 1, ⟨rfl, by omega, rfl⟩, by omega⟩
  · have : i = l.length := by omega
    subst this
    simp -implicitDefEqProofs only [go_sem, simprocAttr]
    exact ⟨[], rfl, rfl⟩
end Go.Proofs.YthhmkaikopdmjaaGreat
namespace Go.Proofs.YthhmkaikopdmjaaGreat
open Go Go.Fw
theorem leq_cmp {a b : RR} (ha : a.err = 0) (hb : b.err = 0) : a.leq b ↔ ¬ cmpS b a < 0 := by rw [cmpS_ok hb ha]; rfl
theorem insertionS (T0 : Heap) {b : Nat} {L0 : List RR} {k c lo hi : Nat} (hown : OwnR T0 b L0) (hle : ∀ r ∈ L0, r.le k) (hk : k ≤ 19000) (hok : ∀ r ∈ L0, r.err = 0) (hlo : lo ≤ hi) (hhi : hi ≤ L0.length) (hlen : L0.length ≤ 1000000) :
    ∃ L, Sim Tryz.prog 177 #[.slice (some ⟨b, 0, none⟩) L0.length c, .int .i64 (lo : Nat), .int .i64 (hi : Nat), .func (.func 54) #[] #[]] T0 (.tuple #[]) (putR T0 b L) ∧ Within L0 L lo hi ∧ SrtTo RR.leq L lo hi := by
  suffices hx : ∃ w H', Sim Tryz.prog 177 #[.slice (some ⟨b, 0, none⟩) L0.length c, .int .i64 (lo : Nat), .int .i64 (hi : Nat), .func (.func 54) #[] #[]] T0 w H' ∧ w = .tuple #[] ∧ ∃ L, H' = putR T0 b L ∧ Within L0 L lo hi ∧ SrtTo RR.leq L lo hi by
    obtain ⟨w, H', h1, rfl, L, rfl, h2⟩ := hx
    exact ⟨L, h1, h2⟩
  have hb := hown.lt
  have a1 : IntKind.i64.wrap ((lo : Int) + 1) = ((lo + 1 : Nat) : Int) := by rw [w64 (by omega) (by omega)]; rfl
  have hself := putR_self hown
  refine sxA tok mixed Tryz.func177 ?_
  simp -implicitDefEqProofs only [go_sem, simprocAttr, a1]
  refine ax_loopx (fun (i : Nat) s T => s 0 = .slice (some ⟨b, 0, none⟩) L0.length c ∧ s 1 = .int .i64 (lo : Nat) ∧ s 2 = .int .i64 (hi : Nat) ∧ s 3 = .func (.func 54) #[] #[] ∧ s 8 = .int .i64 (i : Nat) ∧ lo + 1 ≤ i ∧ i ≤ hi + 1 ∧
    ∃ L, T = putR T0 b L ∧ Within L0 L lo hi ∧ SrtTo RR.leq L lo i) (fun i => hi + 1 - i) (lo + 1) ?_ ?_
  · simp -implicitDefEqProofs only [go_sem, simprocAttr]
    exact ⟨by omega, L0, hself.symm, .refl _ _ _, .one _ (by omega)⟩
  rintro i s T ⟨s0, s1, s2, s3, s8, hi1, hi2, L, rfl, hw, hs⟩
  simp -implicitDefEqProofs only [go_sem, simprocAttr, s2, s8]
  refine ax_cond2 ?_
  simp only [ev_tmp, ev_const, ev_func, upd_at, put_some, put_none, bndB_bool, Nat.reduceEqDiff, if_true, if_false, ↓reduceIte, reduceCtorEq]
  refine ⟨fun hc0 => have hlt := of_decide_eq_true hc0; ?_, fun hc0 => have hlt := of_decide_eq_false hc0; ?_⟩
  · have hih : i < hi := by omega
    simp -implicitDefEqProofs only [go_sem, simprocAttr, s8]
    refine ax_midl2 (fun s T => s 0 = .slice (some ⟨b, 0, none⟩) L0.length c ∧ s 1 = .int .i64 (lo : Nat) ∧ s 2 = .int .i64 (hi : Nat) ∧ s 3 = .func (.func 54) #[] #[] ∧ s 8 = .int .i64 (i : Nat) ∧
      ∃ L, T = putR T0 b L ∧ Within L0 L lo hi ∧ SrtTo RR.leq L lo (i + 1)) ?_ ?_
    · refine ax_loopx (fun (j : Nat) s T => s 0 = .slice (some ⟨b, 0, none⟩) L0.length c ∧ s 1 = .int .i64 (lo : Nat) ∧ s 2 = .int .i64 (hi : Nat) ∧ s 3 = .func (.func 54) #[] #[] ∧ s 8 = .int .i64 (i : Nat) ∧ s 9 = .int .i64 (j : Nat) ∧ lo ≤ j ∧ j ≤ i ∧
        ∃ L, T = putR T0 b L ∧ Within L0 L lo hi ∧ InsI RR.leq L lo i j) (fun j => j) i ?_ ?_
      · simp -implicitDefEqProofs only [go_sem, simprocAttr, s0, s1, s2, s3, s8]
        exact ⟨by omega, L, rfl, hw, hs.ins⟩
      clear s0 s1 s2 s3 s8 hw hs hself a1
      clear L
      rintro j s T ⟨s0, s1, s2, s3, s8, s9, hj1, hj2, L, rfl, hw, hs⟩
      have hLl := hw.len
      have hoL := hw.oks hok
      have hlL := hw.oks hle
      have ho := putR_own T0 L hb
      simp -implicitDefEqProofs only [go_sem, simprocAttr]
      refine ax_quiet (by kernel_rfl) ?_
      by_cases hjl : lo < j
      · obtain ⟨j, rfl⟩ : ∃ j', j = j' + 1 := ⟨j - 1, by omega⟩
        have hjn : j + 1 < L.length := by omega
        have r1 := (ho.at (c := 0) (.inl rfl)).rdR (j := j + 1) hjn
        have r2 := (ho.at (c := 0) (.inl rfl)).rdR (j := j) (by omega)
        have hcm := fun H => compareS H (hlL _ (List.getElem_mem hjn)) (hlL _ (List.getElem_mem (show j < L.length by omega))) hk
        have g1 : (lo : Int) < ((j + 1 : Nat) : Int) := by omega
        have g2 : (0 : Int) ≤ ((j + 1 : Nat) : Int) := by omega
        have g3 : ((j + 1 : Nat) : Int) < (L0.length : Int) := by omega
        have g4 : (0 : Int) ≤ (j : Int) := by omega
        have g5 : (j : Int) < (L0.length : Int) := by omega
        have m1 : IntKind.i64.wrap (((j + 1 : Nat) : Int) - 1) = (j : Int) := by rw [w64 (by omega) (by omega)]; omega
        have hiff := leq_cmp (hoL _ (List.getElem_mem (show j < L.length by omega))) (hoL _ (List.getElem_mem hjn))
        have hstep := fun hlt => hs.step (by omega) hjn hj2 hlt
        have hstop := fun hle => InsI.stop RR.tot hoL hs hjl hj2 hjn hle
        have htot := RR.lt_leq (hoL _ (List.getElem_mem hjn)) (hoL _ (List.getElem_mem (show j < L.length by omega)))
        have hcr := cmpS_ok (hoL _ (List.getElem_mem hjn)) (hoL _ (List.getElem_mem (show j < L.length by omega)))
        have hww := hw.trans (.swp L j hjn (by omega) (by omega))
        have w1 := ho.wr (j := j + 1) hjn L[j]
        have w2 := (putR_own T0 (L.set (j + 1) L[j]) hb).wr (j := j) (by simp; omega) L[j + 1]
        rw [putR_put] at w1 w2
        have hsw : (L.set (j + 1) L[j]).set j L[j + 1] = swp L j hjn := rfl
        rw [hsw] at w2
        generalize swp L j hjn = L2 at *
        generalize L.set (j + 1) L[j] = L1 at *
        simp only [Nat.add_sub_cancel] at hstop
        generalize L[j] = y at *
        generalize L[j + 1] = x at *
        unfold RR.cells at r1 r2 w1 w2
        unfold RR.val rV at hcm
        simp only [Nat.zero_add] at r1 r2
        simp -implicitDefEqProofs only [go_sem, simprocAttr, s0, s1, s2, s3, s9, aIndexAddr, g1, g2, g3, g4, g5, m1, r1, r2]
        refine wl_callO _ (by simp -implicitDefEqProofs only [go_sem, simprocAttr, s3]) _ (by simp -implicitDefEqProofs only [go_sem, simprocAttr]) (hcm _) ?_
        by_cases hc : cmpS x y < 0
        · simp -implicitDefEqProofs only [go_sem, simprocAttr, wa_cond, axC_t, axC_f, hc]
          refine ax_loud (by kernel_rfl) ?_
          simp -implicitDefEqProofs only [go_sem, simprocAttr, s0, s1, s2, s3, s8, s9, aIndexAddr, g1, g2, g3, g4, g5, m1, r1, r2, w1, w2]
          refine ⟨j, ⟨rfl, by omega, by omega, L2, rfl, hww, hstep (htot (by rw [hcr] at hc; exact hc))⟩, by omega⟩
        · simp -implicitDefEqProofs only [go_sem, simprocAttr, wa_cond, axC_t, axC_f, hc, s0, s1, s2, s3, s8]
          exact ⟨L, rfl, hw, hstop (hiff.2 hc)⟩
      · have : j = lo := by omega
        subst this
        have g1 : ¬ (j : Int) < (j : Int) := by omega
        simp -implicitDefEqProofs only [go_sem, simprocAttr, wa_cond, axC_t, axC_f, s0, s1, s2, s3, s8, s9, g1]
        exact ⟨L, rfl, hw, hs.zero⟩
    clear s0 s1 s2 s3 s8 hw hs hself a1
    clear L
    rintro s T ⟨s0, s1, s2, s3, s8, L, rfl, hw, hs⟩
    have m1 : IntKind.i64.wrap ((i : Int) + 1) = ((i + 1 : Nat) : Int) := by rw [w64 (by omega) (by omega)]; rfl
    simp -implicitDefEqProofs only [go_sem, simprocAttr, s0, s1, s2, s3, s8, m1]
    exact ⟨i + 1, ⟨rfl, by omega, by omega, L, rfl, hw, hs⟩, by omega⟩
  · have hih : hi ≤ i := by omega
    simp -implicitDefEqProofs only [go_sem, simprocAttr]
    refine ⟨[], rfl, rfl, L, rfl, hw, ?_⟩
    exact fun p q h0 h1 h2 hp hq => hs p q h0 h1 (by omega) hp hq
end Go.Proofs.YthhmkaikopdmjaaGreat
namespace Go.Proofs.YthhmkaikopdmjaaGreat
open Go Go.Fw
theorem len64_sim (H : Heap) {x : Nat} (hx : x < 256) : Sim Tryz.prog 186 #[.int .u64 (x : Nat)] H (.int .i64 (bitLen x : Nat)) H := by
  have hbl : bitLen x ≤ 8 := by
    by_cases h : x = 0
    · subst h; decide
    · exact bitLen_le (by omega) hx
  have c3 : (0 : Int) ≤ (x : Int) := by omega
  have c4 : IntKind.u8.wrap (x : Int) = (x : Int) := wu8 (by omega) (by omega)
  have c6 : IntKind.i64.wrap (((UInt8.ofNat (bitLen x)).toNat : Nat) : Int) = (bitLen x : Int) := by
    have : (UInt8.ofNat (bitLen x)).toNat = bitLen x := by simp; omega
    rw [this, w64n (by omega)]
  have c7 : IntKind.i64.wrap (0 + (bitLen x : Int)) = (bitLen x : Int) := by rw [Int.zero_add, w64n (by omega)]
  have key : ∀ (B : ByteArray), (∀ z : Fin 256, B[z.1]? = some (UInt8.ofNat (bitLen z.1))) → B[x]? = some (UInt8.ofNat (bitLen x)) := fun B h => h ⟨x, hx⟩
  have d1 : ¬ ((4294967296 : Int) ≤ (x : Int)) := by omega
  have d2 : ¬ ((65536 : Int) ≤ (x : Int)) := by omega
  have d3 : ¬ ((256 : Int) ≤ (x : Int)) := by omega
  refine soA tok mixed Tryz.func186 ?_
  generalize hB : (⟨(List.toArray _)⟩ : ByteArray) = B
  have hg := key B (by rw [← hB]; decide +kernel)
  clear hB key
  simp -implicitDefEqProofs only [go_sem, simprocAttr, wa_cond, axC_t, axC_f, d1, d2, d3, aConv, c3, c4, hg, c6, c7, res186]
theorem len_sim (H : Heap) {x : Nat} (hx : x < 256) : Sim Tryz.prog 119 #[.int .u64 (x : Nat)] H (.int .i64 (bitLen x : Nat)) H := by
  have o1 := fun H => len64_sim H hx
  refine soA tok mixed Tryz.func119 ?_
  simp -implicitDefEqProofs only [go_sem, simprocAttr, wa_cond, axC_t, axC_f]
  refine kv (o1 _) ?_
  simp -implicitDefEqProofs only [go_sem, simprocAttr, res119]
theorem pdq12 (T0 : Heap) {b : Nat} {L0 : List RR} {k c lo hi : Nat} {z : Int} (hown : OwnR T0 b L0) (hle : ∀ r ∈ L0, r.le k) (hk : k ≤ 19000) (hok : ∀ r ∈ L0, r.err = 0) (hlo : lo ≤ hi) (hhi : hi ≤ L0.length) (hlen : L0.length ≤ 1000000) (h12 : hi - lo ≤ 12) :
    ∃ L, Sim Tryz.prog 118 #[.slice (some ⟨b, 0, none⟩) L0.length c, .int .i64 (lo : Nat), .int .i64 (hi : Nat), .int .i64 z, .func (.func 54) #[] #[]] T0 (.tuple #[]) (putR T0 b L) ∧ Within L0 L lo hi ∧ SrtTo RR.leq L lo hi := by
  obtain ⟨L, o1, hw⟩ := insertionS T0 (c := c) hown hle hk hok hlo hhi hlen
  refine ⟨L, ?_, hw⟩
  have m1 : IntKind.i64.wrap ((hi : Int) - (lo : Int)) = ((hi - lo : Nat) : Int) := by rw [w64 (by omega) (by omega)]; omega
  have m2 : ((hi - lo : Nat) : Int) ≤ 12 := by omega
  refine soA tok mixed Tryz.func118 ?_
  simp -implicitDefEqProofs only [go_sem, simprocAttr]
  refine ax_loopx (fun (_ : Unit) s T => s 0 = .slice (some ⟨b, 0, none⟩) L0.length c ∧ s 1 = .int .i64 (lo : Nat) ∧ s 2 = .int .i64 (hi : Nat) ∧ s 4 = .func (.func 54) #[] #[] ∧ T = T0) (fun _ => 0) () ?_ ?_
  · simp -implicitDefEqProofs only [go_sem, simprocAttr]
  rintro _ s T ⟨s0, s1, s2, s4, rfl⟩
  simp -implicitDefEqProofs only [go_sem, simprocAttr, wa_cond, axC_t, axC_f, s0, s1, s2, s4, m1, m2]
  refine kl o1 ?_
  simp -implicitDefEqProofs only [go_sem, simprocAttr]
  first | rfl | exact ⟨[], rfl, rfl, rfl⟩
theorem sort12 (T0 : Heap) {b : Nat} {L0 : List RR} {k c : Nat} (hown : OwnR T0 b L0) (hle : ∀ r ∈ L0, r.le k) (hk : k ≤ 19000) (hok : ∀ r ∈ L0, r.err = 0) (h12 : L0.length ≤ 12) :
    ∃ L, Sim Tryz.prog 67 #[.slice (some ⟨b, 0, none⟩) L0.length c, .func (.func 54) #[] #[]] T0 (.tuple #[]) (putR T0 b L) ∧ L.Perm L0 ∧ L.Pairwise RR.leq := by
  obtain ⟨L, o1, hw, hs⟩ := pdq12 T0 (c := c) (z := (bitLen L0.length : Nat)) hown hle hk hok (Nat.zero_le _) (Nat.le_refl _) (by omega) (by omega)
  refine ⟨L, ?_, hw.perm, ?_⟩
  · have e1 : aLen tt [22] (.slice (some ⟨b, 0, none⟩) L0.length c) = some (.int .i64 (L0.length : Nat)) := rfl
    have o2 := fun H => len_sim H (x := L0.length) (by omega)
    have c1 : IntKind.u64.wrap (L0.length : Int) = (L0.length : Int) := wu64n (by omega)
    refine soA tok mixed Tryz.func67 ?_
    simp -implicitDefEqProofs only [go_sem, simprocAttr, e1, aConv, c1]
    refine kv (o2 _) ?_
    simp -implicitDefEqProofs only [go_sem, simprocAttr]
    refine kl o1 ?_
    simp -implicitDefEqProofs only [go_sem, simprocAttr]
    first | rfl | exact ⟨[], rfl, rfl, rfl⟩
  · rw [← hw.len] at hs
    exact hs.pairwise
end Go.Proofs.YthhmkaikopdmjaaGreat
namespace Go.Proofs.YthhmkaikopdmjaaGreat
open Go Go.Fw
theorem mid_ok {a b : Rot} (ha : a.ok) : (Rot.mid a b).ok := by
  unfold Rot.mid
  split
  · exact Rot.thn_ok ha (by unfold Rot.ok; simp only; grind)
  · exact Rot.thn_ok ha (Rot.ofT_ok _)
theorem mid_sz {a b : RR} {k : Nat} (ha : a.le k) (hb : b.le k) (hk : k ≤ 80) (ea : a.err = 0) (eb : b.err = 0) : (Rot.mid a.rot b.rot).Sz 18000 := by
  have oka := (RR.err_zero.1 ea).2
  have okb := (RR.err_zero.1 eb).2
  have okd : (a.rot.back.thn b.rot).ok := Rot.thn_ok (Rot.back_ok oka) okb
  have zd : (a.rot.back.thn b.rot).Sz (4 * k + 21) := by
    have := ha.bk.sz.thn hb.sz
    rw [RR.bk_rot] at this
    exact this.mono (by omega)
  have hhalf := Rot.half_one okd
  unfold Rot.mid
  generalize hdd : a.rot.back.thn b.rot = d at *
  by_cases hh : d.half = 1
  · rw [if_pos hh]
    have hq0 : (Rot.mk 0 1).Sz 2 := ⟨⟨by decide, by decide⟩, sz_one (by decide)⟩
    exact (ha.sz.thn hq0).mono (by omega)
  · rw [if_neg hh]
    obtain ⟨hs0, hc0, hc1⟩ := hhalf hh
    have hpos : 0 ≤ d.s / (1 + d.c) := by
      rw [Rat.div_def]
      exact Rat.mul_nonneg hs0 (Rat.le_of_lt (Rat.inv_pos.2 hc1))
    have zt := zd.s.div ((sz_one (k := 2) (by decide)).add zd.c) (by omega)
    have z3 := Sz.int (z := 3) (k := 2) (by decide) (by decide)
    rw [show ((3 : Int) : Rat) = 3 from rfl] at z3
    have zth := zt.div z3 (by decide)
    generalize hth : d.s / (1 + d.c) / 3 = th at *
    have hth0 : 0 ≤ th := by
      rw [← hth, Rat.div_def]
      exact Rat.mul_nonneg hpos (Rat.le_of_lt (Rat.inv_pos.2 (by decide)))
    have zs := Sz.smp (a := th) (b := th + th) (k := 16 * k + 100) (by grind) (zth.mono (by omega)) ((zth.add zth).mono (by omega)) (by omega)
    exact (ha.sz.thn (Rot.Sz.ofT zs)).mono (by omega)
def rr0 : RR := ⟨false, [], [], false, [], []⟩
def midsTo (l : List RR) (i : Nat) : List RR := (List.range i).map fun j => RR.of (Rot.mid (l.getD j rr0).rot (l.getD (nextR l j) rr0).rot)
theorem midsTo_len (l : List RR) (i : Nat) : (midsTo l i).length = i := by simp [midsTo]
theorem midsTo_succ (l : List RR) (i : Nat) : midsTo l (i + 1) = midsTo l i ++ [RR.of (Rot.mid (l.getD i rr0).rot (l.getD (nextR l i) rr0).rot)] := by simp [midsTo, List.range_succ]
theorem getD_eq {l : List RR} {i : Nat} (h : i < l.length) : l.getD i rr0 = l[i] := by simp [List.getD, List.getElem?_eq_getElem h]
theorem mids_le {l : List RR} {k i : Nat} (hle : ∀ r ∈ l, r.le k) (hok : ∀ r ∈ l, r.err = 0) (hk : k ≤ 80) (hi : i ≤ l.length) : ∀ r ∈ midsTo l i, r.le 18007 ∧ r.err = 0 := by
  intro r hr
  obtain ⟨j, hj, rfl⟩ := List.mem_map.1 hr
  have hj := List.mem_range.1 hj
  have hjl : j < l.length := by omega
  have hn := nextR_lt (l := l) (fun h => by rw [h] at hjl; simp at hjl) j
  rw [getD_eq hjl, getD_eq hn]
  have m1 := List.getElem_mem hjl
  have m2 := List.getElem_mem hn
  exact ⟨(mid_sz (hle _ m1) (hle _ m2) hk (hok _ m1) (hok _ m2)).le, by rw [RR.err_of, if_pos (mid_ok (RR.err_zero.1 (hok _ m1)).2)]⟩
theorem next_ne {l : List RR} (ho : Ord l) (h2 : 2 ≤ l.length) {i : Nat} (hi : i < l.length) : (l[i]).rot ≠ (l[nextR l i]'(nextR_lt ho.ne i)).rot := by
  have hn := nextR_lt ho.ne i
  have hp := List.pairwise_iff_getElem.1 ho.ord
  have hne : i ≠ nextR l i := by
    unfold nextR
    by_cases h : i + 1 = l.length
    · rw [h, Nat.mod_self]; omega
    · rw [Nat.mod_eq_of_lt (by omega)]; omega
  intro he
  have ok := (RR.err_zero.1 (ho.ok _ (List.getElem_mem hi))).2
  rcases Nat.lt_or_gt_of_ne hne with h | h
  · have := hp i (nextR l i) hi hn h
    rw [← he] at this
    exact Rot.lt_irrefl ok this
  · have := hp (nextR l i) i hn hi h
    rw [← he] at this
    exact Rot.lt_irrefl ok this
theorem wr_cell {T : Heap} {p : Nat} {w v : Value} (h : T[p]? = some ⟨[w], 1, true⟩) (hv : isCell v = true) : wr T p 0 [v] = some (T.set p ⟨[v], 1, true⟩) := by
  rw [wr_eq, h]
  simp [splice, hv, allC_cons, allC_nil]
theorem rd_cell {T : Heap} {p : Nat} {w : Value} (h : T[p]? = some ⟨[w], 1, true⟩) : rd T p 0 1 = some [w] := by
  unfold rd
  rw [h]; rfl
def RefInv (H : Heap) (p : Nat) (v : Value) (l : List RR) (i : Nat) (T : Heap) : Prop :=
  ∃ b', H.length ≤ b' ∧ b' ≠ p ∧ b' ≠ p + 1 ∧ T[p]? = some ⟨[.slice (some ⟨b', 0, none⟩) (l.length + i) 0], 1, true⟩ ∧ T[p + 1]? = some ⟨[v], 1, true⟩ ∧ OwnR T b' (l ++ midsTo l i) ∧ Ext H T
theorem RefineG (H : Heap) {v : Value} {l : List RR} {k : Nat} (hv : RL H v l) (hle : ∀ r ∈ l, r.le k) (hk : k ≤ 80) (ho : Ord l) (h2 : 2 ≤ l.length) (h32 : l.length ≤ 32)
    (hS : ∀ (T : Heap) (b : Nat) (L0 : List RR), OwnR T b L0 → (∀ r ∈ L0, r.le 18007) → (∀ r ∈ L0, r.err = 0) → L0.length = l.length + l.length → ∃ L, Sim Tryz.prog 67 #[.slice (some ⟨b, 0, none⟩) L0.length 0, .func (.func 54) #[] #[]] T (.tuple #[]) (putR T b L) ∧ L.Perm L0 ∧ L.Pairwise RR.leq) :
    ∃ w H', Sim Tryz.prog 26 #[v] H w H' ∧ Ext H H' ∧ ∃ b L, H.length ≤ b ∧ w = .tuple #[.slice (some ⟨b, 0, none⟩) (2 * l.length) 0, .int .i64 0] ∧ OwnR H' b L ∧ L.Perm (l ++ midsTo l l.length) ∧ L.Pairwise RR.leq := by
  have hne := ho.ne
  have o1 := CheckS H hv hle (by omega) (by omega)
  have hchk := ok_chk ho
  rw [hchk] at o1
  have e1 := hv.len (tt := tt) tt22
  obtain ⟨b, i0, c, rfl, hA⟩ := hv.at hne
  have m1 : IntKind.i64.wrap (2 * (l.length : Int)) = ((2 * l.length : Nat) : Int) := by rw [w64 (by omega) (by omega)]; omega
  have m2 : (1 : Int) < (l.length : Int) := by omega
  have m3 : ¬ (64 : Int) < ((2 * l.length : Nat) : Int) := by omega
  obtain ⟨vc, T1, ocl, hE1, b1, hb1, rfl, hown1⟩ := cloneR H hA hne (by omega)
  refine stA tok mixed Tryz.func26 ?_
  simp -implicitDefEqProofs only [go_sem, simprocAttr, wt_seq, wt_block, wt_region, wt_loop, wt_skip, wt_exit, wt_ret, wt_cond, axCT_t, axCT_f]
  refine kv o1 ?_
  simp -implicitDefEqProofs only [go_sem, simprocAttr, wt_seq, wt_block, wt_region, wt_loop, wt_skip, wt_exit, wt_ret, wt_cond, axCT_t, axCT_f, e1, m1, m2, m3]
  refine kl ocl ?_
  simp -implicitDefEqProofs only [go_sem, simprocAttr, wt_seq, wt_block, wt_region, wt_loop, wt_skip, wt_exit, wt_ret, wt_cond, axCT_t, axCT_f]
  have on := neighboursS (T1 ++ [⟨[.slice (some ⟨b1, 0, none⟩) l.length 0], 1, true⟩]) (some ⟨b, i0, none⟩) l.length c
  refine kl on ?_
  simp -implicitDefEqProofs only [go_sem, simprocAttr, wt_seq, wt_block, wt_region, wt_loop, wt_skip, wt_exit, wt_ret, wt_cond, axCT_t, axCT_f]
  have hlen1 := hE1.len
  have hvs : ∀ T, Ext H T → RL T (.slice (some ⟨b, i0, none⟩) l.length c) l := fun T hT => hv.ext hT
  refine axT_range (RefInv H T1.length (.slice (some ⟨b, i0, none⟩) l.length c) l l.length) (by simp -implicitDefEqProofs only [go_sem, simprocAttr]; rfl) (neighY (v := .slice (some ⟨b, i0, none⟩) l.length c) (RefInv H T1.length (.slice (some ⟨b, i0, none⟩) l.length c) l) h2 (by omega) ?_ ?_ ?_ ?_) ?_
  · refine ⟨b1, hb1, ?_, ?_, ?_, ?_, ?_, ?_⟩
    · have := hown1.lt; omega
    · have := hown1.lt; omega
    · simp
    · simp
    · simp only [midsTo, List.range_zero, List.map_nil, List.append_nil]; exact Own.app hown1 _
    · exact hE1.trans (.app _ _)
  · rintro i T ⟨b', g1, g2, g3, g4, g5, g6, g7⟩
    exact ⟨g5, hvs T g7⟩
  · rintro i T B ⟨b', g1, g2, g3, g4, g5, g6, g7⟩
    have l1 := (List.getElem?_eq_some_iff.1 g4).1
    have l2 := (List.getElem?_eq_some_iff.1 g5).1
    exact ⟨b', g1, g2, g3, by rw [List.getElem?_append_left l1]; exact g4, by rw [List.getElem?_append_left l2]; exact g5, Own.app g6 _, g7.trans (.app _ _)⟩
  · rintro i T hi ⟨b', g1, g2, g3, g4, g5, g6, g7⟩
    refine yr_ex rfl ?_
    have hj := nextR_lt hne i
    have mi := List.getElem_mem hi
    have mj := List.getElem_mem hj
    have om := fun H => MiddleR H (hle _ mi) (hle _ mj) (by omega) (ho.ok _ mi) (ho.ok _ mj) (next_ne ho h2 hi)
    have hsucc := midsTo_succ l i
    rw [getD_eq hi, getD_eq hj] at hsucc
    generalize RR.of (Rot.mid l[i].rot l[nextR l i].rot) = m at *
    generalize l[nextR l i] = z at om ⊢
    generalize l[i] = x at om ⊢
    have rp := fun B => rd_more (rd_cell g4) B
    have hlen2 : (l ++ midsTo l i).length = l.length + i := by rw [List.length_append, midsTo_len]
    have hpT := (List.getElem?_eq_some_iff.1 g4).1
    have hpT1 := (List.getElem?_eq_some_iff.1 g5).1
    have hT2 : ∀ B : Heap, ∃ T2, T2 = T ++ B ∧ OwnR T2 b' (l ++ midsTo l i) ∧ T2[T1.length]? = some ⟨[.slice (some ⟨b', 0, none⟩) (l.length + i) 0], 1, true⟩ ∧ T2[T1.length + 1]? = some ⟨[.slice (some ⟨b, i0, none⟩) l.length c], 1, true⟩ ∧ Ext H T2 ∧ T.length ≤ T2.length := fun B =>
      ⟨_, rfl, Own.app g6 _, by rw [List.getElem?_append_left hpT]; exact g4, by rw [List.getElem?_append_left hpT1]; exact g5, g7.trans (.app _ _), by simp⟩
    obtain ⟨T2, hT2, f1, f2, f3, f4, f5⟩ := hT2 [⟨x.cells, 1, true⟩, ⟨z.cells, 1, true⟩, ⟨m.cells, 1, true⟩]
    obtain ⟨T3, happ, ho3, hT3⟩ := append_R m f1 (by rw [hlen2]; omega)
    rw [hlen2] at happ
    have q1 : T3[T1.length]? = some ⟨[.slice (some ⟨b', 0, none⟩) (l.length + i) 0], 1, true⟩ := by
      rw [hT3, List.getElem?_append_left (by simp; omega), List.getElem?_set_ne g2, List.getElem?_append_left (by omega)]; exact f2
    have q2 : T3[T1.length + 1]? = some ⟨[.slice (some ⟨b, i0, none⟩) l.length c], 1, true⟩ := by
      rw [hT3, List.getElem?_append_left (by simp; omega), List.getElem?_set_ne g3, List.getElem?_append_left (by omega)]; exact f3
    have q3 : Ext H T3 := by rw [hT3]; exact ((f4.trans (.app _ _)).set g1 _).trans (.app _ _)
    have hw := wr_cell q1 (v := .slice (some ⟨T2.length + 1, 0, none⟩) (l.length + i + 1) 0) rfl
    have q4 : OwnR (T3.set T1.length ⟨[.slice (some ⟨T2.length + 1, 0, none⟩) (l.length + i + 1) 0], 1, true⟩) (T2.length + 1) (l ++ midsTo l (i + 1)) := by
      rw [hsucc, ← List.append_assoc]; exact Own.other ho3 (by omega) _
    have q5 := q3.set hlen1 ⟨[.slice (some ⟨T2.length + 1, 0, none⟩) (l.length + i + 1) 0], 1, true⟩
    have q6 : (T3.set T1.length ⟨[.slice (some ⟨T2.length + 1, 0, none⟩) (l.length + i + 1) 0], 1, true⟩)[T1.length]? = some ⟨[.slice (some ⟨T2.length + 1, 0, none⟩) (l.length + i + 1) 0], 1, true⟩ := by
      rw [List.getElem?_set_self (List.getElem?_eq_some_iff.1 q1).1]
    have q7 : (T3.set T1.length ⟨[.slice (some ⟨T2.length + 1, 0, none⟩) (l.length + i + 1) 0], 1, true⟩)[T1.length + 1]? = some ⟨[.slice (some ⟨b, i0, none⟩) l.length c], 1, true⟩ := by
      rw [List.getElem?_set_ne (by omega)]; exact q2
    have row := row1 T2 m
    generalize T3.set T1.length ⟨[.slice (some ⟨T2.length + 1, 0, none⟩) (l.length + i + 1) 0], 1, true⟩ = T4 at *
    clear hT3 q1 q2 q3 ho3 f1 f2 f3 f4
    generalize (T2 ++ [(⟨m.cells, 6, true⟩ : Blk)]) = T5 at *
    simp only [RR.cells] at hT2
    unfold RR.val rV at om ⊢
    unfold RR.val rV at row
    simp -implicitDefEqProofs only [go_sem, simprocAttr, putPs_two, mkR]
    refine kv (om _) ?_
    simp -implicitDefEqProofs only [go_sem, simprocAttr, rp]
    rw [← hT2]
    clear hT2
    simp -implicitDefEqProofs only [go_sem, simprocAttr, row, happ, hw]
    exact ⟨T2.length + 1, by omega, by omega, by omega, q6, q7, q4, q5⟩
  · rintro T ⟨b', g1, g2, g3, g4, g5, g6, g7⟩
    have rp := rd_cell g4
    have hlen2 : (l ++ midsTo l l.length).length = l.length + l.length := by rw [List.length_append, midsTo_len]
    have hle2 : ∀ r ∈ l ++ midsTo l l.length, r.le 18007 := by
      intro r hr
      rcases List.mem_append.1 hr with hr | hr
      · exact (hle r hr).mono (by omega)
      · exact (mids_le hle ho.ok hk (Nat.le_refl _) r hr).1
    have hok2 : ∀ r ∈ l ++ midsTo l l.length, r.err = 0 := by
      intro r hr
      rcases List.mem_append.1 hr with hr | hr
      · exact ho.ok r hr
      · exact (mids_le hle ho.ok hk (Nat.le_refl _) r hr).2
    obtain ⟨L, os, hperm, hpair⟩ := hS T b' _ g6 hle2 hok2 hlen2
    rw [hlen2] at os
    have rp2 : rd (putR T b' L) T1.length 0 1 = some [.slice (some ⟨b', 0, none⟩) (l.length + l.length) 0] := by
      refine rd_cell ?_
      unfold putR
      rw [List.getElem?_set_ne g2]; exact g4
    simp -implicitDefEqProofs only [go_sem, simprocAttr, wt_seq, wt_block, wt_region, wt_loop, wt_skip, wt_exit, wt_ret, wt_cond, axCT_t, axCT_f, rp]
    refine kl os ?_
    simp -implicitDefEqProofs only [go_sem, simprocAttr, wt_seq, wt_block, wt_region, wt_loop, wt_skip, wt_exit, wt_ret, wt_cond, axCT_t, axCT_f, rp2, res26]
    refine ⟨g7.set g1 _, b', L, g1, by rw [Nat.two_mul], putR_own _ _ (Own.lt g6), hperm, hpair⟩
theorem RefineS (H : Heap) {v : Value} {l : List RR} {k : Nat} (hv : RL H v l) (hle : ∀ r ∈ l, r.le k) (hk : k ≤ 80) (ho : Ord l) (h2 : 2 ≤ l.length) (h6 : l.length ≤ 6) :
    ∃ w H', Sim Tryz.prog 26 #[v] H w H' ∧ Ext H H' ∧ ∃ b L, H.length ≤ b ∧ w = .tuple #[.slice (some ⟨b, 0, none⟩) (2 * l.length) 0, .int .i64 0] ∧ OwnR H' b L ∧ L.Perm (l ++ midsTo l l.length) ∧ L.Pairwise RR.leq :=
  RefineG H hv hle hk ho h2 (by omega) fun T b L0 h1 h2 h3 h4 => sort12 T h1 h2 (by omega) h3 (by omega)
end Go.Proofs.YthhmkaikopdmjaaGreat
namespace Go.Proofs.YthhmkaikopdmjaaGreat
open Go Go.Fw
def rotI (a b c : Int) : Rot := ⟨Rat.divInt a c, Rat.divInt b c⟩
theorem turnS (H : Heap) {a b c : Int} (ha : -1000 ≤ a ∧ a ≤ 1000) (hb : -1000 ≤ b ∧ b ≤ 1000) (hc : 0 < c ∧ c ≤ 1000) : Sim Tryz.prog 20 #[.int .i64 a, .int .i64 b, .int .i64 c] H (RR.of (rotI a b c)).val H := by
  refine flat_ex rfl ?_
  have o1 := fun H => ratioI_sim H (n := a) (d := c) (by omega) (by omega) (by omega) (by omega)
  have o2 := fun H => ratioI_sim H (n := b) (d := c) (by omega) (by omega) (by omega) (by omega)
  simp only [show ¬ c = 0 by omega, if_false] at o1 o2
  rw [RR.of_val]
  unfold rotI
  simp only
  generalize Rat.divInt a c = x at *
  generalize Rat.divInt b c = y at *
  refine sxA tok mixed Tryz.func20 ?_
  simp -implicitDefEqProofs only [go_sem, simprocAttr, UU]
  refine kw (o1 _) ?_
  refine kw (o2 _) ?_
  simp -implicitDefEqProofs only [go_sem, simprocAttr, UU, res20]
  first | exact .app _ _ | exact ⟨.app _ _, rfl⟩ | exact .refl _ | exact ⟨.refl _, rfl⟩
def enumR : Nat → List RR → List (Nat × Value) | _, [] => [] | i, r :: l => (i, r.val) :: enumR (i + 1) l
theorem fill_rows : ∀ (l done : List RR) (rest : List Value), rest.length = 6 * l.length → fillL (fun i => some (i * 6, 6)) ((done.map RR.cells).flatten ++ rest) (enumR done.length l) = some (((done ++ l).map RR.cells).flatten) := by
  intro l
  induction l with
  | nil =>
    intro done rest h
    have : rest = [] := by simpa using h
    subst this
    simp [enumR, fillL]
  | cons r l ih =>
    intro done rest h
    have hl : ((done.map RR.cells).flatten).length = done.length * 6 := by
      have := flatten_len (k := 6) (RR.cells_all done)
      rw [this, List.length_map, Nat.mul_comm]
    have hlen : rest.length = 6 + 6 * l.length := by rw [h, List.length_cons]; omega
    unfold enumR fillL
    simp only
    have hsz : r.val.cells.size = 6 := rfl
    rw [if_neg (by rw [hsz, List.length_append, hl]; omega)]
    have hsp : splice ((done.map RR.cells).flatten ++ rest) (done.length * 6) r.val.cells.toList = ((done ++ [r]).map RR.cells).flatten ++ rest.drop 6 := by
      unfold splice
      have e : r.val.cells.toList = r.cells := rfl
      rw [e, ← hl, List.take_left, List.drop_append, List.drop_eq_nil_of_le (by omega)]
      simp [RR.cells_len]
    rw [hsp]
    have := ih (done ++ [r]) (rest.drop 6) (by simp; omega)
    rw [List.length_append, List.length_cons, List.length_nil, Nat.zero_add] at this
    rw [this]
    simp
theorem build_rows (T : Heap) (l : List RR) (h : 0 < l.length) (h2 : l.length ≤ 1000) : aBuildSlice tt T 22 l.length (enumR 0 l) = some (.slice (some ⟨T.length, 0, none⟩) l.length l.length, T ++ [⟨(l.map RR.cells).flatten, 6, true⟩]) := by
  have := fill_rows l [] (zerosL (if l.length * 6 = 0 then [] else (Value.agg #[(.bool false), (.string ⟨#[]⟩), (.string ⟨#[]⟩), (.bool false), (.string ⟨#[]⟩), (.string ⟨#[]⟩)]).cells.toList) (l.length * 6)) (by rw [if_neg (by omega)]; simp [zerosL]; omega)
  unfold aBuildSlice
  simp only [tt22, tt26]
  rw [if_pos (by omega)]
  simp only [List.map_nil, List.flatten_nil, List.nil_append, List.length_nil] at this
  rw [this]
theorem row8 (T : Heap) (a b c d e f g h : RR) : aBuildSlice tt T 22 8 [(0, a.val), (1, b.val), (2, c.val), (3, d.val), (4, e.val), (5, f.val), (6, g.val), (7, h.val)] = some (.slice (some ⟨T.length, 0, none⟩) 8 8, T ++ [⟨([a, b, c, d, e, f, g, h].map RR.cells).flatten, 6, true⟩]) :=
  build_rows T [a, b, c, d, e, f, g, h] (by simp) (by simp)
def wantL : List Rot := [rotI 1 0 1, rotI 3 4 5, rotI 0 1 1, rotI (-4) 3 5, rotI (-1) 0 1, rotI (-3) (-4) 5, rotI 0 (-1) 1, rotI 4 (-3) 5]
deriving instance DecidableEq for Rot
theorem want_eq : wantL = outsL 2 3 := by decide +kernel
def listR (k : Nat) : List RR := (outsL k 3).map RR.of
theorem listR_chk : ∀ k : Fin 17, 0 < k.1 → chkR (listR k.1) = 0 := by decide +kernel
theorem awake_chk2 : chk2 (listR 2) (RR.of (rotI 4 3 5)) = 0 := by decide +kernel
theorem awake_has : hasR (listR 2) (RR.of (rotI 4 3 5)) = false := by decide +kernel
theorem awake_cnt : cntLess (listR 2) (RR.of (rotI 4 3 5)) = 1 := by decide +kernel
theorem awake_perm : (listR 1 ++ midsTo (listR 1) (listR 1).length).Perm (listR 2) := by decide +kernel
theorem listR_len (k : Nat) : (listR k).length = 4 * k := by unfold listR; rw [List.length_map, outsL_len]
theorem listR_le {k : Nat} (h0 : 0 < k) (h16 : k ≤ 16) : ∀ r ∈ listR k, r.le 67 := by
  intro r hr
  obtain ⟨x, hx, rfl⟩ := List.mem_map.1 hr
  have : ∀ j, ∀ r ∈ outsL k j, r.Sz 60 := by
    intro j
    induction j with
    | zero => exact base_sz h0 h16 h16
    | succ j ih =>
      intro r hr
      rcases List.mem_append.1 hr with hr | hr
      · exact ih r hr
      · exact qn_sz (base_sz h0 h16 h16) _ r hr
  exact (this 3 x hx).le
theorem listR_ord {k : Nat} (h0 : 0 < k) (h16 : k ≤ 16) : Ord (listR k) := chk_ok (listR_chk ⟨k, by omega⟩ h0)
theorem ListK (H : Heap) {k : Nat} (h0 : 0 < k) (h16 : k ≤ 16) : ∃ w H', Sim Tryz.prog 12 #[.int .i64 (k : Nat)] H w H' ∧ Ext H H' ∧ ∃ b, H.length ≤ b ∧ w = .tuple #[.slice (some ⟨b, 0, none⟩) (4 * k) 0, .int .i64 0] ∧ OwnR H' b (listR k) := ListS H h0 h16
theorem awakeS (H : Heap) : Sim Tryz.prog 11 #[] H (.bool true) H := by
  refine flat_ex rfl ?_
  have t0 := fun H => turnS H (a := 1) (b := 0) (c := 1) (by decide) (by decide) (by decide)
  have t1 := fun H => turnS H (a := 3) (b := 4) (c := 5) (by decide) (by decide) (by decide)
  have t2 := fun H => turnS H (a := 0) (b := 1) (c := 1) (by decide) (by decide) (by decide)
  have t3 := fun H => turnS H (a := -4) (b := 3) (c := 5) (by decide) (by decide) (by decide)
  have t4 := fun H => turnS H (a := -1) (b := 0) (c := 1) (by decide) (by decide) (by decide)
  have t5 := fun H => turnS H (a := -3) (b := -4) (c := 5) (by decide) (by decide) (by decide)
  have t6 := fun H => turnS H (a := 0) (b := -1) (c := 1) (by decide) (by decide) (by decide)
  have t7 := fun H => turnS H (a := 4) (b := -3) (c := 5) (by decide) (by decide) (by decide)
  have t8 := fun H => turnS H (a := 4) (b := 3) (c := 5) (by decide) (by decide) (by decide)
  have hwant : [RR.of (rotI 1 0 1), RR.of (rotI 3 4 5), RR.of (rotI 0 1 1), RR.of (rotI (-4) 3 5), RR.of (rotI (-1) 0 1), RR.of (rotI (-3) (-4) 5), RR.of (rotI 0 (-1) 1), RR.of (rotI 4 (-3) 5)] = listR 2 := by
    show wantL.map RR.of = _
    rw [want_eq]; rfl
  have hfv : findV (listR 2) (RR.of (rotI 4 3 5)) = .tuple #[.int .i64 0, .bool false, .int .i64 0] := by
    unfold findV
    rw [awake_chk2, if_neg (by decide), awake_has, if_neg (by decide), awake_cnt, listR_len]
    rfl
  have hlek := (show (RR.of (rotI 4 3 5)).le 67 from (show (rotI 4 3 5).Sz 60 from ⟨⟨by decide +kernel, by decide +kernel⟩, ⟨by decide +kernel, by decide +kernel⟩⟩).le)
  generalize RR.of (rotI 1 0 1) = r0 at t0 hwant
  generalize RR.of (rotI 3 4 5) = r1 at t1 hwant
  generalize RR.of (rotI 0 1 1) = r2 at t2 hwant
  generalize RR.of (rotI (-4) 3 5) = r3 at t3 hwant
  generalize RR.of (rotI (-1) 0 1) = r4 at t4 hwant
  generalize RR.of (rotI (-3) (-4) 5) = r5 at t5 hwant
  generalize RR.of (rotI 0 (-1) 1) = r6 at t6 hwant
  generalize RR.of (rotI 4 (-3) 5) = r7 at t7 hwant
  generalize RR.of (rotI 4 3 5) = r8 at *
  have o2 : ∀ H, ∃ w H', Sim Tryz.prog 12 #[.int .i64 2] H w H' ∧ Ext H H' ∧ ∃ b, H.length ≤ b ∧ w = .tuple #[.slice (some ⟨b, 0, none⟩) 8 0, .int .i64 0] ∧ OwnR H' b (listR 2) := fun H => ListK H (k := 2) (by decide) (by decide)
  have o1 : ∀ H, ∃ w H', Sim Tryz.prog 12 #[.int .i64 1] H w H' ∧ Ext H H' ∧ ∃ b, H.length ≤ b ∧ w = .tuple #[.slice (some ⟨b, 0, none⟩) 4 0, .int .i64 0] ∧ OwnR H' b (listR 1) := fun H => ListK H (k := 1) (by decide) (by decide)
  refine sxA tok mixed Tryz.func11 ?_
  simp -implicitDefEqProofs only [go_sem, simprocAttr]
  refine kv (t0 _) ?_
  simp -implicitDefEqProofs only [go_sem, simprocAttr, row8]
  refine kv (t1 _) ?_
  simp -implicitDefEqProofs only [go_sem, simprocAttr, row8]
  refine kv (t2 _) ?_
  simp -implicitDefEqProofs only [go_sem, simprocAttr, row8]
  refine kv (t3 _) ?_
  simp -implicitDefEqProofs only [go_sem, simprocAttr, row8]
  refine kv (t4 _) ?_
  simp -implicitDefEqProofs only [go_sem, simprocAttr, row8]
  refine kv (t5 _) ?_
  simp -implicitDefEqProofs only [go_sem, simprocAttr, row8]
  refine kv (t6 _) ?_
  simp -implicitDefEqProofs only [go_sem, simprocAttr, row8]
  refine kv (t7 _) ?_
  simp -implicitDefEqProofs only [go_sem, simprocAttr, row8]
  have hw2 : [r0.cells, r1.cells, r2.cells, r3.cells, r4.cells, r5.cells, r6.cells, r7.cells].flatten = ((listR 2).map RR.cells).flatten := congrArg (fun l : List RR => (l.map RR.cells).flatten) hwant
  rw [hw2]
  obtain ⟨T0, hT0⟩ : ∃ T, T = H ++ [(⟨((listR 2).map RR.cells).flatten, 6, true⟩ : Blk)] := ⟨_, rfl⟩
  have hw0 : RL T0 (.slice (some ⟨H.length, 0, none⟩) 8 8) (listR 2) := by
    rw [hT0]
    exact .inr ⟨H.length, 0, 8, rfl, (OwnR.new H (listR 2)).at (.inr (by rw [List.length_map, listR_len]; decide))⟩
  have hE0 : Ext H T0 := by rw [hT0]; exact .app _ _
  rw [← hT0]
  clear hT0 hwant t0 t1 t2 t3 t4 t5 t6 t7
  refine kt (o2 _) ?_
  rintro _ T1 hE1 ⟨b1, hb1, rfl, hown1⟩
  simp -implicitDefEqProofs only [go_sem, simprocAttr]
  refine kv (t8 _) ?_
  simp -implicitDefEqProofs only [go_sem, simprocAttr]
  have hl8 := listR_len 2
  have hl4 := listR_len 1
  have hr1 := hown1.rl
  rw [hl8] at hr1
  have hf := FindS T1 hr1 (listR_le (by decide) (by decide)) hlek (by decide) (by rw [hl8]; decide)
  rw [hfv] at hf
  refine kv hf ?_
  simp -implicitDefEqProofs only [go_sem, simprocAttr]
  refine kt (o1 _) ?_
  rintro _ T2 hE2 ⟨b2, hb2, rfl, hown2⟩
  simp -implicitDefEqProofs only [go_sem, simprocAttr]
  have hr2 := hown2.rl
  rw [hl4] at hr2
  have hrf := RefineS T2 hr2 (listR_le (by decide) (by decide)) (by decide) (listR_ord (by decide) (by decide)) (by rw [hl4]; decide) (by rw [hl4]; decide)
  refine kt hrf ?_
  rintro _ T3 hE3 ⟨b3, L, hb3, rfl, hown3, hperm, hpair⟩
  have ho2 := listR_ord (k := 2) (by decide) (by decide)
  have hL : L = listR 2 := by
    refine srt_unique RR.tot (hperm.trans awake_perm) ho2.ok hpair ?_
    refine List.Pairwise.imp_of_mem ?_ ho2.ord
    intro a b ha hb h
    exact RR.lt_leq (ho2.ok a ha) (ho2.ok b hb) h
  subst hL
  have hr3 := hown3.rl
  rw [hl8] at hr3
  have q1 := equalR T3 (hr1.ext (hE2.trans hE3)) (hw0.ext (hE1.trans (hE2.trans hE3))) (by rw [hl8]; decide)
  have q2 := equalR T3 hr3 (hr1.ext (hE2.trans hE3)) (by rw [hl8]; decide)
  simp only [decide_true] at q1 q2
  rw [hl4]
  have e1 : ∀ b, aLen tt [22] (.slice (some ⟨b, 0, none⟩) 8 0) = some (.int .i64 8) := fun _ => rfl
  simp -implicitDefEqProofs only [go_sem, simprocAttr]
  refine kv q1 ?_
  simp -implicitDefEqProofs only [go_sem, simprocAttr]
  refine kv q2 ?_
  simp -implicitDefEqProofs only [go_sem, simprocAttr, e1, res11]
  first | exact ⟨hE0.trans (hE1.trans (hE2.trans hE3)), rfl⟩ | exact hE0.trans (hE1.trans (hE2.trans hE3))
end Go.Proofs.YthhmkaikopdmjaaGreat
namespace Go.Proofs.YthhmkaikopdmjaaGreat
open Go Go.Fw
def idxZ (p : RR → Bool) (l : List RR) : Int := if l.findIdx p < l.length then (l.findIdx p : Nat) else -1
theorem idxZ_geq (p : RR → Bool) (l : List RR) : decide ((0 : Int) ≤ idxZ p l) = l.any p := by
  unfold idxZ
  by_cases h : l.findIdx p < l.length
  · rw [if_pos h]
    have := List.findIdx_getElem (xs := l) (p := p) (w := h)
    rw [List.any_eq_true.2 ⟨_, List.getElem_mem h, this⟩]
    exact decide_eq_true (by omega)
  · rw [if_neg h]
    have : l.any p = false := by
      rw [← Bool.not_eq_true, List.any_eq_true]
      rintro ⟨x, hx, hp⟩
      exact h (List.findIdx_lt_length_of_exists ⟨x, hx, hp⟩)
    rw [this]; rfl
end Go.Proofs.YthhmkaikopdmjaaGreat
namespace Go.Proofs.YthhmkaikopdmjaaGreat
open Go Go.Fw
theorem indexFuncR (H : Heap) {v : Value} {l : List RR} {g : FuncId} {cap : Array Value} {p : RR → Bool} (hv : RL H v l) (hl : l.length ≤ 1000000) (hf : ∀ x ∈ l, Sim Tryz.prog g (#[x.val] ++ cap) H (.bool (p x)) H) :
    Sim Tryz.prog 60 #[v, .func (.func g) #[] cap] H (.int .i64 (idxZ p l)) H := by
  have e1 := hv.len (tt := tt) tt22
  refine soA tok mixed Tryz.func60 ?_
  simp -implicitDefEqProofs only [go_sem, simprocAttr, e1]
  refine ax_loopx (fun (i : Nat) s T => s 0 = v ∧ s 1 = .func (.func g) #[] cap ∧ s 7 = .int .i64 (l.length : Nat) ∧ s 8 = .int .i64 (i : Nat) ∧ i ≤ l.length ∧ i ≤ l.findIdx p ∧ T = H) (fun i => l.length - i) 0 ?_ ?_
  · simp -implicitDefEqProofs only [go_sem, simprocAttr]
  rintro i s T ⟨s0, s1, s7, s8, hi, hfi, rfl⟩
  simp -implicitDefEqProofs only [go_sem, simprocAttr, s7, s8]
  refine ax_cond2 ?_
  simp only [ev_tmp, ev_const, ev_func, upd_at, put_some, put_none, bndB_bool, Nat.reduceEqDiff, if_true, if_false, ↓reduceIte, reduceCtorEq]
  refine ⟨fun hc0 => have hlt := of_decide_eq_true hc0; ?_, fun hc0 => have hlt := of_decide_eq_false hc0; ?_⟩
  · have hil : i < l.length := by omega
    obtain ⟨b, i0, c, rfl, hA⟩ := hv.at (fun h => by rw [h] at hil; simp at hil)
    have r1 := hA.rdR hil
    have hnn : (0 : Int) ≤ (i : Int) := by omega
    have hlt2 : (i : Int) < (l.length : Int) := by omega
    have m1 : IntKind.i64.wrap ((i : Int) + 1) = ((i + 1 : Nat) : Int) := by rw [w64 (by omega) (by omega)]; rfl
    have o1 := hf _ (List.getElem_mem hil)
    have hF1 : p l[i] = true → l.findIdx p = i := by
      intro h
      refine Nat.le_antisymm ?_ hfi
      refine Classical.byContradiction fun hn => ?_
      have := List.not_of_lt_findIdx (p := p) (xs := l) (i := i) (by omega)
      rw [h] at this; cases this
    have hF2 : p l[i] = false → i + 1 ≤ l.findIdx p := by
      intro h
      refine Nat.lt_of_le_of_ne hfi fun he => ?_
      have := List.findIdx_getElem (p := p) (xs := l) (w := by omega)
      simp only [← he] at this
      rw [h] at this; cases this
    unfold idxZ
    generalize l.findIdx p = F at *
    generalize l[i] = x at *
    unfold RR.val rV at o1
    unfold RR.cells at r1
    simp -implicitDefEqProofs only [go_sem, simprocAttr, s0, s1, s7, s8, aIndexAddr, hnn, hlt2, r1]
    refine wl_callC g cap (by simp -implicitDefEqProofs only [go_sem, simprocAttr, s1]) _ (by simp -implicitDefEqProofs only [go_sem, simprocAttr]) o1 ?_
    cases hp : p x with
    | true =>
      have := hF1 hp
      subst this
      simp -implicitDefEqProofs only [go_sem, simprocAttr, wa_cond, axC_t, axC_f, res60]
      rw [if_pos hil]
    | false =>
      simp -implicitDefEqProofs only [go_sem, simprocAttr, wa_cond, axC_t, axC_f, s0, s1, s7, s8, m1]
      exact ⟨i + 1, ⟨rfl, by omega, hF2 hp⟩, by omega⟩
  · have : i = l.length := by omega
    subst this
    unfold idxZ
    rw [if_neg (by omega)]
    simp -implicitDefEqProofs only [go_sem, simprocAttr, res60]
theorem containsFuncR (H : Heap) {v : Value} {l : List RR} {g : FuncId} {cap : Array Value} {p : RR → Bool} (hv : RL H v l) (hl : l.length ≤ 1000000) (hf : ∀ x ∈ l, Sim Tryz.prog g (#[x.val] ++ cap) H (.bool (p x)) H) :
    Sim Tryz.prog 21 #[v, .func (.func g) #[] cap] H (.bool (l.any p)) H := by
  have o1 := indexFuncR H hv hl hf
  have h := idxZ_geq p l
  generalize idxZ p l = z at *
  rw [← h]
  refine soA tok mixed Tryz.func21 ?_
  simp -implicitDefEqProofs only [go_sem, simprocAttr]
  refine kv o1 ?_
  simp -implicitDefEqProofs only [go_sem, simprocAttr, res21]
end Go.Proofs.YthhmkaikopdmjaaGreat
namespace Go.Proofs.YthhmkaikopdmjaaGreat
open Go Go.Fw
structure Cmp (g : FuncId) (z : RR → RR → Int) (ok : RR → Prop) : Prop where
  call : ∀ a b, ok a → ok b → ∀ H, Sim Tryz.prog g #[a.val, b.val] H (.int .i64 (z a b)) H
  tr : ∀ a b c, ok a → ok b → ok c → ¬ z b a < 0 → ¬ z c b < 0 → ¬ z c a < 0
  asy : ∀ a b, ok a → ok b → z a b < 0 → ¬ z b a < 0
def Lq (z : RR → RR → Int) (a b : RR) : Prop := ¬ z b a < 0
theorem insertionG {g : FuncId} {z : RR → RR → Int} {ok : RR → Prop} (hg : Cmp g z ok) (T0 : Heap) {b : Nat} {L0 : List RR} {c lo hi : Nat} (hown : OwnR T0 b L0) (hok : ∀ r ∈ L0, ok r) (hlo : lo ≤ hi) (hhi : hi ≤ L0.length) (hlen : L0.length ≤ 1000000) :
    ∃ L, Sim Tryz.prog 177 #[.slice (some ⟨b, 0, none⟩) L0.length c, .int .i64 (lo : Nat), .int .i64 (hi : Nat), .func (.func g) #[] #[]] T0 (.tuple #[]) (putR T0 b L) ∧ Within L0 L lo hi ∧ SrtTo (Lq z) L lo hi := by
  suffices hx : ∃ w H', Sim Tryz.prog 177 #[.slice (some ⟨b, 0, none⟩) L0.length c, .int .i64 (lo : Nat), .int .i64 (hi : Nat), .func (.func g) #[] #[]] T0 w H' ∧ w = .tuple #[] ∧ ∃ L, H' = putR T0 b L ∧ Within L0 L lo hi ∧ SrtTo (Lq z) L lo hi by
    obtain ⟨w, H', h1, rfl, L, rfl, h2⟩ := hx
    exact ⟨L, h1, h2⟩
  have hb := hown.lt
  have a1 : IntKind.i64.wrap ((lo : Int) + 1) = ((lo + 1 : Nat) : Int) := by rw [w64 (by omega) (by omega)]; rfl
  have hself := putR_self hown
  refine sxA tok mixed Tryz.func177 ?_
  simp -implicitDefEqProofs only [go_sem, simprocAttr, a1]
  refine ax_loopx (fun (i : Nat) s T => s 0 = .slice (some ⟨b, 0, none⟩) L0.length c ∧ s 1 = .int .i64 (lo : Nat) ∧ s 2 = .int .i64 (hi : Nat) ∧ s 3 = .func (.func g) #[] #[] ∧ s 8 = .int .i64 (i : Nat) ∧ lo + 1 ≤ i ∧ i ≤ hi + 1 ∧
    ∃ L, T = putR T0 b L ∧ Within L0 L lo hi ∧ SrtTo (Lq z) L lo i) (fun i => hi + 1 - i) (lo + 1) ?_ ?_
  · simp -implicitDefEqProofs only [go_sem, simprocAttr]
    exact ⟨by omega, L0, hself.symm, .refl _ _ _, .one _ (by omega)⟩
  rintro i s T ⟨s0, s1, s2, s3, s8, hi1, hi2, L, rfl, hw, hs⟩
  simp -implicitDefEqProofs only [go_sem, simprocAttr, s2, s8]
  refine ax_cond2 ?_
  simp only [ev_tmp, ev_const, ev_func, upd_at, put_some, put_none, bndB_bool, Nat.reduceEqDiff, if_true, if_false, ↓reduceIte, reduceCtorEq]
  refine ⟨fun hc0 => have hlt := of_decide_eq_true hc0; ?_, fun hc0 => have hlt := of_decide_eq_false hc0; ?_⟩
  · have hih : i < hi := by omega
    simp -implicitDefEqProofs only [go_sem, simprocAttr, s8]
    refine ax_midl2 (fun s T => s 0 = .slice (some ⟨b, 0, none⟩) L0.length c ∧ s 1 = .int .i64 (lo : Nat) ∧ s 2 = .int .i64 (hi : Nat) ∧ s 3 = .func (.func g) #[] #[] ∧ s 8 = .int .i64 (i : Nat) ∧
      ∃ L, T = putR T0 b L ∧ Within L0 L lo hi ∧ SrtTo (Lq z) L lo (i + 1)) ?_ ?_
    · refine ax_loopx (fun (j : Nat) s T => s 0 = .slice (some ⟨b, 0, none⟩) L0.length c ∧ s 1 = .int .i64 (lo : Nat) ∧ s 2 = .int .i64 (hi : Nat) ∧ s 3 = .func (.func g) #[] #[] ∧ s 8 = .int .i64 (i : Nat) ∧ s 9 = .int .i64 (j : Nat) ∧ lo ≤ j ∧ j ≤ i ∧
        ∃ L, T = putR T0 b L ∧ Within L0 L lo hi ∧ InsI (Lq z) L lo i j) (fun j => j) i ?_ ?_
      · simp -implicitDefEqProofs only [go_sem, simprocAttr, s0, s1, s2, s3, s8]
        exact ⟨by omega, L, rfl, hw, hs.ins⟩
      clear s0 s1 s2 s3 s8 hw hs hself a1
      clear L
      rintro j s T ⟨s0, s1, s2, s3, s8, s9, hj1, hj2, L, rfl, hw, hs⟩
      have hLl := hw.len
      have hoL := hw.oks hok
      have ho := putR_own T0 L hb
      simp -implicitDefEqProofs only [go_sem, simprocAttr]
      refine ax_quiet (by kernel_rfl) ?_
      by_cases hjl : lo < j
      · obtain ⟨j, rfl⟩ : ∃ j', j = j' + 1 := ⟨j - 1, by omega⟩
        have hjn : j + 1 < L.length := by omega
        have r1 := (ho.at (c := 0) (.inl rfl)).rdR (j := j + 1) hjn
        have r2 := (ho.at (c := 0) (.inl rfl)).rdR (j := j) (by omega)
        have hcm := fun H => hg.call _ _ (hoL _ (List.getElem_mem hjn)) (hoL _ (List.getElem_mem (show j < L.length by omega))) H
        have g1 : (lo : Int) < ((j + 1 : Nat) : Int) := by omega
        have g2 : (0 : Int) ≤ ((j + 1 : Nat) : Int) := by omega
        have g3 : ((j + 1 : Nat) : Int) < (L0.length : Int) := by omega
        have g4 : (0 : Int) ≤ (j : Int) := by omega
        have g5 : (j : Int) < (L0.length : Int) := by omega
        have m1 : IntKind.i64.wrap (((j + 1 : Nat) : Int) - 1) = (j : Int) := by rw [w64 (by omega) (by omega)]; omega
        have hstep := fun hlt => hs.step (by omega) hjn hj2 hlt
        have hstop := fun hle => InsI.stop2 hg.tr hoL hs hjl hj2 hjn hle
        have htot := hg.asy _ _ (hoL _ (List.getElem_mem hjn)) (hoL _ (List.getElem_mem (show j < L.length by omega)))
        have hww := hw.trans (.swp L j hjn (by omega) (by omega))
        have w1 := ho.wr (j := j + 1) hjn L[j]
        have w2 := (putR_own T0 (L.set (j + 1) L[j]) hb).wr (j := j) (by simp; omega) L[j + 1]
        rw [putR_put] at w1 w2
        have hsw : (L.set (j + 1) L[j]).set j L[j + 1] = swp L j hjn := rfl
        rw [hsw] at w2
        generalize swp L j hjn = L2 at *
        generalize L.set (j + 1) L[j] = L1 at *
        simp only [Nat.add_sub_cancel] at hstop
        generalize L[j] = y at *
        generalize L[j + 1] = x at *
        unfold RR.cells at r1 r2 w1 w2
        unfold RR.val rV at hcm
        simp only [Nat.zero_add] at r1 r2
        simp -implicitDefEqProofs only [go_sem, simprocAttr, s0, s1, s2, s3, s9, aIndexAddr, g1, g2, g3, g4, g5, m1, r1, r2]
        refine wl_callO _ (by simp -implicitDefEqProofs only [go_sem, simprocAttr, s3]) _ (by simp -implicitDefEqProofs only [go_sem, simprocAttr]) (hcm _) ?_
        by_cases hc : z x y < 0
        · simp -implicitDefEqProofs only [go_sem, simprocAttr, wa_cond, axC_t, axC_f, hc]
          refine ax_loud (by kernel_rfl) ?_
          simp -implicitDefEqProofs only [go_sem, simprocAttr, s0, s1, s2, s3, s8, s9, aIndexAddr, g1, g2, g3, g4, g5, m1, r1, r2, w1, w2]
          refine ⟨j, ⟨rfl, by omega, by omega, L2, rfl, hww, hstep (htot hc)⟩, by omega⟩
        · simp -implicitDefEqProofs only [go_sem, simprocAttr, wa_cond, axC_t, axC_f, hc, s0, s1, s2, s3, s8]
          exact ⟨L, rfl, hw, hstop hc⟩
      · have : j = lo := by omega
        subst this
        have g1 : ¬ (j : Int) < (j : Int) := by omega
        simp -implicitDefEqProofs only [go_sem, simprocAttr, wa_cond, axC_t, axC_f, s0, s1, s2, s3, s8, s9, g1]
        exact ⟨L, rfl, hw, hs.zero⟩
    clear s0 s1 s2 s3 s8 hw hs hself a1
    clear L
    rintro s T ⟨s0, s1, s2, s3, s8, L, rfl, hw, hs⟩
    have m1 : IntKind.i64.wrap ((i : Int) + 1) = ((i + 1 : Nat) : Int) := by rw [w64 (by omega) (by omega)]; rfl
    simp -implicitDefEqProofs only [go_sem, simprocAttr, s0, s1, s2, s3, s8, m1]
    exact ⟨i + 1, ⟨rfl, by omega, by omega, L, rfl, hw, hs⟩, by omega⟩
  · have hih : hi ≤ i := by omega
    simp -implicitDefEqProofs only [go_sem, simprocAttr]
    refine ⟨[], rfl, rfl, L, rfl, hw, ?_⟩
    exact fun p q h0 h1 h2 hp hq => hs p q h0 h1 (by omega) hp hq
end Go.Proofs.YthhmkaikopdmjaaGreat
