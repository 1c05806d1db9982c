/- rotation: sum, minus, over; rotation: minus, over, back, then; rotation: half, compare, Check, wrong. Conditions: none. -/
import Derived.Test.YthhmkaikopdmjaaGreatMj
import Derived.Test.YthhmkaikopdmjaaGreatFc
set_option linter.unusedSimpArgs false
set_option linter.unusedVariables false
set_option maxRecDepth 8000
namespace Go.Proofs.YthhmkaikopdmjaaGreat
open Go Go.Fw

theorem sum2 {H : Heap} {b c : Nat} {g g' : Bool} {n d n' d' : List UInt8} {x y : Rat} {k : Nat}
    (r0 : rd H b 0 3 = some [.bool g, .string (bs n), .string (bs d)]) (r1 : rd H b 3 3 = some [.bool g', .string (bs n'), .string (bs d')])
    (hx : QV (qV g n d) x k) (hy : QV (qV g' n' d') y k) (hk : k ≤ 60000) :
    Sim Tryz.prog 74 #[.slice (some ⟨b, 0, none⟩) 2 c] H (mkQ (x + y)) H := by
  refine flat_ex rfl ?_
  have z0 : QV (mkQ 0) 0 15 := by rw [mkQ_zero]; exact ⟨_, _, _, rfl, rfl, by decide, by decide⟩
  have o1 := fun H => addQ H z0 hx (by decide) (by omega)
  rw [Rat.zero_add] at o1
  have o2 := fun H => addQ H hx.sz.qv hy (by omega) (by omega)
  rw [mkQ_zero] at o1
  generalize x + y = z at *
  refine sim_ex tok mixed Tryz.func74 rfl (by kernel_rfl) (by kernel_rfl) (by simp only [Tryz.ntmps74, List.size_toArray, List.length_cons, List.length_nil]; omega) ?_
  simp -implicitDefEqProofs only [go_sem, Nat.reduceAdd, Nat.reduceSub, Nat.reduceMul, Nat.reduceLT, Nat.reduceLeDiff, Nat.reduceEqDiff, Nat.reduceBEq, Nat.reduceGT, Nat.reduceMod, Nat.reduceDiv, ↓reduceIte, reduceCtorEq, Int.reduceLE, Int.reduceLT, Int.reduceToNat, Int.reduceEq, Int.reduceNeg, Int.reduceAdd, Int.reduceSub, Int.reduceMul, aLen]
  refine ax_loopx (fun (i : Nat) s T => ∃ (gg : Bool) (nn dd : List UInt8) (G : Heap), s 2 = .pointer (some ⟨H.length, 0, none⟩) ∧ s 3 = .pointer (some ⟨H.length + 1, 0, none⟩) ∧ s 7 = .slice (some ⟨b, 0, none⟩) 2 c ∧ s 8 = .int .i64 2 ∧ s 9 = .int .i64 (i : Nat) ∧
    T = H ++ ⟨[.bool false, .string (bs []), .string (bs [])], 1, true⟩ :: ⟨[.bool gg, .string (bs nn), .string (bs dd)], 1, true⟩ :: G ∧ ((i = 0 ∧ qV gg nn dd = qV false [] []) ∨ (i = 1 ∧ qV gg nn dd = mkQ x) ∨ (i = 2 ∧ qV gg nn dd = mkQ z))) (fun i => 2 - i) 0 ?_ ?_
  · refine ⟨false, [], [], [], ?_⟩
    simp -implicitDefEqProofs only [go_sem, Nat.reduceAdd, Nat.reduceSub, Nat.reduceMul, Nat.reduceLT, Nat.reduceLeDiff, Nat.reduceEqDiff, Nat.reduceBEq, Nat.reduceGT, Nat.reduceMod, Nat.reduceDiv, ↓reduceIte, reduceCtorEq, Int.reduceLE, Int.reduceLT, Int.reduceToNat, Int.reduceEq, Int.reduceNeg, Int.reduceAdd, Int.reduceSub, Int.reduceMul]
    exact ⟨rfl, .inl trivial⟩
  rintro i s T ⟨gg, nn, dd, G, s2, s3, s7, s8, s9, hT, hi⟩
  subst T
  have l0 : (0 : Int) < ((2 : Nat) : Int) := by decide
  have l1 : (1 : Int) < ((2 : Nat) : Int) := by decide
  have w0 : IntKind.i64.wrap 1 = ((1 : Nat) : Int) := rfl
  have w1 : IntKind.i64.wrap 2 = ((2 : Nat) : Int) := rfl
  rcases hi with ⟨rfl, hi⟩ | ⟨rfl, hi⟩ | ⟨rfl, hi⟩
  · rw [← hi] at o1
    have r := fun G => rd_more r0 G
    unfold qV at o1
    simp -implicitDefEqProofs only [go_sem, Nat.reduceAdd, Nat.reduceSub, Nat.reduceMul, Nat.reduceLT, Nat.reduceLeDiff, Nat.reduceEqDiff, Nat.reduceBEq, Nat.reduceGT, Nat.reduceMod, Nat.reduceDiv, ↓reduceIte, reduceCtorEq, Int.reduceLE, Int.reduceLT, Int.reduceToNat, Int.reduceEq, Int.reduceNeg, Int.reduceAdd, Int.reduceSub, Int.reduceMul, wa_cond, axC_t, axC_f, s7, s8, s9, aIndexAddr, r, l0, Nat.zero_mul, s3]
    obtain ⟨g1, n1, d1, h1⟩ : ∃ g1 n1 d1, mkQ x = qV g1 n1 d1 := ⟨_, _, _, rfl⟩
    rw [h1] at o1
    unfold qV at o1
    refine wl_callV _ (by simp -implicitDefEqProofs only [go_sem, Nat.reduceAdd, Nat.reduceSub, Nat.reduceMul, Nat.reduceLT, Nat.reduceLeDiff, Nat.reduceEqDiff, Nat.reduceBEq, Nat.reduceGT, Nat.reduceMod, Nat.reduceDiv, ↓reduceIte, reduceCtorEq, Int.reduceLE, Int.reduceLT, Int.reduceToNat, Int.reduceEq, Int.reduceNeg, Int.reduceAdd, Int.reduceSub, Int.reduceMul]) (o1 _) ?_
    simp -implicitDefEqProofs only [go_sem, Nat.reduceAdd, Nat.reduceSub, Nat.reduceMul, Nat.reduceLT, Nat.reduceLeDiff, Nat.reduceEqDiff, Nat.reduceBEq, Nat.reduceGT, Nat.reduceMod, Nat.reduceDiv, ↓reduceIte, reduceCtorEq, Int.reduceLE, Int.reduceLT, Int.reduceToNat, Int.reduceEq, Int.reduceNeg, Int.reduceAdd, Int.reduceSub, Int.reduceMul, s2, s3, s7, s8, s9, Int.zero_add]
    exact ⟨1, ⟨g1, n1, d1, _, rfl, rfl, .inr (.inl ⟨rfl, h1.symm⟩)⟩, by decide⟩
  · rw [← hi] at o2
    have r := fun G => rd_more r1 G
    unfold qV at o2
    simp -implicitDefEqProofs only [go_sem, Nat.reduceAdd, Nat.reduceSub, Nat.reduceMul, Nat.reduceLT, Nat.reduceLeDiff, Nat.reduceEqDiff, Nat.reduceBEq, Nat.reduceGT, Nat.reduceMod, Nat.reduceDiv, ↓reduceIte, reduceCtorEq, Int.reduceLE, Int.reduceLT, Int.reduceToNat, Int.reduceEq, Int.reduceNeg, Int.reduceAdd, Int.reduceSub, Int.reduceMul, wa_cond, axC_t, axC_f, s7, s8, s9, aIndexAddr, r, l1, Nat.one_mul, s3, show (0 : Int) ≤ 1 by decide, show Int.toNat 1 = 1 from rfl]
    obtain ⟨g1, n1, d1, h1⟩ : ∃ g1 n1 d1, mkQ z = qV g1 n1 d1 := ⟨_, _, _, rfl⟩
    rw [h1] at o2
    unfold qV at o2
    refine wl_callV _ (by simp -implicitDefEqProofs only [go_sem, Nat.reduceAdd, Nat.reduceSub, Nat.reduceMul, Nat.reduceLT, Nat.reduceLeDiff, Nat.reduceEqDiff, Nat.reduceBEq, Nat.reduceGT, Nat.reduceMod, Nat.reduceDiv, ↓reduceIte, reduceCtorEq, Int.reduceLE, Int.reduceLT, Int.reduceToNat, Int.reduceEq, Int.reduceNeg, Int.reduceAdd, Int.reduceSub, Int.reduceMul]) (o2 _) ?_
    simp -implicitDefEqProofs only [go_sem, Nat.reduceAdd, Nat.reduceSub, Nat.reduceMul, Nat.reduceLT, Nat.reduceLeDiff, Nat.reduceEqDiff, Nat.reduceBEq, Nat.reduceGT, Nat.reduceMod, Nat.reduceDiv, ↓reduceIte, reduceCtorEq, Int.reduceLE, Int.reduceLT, Int.reduceToNat, Int.reduceEq, Int.reduceNeg, Int.reduceAdd, Int.reduceSub, Int.reduceMul, s2, s3, s7, s8, s9]
    exact ⟨2, ⟨g1, n1, d1, _, rfl, rfl, .inr (.inr ⟨rfl, h1.symm⟩)⟩, by decide⟩
  · have l2 : ¬ ((2 : Nat) : Int) < 2 := by decide
    rw [← hi]
    unfold qV
    simp -implicitDefEqProofs only [go_sem, Nat.reduceAdd, Nat.reduceSub, Nat.reduceMul, Nat.reduceLT, Nat.reduceLeDiff, Nat.reduceEqDiff, Nat.reduceBEq, Nat.reduceGT, Nat.reduceMod, Nat.reduceDiv, ↓reduceIte, reduceCtorEq, Int.reduceLE, Int.reduceLT, Int.reduceToNat, Int.reduceEq, Int.reduceNeg, Int.reduceAdd, Int.reduceSub, Int.reduceMul, wa_cond, axC_t, axC_f, s2, s3, s7, s8, s9, l2, res74]
    first | exact .app _ _ | exact ⟨.app _ _, rfl⟩
end Go.Proofs.YthhmkaikopdmjaaGreat
set_option linter.unusedSimpArgs false
set_option linter.unusedVariables false
set_option maxRecDepth 8000
namespace Go.Proofs.YthhmkaikopdmjaaGreat
open Go Go.Fw

theorem build125 (H : Heap) (a b c d e f : Value) : aBuildSlice tt H 125 2 [(0, .agg #[a, b, c]), (1, .agg #[d, e, f])] = some (.slice (some ⟨H.length, 0, none⟩) 2 2, H ++ [⟨[a, b, c, d, e, f], 3, true⟩]) := rfl
theorem minusQ (H : Heap) {v w : Value} {a b : Rat} {k k' : Nat} (hv : QV v a k) (hw : QV w b k') (hk : k ≤ 100000) (hk' : k' ≤ 100000) : Sim Tryz.prog 113 #[v, w] H (mkQ (-(a * b))) H := by
  refine flat_ex rfl ?_
  have o1 := fun H => mulQ H hv hw (by omega) (by omega)
  have o2 := fun H => negQ H (hv.sz.mul hw.sz).qv (by omega)
  generalize -(a * b) = z at *
  generalize a * b = y at *
  obtain ⟨g, n, d, rfl, rfl, h1, h2⟩ := hv
  obtain ⟨g', n', d', rfl, rfl, h3, h4⟩ := hw
  unfold qV at o1 ⊢
  refine sim_ex tok mixed Tryz.func113 rfl (by kernel_rfl) (by kernel_rfl) (by simp only [Tryz.ntmps113, List.size_toArray, List.length_cons, List.length_nil]; omega) ?_
  simp -implicitDefEqProofs only [go_sem, Nat.reduceAdd, Nat.reduceSub, Nat.reduceMul, Nat.reduceLT, Nat.reduceLeDiff, Nat.reduceEqDiff, Nat.reduceBEq, Nat.reduceGT, Nat.reduceMod, Nat.reduceDiv, ↓reduceIte, reduceCtorEq, Int.reduceLE, Int.reduceLT, Int.reduceToNat, Int.reduceEq, Int.reduceNeg, Int.reduceAdd, Int.reduceSub, Int.reduceMul, mkI, iV, mkQ, qV, fV, ofV, rV, mkR]
  refine wl_callV _ (by simp -implicitDefEqProofs only [go_sem, Nat.reduceAdd, Nat.reduceSub, Nat.reduceMul, Nat.reduceLT, Nat.reduceLeDiff, Nat.reduceEqDiff, Nat.reduceBEq, Nat.reduceGT, Nat.reduceMod, Nat.reduceDiv, ↓reduceIte, reduceCtorEq, Int.reduceLE, Int.reduceLT, Int.reduceToNat, Int.reduceEq, Int.reduceNeg, Int.reduceAdd, Int.reduceSub, Int.reduceMul, mkI, iV, mkQ, qV, fV, ofV, rV, mkR]) (o1 _) ?_
  simp -implicitDefEqProofs only [go_sem, Nat.reduceAdd, Nat.reduceSub, Nat.reduceMul, Nat.reduceLT, Nat.reduceLeDiff, Nat.reduceEqDiff, Nat.reduceBEq, Nat.reduceGT, Nat.reduceMod, Nat.reduceDiv, ↓reduceIte, reduceCtorEq, Int.reduceLE, Int.reduceLT, Int.reduceToNat, Int.reduceEq, Int.reduceNeg, Int.reduceAdd, Int.reduceSub, Int.reduceMul, mkI, iV, mkQ, qV, fV, ofV, rV, mkR]
  refine wl_callV _ (by simp -implicitDefEqProofs only [go_sem, Nat.reduceAdd, Nat.reduceSub, Nat.reduceMul, Nat.reduceLT, Nat.reduceLeDiff, Nat.reduceEqDiff, Nat.reduceBEq, Nat.reduceGT, Nat.reduceMod, Nat.reduceDiv, ↓reduceIte, reduceCtorEq, Int.reduceLE, Int.reduceLT, Int.reduceToNat, Int.reduceEq, Int.reduceNeg, Int.reduceAdd, Int.reduceSub, Int.reduceMul, mkI, iV, mkQ, qV, fV, ofV, rV, mkR]) (o2 _) ?_
  simp -implicitDefEqProofs only [go_sem, Nat.reduceAdd, Nat.reduceSub, Nat.reduceMul, Nat.reduceLT, Nat.reduceLeDiff, Nat.reduceEqDiff, Nat.reduceBEq, Nat.reduceGT, Nat.reduceMod, Nat.reduceDiv, ↓reduceIte, reduceCtorEq, Int.reduceLE, Int.reduceLT, Int.reduceToNat, Int.reduceEq, Int.reduceNeg, Int.reduceAdd, Int.reduceSub, Int.reduceMul, mkI, iV, mkQ, qV, fV, ofV, rV, mkR]
  simp -implicitDefEqProofs only [go_sem, Nat.reduceAdd, Nat.reduceSub, Nat.reduceMul, Nat.reduceLT, Nat.reduceLeDiff, Nat.reduceEqDiff, Nat.reduceBEq, Nat.reduceGT, Nat.reduceMod, Nat.reduceDiv, ↓reduceIte, reduceCtorEq, Int.reduceLE, Int.reduceLT, Int.reduceToNat, Int.reduceEq, Int.reduceNeg, Int.reduceAdd, Int.reduceSub, Int.reduceMul, mkI, iV, mkQ, qV, fV, ofV, rV, mkR, res113]
  first | exact .app _ _ | exact ⟨.app _ _, rfl⟩ | exact .refl _ | exact ⟨.refl _, rfl⟩
theorem overQ (H : Heap) {v w : Value} {a b : Rat} {k k' : Nat} (hv : QV v a k) (hw : QV w b k') (hk : k ≤ 150000) (hk' : k' ≤ 150000) : Sim Tryz.prog 100 #[v, w] H (mkQ (a / b)) H := by
  refine flat_ex rfl ?_
  obtain ⟨e, o1⟩ : ∃ e : Int, ∀ H, Sim Tryz.prog 151 #[v, w] H (.tuple #[mkQ (a / b), .int .i64 e]) H := by
    by_cases h0 : b = 0
    · refine ⟨10, fun H => ?_⟩
      have := quoQ H hv hw hk hk'
      rw [if_pos h0] at this
      rw [h0, Rat.div_def, Rat.inv_zero, Rat.mul_zero]
      exact this
    · refine ⟨0, fun H => ?_⟩
      have := quoQ H hv hw hk hk'
      rw [if_neg h0] at this
      exact this
  generalize a / b = z at *
  obtain ⟨g, n, d, rfl, rfl, h1, h2⟩ := hv
  obtain ⟨g', n', d', rfl, rfl, h3, h4⟩ := hw
  unfold qV at o1 ⊢
  refine sim_ex tok mixed Tryz.func100 rfl (by kernel_rfl) (by kernel_rfl) (by simp only [Tryz.ntmps100, List.size_toArray, List.length_cons, List.length_nil]; omega) ?_
  simp -implicitDefEqProofs only [go_sem, Nat.reduceAdd, Nat.reduceSub, Nat.reduceMul, Nat.reduceLT, Nat.reduceLeDiff, Nat.reduceEqDiff, Nat.reduceBEq, Nat.reduceGT, Nat.reduceMod, Nat.reduceDiv, ↓reduceIte, reduceCtorEq, Int.reduceLE, Int.reduceLT, Int.reduceToNat, Int.reduceEq, Int.reduceNeg, Int.reduceAdd, Int.reduceSub, Int.reduceMul, mkI, iV, mkQ, qV, fV, ofV, rV, mkR]
  refine wl_callV _ (by simp -implicitDefEqProofs only [go_sem, Nat.reduceAdd, Nat.reduceSub, Nat.reduceMul, Nat.reduceLT, Nat.reduceLeDiff, Nat.reduceEqDiff, Nat.reduceBEq, Nat.reduceGT, Nat.reduceMod, Nat.reduceDiv, ↓reduceIte, reduceCtorEq, Int.reduceLE, Int.reduceLT, Int.reduceToNat, Int.reduceEq, Int.reduceNeg, Int.reduceAdd, Int.reduceSub, Int.reduceMul, mkI, iV, mkQ, qV, fV, ofV, rV, mkR]) (o1 _) ?_
  simp -implicitDefEqProofs only [go_sem, Nat.reduceAdd, Nat.reduceSub, Nat.reduceMul, Nat.reduceLT, Nat.reduceLeDiff, Nat.reduceEqDiff, Nat.reduceBEq, Nat.reduceGT, Nat.reduceMod, Nat.reduceDiv, ↓reduceIte, reduceCtorEq, Int.reduceLE, Int.reduceLT, Int.reduceToNat, Int.reduceEq, Int.reduceNeg, Int.reduceAdd, Int.reduceSub, Int.reduceMul, mkI, iV, mkQ, qV, fV, ofV, rV, mkR]
  simp -implicitDefEqProofs only [go_sem, Nat.reduceAdd, Nat.reduceSub, Nat.reduceMul, Nat.reduceLT, Nat.reduceLeDiff, Nat.reduceEqDiff, Nat.reduceBEq, Nat.reduceGT, Nat.reduceMod, Nat.reduceDiv, ↓reduceIte, reduceCtorEq, Int.reduceLE, Int.reduceLT, Int.reduceToNat, Int.reduceEq, Int.reduceNeg, Int.reduceAdd, Int.reduceSub, Int.reduceMul, mkI, iV, mkQ, qV, fV, ofV, rV, mkR, res100]
  first | exact .app _ _ | exact ⟨.app _ _, rfl⟩ | exact .refl _ | exact ⟨.refl _, rfl⟩
theorem backR (H : Heap) {r : RR} {k : Nat} (hr : r.le k) (hk : k ≤ 100000) : Sim Tryz.prog 64 #[r.val] H (.agg #[.bool r.g, .string (bs r.n), .string (bs r.d), .bool (decide ((-r.rot.s).num < 0)), .string (bs (digB (-r.rot.s).num.natAbs)), .string (bs (denB (-r.rot.s).den))]) H := by
  refine flat_ex rfl ?_
  have o1 := fun H => negQ H hr.s (by omega)
  generalize -r.rot.s = z at *
  unfold qV at o1
  unfold RR.val rV
  refine sim_ex tok mixed Tryz.func64 rfl (by kernel_rfl) (by kernel_rfl) (by simp only [Tryz.ntmps64, List.size_toArray, List.length_cons, List.length_nil]; omega) ?_
  simp -implicitDefEqProofs only [go_sem, Nat.reduceAdd, Nat.reduceSub, Nat.reduceMul, Nat.reduceLT, Nat.reduceLeDiff, Nat.reduceEqDiff, Nat.reduceBEq, Nat.reduceGT, Nat.reduceMod, Nat.reduceDiv, ↓reduceIte, reduceCtorEq, Int.reduceLE, Int.reduceLT, Int.reduceToNat, Int.reduceEq, Int.reduceNeg, Int.reduceAdd, Int.reduceSub, Int.reduceMul, mkI, iV, mkQ, qV, fV, ofV, rV, mkR]
  refine ax_quiet (by kernel_rfl) ?_
  simp -implicitDefEqProofs only [go_sem, Nat.reduceAdd, Nat.reduceSub, Nat.reduceMul, Nat.reduceLT, Nat.reduceLeDiff, Nat.reduceEqDiff, Nat.reduceBEq, Nat.reduceGT, Nat.reduceMod, Nat.reduceDiv, ↓reduceIte, reduceCtorEq, Int.reduceLE, Int.reduceLT, Int.reduceToNat, Int.reduceEq, Int.reduceNeg, Int.reduceAdd, Int.reduceSub, Int.reduceMul, mkI, iV, mkQ, qV, fV, ofV, rV, mkR]
  refine wl_callV _ (by simp -implicitDefEqProofs only [go_sem, Nat.reduceAdd, Nat.reduceSub, Nat.reduceMul, Nat.reduceLT, Nat.reduceLeDiff, Nat.reduceEqDiff, Nat.reduceBEq, Nat.reduceGT, Nat.reduceMod, Nat.reduceDiv, ↓reduceIte, reduceCtorEq, Int.reduceLE, Int.reduceLT, Int.reduceToNat, Int.reduceEq, Int.reduceNeg, Int.reduceAdd, Int.reduceSub, Int.reduceMul, mkI, iV, mkQ, qV, fV, ofV, rV, mkR]) (o1 _) ?_
  simp -implicitDefEqProofs only [go_sem, Nat.reduceAdd, Nat.reduceSub, Nat.reduceMul, Nat.reduceLT, Nat.reduceLeDiff, Nat.reduceEqDiff, Nat.reduceBEq, Nat.reduceGT, Nat.reduceMod, Nat.reduceDiv, ↓reduceIte, reduceCtorEq, Int.reduceLE, Int.reduceLT, Int.reduceToNat, Int.reduceEq, Int.reduceNeg, Int.reduceAdd, Int.reduceSub, Int.reduceMul, mkI, iV, mkQ, qV, fV, ofV, rV, mkR]
  simp -implicitDefEqProofs only [go_sem, Nat.reduceAdd, Nat.reduceSub, Nat.reduceMul, Nat.reduceLT, Nat.reduceLeDiff, Nat.reduceEqDiff, Nat.reduceBEq, Nat.reduceGT, Nat.reduceMod, Nat.reduceDiv, ↓reduceIte, reduceCtorEq, Int.reduceLE, Int.reduceLT, Int.reduceToNat, Int.reduceEq, Int.reduceNeg, Int.reduceAdd, Int.reduceSub, Int.reduceMul, mkI, iV, mkQ, qV, fV, ofV, rV, mkR, res64]
  first | exact .app _ _ | exact ⟨.app _ _, rfl⟩ | exact .refl _ | exact ⟨.refl _, rfl⟩
theorem thenR (H : Heap) {a b : RR} {k : Nat} (ha : a.le k) (hb : b.le k) (hk : k ≤ 20000) : Sim Tryz.prog 59 #[a.val, b.val] H (RR.of (a.rot.thn b.rot)).val H := by
  refine flat_ex rfl ?_
  have o1 := fun H => mulQ H ha.c hb.c (by omega) (by omega)
  have o2 := fun H => minusQ H ha.s hb.s (by omega) (by omega)
  have o3 := fun H => mulQ H ha.s hb.c (by omega) (by omega)
  have o4 := fun H => mulQ H ha.c hb.s (by omega) (by omega)
  have q1 := (ha.c.sz.mul hb.c.sz).qv
  have q2 := (ha.s.sz.mul hb.s.sz).neg.qv
  have q3 := (ha.s.sz.mul hb.c.sz).qv
  have q4 := (ha.c.sz.mul hb.s.sz).qv
  have s1 := fun {T : Heap} {b : Nat} r0 r1 => sum2 (H := T) (b := b) (c := 2) r0 r1 q1 q2 (by omega)
  have s2 := fun {T : Heap} {b : Nat} r0 r1 => sum2 (H := T) (b := b) (c := 2) r0 r1 q3 q4 (by omega)
  have e1 : a.rot.c * b.rot.c + -(a.rot.s * b.rot.s) = (a.rot.thn b.rot).c := by unfold Rot.thn; rw [← Rat.sub_eq_add_neg]
  have e2 : a.rot.s * b.rot.c + a.rot.c * b.rot.s = (a.rot.thn b.rot).s := rfl
  rw [e1] at s1
  rw [e2] at s2
  rw [RR.of_val]
  generalize (a.rot.thn b.rot).c = x at *
  generalize (a.rot.thn b.rot).s = y at *
  clear q1 q2 q3 q4 e1 e2
  generalize a.rot.c * b.rot.c = p1 at *
  generalize -(a.rot.s * b.rot.s) = p2 at *
  generalize a.rot.s * b.rot.c = p3 at *
  generalize a.rot.c * b.rot.s = p4 at *
  unfold qV at o1 o2 o3 o4
  unfold RR.val rV
  refine sim_ex tok mixed Tryz.func59 rfl (by kernel_rfl) (by kernel_rfl) (by simp only [Tryz.ntmps59, List.size_toArray, List.length_cons, List.length_nil]; omega) ?_
  simp -implicitDefEqProofs only [go_sem, Nat.reduceAdd, Nat.reduceSub, Nat.reduceMul, Nat.reduceLT, Nat.reduceLeDiff, Nat.reduceEqDiff, Nat.reduceBEq, Nat.reduceGT, Nat.reduceMod, Nat.reduceDiv, ↓reduceIte, reduceCtorEq, Int.reduceLE, Int.reduceLT, Int.reduceToNat, Int.reduceEq, Int.reduceNeg, Int.reduceAdd, Int.reduceSub, Int.reduceMul, mkI, iV, mkQ, qV, fV, ofV, rV, mkR]
  refine ax_quiet (by kernel_rfl) ?_
  simp -implicitDefEqProofs only [go_sem, Nat.reduceAdd, Nat.reduceSub, Nat.reduceMul, Nat.reduceLT, Nat.reduceLeDiff, Nat.reduceEqDiff, Nat.reduceBEq, Nat.reduceGT, Nat.reduceMod, Nat.reduceDiv, ↓reduceIte, reduceCtorEq, Int.reduceLE, Int.reduceLT, Int.reduceToNat, Int.reduceEq, Int.reduceNeg, Int.reduceAdd, Int.reduceSub, Int.reduceMul, mkI, iV, mkQ, qV, fV, ofV, rV, mkR]
  refine wl_callV _ (by simp -implicitDefEqProofs only [go_sem, Nat.reduceAdd, Nat.reduceSub, Nat.reduceMul, Nat.reduceLT, Nat.reduceLeDiff, Nat.reduceEqDiff, Nat.reduceBEq, Nat.reduceGT, Nat.reduceMod, Nat.reduceDiv, ↓reduceIte, reduceCtorEq, Int.reduceLE, Int.reduceLT, Int.reduceToNat, Int.reduceEq, Int.reduceNeg, Int.reduceAdd, Int.reduceSub, Int.reduceMul, mkI, iV, mkQ, qV, fV, ofV, rV, mkR]) (o1 _) ?_
  simp -implicitDefEqProofs only [go_sem, Nat.reduceAdd, Nat.reduceSub, Nat.reduceMul, Nat.reduceLT, Nat.reduceLeDiff, Nat.reduceEqDiff, Nat.reduceBEq, Nat.reduceGT, Nat.reduceMod, Nat.reduceDiv, ↓reduceIte, reduceCtorEq, Int.reduceLE, Int.reduceLT, Int.reduceToNat, Int.reduceEq, Int.reduceNeg, Int.reduceAdd, Int.reduceSub, Int.reduceMul, mkI, iV, mkQ, qV, fV, ofV, rV, mkR]
  refine wl_callV _ (by simp -implicitDefEqProofs only [go_sem, Nat.reduceAdd, Nat.reduceSub, Nat.reduceMul, Nat.reduceLT, Nat.reduceLeDiff, Nat.reduceEqDiff, Nat.reduceBEq, Nat.reduceGT, Nat.reduceMod, Nat.reduceDiv, ↓reduceIte, reduceCtorEq, Int.reduceLE, Int.reduceLT, Int.reduceToNat, Int.reduceEq, Int.reduceNeg, Int.reduceAdd, Int.reduceSub, Int.reduceMul, mkI, iV, mkQ, qV, fV, ofV, rV, mkR, build125]) (o2 _) ?_
  simp -implicitDefEqProofs only [go_sem, Nat.reduceAdd, Nat.reduceSub, Nat.reduceMul, Nat.reduceLT, Nat.reduceLeDiff, Nat.reduceEqDiff, Nat.reduceBEq, Nat.reduceGT, Nat.reduceMod, Nat.reduceDiv, ↓reduceIte, reduceCtorEq, Int.reduceLE, Int.reduceLT, Int.reduceToNat, Int.reduceEq, Int.reduceNeg, Int.reduceAdd, Int.reduceSub, Int.reduceMul, mkI, iV, mkQ, qV, fV, ofV, rV, mkR, build125]
  refine wl_callV #[.slice (some ⟨H.length + 3, 0, none⟩) 2 2] (by simp -implicitDefEqProofs only [go_sem, Nat.reduceAdd, Nat.reduceSub, Nat.reduceMul, Nat.reduceLT, Nat.reduceLeDiff, Nat.reduceEqDiff, Nat.reduceBEq, Nat.reduceGT, Nat.reduceMod, Nat.reduceDiv, ↓reduceIte, reduceCtorEq, Int.reduceLE, Int.reduceLT, Int.reduceToNat, Int.reduceEq, Int.reduceNeg, Int.reduceAdd, Int.reduceSub, Int.reduceMul, mkI, iV, mkQ, qV, fV, ofV, rV, mkR]) (s1 (b := H.length + 3) (by simp -implicitDefEqProofs only [go_sem, Nat.reduceAdd, Nat.reduceSub, Nat.reduceMul, Nat.reduceLT, Nat.reduceLeDiff, Nat.reduceEqDiff, Nat.reduceBEq, Nat.reduceGT, Nat.reduceMod, Nat.reduceDiv, ↓reduceIte, reduceCtorEq, Int.reduceLE, Int.reduceLT, Int.reduceToNat, Int.reduceEq, Int.reduceNeg, Int.reduceAdd, Int.reduceSub, Int.reduceMul, mkI, iV, mkQ, qV, fV, ofV, rV, mkR]) (by simp -implicitDefEqProofs only [go_sem, Nat.reduceAdd, Nat.reduceSub, Nat.reduceMul, Nat.reduceLT, Nat.reduceLeDiff, Nat.reduceEqDiff, Nat.reduceBEq, Nat.reduceGT, Nat.reduceMod, Nat.reduceDiv, ↓reduceIte, reduceCtorEq, Int.reduceLE, Int.reduceLT, Int.reduceToNat, Int.reduceEq, Int.reduceNeg, Int.reduceAdd, Int.reduceSub, Int.reduceMul, mkI, iV, mkQ, qV, fV, ofV, rV, mkR])) ?_
  simp -implicitDefEqProofs only [go_sem, Nat.reduceAdd, Nat.reduceSub, Nat.reduceMul, Nat.reduceLT, Nat.reduceLeDiff, Nat.reduceEqDiff, Nat.reduceBEq, Nat.reduceGT, Nat.reduceMod, Nat.reduceDiv, ↓reduceIte, reduceCtorEq, Int.reduceLE, Int.reduceLT, Int.reduceToNat, Int.reduceEq, Int.reduceNeg, Int.reduceAdd, Int.reduceSub, Int.reduceMul, mkI, iV, mkQ, qV, fV, ofV, rV, mkR]
  refine wl_callV _ (by simp -implicitDefEqProofs only [go_sem, Nat.reduceAdd, Nat.reduceSub, Nat.reduceMul, Nat.reduceLT, Nat.reduceLeDiff, Nat.reduceEqDiff, Nat.reduceBEq, Nat.reduceGT, Nat.reduceMod, Nat.reduceDiv, ↓reduceIte, reduceCtorEq, Int.reduceLE, Int.reduceLT, Int.reduceToNat, Int.reduceEq, Int.reduceNeg, Int.reduceAdd, Int.reduceSub, Int.reduceMul, mkI, iV, mkQ, qV, fV, ofV, rV, mkR]) (o3 _) ?_
  simp -implicitDefEqProofs only [go_sem, Nat.reduceAdd, Nat.reduceSub, Nat.reduceMul, Nat.reduceLT, Nat.reduceLeDiff, Nat.reduceEqDiff, Nat.reduceBEq, Nat.reduceGT, Nat.reduceMod, Nat.reduceDiv, ↓reduceIte, reduceCtorEq, Int.reduceLE, Int.reduceLT, Int.reduceToNat, Int.reduceEq, Int.reduceNeg, Int.reduceAdd, Int.reduceSub, Int.reduceMul, mkI, iV, mkQ, qV, fV, ofV, rV, mkR]
  refine wl_callV _ (by simp -implicitDefEqProofs only [go_sem, Nat.reduceAdd, Nat.reduceSub, Nat.reduceMul, Nat.reduceLT, Nat.reduceLeDiff, Nat.reduceEqDiff, Nat.reduceBEq, Nat.reduceGT, Nat.reduceMod, Nat.reduceDiv, ↓reduceIte, reduceCtorEq, Int.reduceLE, Int.reduceLT, Int.reduceToNat, Int.reduceEq, Int.reduceNeg, Int.reduceAdd, Int.reduceSub, Int.reduceMul, mkI, iV, mkQ, qV, fV, ofV, rV, mkR, build125]) (o4 _) ?_
  simp -implicitDefEqProofs only [go_sem, Nat.reduceAdd, Nat.reduceSub, Nat.reduceMul, Nat.reduceLT, Nat.reduceLeDiff, Nat.reduceEqDiff, Nat.reduceBEq, Nat.reduceGT, Nat.reduceMod, Nat.reduceDiv, ↓reduceIte, reduceCtorEq, Int.reduceLE, Int.reduceLT, Int.reduceToNat, Int.reduceEq, Int.reduceNeg, Int.reduceAdd, Int.reduceSub, Int.reduceMul, mkI, iV, mkQ, qV, fV, ofV, rV, mkR, build125]
  refine wl_callV #[.slice (some ⟨H.length + 4, 0, none⟩) 2 2] (by simp -implicitDefEqProofs only [go_sem, Nat.reduceAdd, Nat.reduceSub, Nat.reduceMul, Nat.reduceLT, Nat.reduceLeDiff, Nat.reduceEqDiff, Nat.reduceBEq, Nat.reduceGT, Nat.reduceMod, Nat.reduceDiv, ↓reduceIte, reduceCtorEq, Int.reduceLE, Int.reduceLT, Int.reduceToNat, Int.reduceEq, Int.reduceNeg, Int.reduceAdd, Int.reduceSub, Int.reduceMul, mkI, iV, mkQ, qV, fV, ofV, rV, mkR]) (s2 (b := H.length + 4) (by simp -implicitDefEqProofs only [go_sem, Nat.reduceAdd, Nat.reduceSub, Nat.reduceMul, Nat.reduceLT, Nat.reduceLeDiff, Nat.reduceEqDiff, Nat.reduceBEq, Nat.reduceGT, Nat.reduceMod, Nat.reduceDiv, ↓reduceIte, reduceCtorEq, Int.reduceLE, Int.reduceLT, Int.reduceToNat, Int.reduceEq, Int.reduceNeg, Int.reduceAdd, Int.reduceSub, Int.reduceMul, mkI, iV, mkQ, qV, fV, ofV, rV, mkR]) (by simp -implicitDefEqProofs only [go_sem, Nat.reduceAdd, Nat.reduceSub, Nat.reduceMul, Nat.reduceLT, Nat.reduceLeDiff, Nat.reduceEqDiff, Nat.reduceBEq, Nat.reduceGT, Nat.reduceMod, Nat.reduceDiv, ↓reduceIte, reduceCtorEq, Int.reduceLE, Int.reduceLT, Int.reduceToNat, Int.reduceEq, Int.reduceNeg, Int.reduceAdd, Int.reduceSub, Int.reduceMul, mkI, iV, mkQ, qV, fV, ofV, rV, mkR])) ?_
  simp -implicitDefEqProofs only [go_sem, Nat.reduceAdd, Nat.reduceSub, Nat.reduceMul, Nat.reduceLT, Nat.reduceLeDiff, Nat.reduceEqDiff, Nat.reduceBEq, Nat.reduceGT, Nat.reduceMod, Nat.reduceDiv, ↓reduceIte, reduceCtorEq, Int.reduceLE, Int.reduceLT, Int.reduceToNat, Int.reduceEq, Int.reduceNeg, Int.reduceAdd, Int.reduceSub, Int.reduceMul, mkI, iV, mkQ, qV, fV, ofV, rV, mkR]
  simp -implicitDefEqProofs only [go_sem, Nat.reduceAdd, Nat.reduceSub, Nat.reduceMul, Nat.reduceLT, Nat.reduceLeDiff, Nat.reduceEqDiff, Nat.reduceBEq, Nat.reduceGT, Nat.reduceMod, Nat.reduceDiv, ↓reduceIte, reduceCtorEq, Int.reduceLE, Int.reduceLT, Int.reduceToNat, Int.reduceEq, Int.reduceNeg, Int.reduceAdd, Int.reduceSub, Int.reduceMul, mkI, iV, mkQ, qV, fV, ofV, rV, mkR, res59]
  first | exact .app _ _ | exact ⟨.app _ _, rfl⟩ | exact .refl _ | exact ⟨.refl _, rfl⟩
end Go.Proofs.YthhmkaikopdmjaaGreat
set_option linter.unusedSimpArgs false
set_option linter.unusedVariables false
set_option maxRecDepth 8000
namespace Go.Proofs.YthhmkaikopdmjaaGreat
open Go Go.Fw

theorem halfR (H : Heap) {r : RR} {k : Nat} (hr : r.le k) (hk : k ≤ 150000) : Sim Tryz.prog 114 #[r.val] H (.int .i64 r.rot.half) H := by
  refine flat_ex rfl ?_
  have o1 := fun H => signQ H hr.c hk
  have o2 := fun H => signQ H hr.s hk
  unfold qV at o1 o2
  unfold RR.val rV Rot.half
  have hc := cmpQ_cases r.rot.c 0
  have hs := cmpQ_cases r.rot.s 0
  generalize cmpQ r.rot.c 0 = x at *
  generalize cmpQ r.rot.s 0 = y at *
  have k2 : IntKind.i64.wrap 2 = 2 := rfl
  have k1 : IntKind.i64.wrap 1 = 1 := rfl
  have k0 : IntKind.i64.wrap 0 = 0 := rfl
  have t2 : (2 : Int).tdiv 2 = 1 := rfl
  have t1 : (1 : Int).tdiv 2 = 0 := rfl
  have t0 : (0 : Int).tdiv 2 = 0 := rfl
  have i0 : (0 : Int) < ((3 : Nat) : Int) := by decide
  have i1 : (1 : Int) < ((3 : Nat) : Int) := by decide
  have i2 : (2 : Int) < ((3 : Nat) : Int) := by decide
  rcases hs with ⟨rfl, hs⟩ | ⟨rfl, hs⟩ | ⟨rfl, hs⟩
  · rw [if_neg (by grind), if_pos hs]
    rcases hc with ⟨rfl, hc⟩ | ⟨rfl, hc⟩ | ⟨rfl, hc⟩
    · skip
      refine sim_ex tok mixed Tryz.func114 rfl (by kernel_rfl) (by kernel_rfl) (by simp only [Tryz.ntmps114, List.size_toArray, List.length_cons, List.length_nil]; omega) ?_
      simp -implicitDefEqProofs only [go_sem, Nat.reduceAdd, Nat.reduceSub, Nat.reduceMul, Nat.reduceLT, Nat.reduceLeDiff, Nat.reduceEqDiff, Nat.reduceBEq, Nat.reduceGT, Nat.reduceMod, Nat.reduceDiv, ↓reduceIte, reduceCtorEq, Int.reduceLE, Int.reduceLT, Int.reduceToNat, Int.reduceEq, Int.reduceNeg, Int.reduceAdd, Int.reduceSub, Int.reduceMul, mkI, iV, mkQ, qV, fV, ofV, rV, mkR]
      refine ax_quiet (by kernel_rfl) ?_
      simp -implicitDefEqProofs only [go_sem, Nat.reduceAdd, Nat.reduceSub, Nat.reduceMul, Nat.reduceLT, Nat.reduceLeDiff, Nat.reduceEqDiff, Nat.reduceBEq, Nat.reduceGT, Nat.reduceMod, Nat.reduceDiv, ↓reduceIte, reduceCtorEq, Int.reduceLE, Int.reduceLT, Int.reduceToNat, Int.reduceEq, Int.reduceNeg, Int.reduceAdd, Int.reduceSub, Int.reduceMul, mkI, iV, mkQ, qV, fV, ofV, rV, mkR]
      refine wl_callV _ (by simp -implicitDefEqProofs only [go_sem, Nat.reduceAdd, Nat.reduceSub, Nat.reduceMul, Nat.reduceLT, Nat.reduceLeDiff, Nat.reduceEqDiff, Nat.reduceBEq, Nat.reduceGT, Nat.reduceMod, Nat.reduceDiv, ↓reduceIte, reduceCtorEq, Int.reduceLE, Int.reduceLT, Int.reduceToNat, Int.reduceEq, Int.reduceNeg, Int.reduceAdd, Int.reduceSub, Int.reduceMul, mkI, iV, mkQ, qV, fV, ofV, rV, mkR, k0, k1, k2, t0, t1, t2]) (o1 _) ?_
      simp -implicitDefEqProofs only [go_sem, Nat.reduceAdd, Nat.reduceSub, Nat.reduceMul, Nat.reduceLT, Nat.reduceLeDiff, Nat.reduceEqDiff, Nat.reduceBEq, Nat.reduceGT, Nat.reduceMod, Nat.reduceDiv, ↓reduceIte, reduceCtorEq, Int.reduceLE, Int.reduceLT, Int.reduceToNat, Int.reduceEq, Int.reduceNeg, Int.reduceAdd, Int.reduceSub, Int.reduceMul, mkI, iV, mkQ, qV, fV, ofV, rV, mkR, k0, k1, k2, t0, t1, t2]
      refine wl_callV _ (by simp -implicitDefEqProofs only [go_sem, Nat.reduceAdd, Nat.reduceSub, Nat.reduceMul, Nat.reduceLT, Nat.reduceLeDiff, Nat.reduceEqDiff, Nat.reduceBEq, Nat.reduceGT, Nat.reduceMod, Nat.reduceDiv, ↓reduceIte, reduceCtorEq, Int.reduceLE, Int.reduceLT, Int.reduceToNat, Int.reduceEq, Int.reduceNeg, Int.reduceAdd, Int.reduceSub, Int.reduceMul, mkI, iV, mkQ, qV, fV, ofV, rV, mkR, k0, k1, k2, i0, i1, i2, partL, show Int.toNat 1 = 1 from rfl, show Int.toNat 2 = 2 from rfl, show Int.toNat 0 = 0 from rfl]) (o2 _) ?_
      simp -implicitDefEqProofs only [go_sem, Nat.reduceAdd, Nat.reduceSub, Nat.reduceMul, Nat.reduceLT, Nat.reduceLeDiff, Nat.reduceEqDiff, Nat.reduceBEq, Nat.reduceGT, Nat.reduceMod, Nat.reduceDiv, ↓reduceIte, reduceCtorEq, Int.reduceLE, Int.reduceLT, Int.reduceToNat, Int.reduceEq, Int.reduceNeg, Int.reduceAdd, Int.reduceSub, Int.reduceMul, mkI, iV, mkQ, qV, fV, ofV, rV, mkR, k0, k1, k2, i0, i1, i2, partL, show Int.toNat 1 = 1 from rfl, show Int.toNat 2 = 2 from rfl, show Int.toNat 0 = 0 from rfl]
      simp -implicitDefEqProofs only [go_sem, Nat.reduceAdd, Nat.reduceSub, Nat.reduceMul, Nat.reduceLT, Nat.reduceLeDiff, Nat.reduceEqDiff, Nat.reduceBEq, Nat.reduceGT, Nat.reduceMod, Nat.reduceDiv, ↓reduceIte, reduceCtorEq, Int.reduceLE, Int.reduceLT, Int.reduceToNat, Int.reduceEq, Int.reduceNeg, Int.reduceAdd, Int.reduceSub, Int.reduceMul, mkI, iV, mkQ, qV, fV, ofV, rV, mkR, res114]
      first | exact .app _ _ | exact ⟨.app _ _, rfl⟩ | exact .refl _ | exact ⟨.refl _, rfl⟩
    · skip
      refine sim_ex tok mixed Tryz.func114 rfl (by kernel_rfl) (by kernel_rfl) (by simp only [Tryz.ntmps114, List.size_toArray, List.length_cons, List.length_nil]; omega) ?_
      simp -implicitDefEqProofs only [go_sem, Nat.reduceAdd, Nat.reduceSub, Nat.reduceMul, Nat.reduceLT, Nat.reduceLeDiff, Nat.reduceEqDiff, Nat.reduceBEq, Nat.reduceGT, Nat.reduceMod, Nat.reduceDiv, ↓reduceIte, reduceCtorEq, Int.reduceLE, Int.reduceLT, Int.reduceToNat, Int.reduceEq, Int.reduceNeg, Int.reduceAdd, Int.reduceSub, Int.reduceMul, mkI, iV, mkQ, qV, fV, ofV, rV, mkR]
      refine ax_quiet (by kernel_rfl) ?_
      simp -implicitDefEqProofs only [go_sem, Nat.reduceAdd, Nat.reduceSub, Nat.reduceMul, Nat.reduceLT, Nat.reduceLeDiff, Nat.reduceEqDiff, Nat.reduceBEq, Nat.reduceGT, Nat.reduceMod, Nat.reduceDiv, ↓reduceIte, reduceCtorEq, Int.reduceLE, Int.reduceLT, Int.reduceToNat, Int.reduceEq, Int.reduceNeg, Int.reduceAdd, Int.reduceSub, Int.reduceMul, mkI, iV, mkQ, qV, fV, ofV, rV, mkR]
      refine wl_callV _ (by simp -implicitDefEqProofs only [go_sem, Nat.reduceAdd, Nat.reduceSub, Nat.reduceMul, Nat.reduceLT, Nat.reduceLeDiff, Nat.reduceEqDiff, Nat.reduceBEq, Nat.reduceGT, Nat.reduceMod, Nat.reduceDiv, ↓reduceIte, reduceCtorEq, Int.reduceLE, Int.reduceLT, Int.reduceToNat, Int.reduceEq, Int.reduceNeg, Int.reduceAdd, Int.reduceSub, Int.reduceMul, mkI, iV, mkQ, qV, fV, ofV, rV, mkR, k0, k1, k2, t0, t1, t2]) (o1 _) ?_
      simp -implicitDefEqProofs only [go_sem, Nat.reduceAdd, Nat.reduceSub, Nat.reduceMul, Nat.reduceLT, Nat.reduceLeDiff, Nat.reduceEqDiff, Nat.reduceBEq, Nat.reduceGT, Nat.reduceMod, Nat.reduceDiv, ↓reduceIte, reduceCtorEq, Int.reduceLE, Int.reduceLT, Int.reduceToNat, Int.reduceEq, Int.reduceNeg, Int.reduceAdd, Int.reduceSub, Int.reduceMul, mkI, iV, mkQ, qV, fV, ofV, rV, mkR, k0, k1, k2, t0, t1, t2]
      refine wl_callV _ (by simp -implicitDefEqProofs only [go_sem, Nat.reduceAdd, Nat.reduceSub, Nat.reduceMul, Nat.reduceLT, Nat.reduceLeDiff, Nat.reduceEqDiff, Nat.reduceBEq, Nat.reduceGT, Nat.reduceMod, Nat.reduceDiv, ↓reduceIte, reduceCtorEq, Int.reduceLE, Int.reduceLT, Int.reduceToNat, Int.reduceEq, Int.reduceNeg, Int.reduceAdd, Int.reduceSub, Int.reduceMul, mkI, iV, mkQ, qV, fV, ofV, rV, mkR, k0, k1, k2, i0, i1, i2, partL, show Int.toNat 1 = 1 from rfl, show Int.toNat 2 = 2 from rfl, show Int.toNat 0 = 0 from rfl]) (o2 _) ?_
      simp -implicitDefEqProofs only [go_sem, Nat.reduceAdd, Nat.reduceSub, Nat.reduceMul, Nat.reduceLT, Nat.reduceLeDiff, Nat.reduceEqDiff, Nat.reduceBEq, Nat.reduceGT, Nat.reduceMod, Nat.reduceDiv, ↓reduceIte, reduceCtorEq, Int.reduceLE, Int.reduceLT, Int.reduceToNat, Int.reduceEq, Int.reduceNeg, Int.reduceAdd, Int.reduceSub, Int.reduceMul, mkI, iV, mkQ, qV, fV, ofV, rV, mkR, k0, k1, k2, i0, i1, i2, partL, show Int.toNat 1 = 1 from rfl, show Int.toNat 2 = 2 from rfl, show Int.toNat 0 = 0 from rfl]
      simp -implicitDefEqProofs only [go_sem, Nat.reduceAdd, Nat.reduceSub, Nat.reduceMul, Nat.reduceLT, Nat.reduceLeDiff, Nat.reduceEqDiff, Nat.reduceBEq, Nat.reduceGT, Nat.reduceMod, Nat.reduceDiv, ↓reduceIte, reduceCtorEq, Int.reduceLE, Int.reduceLT, Int.reduceToNat, Int.reduceEq, Int.reduceNeg, Int.reduceAdd, Int.reduceSub, Int.reduceMul, mkI, iV, mkQ, qV, fV, ofV, rV, mkR, res114]
      first | exact .app _ _ | exact ⟨.app _ _, rfl⟩ | exact .refl _ | exact ⟨.refl _, rfl⟩
    · skip
      refine sim_ex tok mixed Tryz.func114 rfl (by kernel_rfl) (by kernel_rfl) (by simp only [Tryz.ntmps114, List.size_toArray, List.length_cons, List.length_nil]; omega) ?_
      simp -implicitDefEqProofs only [go_sem, Nat.reduceAdd, Nat.reduceSub, Nat.reduceMul, Nat.reduceLT, Nat.reduceLeDiff, Nat.reduceEqDiff, Nat.reduceBEq, Nat.reduceGT, Nat.reduceMod, Nat.reduceDiv, ↓reduceIte, reduceCtorEq, Int.reduceLE, Int.reduceLT, Int.reduceToNat, Int.reduceEq, Int.reduceNeg, Int.reduceAdd, Int.reduceSub, Int.reduceMul, mkI, iV, mkQ, qV, fV, ofV, rV, mkR]
      refine ax_quiet (by kernel_rfl) ?_
      simp -implicitDefEqProofs only [go_sem, Nat.reduceAdd, Nat.reduceSub, Nat.reduceMul, Nat.reduceLT, Nat.reduceLeDiff, Nat.reduceEqDiff, Nat.reduceBEq, Nat.reduceGT, Nat.reduceMod, Nat.reduceDiv, ↓reduceIte, reduceCtorEq, Int.reduceLE, Int.reduceLT, Int.reduceToNat, Int.reduceEq, Int.reduceNeg, Int.reduceAdd, Int.reduceSub, Int.reduceMul, mkI, iV, mkQ, qV, fV, ofV, rV, mkR]
      refine wl_callV _ (by simp -implicitDefEqProofs only [go_sem, Nat.reduceAdd, Nat.reduceSub, Nat.reduceMul, Nat.reduceLT, Nat.reduceLeDiff, Nat.reduceEqDiff, Nat.reduceBEq, Nat.reduceGT, Nat.reduceMod, Nat.reduceDiv, ↓reduceIte, reduceCtorEq, Int.reduceLE, Int.reduceLT, Int.reduceToNat, Int.reduceEq, Int.reduceNeg, Int.reduceAdd, Int.reduceSub, Int.reduceMul, mkI, iV, mkQ, qV, fV, ofV, rV, mkR, k0, k1, k2, t0, t1, t2]) (o1 _) ?_
      simp -implicitDefEqProofs only [go_sem, Nat.reduceAdd, Nat.reduceSub, Nat.reduceMul, Nat.reduceLT, Nat.reduceLeDiff, Nat.reduceEqDiff, Nat.reduceBEq, Nat.reduceGT, Nat.reduceMod, Nat.reduceDiv, ↓reduceIte, reduceCtorEq, Int.reduceLE, Int.reduceLT, Int.reduceToNat, Int.reduceEq, Int.reduceNeg, Int.reduceAdd, Int.reduceSub, Int.reduceMul, mkI, iV, mkQ, qV, fV, ofV, rV, mkR, k0, k1, k2, t0, t1, t2]
      refine wl_callV _ (by simp -implicitDefEqProofs only [go_sem, Nat.reduceAdd, Nat.reduceSub, Nat.reduceMul, Nat.reduceLT, Nat.reduceLeDiff, Nat.reduceEqDiff, Nat.reduceBEq, Nat.reduceGT, Nat.reduceMod, Nat.reduceDiv, ↓reduceIte, reduceCtorEq, Int.reduceLE, Int.reduceLT, Int.reduceToNat, Int.reduceEq, Int.reduceNeg, Int.reduceAdd, Int.reduceSub, Int.reduceMul, mkI, iV, mkQ, qV, fV, ofV, rV, mkR, k0, k1, k2, i0, i1, i2, partL, show Int.toNat 1 = 1 from rfl, show Int.toNat 2 = 2 from rfl, show Int.toNat 0 = 0 from rfl]) (o2 _) ?_
      simp -implicitDefEqProofs only [go_sem, Nat.reduceAdd, Nat.reduceSub, Nat.reduceMul, Nat.reduceLT, Nat.reduceLeDiff, Nat.reduceEqDiff, Nat.reduceBEq, Nat.reduceGT, Nat.reduceMod, Nat.reduceDiv, ↓reduceIte, reduceCtorEq, Int.reduceLE, Int.reduceLT, Int.reduceToNat, Int.reduceEq, Int.reduceNeg, Int.reduceAdd, Int.reduceSub, Int.reduceMul, mkI, iV, mkQ, qV, fV, ofV, rV, mkR, k0, k1, k2, i0, i1, i2, partL, show Int.toNat 1 = 1 from rfl, show Int.toNat 2 = 2 from rfl, show Int.toNat 0 = 0 from rfl]
      simp -implicitDefEqProofs only [go_sem, Nat.reduceAdd, Nat.reduceSub, Nat.reduceMul, Nat.reduceLT, Nat.reduceLeDiff, Nat.reduceEqDiff, Nat.reduceBEq, Nat.reduceGT, Nat.reduceMod, Nat.reduceDiv, ↓reduceIte, reduceCtorEq, Int.reduceLE, Int.reduceLT, Int.reduceToNat, Int.reduceEq, Int.reduceNeg, Int.reduceAdd, Int.reduceSub, Int.reduceMul, mkI, iV, mkQ, qV, fV, ofV, rV, mkR, res114]
      first | exact .app _ _ | exact ⟨.app _ _, rfl⟩ | exact .refl _ | exact ⟨.refl _, rfl⟩
  · rw [if_neg (by grind), if_neg (by grind)]
    rcases hc with ⟨rfl, hc⟩ | ⟨rfl, hc⟩ | ⟨rfl, hc⟩
    · rw [if_pos hc]
      refine sim_ex tok mixed Tryz.func114 rfl (by kernel_rfl) (by kernel_rfl) (by simp only [Tryz.ntmps114, List.size_toArray, List.length_cons, List.length_nil]; omega) ?_
      simp -implicitDefEqProofs only [go_sem, Nat.reduceAdd, Nat.reduceSub, Nat.reduceMul, Nat.reduceLT, Nat.reduceLeDiff, Nat.reduceEqDiff, Nat.reduceBEq, Nat.reduceGT, Nat.reduceMod, Nat.reduceDiv, ↓reduceIte, reduceCtorEq, Int.reduceLE, Int.reduceLT, Int.reduceToNat, Int.reduceEq, Int.reduceNeg, Int.reduceAdd, Int.reduceSub, Int.reduceMul, mkI, iV, mkQ, qV, fV, ofV, rV, mkR]
      refine ax_quiet (by kernel_rfl) ?_
      simp -implicitDefEqProofs only [go_sem, Nat.reduceAdd, Nat.reduceSub, Nat.reduceMul, Nat.reduceLT, Nat.reduceLeDiff, Nat.reduceEqDiff, Nat.reduceBEq, Nat.reduceGT, Nat.reduceMod, Nat.reduceDiv, ↓reduceIte, reduceCtorEq, Int.reduceLE, Int.reduceLT, Int.reduceToNat, Int.reduceEq, Int.reduceNeg, Int.reduceAdd, Int.reduceSub, Int.reduceMul, mkI, iV, mkQ, qV, fV, ofV, rV, mkR]
      refine wl_callV _ (by simp -implicitDefEqProofs only [go_sem, Nat.reduceAdd, Nat.reduceSub, Nat.reduceMul, Nat.reduceLT, Nat.reduceLeDiff, Nat.reduceEqDiff, Nat.reduceBEq, Nat.reduceGT, Nat.reduceMod, Nat.reduceDiv, ↓reduceIte, reduceCtorEq, Int.reduceLE, Int.reduceLT, Int.reduceToNat, Int.reduceEq, Int.reduceNeg, Int.reduceAdd, Int.reduceSub, Int.reduceMul, mkI, iV, mkQ, qV, fV, ofV, rV, mkR, k0, k1, k2, t0, t1, t2]) (o1 _) ?_
      simp -implicitDefEqProofs only [go_sem, Nat.reduceAdd, Nat.reduceSub, Nat.reduceMul, Nat.reduceLT, Nat.reduceLeDiff, Nat.reduceEqDiff, Nat.reduceBEq, Nat.reduceGT, Nat.reduceMod, Nat.reduceDiv, ↓reduceIte, reduceCtorEq, Int.reduceLE, Int.reduceLT, Int.reduceToNat, Int.reduceEq, Int.reduceNeg, Int.reduceAdd, Int.reduceSub, Int.reduceMul, mkI, iV, mkQ, qV, fV, ofV, rV, mkR, k0, k1, k2, t0, t1, t2]
      refine wl_callV _ (by simp -implicitDefEqProofs only [go_sem, Nat.reduceAdd, Nat.reduceSub, Nat.reduceMul, Nat.reduceLT, Nat.reduceLeDiff, Nat.reduceEqDiff, Nat.reduceBEq, Nat.reduceGT, Nat.reduceMod, Nat.reduceDiv, ↓reduceIte, reduceCtorEq, Int.reduceLE, Int.reduceLT, Int.reduceToNat, Int.reduceEq, Int.reduceNeg, Int.reduceAdd, Int.reduceSub, Int.reduceMul, mkI, iV, mkQ, qV, fV, ofV, rV, mkR, k0, k1, k2, i0, i1, i2, partL, show Int.toNat 1 = 1 from rfl, show Int.toNat 2 = 2 from rfl, show Int.toNat 0 = 0 from rfl]) (o2 _) ?_
      simp -implicitDefEqProofs only [go_sem, Nat.reduceAdd, Nat.reduceSub, Nat.reduceMul, Nat.reduceLT, Nat.reduceLeDiff, Nat.reduceEqDiff, Nat.reduceBEq, Nat.reduceGT, Nat.reduceMod, Nat.reduceDiv, ↓reduceIte, reduceCtorEq, Int.reduceLE, Int.reduceLT, Int.reduceToNat, Int.reduceEq, Int.reduceNeg, Int.reduceAdd, Int.reduceSub, Int.reduceMul, mkI, iV, mkQ, qV, fV, ofV, rV, mkR, k0, k1, k2, i0, i1, i2, partL, show Int.toNat 1 = 1 from rfl, show Int.toNat 2 = 2 from rfl, show Int.toNat 0 = 0 from rfl]
      simp -implicitDefEqProofs only [go_sem, Nat.reduceAdd, Nat.reduceSub, Nat.reduceMul, Nat.reduceLT, Nat.reduceLeDiff, Nat.reduceEqDiff, Nat.reduceBEq, Nat.reduceGT, Nat.reduceMod, Nat.reduceDiv, ↓reduceIte, reduceCtorEq, Int.reduceLE, Int.reduceLT, Int.reduceToNat, Int.reduceEq, Int.reduceNeg, Int.reduceAdd, Int.reduceSub, Int.reduceMul, mkI, iV, mkQ, qV, fV, ofV, rV, mkR, res114]
      first | exact .app _ _ | exact ⟨.app _ _, rfl⟩ | exact .refl _ | exact ⟨.refl _, rfl⟩
    · rw [if_neg (by grind)]
      refine sim_ex tok mixed Tryz.func114 rfl (by kernel_rfl) (by kernel_rfl) (by simp only [Tryz.ntmps114, List.size_toArray, List.length_cons, List.length_nil]; omega) ?_
      simp -implicitDefEqProofs only [go_sem, Nat.reduceAdd, Nat.reduceSub, Nat.reduceMul, Nat.reduceLT, Nat.reduceLeDiff, Nat.reduceEqDiff, Nat.reduceBEq, Nat.reduceGT, Nat.reduceMod, Nat.reduceDiv, ↓reduceIte, reduceCtorEq, Int.reduceLE, Int.reduceLT, Int.reduceToNat, Int.reduceEq, Int.reduceNeg, Int.reduceAdd, Int.reduceSub, Int.reduceMul, mkI, iV, mkQ, qV, fV, ofV, rV, mkR]
      refine ax_quiet (by kernel_rfl) ?_
      simp -implicitDefEqProofs only [go_sem, Nat.reduceAdd, Nat.reduceSub, Nat.reduceMul, Nat.reduceLT, Nat.reduceLeDiff, Nat.reduceEqDiff, Nat.reduceBEq, Nat.reduceGT, Nat.reduceMod, Nat.reduceDiv, ↓reduceIte, reduceCtorEq, Int.reduceLE, Int.reduceLT, Int.reduceToNat, Int.reduceEq, Int.reduceNeg, Int.reduceAdd, Int.reduceSub, Int.reduceMul, mkI, iV, mkQ, qV, fV, ofV, rV, mkR]
      refine wl_callV _ (by simp -implicitDefEqProofs only [go_sem, Nat.reduceAdd, Nat.reduceSub, Nat.reduceMul, Nat.reduceLT, Nat.reduceLeDiff, Nat.reduceEqDiff, Nat.reduceBEq, Nat.reduceGT, Nat.reduceMod, Nat.reduceDiv, ↓reduceIte, reduceCtorEq, Int.reduceLE, Int.reduceLT, Int.reduceToNat, Int.reduceEq, Int.reduceNeg, Int.reduceAdd, Int.reduceSub, Int.reduceMul, mkI, iV, mkQ, qV, fV, ofV, rV, mkR, k0, k1, k2, t0, t1, t2]) (o1 _) ?_
      simp -implicitDefEqProofs only [go_sem, Nat.reduceAdd, Nat.reduceSub, Nat.reduceMul, Nat.reduceLT, Nat.reduceLeDiff, Nat.reduceEqDiff, Nat.reduceBEq, Nat.reduceGT, Nat.reduceMod, Nat.reduceDiv, ↓reduceIte, reduceCtorEq, Int.reduceLE, Int.reduceLT, Int.reduceToNat, Int.reduceEq, Int.reduceNeg, Int.reduceAdd, Int.reduceSub, Int.reduceMul, mkI, iV, mkQ, qV, fV, ofV, rV, mkR, k0, k1, k2, t0, t1, t2]
      refine wl_callV _ (by simp -implicitDefEqProofs only [go_sem, Nat.reduceAdd, Nat.reduceSub, Nat.reduceMul, Nat.reduceLT, Nat.reduceLeDiff, Nat.reduceEqDiff, Nat.reduceBEq, Nat.reduceGT, Nat.reduceMod, Nat.reduceDiv, ↓reduceIte, reduceCtorEq, Int.reduceLE, Int.reduceLT, Int.reduceToNat, Int.reduceEq, Int.reduceNeg, Int.reduceAdd, Int.reduceSub, Int.reduceMul, mkI, iV, mkQ, qV, fV, ofV, rV, mkR, k0, k1, k2, i0, i1, i2, partL, show Int.toNat 1 = 1 from rfl, show Int.toNat 2 = 2 from rfl, show Int.toNat 0 = 0 from rfl]) (o2 _) ?_
      simp -implicitDefEqProofs only [go_sem, Nat.reduceAdd, Nat.reduceSub, Nat.reduceMul, Nat.reduceLT, Nat.reduceLeDiff, Nat.reduceEqDiff, Nat.reduceBEq, Nat.reduceGT, Nat.reduceMod, Nat.reduceDiv, ↓reduceIte, reduceCtorEq, Int.reduceLE, Int.reduceLT, Int.reduceToNat, Int.reduceEq, Int.reduceNeg, Int.reduceAdd, Int.reduceSub, Int.reduceMul, mkI, iV, mkQ, qV, fV, ofV, rV, mkR, k0, k1, k2, i0, i1, i2, partL, show Int.toNat 1 = 1 from rfl, show Int.toNat 2 = 2 from rfl, show Int.toNat 0 = 0 from rfl]
      simp -implicitDefEqProofs only [go_sem, Nat.reduceAdd, Nat.reduceSub, Nat.reduceMul, Nat.reduceLT, Nat.reduceLeDiff, Nat.reduceEqDiff, Nat.reduceBEq, Nat.reduceGT, Nat.reduceMod, Nat.reduceDiv, ↓reduceIte, reduceCtorEq, Int.reduceLE, Int.reduceLT, Int.reduceToNat, Int.reduceEq, Int.reduceNeg, Int.reduceAdd, Int.reduceSub, Int.reduceMul, mkI, iV, mkQ, qV, fV, ofV, rV, mkR, res114]
      first | exact .app _ _ | exact ⟨.app _ _, rfl⟩ | exact .refl _ | exact ⟨.refl _, rfl⟩
    · rw [if_neg (by grind)]
      refine sim_ex tok mixed Tryz.func114 rfl (by kernel_rfl) (by kernel_rfl) (by simp only [Tryz.ntmps114, List.size_toArray, List.length_cons, List.length_nil]; omega) ?_
      simp -implicitDefEqProofs only [go_sem, Nat.reduceAdd, Nat.reduceSub, Nat.reduceMul, Nat.reduceLT, Nat.reduceLeDiff, Nat.reduceEqDiff, Nat.reduceBEq, Nat.reduceGT, Nat.reduceMod, Nat.reduceDiv, ↓reduceIte, reduceCtorEq, Int.reduceLE, Int.reduceLT, Int.reduceToNat, Int.reduceEq, Int.reduceNeg, Int.reduceAdd, Int.reduceSub, Int.reduceMul, mkI, iV, mkQ, qV, fV, ofV, rV, mkR]
      refine ax_quiet (by kernel_rfl) ?_
      simp -implicitDefEqProofs only [go_sem, Nat.reduceAdd, Nat.reduceSub, Nat.reduceMul, Nat.reduceLT, Nat.reduceLeDiff, Nat.reduceEqDiff, Nat.reduceBEq, Nat.reduceGT, Nat.reduceMod, Nat.reduceDiv, ↓reduceIte, reduceCtorEq, Int.reduceLE, Int.reduceLT, Int.reduceToNat, Int.reduceEq, Int.reduceNeg, Int.reduceAdd, Int.reduceSub, Int.reduceMul, mkI, iV, mkQ, qV, fV, ofV, rV, mkR]
      refine wl_callV _ (by simp -implicitDefEqProofs only [go_sem, Nat.reduceAdd, Nat.reduceSub, Nat.reduceMul, Nat.reduceLT, Nat.reduceLeDiff, Nat.reduceEqDiff, Nat.reduceBEq, Nat.reduceGT, Nat.reduceMod, Nat.reduceDiv, ↓reduceIte, reduceCtorEq, Int.reduceLE, Int.reduceLT, Int.reduceToNat, Int.reduceEq, Int.reduceNeg, Int.reduceAdd, Int.reduceSub, Int.reduceMul, mkI, iV, mkQ, qV, fV, ofV, rV, mkR, k0, k1, k2, t0, t1, t2]) (o1 _) ?_
      simp -implicitDefEqProofs only [go_sem, Nat.reduceAdd, Nat.reduceSub, Nat.reduceMul, Nat.reduceLT, Nat.reduceLeDiff, Nat.reduceEqDiff, Nat.reduceBEq, Nat.reduceGT, Nat.reduceMod, Nat.reduceDiv, ↓reduceIte, reduceCtorEq, Int.reduceLE, Int.reduceLT, Int.reduceToNat, Int.reduceEq, Int.reduceNeg, Int.reduceAdd, Int.reduceSub, Int.reduceMul, mkI, iV, mkQ, qV, fV, ofV, rV, mkR, k0, k1, k2, t0, t1, t2]
      refine wl_callV _ (by simp -implicitDefEqProofs only [go_sem, Nat.reduceAdd, Nat.reduceSub, Nat.reduceMul, Nat.reduceLT, Nat.reduceLeDiff, Nat.reduceEqDiff, Nat.reduceBEq, Nat.reduceGT, Nat.reduceMod, Nat.reduceDiv, ↓reduceIte, reduceCtorEq, Int.reduceLE, Int.reduceLT, Int.reduceToNat, Int.reduceEq, Int.reduceNeg, Int.reduceAdd, Int.reduceSub, Int.reduceMul, mkI, iV, mkQ, qV, fV, ofV, rV, mkR, k0, k1, k2, i0, i1, i2, partL, show Int.toNat 1 = 1 from rfl, show Int.toNat 2 = 2 from rfl, show Int.toNat 0 = 0 from rfl]) (o2 _) ?_
      simp -implicitDefEqProofs only [go_sem, Nat.reduceAdd, Nat.reduceSub, Nat.reduceMul, Nat.reduceLT, Nat.reduceLeDiff, Nat.reduceEqDiff, Nat.reduceBEq, Nat.reduceGT, Nat.reduceMod, Nat.reduceDiv, ↓reduceIte, reduceCtorEq, Int.reduceLE, Int.reduceLT, Int.reduceToNat, Int.reduceEq, Int.reduceNeg, Int.reduceAdd, Int.reduceSub, Int.reduceMul, mkI, iV, mkQ, qV, fV, ofV, rV, mkR, k0, k1, k2, i0, i1, i2, partL, show Int.toNat 1 = 1 from rfl, show Int.toNat 2 = 2 from rfl, show Int.toNat 0 = 0 from rfl]
      simp -implicitDefEqProofs only [go_sem, Nat.reduceAdd, Nat.reduceSub, Nat.reduceMul, Nat.reduceLT, Nat.reduceLeDiff, Nat.reduceEqDiff, Nat.reduceBEq, Nat.reduceGT, Nat.reduceMod, Nat.reduceDiv, ↓reduceIte, reduceCtorEq, Int.reduceLE, Int.reduceLT, Int.reduceToNat, Int.reduceEq, Int.reduceNeg, Int.reduceAdd, Int.reduceSub, Int.reduceMul, mkI, iV, mkQ, qV, fV, ofV, rV, mkR, res114]
      first | exact .app _ _ | exact ⟨.app _ _, rfl⟩ | exact .refl _ | exact ⟨.refl _, rfl⟩
  · rw [if_pos hs]
    rcases hc with ⟨rfl, hc⟩ | ⟨rfl, hc⟩ | ⟨rfl, hc⟩
    · skip
      refine sim_ex tok mixed Tryz.func114 rfl (by kernel_rfl) (by kernel_rfl) (by simp only [Tryz.ntmps114, List.size_toArray, List.length_cons, List.length_nil]; omega) ?_
      simp -implicitDefEqProofs only [go_sem, Nat.reduceAdd, Nat.reduceSub, Nat.reduceMul, Nat.reduceLT, Nat.reduceLeDiff, Nat.reduceEqDiff, Nat.reduceBEq, Nat.reduceGT, Nat.reduceMod, Nat.reduceDiv, ↓reduceIte, reduceCtorEq, Int.reduceLE, Int.reduceLT, Int.reduceToNat, Int.reduceEq, Int.reduceNeg, Int.reduceAdd, Int.reduceSub, Int.reduceMul, mkI, iV, mkQ, qV, fV, ofV, rV, mkR]
      refine ax_quiet (by kernel_rfl) ?_
      simp -implicitDefEqProofs only [go_sem, Nat.reduceAdd, Nat.reduceSub, Nat.reduceMul, Nat.reduceLT, Nat.reduceLeDiff, Nat.reduceEqDiff, Nat.reduceBEq, Nat.reduceGT, Nat.reduceMod, Nat.reduceDiv, ↓reduceIte, reduceCtorEq, Int.reduceLE, Int.reduceLT, Int.reduceToNat, Int.reduceEq, Int.reduceNeg, Int.reduceAdd, Int.reduceSub, Int.reduceMul, mkI, iV, mkQ, qV, fV, ofV, rV, mkR]
      refine wl_callV _ (by simp -implicitDefEqProofs only [go_sem, Nat.reduceAdd, Nat.reduceSub, Nat.reduceMul, Nat.reduceLT, Nat.reduceLeDiff, Nat.reduceEqDiff, Nat.reduceBEq, Nat.reduceGT, Nat.reduceMod, Nat.reduceDiv, ↓reduceIte, reduceCtorEq, Int.reduceLE, Int.reduceLT, Int.reduceToNat, Int.reduceEq, Int.reduceNeg, Int.reduceAdd, Int.reduceSub, Int.reduceMul, mkI, iV, mkQ, qV, fV, ofV, rV, mkR, k0, k1, k2, t0, t1, t2]) (o1 _) ?_
      simp -implicitDefEqProofs only [go_sem, Nat.reduceAdd, Nat.reduceSub, Nat.reduceMul, Nat.reduceLT, Nat.reduceLeDiff, Nat.reduceEqDiff, Nat.reduceBEq, Nat.reduceGT, Nat.reduceMod, Nat.reduceDiv, ↓reduceIte, reduceCtorEq, Int.reduceLE, Int.reduceLT, Int.reduceToNat, Int.reduceEq, Int.reduceNeg, Int.reduceAdd, Int.reduceSub, Int.reduceMul, mkI, iV, mkQ, qV, fV, ofV, rV, mkR, k0, k1, k2, t0, t1, t2]
      refine wl_callV _ (by simp -implicitDefEqProofs only [go_sem, Nat.reduceAdd, Nat.reduceSub, Nat.reduceMul, Nat.reduceLT, Nat.reduceLeDiff, Nat.reduceEqDiff, Nat.reduceBEq, Nat.reduceGT, Nat.reduceMod, Nat.reduceDiv, ↓reduceIte, reduceCtorEq, Int.reduceLE, Int.reduceLT, Int.reduceToNat, Int.reduceEq, Int.reduceNeg, Int.reduceAdd, Int.reduceSub, Int.reduceMul, mkI, iV, mkQ, qV, fV, ofV, rV, mkR, k0, k1, k2, i0, i1, i2, partL, show Int.toNat 1 = 1 from rfl, show Int.toNat 2 = 2 from rfl, show Int.toNat 0 = 0 from rfl]) (o2 _) ?_
      simp -implicitDefEqProofs only [go_sem, Nat.reduceAdd, Nat.reduceSub, Nat.reduceMul, Nat.reduceLT, Nat.reduceLeDiff, Nat.reduceEqDiff, Nat.reduceBEq, Nat.reduceGT, Nat.reduceMod, Nat.reduceDiv, ↓reduceIte, reduceCtorEq, Int.reduceLE, Int.reduceLT, Int.reduceToNat, Int.reduceEq, Int.reduceNeg, Int.reduceAdd, Int.reduceSub, Int.reduceMul, mkI, iV, mkQ, qV, fV, ofV, rV, mkR, k0, k1, k2, i0, i1, i2, partL, show Int.toNat 1 = 1 from rfl, show Int.toNat 2 = 2 from rfl, show Int.toNat 0 = 0 from rfl]
      simp -implicitDefEqProofs only [go_sem, Nat.reduceAdd, Nat.reduceSub, Nat.reduceMul, Nat.reduceLT, Nat.reduceLeDiff, Nat.reduceEqDiff, Nat.reduceBEq, Nat.reduceGT, Nat.reduceMod, Nat.reduceDiv, ↓reduceIte, reduceCtorEq, Int.reduceLE, Int.reduceLT, Int.reduceToNat, Int.reduceEq, Int.reduceNeg, Int.reduceAdd, Int.reduceSub, Int.reduceMul, mkI, iV, mkQ, qV, fV, ofV, rV, mkR, res114]
      first | exact .app _ _ | exact ⟨.app _ _, rfl⟩ | exact .refl _ | exact ⟨.refl _, rfl⟩
    · skip
      refine sim_ex tok mixed Tryz.func114 rfl (by kernel_rfl) (by kernel_rfl) (by simp only [Tryz.ntmps114, List.size_toArray, List.length_cons, List.length_nil]; omega) ?_
      simp -implicitDefEqProofs only [go_sem, Nat.reduceAdd, Nat.reduceSub, Nat.reduceMul, Nat.reduceLT, Nat.reduceLeDiff, Nat.reduceEqDiff, Nat.reduceBEq, Nat.reduceGT, Nat.reduceMod, Nat.reduceDiv, ↓reduceIte, reduceCtorEq, Int.reduceLE, Int.reduceLT, Int.reduceToNat, Int.reduceEq, Int.reduceNeg, Int.reduceAdd, Int.reduceSub, Int.reduceMul, mkI, iV, mkQ, qV, fV, ofV, rV, mkR]
      refine ax_quiet (by kernel_rfl) ?_
      simp -implicitDefEqProofs only [go_sem, Nat.reduceAdd, Nat.reduceSub, Nat.reduceMul, Nat.reduceLT, Nat.reduceLeDiff, Nat.reduceEqDiff, Nat.reduceBEq, Nat.reduceGT, Nat.reduceMod, Nat.reduceDiv, ↓reduceIte, reduceCtorEq, Int.reduceLE, Int.reduceLT, Int.reduceToNat, Int.reduceEq, Int.reduceNeg, Int.reduceAdd, Int.reduceSub, Int.reduceMul, mkI, iV, mkQ, qV, fV, ofV, rV, mkR]
      refine wl_callV _ (by simp -implicitDefEqProofs only [go_sem, Nat.reduceAdd, Nat.reduceSub, Nat.reduceMul, Nat.reduceLT, Nat.reduceLeDiff, Nat.reduceEqDiff, Nat.reduceBEq, Nat.reduceGT, Nat.reduceMod, Nat.reduceDiv, ↓reduceIte, reduceCtorEq, Int.reduceLE, Int.reduceLT, Int.reduceToNat, Int.reduceEq, Int.reduceNeg, Int.reduceAdd, Int.reduceSub, Int.reduceMul, mkI, iV, mkQ, qV, fV, ofV, rV, mkR, k0, k1, k2, t0, t1, t2]) (o1 _) ?_
      simp -implicitDefEqProofs only [go_sem, Nat.reduceAdd, Nat.reduceSub, Nat.reduceMul, Nat.reduceLT, Nat.reduceLeDiff, Nat.reduceEqDiff, Nat.reduceBEq, Nat.reduceGT, Nat.reduceMod, Nat.reduceDiv, ↓reduceIte, reduceCtorEq, Int.reduceLE, Int.reduceLT, Int.reduceToNat, Int.reduceEq, Int.reduceNeg, Int.reduceAdd, Int.reduceSub, Int.reduceMul, mkI, iV, mkQ, qV, fV, ofV, rV, mkR, k0, k1, k2, t0, t1, t2]
      refine wl_callV _ (by simp -implicitDefEqProofs only [go_sem, Nat.reduceAdd, Nat.reduceSub, Nat.reduceMul, Nat.reduceLT, Nat.reduceLeDiff, Nat.reduceEqDiff, Nat.reduceBEq, Nat.reduceGT, Nat.reduceMod, Nat.reduceDiv, ↓reduceIte, reduceCtorEq, Int.reduceLE, Int.reduceLT, Int.reduceToNat, Int.reduceEq, Int.reduceNeg, Int.reduceAdd, Int.reduceSub, Int.reduceMul, mkI, iV, mkQ, qV, fV, ofV, rV, mkR, k0, k1, k2, i0, i1, i2, partL, show Int.toNat 1 = 1 from rfl, show Int.toNat 2 = 2 from rfl, show Int.toNat 0 = 0 from rfl]) (o2 _) ?_
      simp -implicitDefEqProofs only [go_sem, Nat.reduceAdd, Nat.reduceSub, Nat.reduceMul, Nat.reduceLT, Nat.reduceLeDiff, Nat.reduceEqDiff, Nat.reduceBEq, Nat.reduceGT, Nat.reduceMod, Nat.reduceDiv, ↓reduceIte, reduceCtorEq, Int.reduceLE, Int.reduceLT, Int.reduceToNat, Int.reduceEq, Int.reduceNeg, Int.reduceAdd, Int.reduceSub, Int.reduceMul, mkI, iV, mkQ, qV, fV, ofV, rV, mkR, k0, k1, k2, i0, i1, i2, partL, show Int.toNat 1 = 1 from rfl, show Int.toNat 2 = 2 from rfl, show Int.toNat 0 = 0 from rfl]
      simp -implicitDefEqProofs only [go_sem, Nat.reduceAdd, Nat.reduceSub, Nat.reduceMul, Nat.reduceLT, Nat.reduceLeDiff, Nat.reduceEqDiff, Nat.reduceBEq, Nat.reduceGT, Nat.reduceMod, Nat.reduceDiv, ↓reduceIte, reduceCtorEq, Int.reduceLE, Int.reduceLT, Int.reduceToNat, Int.reduceEq, Int.reduceNeg, Int.reduceAdd, Int.reduceSub, Int.reduceMul, mkI, iV, mkQ, qV, fV, ofV, rV, mkR, res114]
      first | exact .app _ _ | exact ⟨.app _ _, rfl⟩ | exact .refl _ | exact ⟨.refl _, rfl⟩
    · skip
      refine sim_ex tok mixed Tryz.func114 rfl (by kernel_rfl) (by kernel_rfl) (by simp only [Tryz.ntmps114, List.size_toArray, List.length_cons, List.length_nil]; omega) ?_
      simp -implicitDefEqProofs only [go_sem, Nat.reduceAdd, Nat.reduceSub, Nat.reduceMul, Nat.reduceLT, Nat.reduceLeDiff, Nat.reduceEqDiff, Nat.reduceBEq, Nat.reduceGT, Nat.reduceMod, Nat.reduceDiv, ↓reduceIte, reduceCtorEq, Int.reduceLE, Int.reduceLT, Int.reduceToNat, Int.reduceEq, Int.reduceNeg, Int.reduceAdd, Int.reduceSub, Int.reduceMul, mkI, iV, mkQ, qV, fV, ofV, rV, mkR]
      refine ax_quiet (by kernel_rfl) ?_
      simp -implicitDefEqProofs only [go_sem, Nat.reduceAdd, Nat.reduceSub, Nat.reduceMul, Nat.reduceLT, Nat.reduceLeDiff, Nat.reduceEqDiff, Nat.reduceBEq, Nat.reduceGT, Nat.reduceMod, Nat.reduceDiv, ↓reduceIte, reduceCtorEq, Int.reduceLE, Int.reduceLT, Int.reduceToNat, Int.reduceEq, Int.reduceNeg, Int.reduceAdd, Int.reduceSub, Int.reduceMul, mkI, iV, mkQ, qV, fV, ofV, rV, mkR]
      refine wl_callV _ (by simp -implicitDefEqProofs only [go_sem, Nat.reduceAdd, Nat.reduceSub, Nat.reduceMul, Nat.reduceLT, Nat.reduceLeDiff, Nat.reduceEqDiff, Nat.reduceBEq, Nat.reduceGT, Nat.reduceMod, Nat.reduceDiv, ↓reduceIte, reduceCtorEq, Int.reduceLE, Int.reduceLT, Int.reduceToNat, Int.reduceEq, Int.reduceNeg, Int.reduceAdd, Int.reduceSub, Int.reduceMul, mkI, iV, mkQ, qV, fV, ofV, rV, mkR, k0, k1, k2, t0, t1, t2]) (o1 _) ?_
      simp -implicitDefEqProofs only [go_sem, Nat.reduceAdd, Nat.reduceSub, Nat.reduceMul, Nat.reduceLT, Nat.reduceLeDiff, Nat.reduceEqDiff, Nat.reduceBEq, Nat.reduceGT, Nat.reduceMod, Nat.reduceDiv, ↓reduceIte, reduceCtorEq, Int.reduceLE, Int.reduceLT, Int.reduceToNat, Int.reduceEq, Int.reduceNeg, Int.reduceAdd, Int.reduceSub, Int.reduceMul, mkI, iV, mkQ, qV, fV, ofV, rV, mkR, k0, k1, k2, t0, t1, t2]
      refine wl_callV _ (by simp -implicitDefEqProofs only [go_sem, Nat.reduceAdd, Nat.reduceSub, Nat.reduceMul, Nat.reduceLT, Nat.reduceLeDiff, Nat.reduceEqDiff, Nat.reduceBEq, Nat.reduceGT, Nat.reduceMod, Nat.reduceDiv, ↓reduceIte, reduceCtorEq, Int.reduceLE, Int.reduceLT, Int.reduceToNat, Int.reduceEq, Int.reduceNeg, Int.reduceAdd, Int.reduceSub, Int.reduceMul, mkI, iV, mkQ, qV, fV, ofV, rV, mkR, k0, k1, k2, i0, i1, i2, partL, show Int.toNat 1 = 1 from rfl, show Int.toNat 2 = 2 from rfl, show Int.toNat 0 = 0 from rfl]) (o2 _) ?_
      simp -implicitDefEqProofs only [go_sem, Nat.reduceAdd, Nat.reduceSub, Nat.reduceMul, Nat.reduceLT, Nat.reduceLeDiff, Nat.reduceEqDiff, Nat.reduceBEq, Nat.reduceGT, Nat.reduceMod, Nat.reduceDiv, ↓reduceIte, reduceCtorEq, Int.reduceLE, Int.reduceLT, Int.reduceToNat, Int.reduceEq, Int.reduceNeg, Int.reduceAdd, Int.reduceSub, Int.reduceMul, mkI, iV, mkQ, qV, fV, ofV, rV, mkR, k0, k1, k2, i0, i1, i2, partL, show Int.toNat 1 = 1 from rfl, show Int.toNat 2 = 2 from rfl, show Int.toNat 0 = 0 from rfl]
      simp -implicitDefEqProofs only [go_sem, Nat.reduceAdd, Nat.reduceSub, Nat.reduceMul, Nat.reduceLT, Nat.reduceLeDiff, Nat.reduceEqDiff, Nat.reduceBEq, Nat.reduceGT, Nat.reduceMod, Nat.reduceDiv, ↓reduceIte, reduceCtorEq, Int.reduceLE, Int.reduceLT, Int.reduceToNat, Int.reduceEq, Int.reduceNeg, Int.reduceAdd, Int.reduceSub, Int.reduceMul, mkI, iV, mkQ, qV, fV, ofV, rV, mkR, res114]
      first | exact .app _ _ | exact ⟨.app _ _, rfl⟩ | exact .refl _ | exact ⟨.refl _, rfl⟩

theorem compareR (H : Heap) {a b : RR} {k : Nat} (ha : a.le k) (hb : b.le k) (hk : k ≤ 19000) : Sim Tryz.prog 63 #[a.val, b.val] H (.int .i64 (a.rot.cmp b.rot)) H := by
  refine flat_ex rfl ?_
  have o1 := fun H => halfR H ha (by omega)
  have o2 := fun H => halfR H hb (by omega)
  have o3 := fun H => backR H hb (by omega)
  have o4 := fun H => thenR H hb.bk (ha.mono (show k ≤ k + 8 by omega)) (by omega)
  have o5 := fun H => signQ H ((hb.bk.sz.thn ha.sz).s.qv) (by omega)
  rw [RR.bk_rot] at o4 o5
  have hd : IntKind.i64.wrap (a.rot.half - b.rot.half) = a.rot.half - b.rot.half := by
    have h1 := a.rot.half_le
    have h2 := b.rot.half_le
    exact w64 (by omega) (by omega)
  unfold Rot.cmp
  generalize a.rot.half = x at *
  generalize b.rot.half = y at *
  rw [RR.of_val] at o4
  by_cases h0 : x - y ≠ 0
  · rw [if_pos h0]
    have h1 : ¬ x - y = 0 := h0
    unfold RR.val rV at o1 o2 ⊢
    refine sim_ex tok mixed Tryz.func63 rfl (by kernel_rfl) (by kernel_rfl) (by simp only [Tryz.ntmps63, List.size_toArray, List.length_cons, List.length_nil]; omega) ?_
    simp -implicitDefEqProofs only [go_sem, Nat.reduceAdd, Nat.reduceSub, Nat.reduceMul, Nat.reduceLT, Nat.reduceLeDiff, Nat.reduceEqDiff, Nat.reduceBEq, Nat.reduceGT, Nat.reduceMod, Nat.reduceDiv, ↓reduceIte, reduceCtorEq, Int.reduceLE, Int.reduceLT, Int.reduceToNat, Int.reduceEq, Int.reduceNeg, Int.reduceAdd, Int.reduceSub, Int.reduceMul, mkI, iV, mkQ, qV, fV, ofV, rV, mkR]
    refine ax_quiet (by kernel_rfl) ?_
    simp -implicitDefEqProofs only [go_sem, Nat.reduceAdd, Nat.reduceSub, Nat.reduceMul, Nat.reduceLT, Nat.reduceLeDiff, Nat.reduceEqDiff, Nat.reduceBEq, Nat.reduceGT, Nat.reduceMod, Nat.reduceDiv, ↓reduceIte, reduceCtorEq, Int.reduceLE, Int.reduceLT, Int.reduceToNat, Int.reduceEq, Int.reduceNeg, Int.reduceAdd, Int.reduceSub, Int.reduceMul, mkI, iV, mkQ, qV, fV, ofV, rV, mkR]
    refine wl_callV _ (by simp -implicitDefEqProofs only [go_sem, Nat.reduceAdd, Nat.reduceSub, Nat.reduceMul, Nat.reduceLT, Nat.reduceLeDiff, Nat.reduceEqDiff, Nat.reduceBEq, Nat.reduceGT, Nat.reduceMod, Nat.reduceDiv, ↓reduceIte, reduceCtorEq, Int.reduceLE, Int.reduceLT, Int.reduceToNat, Int.reduceEq, Int.reduceNeg, Int.reduceAdd, Int.reduceSub, Int.reduceMul, mkI, iV, mkQ, qV, fV, ofV, rV, mkR]) (o1 _) ?_
    simp -implicitDefEqProofs only [go_sem, Nat.reduceAdd, Nat.reduceSub, Nat.reduceMul, Nat.reduceLT, Nat.reduceLeDiff, Nat.reduceEqDiff, Nat.reduceBEq, Nat.reduceGT, Nat.reduceMod, Nat.reduceDiv, ↓reduceIte, reduceCtorEq, Int.reduceLE, Int.reduceLT, Int.reduceToNat, Int.reduceEq, Int.reduceNeg, Int.reduceAdd, Int.reduceSub, Int.reduceMul, mkI, iV, mkQ, qV, fV, ofV, rV, mkR]
    refine wl_callV _ (by simp -implicitDefEqProofs only [go_sem, Nat.reduceAdd, Nat.reduceSub, Nat.reduceMul, Nat.reduceLT, Nat.reduceLeDiff, Nat.reduceEqDiff, Nat.reduceBEq, Nat.reduceGT, Nat.reduceMod, Nat.reduceDiv, ↓reduceIte, reduceCtorEq, Int.reduceLE, Int.reduceLT, Int.reduceToNat, Int.reduceEq, Int.reduceNeg, Int.reduceAdd, Int.reduceSub, Int.reduceMul, mkI, iV, mkQ, qV, fV, ofV, rV, mkR, hd, h1, wa_cond, axC_t, axC_f]) (o2 _) ?_
    simp -implicitDefEqProofs only [go_sem, Nat.reduceAdd, Nat.reduceSub, Nat.reduceMul, Nat.reduceLT, Nat.reduceLeDiff, Nat.reduceEqDiff, Nat.reduceBEq, Nat.reduceGT, Nat.reduceMod, Nat.reduceDiv, ↓reduceIte, reduceCtorEq, Int.reduceLE, Int.reduceLT, Int.reduceToNat, Int.reduceEq, Int.reduceNeg, Int.reduceAdd, Int.reduceSub, Int.reduceMul, mkI, iV, mkQ, qV, fV, ofV, rV, mkR, hd, h1, wa_cond, axC_t, axC_f]
    simp -implicitDefEqProofs only [go_sem, Nat.reduceAdd, Nat.reduceSub, Nat.reduceMul, Nat.reduceLT, Nat.reduceLeDiff, Nat.reduceEqDiff, Nat.reduceBEq, Nat.reduceGT, Nat.reduceMod, Nat.reduceDiv, ↓reduceIte, reduceCtorEq, Int.reduceLE, Int.reduceLT, Int.reduceToNat, Int.reduceEq, Int.reduceNeg, Int.reduceAdd, Int.reduceSub, Int.reduceMul, mkI, iV, mkQ, qV, fV, ofV, rV, mkR, res63]
    first | exact .app _ _ | exact ⟨.app _ _, rfl⟩ | exact .refl _ | exact ⟨.refl _, rfl⟩
  · rw [if_neg h0]
    have h1 : x - y = 0 := by omega
    generalize cmpQ (b.rot.back.thn a.rot).s 0 = z at *
    generalize (b.rot.back.thn a.rot).s = ss at *
    generalize (b.rot.back.thn a.rot).c = cc at *
    unfold RR.bk at o4
    unfold RR.val rV at o1 o2 o3 o4 ⊢
    refine sim_ex tok mixed Tryz.func63 rfl (by kernel_rfl) (by kernel_rfl) (by simp only [Tryz.ntmps63, List.size_toArray, List.length_cons, List.length_nil]; omega) ?_
    simp -implicitDefEqProofs only [go_sem, Nat.reduceAdd, Nat.reduceSub, Nat.reduceMul, Nat.reduceLT, Nat.reduceLeDiff, Nat.reduceEqDiff, Nat.reduceBEq, Nat.reduceGT, Nat.reduceMod, Nat.reduceDiv, ↓reduceIte, reduceCtorEq, Int.reduceLE, Int.reduceLT, Int.reduceToNat, Int.reduceEq, Int.reduceNeg, Int.reduceAdd, Int.reduceSub, Int.reduceMul, mkI, iV, mkQ, qV, fV, ofV, rV, mkR]
    refine ax_quiet (by kernel_rfl) ?_
    simp -implicitDefEqProofs only [go_sem, Nat.reduceAdd, Nat.reduceSub, Nat.reduceMul, Nat.reduceLT, Nat.reduceLeDiff, Nat.reduceEqDiff, Nat.reduceBEq, Nat.reduceGT, Nat.reduceMod, Nat.reduceDiv, ↓reduceIte, reduceCtorEq, Int.reduceLE, Int.reduceLT, Int.reduceToNat, Int.reduceEq, Int.reduceNeg, Int.reduceAdd, Int.reduceSub, Int.reduceMul, mkI, iV, mkQ, qV, fV, ofV, rV, mkR]
    refine wl_callV _ (by simp -implicitDefEqProofs only [go_sem, Nat.reduceAdd, Nat.reduceSub, Nat.reduceMul, Nat.reduceLT, Nat.reduceLeDiff, Nat.reduceEqDiff, Nat.reduceBEq, Nat.reduceGT, Nat.reduceMod, Nat.reduceDiv, ↓reduceIte, reduceCtorEq, Int.reduceLE, Int.reduceLT, Int.reduceToNat, Int.reduceEq, Int.reduceNeg, Int.reduceAdd, Int.reduceSub, Int.reduceMul, mkI, iV, mkQ, qV, fV, ofV, rV, mkR]) (o1 _) ?_
    simp -implicitDefEqProofs only [go_sem, Nat.reduceAdd, Nat.reduceSub, Nat.reduceMul, Nat.reduceLT, Nat.reduceLeDiff, Nat.reduceEqDiff, Nat.reduceBEq, Nat.reduceGT, Nat.reduceMod, Nat.reduceDiv, ↓reduceIte, reduceCtorEq, Int.reduceLE, Int.reduceLT, Int.reduceToNat, Int.reduceEq, Int.reduceNeg, Int.reduceAdd, Int.reduceSub, Int.reduceMul, mkI, iV, mkQ, qV, fV, ofV, rV, mkR]
    refine wl_callV _ (by simp -implicitDefEqProofs only [go_sem, Nat.reduceAdd, Nat.reduceSub, Nat.reduceMul, Nat.reduceLT, Nat.reduceLeDiff, Nat.reduceEqDiff, Nat.reduceBEq, Nat.reduceGT, Nat.reduceMod, Nat.reduceDiv, ↓reduceIte, reduceCtorEq, Int.reduceLE, Int.reduceLT, Int.reduceToNat, Int.reduceEq, Int.reduceNeg, Int.reduceAdd, Int.reduceSub, Int.reduceMul, mkI, iV, mkQ, qV, fV, ofV, rV, mkR, hd, h1, show IntKind.i64.wrap 0 = 0 from rfl, wa_cond, axC_t, axC_f]) (o2 _) ?_
    simp -implicitDefEqProofs only [go_sem, Nat.reduceAdd, Nat.reduceSub, Nat.reduceMul, Nat.reduceLT, Nat.reduceLeDiff, Nat.reduceEqDiff, Nat.reduceBEq, Nat.reduceGT, Nat.reduceMod, Nat.reduceDiv, ↓reduceIte, reduceCtorEq, Int.reduceLE, Int.reduceLT, Int.reduceToNat, Int.reduceEq, Int.reduceNeg, Int.reduceAdd, Int.reduceSub, Int.reduceMul, mkI, iV, mkQ, qV, fV, ofV, rV, mkR, hd, h1, show IntKind.i64.wrap 0 = 0 from rfl, wa_cond, axC_t, axC_f]
    refine ax_quiet (by kernel_rfl) ?_
    simp -implicitDefEqProofs only [go_sem, Nat.reduceAdd, Nat.reduceSub, Nat.reduceMul, Nat.reduceLT, Nat.reduceLeDiff, Nat.reduceEqDiff, Nat.reduceBEq, Nat.reduceGT, Nat.reduceMod, Nat.reduceDiv, ↓reduceIte, reduceCtorEq, Int.reduceLE, Int.reduceLT, Int.reduceToNat, Int.reduceEq, Int.reduceNeg, Int.reduceAdd, Int.reduceSub, Int.reduceMul, mkI, iV, mkQ, qV, fV, ofV, rV, mkR]
    refine wl_callV _ (by simp -implicitDefEqProofs only [go_sem, Nat.reduceAdd, Nat.reduceSub, Nat.reduceMul, Nat.reduceLT, Nat.reduceLeDiff, Nat.reduceEqDiff, Nat.reduceBEq, Nat.reduceGT, Nat.reduceMod, Nat.reduceDiv, ↓reduceIte, reduceCtorEq, Int.reduceLE, Int.reduceLT, Int.reduceToNat, Int.reduceEq, Int.reduceNeg, Int.reduceAdd, Int.reduceSub, Int.reduceMul, mkI, iV, mkQ, qV, fV, ofV, rV, mkR]) (o3 _) ?_
    simp -implicitDefEqProofs only [go_sem, Nat.reduceAdd, Nat.reduceSub, Nat.reduceMul, Nat.reduceLT, Nat.reduceLeDiff, Nat.reduceEqDiff, Nat.reduceBEq, Nat.reduceGT, Nat.reduceMod, Nat.reduceDiv, ↓reduceIte, reduceCtorEq, Int.reduceLE, Int.reduceLT, Int.reduceToNat, Int.reduceEq, Int.reduceNeg, Int.reduceAdd, Int.reduceSub, Int.reduceMul, mkI, iV, mkQ, qV, fV, ofV, rV, mkR]
    refine wl_callV _ (by simp -implicitDefEqProofs only [go_sem, Nat.reduceAdd, Nat.reduceSub, Nat.reduceMul, Nat.reduceLT, Nat.reduceLeDiff, Nat.reduceEqDiff, Nat.reduceBEq, Nat.reduceGT, Nat.reduceMod, Nat.reduceDiv, ↓reduceIte, reduceCtorEq, Int.reduceLE, Int.reduceLT, Int.reduceToNat, Int.reduceEq, Int.reduceNeg, Int.reduceAdd, Int.reduceSub, Int.reduceMul, mkI, iV, mkQ, qV, fV, ofV, rV, mkR, aField, partL]) (o4 _) ?_
    simp -implicitDefEqProofs only [go_sem, Nat.reduceAdd, Nat.reduceSub, Nat.reduceMul, Nat.reduceLT, Nat.reduceLeDiff, Nat.reduceEqDiff, Nat.reduceBEq, Nat.reduceGT, Nat.reduceMod, Nat.reduceDiv, ↓reduceIte, reduceCtorEq, Int.reduceLE, Int.reduceLT, Int.reduceToNat, Int.reduceEq, Int.reduceNeg, Int.reduceAdd, Int.reduceSub, Int.reduceMul, mkI, iV, mkQ, qV, fV, ofV, rV, mkR, aField, partL]
    refine wl_callV _ (by simp -implicitDefEqProofs only [go_sem, Nat.reduceAdd, Nat.reduceSub, Nat.reduceMul, Nat.reduceLT, Nat.reduceLeDiff, Nat.reduceEqDiff, Nat.reduceBEq, Nat.reduceGT, Nat.reduceMod, Nat.reduceDiv, ↓reduceIte, reduceCtorEq, Int.reduceLE, Int.reduceLT, Int.reduceToNat, Int.reduceEq, Int.reduceNeg, Int.reduceAdd, Int.reduceSub, Int.reduceMul, mkI, iV, mkQ, qV, fV, ofV, rV, mkR]) (o5 _) ?_
    simp -implicitDefEqProofs only [go_sem, Nat.reduceAdd, Nat.reduceSub, Nat.reduceMul, Nat.reduceLT, Nat.reduceLeDiff, Nat.reduceEqDiff, Nat.reduceBEq, Nat.reduceGT, Nat.reduceMod, Nat.reduceDiv, ↓reduceIte, reduceCtorEq, Int.reduceLE, Int.reduceLT, Int.reduceToNat, Int.reduceEq, Int.reduceNeg, Int.reduceAdd, Int.reduceSub, Int.reduceMul, mkI, iV, mkQ, qV, fV, ofV, rV, mkR]
    simp -implicitDefEqProofs only [go_sem, Nat.reduceAdd, Nat.reduceSub, Nat.reduceMul, Nat.reduceLT, Nat.reduceLeDiff, Nat.reduceEqDiff, Nat.reduceBEq, Nat.reduceGT, Nat.reduceMod, Nat.reduceDiv, ↓reduceIte, reduceCtorEq, Int.reduceLE, Int.reduceLT, Int.reduceToNat, Int.reduceEq, Int.reduceNeg, Int.reduceAdd, Int.reduceSub, Int.reduceMul, mkI, iV, mkQ, qV, fV, ofV, rV, mkR, res63]
    first | exact .app _ _ | exact ⟨.app _ _, rfl⟩ | exact .refl _ | exact ⟨.refl _, rfl⟩
end Go.Proofs.YthhmkaikopdmjaaGreat
