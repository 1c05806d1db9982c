/- slices: turn, awake; slices: Contains, ContainsFunc, SlicesQuarters; slices: IndexFunc, ContainsFunc; SlicesQuarters. Conditions: none. -/
import Derived.Test.YthhmkaikopdmjaaGreatMp
set_option linter.unusedSimpArgs false
set_option linter.unusedVariables false
set_option maxRecDepth 8000
namespace Go.Proofs.YthhmkaikopdmjaaGreat
open Go Go.Fw

def rotI (a b c : Int) : Rot := ⟨Rat.divInt a c, Rat.divInt b c⟩
theorem turnS (H : Heap) {a b c : Int} (ha : -1000 ≤ a ∧ a ≤ 1000) (hb : -1000 ≤ b ∧ b ≤ 1000) (hc : 0 < c ∧ c ≤ 1000) : Sim Tryz.prog 20 #[.int .i64 a, .int .i64 b, .int .i64 c] H (RR.of (rotI a b c)).val H := by
  refine flat_ex rfl ?_
  have o1 := fun H => ratioI_sim H (n := a) (d := c) (by omega) (by omega) (by omega) (by omega)
  have o2 := fun H => ratioI_sim H (n := b) (d := c) (by omega) (by omega) (by omega) (by omega)
  simp only [show ¬ c = 0 by omega, if_false] at o1 o2
  rw [RR.of_val]
  unfold rotI
  simp only
  generalize Rat.divInt a c = x at *
  generalize Rat.divInt b c = y at *
  refine sim_ex tok mixed Tryz.func20 rfl (by kernel_rfl) (by kernel_rfl) (by simp only [Tryz.ntmps20, List.size_toArray, List.length_cons, List.length_nil]; omega) ?_
  simp -implicitDefEqProofs only [go_sem, Nat.reduceAdd, Nat.reduceSub, Nat.reduceMul, Nat.reduceLT, Nat.reduceLeDiff, Nat.reduceEqDiff, Nat.reduceBEq, Nat.reduceGT, Nat.reduceMod, Nat.reduceDiv, ↓reduceIte, reduceCtorEq, Int.reduceLE, Int.reduceLT, Int.reduceToNat, Int.reduceEq, Int.reduceNeg, Int.reduceAdd, Int.reduceSub, Int.reduceMul, mkI, iV, mkQ, qV, fV, ofV, rV, mkR]
  refine wl_callV _ (by simp -implicitDefEqProofs only [go_sem, Nat.reduceAdd, Nat.reduceSub, Nat.reduceMul, Nat.reduceLT, Nat.reduceLeDiff, Nat.reduceEqDiff, Nat.reduceBEq, Nat.reduceGT, Nat.reduceMod, Nat.reduceDiv, ↓reduceIte, reduceCtorEq, Int.reduceLE, Int.reduceLT, Int.reduceToNat, Int.reduceEq, Int.reduceNeg, Int.reduceAdd, Int.reduceSub, Int.reduceMul, mkI, iV, mkQ, qV, fV, ofV, rV, mkR]) (o1 _) ?_
  simp -implicitDefEqProofs only [go_sem, Nat.reduceAdd, Nat.reduceSub, Nat.reduceMul, Nat.reduceLT, Nat.reduceLeDiff, Nat.reduceEqDiff, Nat.reduceBEq, Nat.reduceGT, Nat.reduceMod, Nat.reduceDiv, ↓reduceIte, reduceCtorEq, Int.reduceLE, Int.reduceLT, Int.reduceToNat, Int.reduceEq, Int.reduceNeg, Int.reduceAdd, Int.reduceSub, Int.reduceMul, mkI, iV, mkQ, qV, fV, ofV, rV, mkR]
  refine wl_callV _ (by simp -implicitDefEqProofs only [go_sem, Nat.reduceAdd, Nat.reduceSub, Nat.reduceMul, Nat.reduceLT, Nat.reduceLeDiff, Nat.reduceEqDiff, Nat.reduceBEq, Nat.reduceGT, Nat.reduceMod, Nat.reduceDiv, ↓reduceIte, reduceCtorEq, Int.reduceLE, Int.reduceLT, Int.reduceToNat, Int.reduceEq, Int.reduceNeg, Int.reduceAdd, Int.reduceSub, Int.reduceMul, mkI, iV, mkQ, qV, fV, ofV, rV, mkR]) (o2 _) ?_
  simp -implicitDefEqProofs only [go_sem, Nat.reduceAdd, Nat.reduceSub, Nat.reduceMul, Nat.reduceLT, Nat.reduceLeDiff, Nat.reduceEqDiff, Nat.reduceBEq, Nat.reduceGT, Nat.reduceMod, Nat.reduceDiv, ↓reduceIte, reduceCtorEq, Int.reduceLE, Int.reduceLT, Int.reduceToNat, Int.reduceEq, Int.reduceNeg, Int.reduceAdd, Int.reduceSub, Int.reduceMul, mkI, iV, mkQ, qV, fV, ofV, rV, mkR]
  simp -implicitDefEqProofs only [go_sem, Nat.reduceAdd, Nat.reduceSub, Nat.reduceMul, Nat.reduceLT, Nat.reduceLeDiff, Nat.reduceEqDiff, Nat.reduceBEq, Nat.reduceGT, Nat.reduceMod, Nat.reduceDiv, ↓reduceIte, reduceCtorEq, Int.reduceLE, Int.reduceLT, Int.reduceToNat, Int.reduceEq, Int.reduceNeg, Int.reduceAdd, Int.reduceSub, Int.reduceMul, mkI, iV, mkQ, qV, fV, ofV, rV, mkR, res20]
  first | exact .app _ _ | exact ⟨.app _ _, rfl⟩ | exact .refl _ | exact ⟨.refl _, rfl⟩
def enumR : Nat → List RR → List (Nat × Value) | _, [] => [] | i, r :: l => (i, r.val) :: enumR (i + 1) l
theorem fill_rows : ∀ (l done : List RR) (rest : List Value), rest.length = 6 * l.length → fillL (fun i => some (i * 6, 6)) ((done.map RR.cells).flatten ++ rest) (enumR done.length l) = some (((done ++ l).map RR.cells).flatten) := by
  intro l
  induction l with
  | nil =>
    intro done rest h
    have : rest = [] := by simpa using h
    subst this
    simp [enumR, fillL]
  | cons r l ih =>
    intro done rest h
    have hl : ((done.map RR.cells).flatten).length = done.length * 6 := by
      have := flatten_len (k := 6) (RR.cells_all done)
      rw [this, List.length_map, Nat.mul_comm]
    have hlen : rest.length = 6 + 6 * l.length := by rw [h, List.length_cons]; omega
    unfold enumR fillL
    simp only
    have hsz : r.val.cells.size = 6 := rfl
    rw [if_neg (by rw [hsz, List.length_append, hl]; omega)]
    have hsp : splice ((done.map RR.cells).flatten ++ rest) (done.length * 6) r.val.cells.toList = ((done ++ [r]).map RR.cells).flatten ++ rest.drop 6 := by
      unfold splice
      have e : r.val.cells.toList = r.cells := rfl
      rw [e, ← hl, List.take_left, List.drop_append, List.drop_eq_nil_of_le (by omega)]
      simp [RR.cells_len]
    rw [hsp]
    have := ih (done ++ [r]) (rest.drop 6) (by simp; omega)
    rw [List.length_append, List.length_cons, List.length_nil, Nat.zero_add] at this
    rw [this]
    simp
theorem build_rows (T : Heap) (l : List RR) (h : 0 < l.length) (h2 : l.length ≤ 1000) : aBuildSlice tt T 22 l.length (enumR 0 l) = some (.slice (some ⟨T.length, 0, none⟩) l.length l.length, T ++ [⟨(l.map RR.cells).flatten, 6, true⟩]) := by
  have := fill_rows l [] (zerosL (if l.length * 6 = 0 then [] else (Value.agg #[(.bool false), (.string ⟨#[]⟩), (.string ⟨#[]⟩), (.bool false), (.string ⟨#[]⟩), (.string ⟨#[]⟩)]).cells.toList) (l.length * 6)) (by rw [if_neg (by omega)]; simp [zerosL]; omega)
  unfold aBuildSlice
  simp only [tt22, tt26]
  rw [if_pos (by omega)]
  simp only [List.map_nil, List.flatten_nil, List.nil_append, List.length_nil] at this
  rw [this]
theorem row8 (T : Heap) (a b c d e f g h : RR) : aBuildSlice tt T 22 8 [(0, a.val), (1, b.val), (2, c.val), (3, d.val), (4, e.val), (5, f.val), (6, g.val), (7, h.val)] = some (.slice (some ⟨T.length, 0, none⟩) 8 8, T ++ [⟨([a, b, c, d, e, f, g, h].map RR.cells).flatten, 6, true⟩]) :=
  build_rows T [a, b, c, d, e, f, g, h] (by simp) (by simp)

def wantL : List Rot := [rotI 1 0 1, rotI 3 4 5, rotI 0 1 1, rotI (-4) 3 5, rotI (-1) 0 1, rotI (-3) (-4) 5, rotI 0 (-1) 1, rotI 4 (-3) 5]
deriving instance DecidableEq for Rot
theorem want_eq : wantL = outsL 2 3 := by decide +kernel
def listR (k : Nat) : List RR := (outsL k 3).map RR.of
theorem listR_chk : ∀ k : Fin 17, 0 < k.1 → chkR (listR k.1) = 0 := by decide +kernel
theorem awake_chk2 : chk2 (listR 2) (RR.of (rotI 4 3 5)) = 0 := by decide +kernel
theorem awake_has : hasR (listR 2) (RR.of (rotI 4 3 5)) = false := by decide +kernel
theorem awake_cnt : cntLess (listR 2) (RR.of (rotI 4 3 5)) = 1 := by decide +kernel
theorem awake_perm : (listR 1 ++ midsTo (listR 1) (listR 1).length).Perm (listR 2) := by decide +kernel
theorem listR_len (k : Nat) : (listR k).length = 4 * k := by unfold listR; rw [List.length_map, outsL_len]
theorem listR_le {k : Nat} (h0 : 0 < k) (h16 : k ≤ 16) : ∀ r ∈ listR k, r.le 67 := by
  intro r hr
  obtain ⟨x, hx, rfl⟩ := List.mem_map.1 hr
  have : ∀ j, ∀ r ∈ outsL k j, r.Sz 60 := by
    intro j
    induction j with
    | zero => exact base_sz h0 h16 h16
    | succ j ih =>
      intro r hr
      rcases List.mem_append.1 hr with hr | hr
      · exact ih r hr
      · exact qn_sz (base_sz h0 h16 h16) _ r hr
  exact (this 3 x hx).le
theorem listR_ord {k : Nat} (h0 : 0 < k) (h16 : k ≤ 16) : Ord (listR k) := chk_ok (listR_chk ⟨k, by omega⟩ h0)
theorem ListK (H : Heap) {k : Nat} (h0 : 0 < k) (h16 : k ≤ 16) : ∃ w H', Sim Tryz.prog 12 #[.int .i64 (k : Nat)] H w H' ∧ Ext H H' ∧ ∃ b, H.length ≤ b ∧ w = .tuple #[.slice (some ⟨b, 0, none⟩) (4 * k) 0, .int .i64 0] ∧ OwnR H' b (listR k) := ListS H h0 h16

theorem awakeS (H : Heap) : Sim Tryz.prog 11 #[] H (.bool true) H := by
  refine flat_ex rfl ?_
  have t0 := fun H => turnS H (a := 1) (b := 0) (c := 1) (by decide) (by decide) (by decide)
  have t1 := fun H => turnS H (a := 3) (b := 4) (c := 5) (by decide) (by decide) (by decide)
  have t2 := fun H => turnS H (a := 0) (b := 1) (c := 1) (by decide) (by decide) (by decide)
  have t3 := fun H => turnS H (a := -4) (b := 3) (c := 5) (by decide) (by decide) (by decide)
  have t4 := fun H => turnS H (a := -1) (b := 0) (c := 1) (by decide) (by decide) (by decide)
  have t5 := fun H => turnS H (a := -3) (b := -4) (c := 5) (by decide) (by decide) (by decide)
  have t6 := fun H => turnS H (a := 0) (b := -1) (c := 1) (by decide) (by decide) (by decide)
  have t7 := fun H => turnS H (a := 4) (b := -3) (c := 5) (by decide) (by decide) (by decide)
  have t8 := fun H => turnS H (a := 4) (b := 3) (c := 5) (by decide) (by decide) (by decide)
  have hwant : [RR.of (rotI 1 0 1), RR.of (rotI 3 4 5), RR.of (rotI 0 1 1), RR.of (rotI (-4) 3 5), RR.of (rotI (-1) 0 1), RR.of (rotI (-3) (-4) 5), RR.of (rotI 0 (-1) 1), RR.of (rotI 4 (-3) 5)] = listR 2 := by
    show wantL.map RR.of = _
    rw [want_eq]; rfl
  have hfv : findV (listR 2) (RR.of (rotI 4 3 5)) = .tuple #[.int .i64 0, .bool false, .int .i64 0] := by
    unfold findV
    rw [awake_chk2, if_neg (by decide), awake_has, if_neg (by decide), awake_cnt, listR_len]
    rfl
  have hlek := (show (RR.of (rotI 4 3 5)).le 67 from (show (rotI 4 3 5).Sz 60 from ⟨⟨by decide +kernel, by decide +kernel⟩, ⟨by decide +kernel, by decide +kernel⟩⟩).le)
  generalize RR.of (rotI 1 0 1) = r0 at t0 hwant
  generalize RR.of (rotI 3 4 5) = r1 at t1 hwant
  generalize RR.of (rotI 0 1 1) = r2 at t2 hwant
  generalize RR.of (rotI (-4) 3 5) = r3 at t3 hwant
  generalize RR.of (rotI (-1) 0 1) = r4 at t4 hwant
  generalize RR.of (rotI (-3) (-4) 5) = r5 at t5 hwant
  generalize RR.of (rotI 0 (-1) 1) = r6 at t6 hwant
  generalize RR.of (rotI 4 (-3) 5) = r7 at t7 hwant
  generalize RR.of (rotI 4 3 5) = r8 at *
  have o2 : ∀ H, ∃ w H', Sim Tryz.prog 12 #[.int .i64 2] H w H' ∧ Ext H H' ∧ ∃ b, H.length ≤ b ∧ w = .tuple #[.slice (some ⟨b, 0, none⟩) 8 0, .int .i64 0] ∧ OwnR H' b (listR 2) := fun H => ListK H (k := 2) (by decide) (by decide)
  have o1 : ∀ H, ∃ w H', Sim Tryz.prog 12 #[.int .i64 1] H w H' ∧ Ext H H' ∧ ∃ b, H.length ≤ b ∧ w = .tuple #[.slice (some ⟨b, 0, none⟩) 4 0, .int .i64 0] ∧ OwnR H' b (listR 1) := fun H => ListK H (k := 1) (by decide) (by decide)
  refine sim_ex tok mixed Tryz.func11 rfl (by kernel_rfl) (by kernel_rfl) (by simp only [Tryz.ntmps11, List.size_toArray, List.length_cons, List.length_nil]; omega) ?_
  simp -implicitDefEqProofs only [go_sem, Nat.reduceAdd, Nat.reduceSub, Nat.reduceMul, Nat.reduceLT, Nat.reduceLeDiff, Nat.reduceEqDiff, Nat.reduceBEq, Nat.reduceGT, Nat.reduceMod, Nat.reduceDiv, ↓reduceIte, reduceCtorEq, Int.reduceLE, Int.reduceLT, Int.reduceToNat, Int.reduceEq, Int.reduceNeg, Int.reduceAdd, Int.reduceSub, Int.reduceMul]
  refine wl_callV _ (by simp -implicitDefEqProofs only [go_sem, Nat.reduceAdd, Nat.reduceSub, Nat.reduceMul, Nat.reduceLT, Nat.reduceLeDiff, Nat.reduceEqDiff, Nat.reduceBEq, Nat.reduceGT, Nat.reduceMod, Nat.reduceDiv, ↓reduceIte, reduceCtorEq, Int.reduceLE, Int.reduceLT, Int.reduceToNat, Int.reduceEq, Int.reduceNeg, Int.reduceAdd, Int.reduceSub, Int.reduceMul]) (t0 _) ?_
  simp -implicitDefEqProofs only [go_sem, Nat.reduceAdd, Nat.reduceSub, Nat.reduceMul, Nat.reduceLT, Nat.reduceLeDiff, Nat.reduceEqDiff, Nat.reduceBEq, Nat.reduceGT, Nat.reduceMod, Nat.reduceDiv, ↓reduceIte, reduceCtorEq, Int.reduceLE, Int.reduceLT, Int.reduceToNat, Int.reduceEq, Int.reduceNeg, Int.reduceAdd, Int.reduceSub, Int.reduceMul, row8]
  refine wl_callV _ (by simp -implicitDefEqProofs only [go_sem, Nat.reduceAdd, Nat.reduceSub, Nat.reduceMul, Nat.reduceLT, Nat.reduceLeDiff, Nat.reduceEqDiff, Nat.reduceBEq, Nat.reduceGT, Nat.reduceMod, Nat.reduceDiv, ↓reduceIte, reduceCtorEq, Int.reduceLE, Int.reduceLT, Int.reduceToNat, Int.reduceEq, Int.reduceNeg, Int.reduceAdd, Int.reduceSub, Int.reduceMul]) (t1 _) ?_
  simp -implicitDefEqProofs only [go_sem, Nat.reduceAdd, Nat.reduceSub, Nat.reduceMul, Nat.reduceLT, Nat.reduceLeDiff, Nat.reduceEqDiff, Nat.reduceBEq, Nat.reduceGT, Nat.reduceMod, Nat.reduceDiv, ↓reduceIte, reduceCtorEq, Int.reduceLE, Int.reduceLT, Int.reduceToNat, Int.reduceEq, Int.reduceNeg, Int.reduceAdd, Int.reduceSub, Int.reduceMul, row8]
  refine wl_callV _ (by simp -implicitDefEqProofs only [go_sem, Nat.reduceAdd, Nat.reduceSub, Nat.reduceMul, Nat.reduceLT, Nat.reduceLeDiff, Nat.reduceEqDiff, Nat.reduceBEq, Nat.reduceGT, Nat.reduceMod, Nat.reduceDiv, ↓reduceIte, reduceCtorEq, Int.reduceLE, Int.reduceLT, Int.reduceToNat, Int.reduceEq, Int.reduceNeg, Int.reduceAdd, Int.reduceSub, Int.reduceMul]) (t2 _) ?_
  simp -implicitDefEqProofs only [go_sem, Nat.reduceAdd, Nat.reduceSub, Nat.reduceMul, Nat.reduceLT, Nat.reduceLeDiff, Nat.reduceEqDiff, Nat.reduceBEq, Nat.reduceGT, Nat.reduceMod, Nat.reduceDiv, ↓reduceIte, reduceCtorEq, Int.reduceLE, Int.reduceLT, Int.reduceToNat, Int.reduceEq, Int.reduceNeg, Int.reduceAdd, Int.reduceSub, Int.reduceMul, row8]
  refine wl_callV _ (by simp -implicitDefEqProofs only [go_sem, Nat.reduceAdd, Nat.reduceSub, Nat.reduceMul, Nat.reduceLT, Nat.reduceLeDiff, Nat.reduceEqDiff, Nat.reduceBEq, Nat.reduceGT, Nat.reduceMod, Nat.reduceDiv, ↓reduceIte, reduceCtorEq, Int.reduceLE, Int.reduceLT, Int.reduceToNat, Int.reduceEq, Int.reduceNeg, Int.reduceAdd, Int.reduceSub, Int.reduceMul]) (t3 _) ?_
  simp -implicitDefEqProofs only [go_sem, Nat.reduceAdd, Nat.reduceSub, Nat.reduceMul, Nat.reduceLT, Nat.reduceLeDiff, Nat.reduceEqDiff, Nat.reduceBEq, Nat.reduceGT, Nat.reduceMod, Nat.reduceDiv, ↓reduceIte, reduceCtorEq, Int.reduceLE, Int.reduceLT, Int.reduceToNat, Int.reduceEq, Int.reduceNeg, Int.reduceAdd, Int.reduceSub, Int.reduceMul, row8]
  refine wl_callV _ (by simp -implicitDefEqProofs only [go_sem, Nat.reduceAdd, Nat.reduceSub, Nat.reduceMul, Nat.reduceLT, Nat.reduceLeDiff, Nat.reduceEqDiff, Nat.reduceBEq, Nat.reduceGT, Nat.reduceMod, Nat.reduceDiv, ↓reduceIte, reduceCtorEq, Int.reduceLE, Int.reduceLT, Int.reduceToNat, Int.reduceEq, Int.reduceNeg, Int.reduceAdd, Int.reduceSub, Int.reduceMul]) (t4 _) ?_
  simp -implicitDefEqProofs only [go_sem, Nat.reduceAdd, Nat.reduceSub, Nat.reduceMul, Nat.reduceLT, Nat.reduceLeDiff, Nat.reduceEqDiff, Nat.reduceBEq, Nat.reduceGT, Nat.reduceMod, Nat.reduceDiv, ↓reduceIte, reduceCtorEq, Int.reduceLE, Int.reduceLT, Int.reduceToNat, Int.reduceEq, Int.reduceNeg, Int.reduceAdd, Int.reduceSub, Int.reduceMul, row8]
  refine wl_callV _ (by simp -implicitDefEqProofs only [go_sem, Nat.reduceAdd, Nat.reduceSub, Nat.reduceMul, Nat.reduceLT, Nat.reduceLeDiff, Nat.reduceEqDiff, Nat.reduceBEq, Nat.reduceGT, Nat.reduceMod, Nat.reduceDiv, ↓reduceIte, reduceCtorEq, Int.reduceLE, Int.reduceLT, Int.reduceToNat, Int.reduceEq, Int.reduceNeg, Int.reduceAdd, Int.reduceSub, Int.reduceMul]) (t5 _) ?_
  simp -implicitDefEqProofs only [go_sem, Nat.reduceAdd, Nat.reduceSub, Nat.reduceMul, Nat.reduceLT, Nat.reduceLeDiff, Nat.reduceEqDiff, Nat.reduceBEq, Nat.reduceGT, Nat.reduceMod, Nat.reduceDiv, ↓reduceIte, reduceCtorEq, Int.reduceLE, Int.reduceLT, Int.reduceToNat, Int.reduceEq, Int.reduceNeg, Int.reduceAdd, Int.reduceSub, Int.reduceMul, row8]
  refine wl_callV _ (by simp -implicitDefEqProofs only [go_sem, Nat.reduceAdd, Nat.reduceSub, Nat.reduceMul, Nat.reduceLT, Nat.reduceLeDiff, Nat.reduceEqDiff, Nat.reduceBEq, Nat.reduceGT, Nat.reduceMod, Nat.reduceDiv, ↓reduceIte, reduceCtorEq, Int.reduceLE, Int.reduceLT, Int.reduceToNat, Int.reduceEq, Int.reduceNeg, Int.reduceAdd, Int.reduceSub, Int.reduceMul]) (t6 _) ?_
  simp -implicitDefEqProofs only [go_sem, Nat.reduceAdd, Nat.reduceSub, Nat.reduceMul, Nat.reduceLT, Nat.reduceLeDiff, Nat.reduceEqDiff, Nat.reduceBEq, Nat.reduceGT, Nat.reduceMod, Nat.reduceDiv, ↓reduceIte, reduceCtorEq, Int.reduceLE, Int.reduceLT, Int.reduceToNat, Int.reduceEq, Int.reduceNeg, Int.reduceAdd, Int.reduceSub, Int.reduceMul, row8]
  refine wl_callV _ (by simp -implicitDefEqProofs only [go_sem, Nat.reduceAdd, Nat.reduceSub, Nat.reduceMul, Nat.reduceLT, Nat.reduceLeDiff, Nat.reduceEqDiff, Nat.reduceBEq, Nat.reduceGT, Nat.reduceMod, Nat.reduceDiv, ↓reduceIte, reduceCtorEq, Int.reduceLE, Int.reduceLT, Int.reduceToNat, Int.reduceEq, Int.reduceNeg, Int.reduceAdd, Int.reduceSub, Int.reduceMul]) (t7 _) ?_
  simp -implicitDefEqProofs only [go_sem, Nat.reduceAdd, Nat.reduceSub, Nat.reduceMul, Nat.reduceLT, Nat.reduceLeDiff, Nat.reduceEqDiff, Nat.reduceBEq, Nat.reduceGT, Nat.reduceMod, Nat.reduceDiv, ↓reduceIte, reduceCtorEq, Int.reduceLE, Int.reduceLT, Int.reduceToNat, Int.reduceEq, Int.reduceNeg, Int.reduceAdd, Int.reduceSub, Int.reduceMul, row8]
  have hw2 : [r0.cells, r1.cells, r2.cells, r3.cells, r4.cells, r5.cells, r6.cells, r7.cells].flatten = ((listR 2).map RR.cells).flatten := congrArg (fun l : List RR => (l.map RR.cells).flatten) hwant
  rw [hw2]
  obtain ⟨T0, hT0⟩ : ∃ T, T = H ++ [(⟨((listR 2).map RR.cells).flatten, 6, true⟩ : Blk)] := ⟨_, rfl⟩
  have hw0 : RL T0 (.slice (some ⟨H.length, 0, none⟩) 8 8) (listR 2) := by
    rw [hT0]
    exact .inr ⟨H.length, 0, 8, rfl, (OwnR.new H (listR 2)).at (.inr (by rw [List.length_map, listR_len]; decide))⟩
  have hE0 : Ext H T0 := by rw [hT0]; exact .app _ _
  rw [← hT0]
  clear hT0 hwant t0 t1 t2 t3 t4 t5 t6 t7
  refine wl_callT _ (by simp -implicitDefEqProofs only [go_sem, Nat.reduceAdd, Nat.reduceSub, Nat.reduceMul, Nat.reduceLT, Nat.reduceLeDiff, Nat.reduceEqDiff, Nat.reduceBEq, Nat.reduceGT, Nat.reduceMod, Nat.reduceDiv, ↓reduceIte, reduceCtorEq, Int.reduceLE, Int.reduceLT, Int.reduceToNat, Int.reduceEq, Int.reduceNeg, Int.reduceAdd, Int.reduceSub, Int.reduceMul]) (o2 _) ?_
  rintro _ T1 hE1 ⟨b1, hb1, rfl, hown1⟩
  simp -implicitDefEqProofs only [go_sem, Nat.reduceAdd, Nat.reduceSub, Nat.reduceMul, Nat.reduceLT, Nat.reduceLeDiff, Nat.reduceEqDiff, Nat.reduceBEq, Nat.reduceGT, Nat.reduceMod, Nat.reduceDiv, ↓reduceIte, reduceCtorEq, Int.reduceLE, Int.reduceLT, Int.reduceToNat, Int.reduceEq, Int.reduceNeg, Int.reduceAdd, Int.reduceSub, Int.reduceMul]
  refine wl_callV _ (by simp -implicitDefEqProofs only [go_sem, Nat.reduceAdd, Nat.reduceSub, Nat.reduceMul, Nat.reduceLT, Nat.reduceLeDiff, Nat.reduceEqDiff, Nat.reduceBEq, Nat.reduceGT, Nat.reduceMod, Nat.reduceDiv, ↓reduceIte, reduceCtorEq, Int.reduceLE, Int.reduceLT, Int.reduceToNat, Int.reduceEq, Int.reduceNeg, Int.reduceAdd, Int.reduceSub, Int.reduceMul]) (t8 _) ?_
  simp -implicitDefEqProofs only [go_sem, Nat.reduceAdd, Nat.reduceSub, Nat.reduceMul, Nat.reduceLT, Nat.reduceLeDiff, Nat.reduceEqDiff, Nat.reduceBEq, Nat.reduceGT, Nat.reduceMod, Nat.reduceDiv, ↓reduceIte, reduceCtorEq, Int.reduceLE, Int.reduceLT, Int.reduceToNat, Int.reduceEq, Int.reduceNeg, Int.reduceAdd, Int.reduceSub, Int.reduceMul]
  have hl8 := listR_len 2
  have hl4 := listR_len 1
  have hr1 := hown1.rl
  rw [hl8] at hr1
  have hf := FindS T1 hr1 (listR_le (by decide) (by decide)) hlek (by decide) (by rw [hl8]; decide)
  rw [hfv] at hf
  refine wl_callV _ (by simp -implicitDefEqProofs only [go_sem, Nat.reduceAdd, Nat.reduceSub, Nat.reduceMul, Nat.reduceLT, Nat.reduceLeDiff, Nat.reduceEqDiff, Nat.reduceBEq, Nat.reduceGT, Nat.reduceMod, Nat.reduceDiv, ↓reduceIte, reduceCtorEq, Int.reduceLE, Int.reduceLT, Int.reduceToNat, Int.reduceEq, Int.reduceNeg, Int.reduceAdd, Int.reduceSub, Int.reduceMul]) hf ?_
  simp -implicitDefEqProofs only [go_sem, Nat.reduceAdd, Nat.reduceSub, Nat.reduceMul, Nat.reduceLT, Nat.reduceLeDiff, Nat.reduceEqDiff, Nat.reduceBEq, Nat.reduceGT, Nat.reduceMod, Nat.reduceDiv, ↓reduceIte, reduceCtorEq, Int.reduceLE, Int.reduceLT, Int.reduceToNat, Int.reduceEq, Int.reduceNeg, Int.reduceAdd, Int.reduceSub, Int.reduceMul]
  refine wl_callT _ (by simp -implicitDefEqProofs only [go_sem, Nat.reduceAdd, Nat.reduceSub, Nat.reduceMul, Nat.reduceLT, Nat.reduceLeDiff, Nat.reduceEqDiff, Nat.reduceBEq, Nat.reduceGT, Nat.reduceMod, Nat.reduceDiv, ↓reduceIte, reduceCtorEq, Int.reduceLE, Int.reduceLT, Int.reduceToNat, Int.reduceEq, Int.reduceNeg, Int.reduceAdd, Int.reduceSub, Int.reduceMul]) (o1 _) ?_
  rintro _ T2 hE2 ⟨b2, hb2, rfl, hown2⟩
  simp -implicitDefEqProofs only [go_sem, Nat.reduceAdd, Nat.reduceSub, Nat.reduceMul, Nat.reduceLT, Nat.reduceLeDiff, Nat.reduceEqDiff, Nat.reduceBEq, Nat.reduceGT, Nat.reduceMod, Nat.reduceDiv, ↓reduceIte, reduceCtorEq, Int.reduceLE, Int.reduceLT, Int.reduceToNat, Int.reduceEq, Int.reduceNeg, Int.reduceAdd, Int.reduceSub, Int.reduceMul]
  have hr2 := hown2.rl
  rw [hl4] at hr2
  have hrf := RefineS T2 hr2 (listR_le (by decide) (by decide)) (by decide) (listR_ord (by decide) (by decide)) (by rw [hl4]; decide) (by rw [hl4]; decide)
  refine wl_callT _ (by simp -implicitDefEqProofs only [go_sem, Nat.reduceAdd, Nat.reduceSub, Nat.reduceMul, Nat.reduceLT, Nat.reduceLeDiff, Nat.reduceEqDiff, Nat.reduceBEq, Nat.reduceGT, Nat.reduceMod, Nat.reduceDiv, ↓reduceIte, reduceCtorEq, Int.reduceLE, Int.reduceLT, Int.reduceToNat, Int.reduceEq, Int.reduceNeg, Int.reduceAdd, Int.reduceSub, Int.reduceMul]) hrf ?_
  rintro _ T3 hE3 ⟨b3, L, hb3, rfl, hown3, hperm, hpair⟩
  have ho2 := listR_ord (k := 2) (by decide) (by decide)
  have hL : L = listR 2 := by
    refine srt_unique RR.tot (hperm.trans awake_perm) ho2.ok hpair ?_
    refine List.Pairwise.imp_of_mem ?_ ho2.ord
    intro a b ha hb h
    exact RR.lt_leq (ho2.ok a ha) (ho2.ok b hb) h
  subst hL
  have hr3 := hown3.rl
  rw [hl8] at hr3
  have q1 := equalR T3 (hr1.ext (hE2.trans hE3)) (hw0.ext (hE1.trans (hE2.trans hE3))) (by rw [hl8]; decide)
  have q2 := equalR T3 hr3 (hr1.ext (hE2.trans hE3)) (by rw [hl8]; decide)
  simp only [decide_true] at q1 q2
  rw [hl4]
  have e1 : ∀ b, aLen tt [22] (.slice (some ⟨b, 0, none⟩) 8 0) = some (.int .i64 8) := fun _ => rfl
  simp -implicitDefEqProofs only [go_sem, Nat.reduceAdd, Nat.reduceSub, Nat.reduceMul, Nat.reduceLT, Nat.reduceLeDiff, Nat.reduceEqDiff, Nat.reduceBEq, Nat.reduceGT, Nat.reduceMod, Nat.reduceDiv, ↓reduceIte, reduceCtorEq, Int.reduceLE, Int.reduceLT, Int.reduceToNat, Int.reduceEq, Int.reduceNeg, Int.reduceAdd, Int.reduceSub, Int.reduceMul]
  refine wl_callV _ (by simp -implicitDefEqProofs only [go_sem, Nat.reduceAdd, Nat.reduceSub, Nat.reduceMul, Nat.reduceLT, Nat.reduceLeDiff, Nat.reduceEqDiff, Nat.reduceBEq, Nat.reduceGT, Nat.reduceMod, Nat.reduceDiv, ↓reduceIte, reduceCtorEq, Int.reduceLE, Int.reduceLT, Int.reduceToNat, Int.reduceEq, Int.reduceNeg, Int.reduceAdd, Int.reduceSub, Int.reduceMul]) q1 ?_
  simp -implicitDefEqProofs only [go_sem, Nat.reduceAdd, Nat.reduceSub, Nat.reduceMul, Nat.reduceLT, Nat.reduceLeDiff, Nat.reduceEqDiff, Nat.reduceBEq, Nat.reduceGT, Nat.reduceMod, Nat.reduceDiv, ↓reduceIte, reduceCtorEq, Int.reduceLE, Int.reduceLT, Int.reduceToNat, Int.reduceEq, Int.reduceNeg, Int.reduceAdd, Int.reduceSub, Int.reduceMul]
  refine wl_callV _ (by simp -implicitDefEqProofs only [go_sem, Nat.reduceAdd, Nat.reduceSub, Nat.reduceMul, Nat.reduceLT, Nat.reduceLeDiff, Nat.reduceEqDiff, Nat.reduceBEq, Nat.reduceGT, Nat.reduceMod, Nat.reduceDiv, ↓reduceIte, reduceCtorEq, Int.reduceLE, Int.reduceLT, Int.reduceToNat, Int.reduceEq, Int.reduceNeg, Int.reduceAdd, Int.reduceSub, Int.reduceMul]) q2 ?_
  simp -implicitDefEqProofs only [go_sem, Nat.reduceAdd, Nat.reduceSub, Nat.reduceMul, Nat.reduceLT, Nat.reduceLeDiff, Nat.reduceEqDiff, Nat.reduceBEq, Nat.reduceGT, Nat.reduceMod, Nat.reduceDiv, ↓reduceIte, reduceCtorEq, Int.reduceLE, Int.reduceLT, Int.reduceToNat, Int.reduceEq, Int.reduceNeg, Int.reduceAdd, Int.reduceSub, Int.reduceMul, e1, res11]
  first | exact ⟨hE0.trans (hE1.trans (hE2.trans hE3)), rfl⟩ | exact hE0.trans (hE1.trans (hE2.trans hE3))
end Go.Proofs.YthhmkaikopdmjaaGreat
set_option linter.unusedSimpArgs false
set_option linter.unusedVariables false
set_option maxRecDepth 8000
namespace Go.Proofs.YthhmkaikopdmjaaGreat
open Go Go.Fw

def idxZ (p : RR → Bool) (l : List RR) : Int := if l.findIdx p < l.length then (l.findIdx p : Nat) else -1
theorem idxZ_geq (p : RR → Bool) (l : List RR) : decide ((0 : Int) ≤ idxZ p l) = l.any p := by
  unfold idxZ
  by_cases h : l.findIdx p < l.length
  · rw [if_pos h]
    have := List.findIdx_getElem (xs := l) (p := p) (w := h)
    rw [List.any_eq_true.2 ⟨_, List.getElem_mem h, this⟩]
    exact decide_eq_true (by omega)
  · rw [if_neg h]
    have : l.any p = false := by
      rw [← Bool.not_eq_true, List.any_eq_true]
      rintro ⟨x, hx, hp⟩
      exact h (List.findIdx_lt_length_of_exists ⟨x, hx, hp⟩)
    rw [this]; rfl

theorem indexR (H : Heap) {v : Value} {l : List RR} {r : RR} (hv : RL H v l) (hl : l.length ≤ 1000000) : Sim Tryz.prog 61 #[v, r.val] H (.int .i64 (idxZ (fun x => decide (r = x)) l)) H := by
  refine flat_ex rfl ?_
  have e1 := hv.len (tt := tt) tt22
  unfold RR.val rV
  refine sim_ex tok mixed Tryz.func61 rfl (by kernel_rfl) (by kernel_rfl) (by simp only [Tryz.ntmps61, List.size_toArray, List.length_cons, List.length_nil]; omega) ?_
  simp -implicitDefEqProofs only [go_sem, Nat.reduceAdd, Nat.reduceSub, Nat.reduceMul, Nat.reduceLT, Nat.reduceLeDiff, Nat.reduceEqDiff, Nat.reduceBEq, Nat.reduceGT, Nat.reduceMod, Nat.reduceDiv, ↓reduceIte, reduceCtorEq, Int.reduceLE, Int.reduceLT, Int.reduceToNat, Int.reduceEq, Int.reduceNeg, Int.reduceAdd, Int.reduceSub, Int.reduceMul, e1]
  refine ax_loopx (fun (i : Nat) s T => s 0 = v ∧ s 3 = .pointer (some ⟨H.length, 0, none⟩) ∧ s 7 = .int .i64 (l.length : Nat) ∧ s 8 = .int .i64 (i : Nat) ∧ i ≤ l.length ∧ i ≤ l.findIdx (fun x => decide (r = x)) ∧
    T = H ++ [⟨[.bool r.g, .string (bs r.n), .string (bs r.d), .bool r.g', .string (bs r.n'), .string (bs r.d')], 1, true⟩]) (fun i => l.length - i) 0 ?_ ?_
  · simp -implicitDefEqProofs only [go_sem, Nat.reduceAdd, Nat.reduceSub, Nat.reduceMul, Nat.reduceLT, Nat.reduceLeDiff, Nat.reduceEqDiff, Nat.reduceBEq, Nat.reduceGT, Nat.reduceMod, Nat.reduceDiv, ↓reduceIte, reduceCtorEq, Int.reduceLE, Int.reduceLT, Int.reduceToNat, Int.reduceEq, Int.reduceNeg, Int.reduceAdd, Int.reduceSub, Int.reduceMul]
  rintro i s T ⟨s0, s3, s7, s8, hi, hf, rfl⟩
  simp -implicitDefEqProofs only [go_sem, Nat.reduceAdd, Nat.reduceSub, Nat.reduceMul, Nat.reduceLT, Nat.reduceLeDiff, Nat.reduceEqDiff, Nat.reduceBEq, Nat.reduceGT, Nat.reduceMod, Nat.reduceDiv, ↓reduceIte, reduceCtorEq, Int.reduceLE, Int.reduceLT, Int.reduceToNat, Int.reduceEq, Int.reduceNeg, Int.reduceAdd, Int.reduceSub, Int.reduceMul, s7, s8]
  refine ax_cond2 ?_
  simp only [ev_tmp, ev_const, ev_func, upd_at, put_some, put_none, bndB_bool, Nat.reduceEqDiff, if_true, if_false, ↓reduceIte, reduceCtorEq]
  refine ⟨fun hc0 => have hlt := of_decide_eq_true hc0; ?_, fun hc0 => have hlt := of_decide_eq_false hc0; ?_⟩
  · have hil : i < l.length := by omega
    obtain ⟨b, i0, c, rfl, hA⟩ := hv.at (fun h => by rw [h] at hil; simp at hil)
    have r1 := fun G => rd_more (hA.rdR hil) G
    have hnn : (0 : Int) ≤ (i : Int) := by omega
    have hlt2 : (i : Int) < (l.length : Int) := by omega
    have m1 : IntKind.i64.wrap ((i : Int) + 1) = ((i + 1 : Nat) : Int) := by rw [w64 (by omega) (by omega)]; rfl
    have hq := eq26 r l[i]
    have hfi : l.findIdx (fun x => decide (r = x)) = i ∨ r ≠ l[i] := by
      by_cases h : r = l[i]
      · left
        refine Nat.le_antisymm ?_ hf
        refine Classical.byContradiction fun hn => ?_
        have := List.not_of_lt_findIdx (p := fun x => decide (r = x)) (xs := l) (i := i) (by omega)
        simp at this
        exact this h
      · exact .inr h
    have hfi2 : r ≠ l[i] → i + 1 ≤ l.findIdx (fun x => decide (r = x)) := by
      intro h
      refine Nat.lt_of_le_of_ne hf fun he => ?_
      have := List.findIdx_getElem (p := fun x => decide (r = x)) (xs := l) (w := by omega)
      simp [← he] at this
      exact h this
    unfold idxZ
    generalize l.findIdx (fun x => decide (r = x)) = F at *
    generalize l[i] = x at *
    unfold RR.cells at r1
    simp -implicitDefEqProofs only [go_sem, Nat.reduceAdd, Nat.reduceSub, Nat.reduceMul, Nat.reduceLT, Nat.reduceLeDiff, Nat.reduceEqDiff, Nat.reduceBEq, Nat.reduceGT, Nat.reduceMod, Nat.reduceDiv, ↓reduceIte, reduceCtorEq, Int.reduceLE, Int.reduceLT, Int.reduceToNat, Int.reduceEq, Int.reduceNeg, Int.reduceAdd, Int.reduceSub, Int.reduceMul, s7, s8]
    refine ax_quiet (by kernel_rfl) ?_
    simp -implicitDefEqProofs only [go_sem, Nat.reduceAdd, Nat.reduceSub, Nat.reduceMul, Nat.reduceLT, Nat.reduceLeDiff, Nat.reduceEqDiff, Nat.reduceBEq, Nat.reduceGT, Nat.reduceMod, Nat.reduceDiv, ↓reduceIte, reduceCtorEq, Int.reduceLE, Int.reduceLT, Int.reduceToNat, Int.reduceEq, Int.reduceNeg, Int.reduceAdd, Int.reduceSub, Int.reduceMul, s0, s3, s8, aIndexAddr, hnn, hlt2, r1, hq]
    by_cases he : r = x
    · have hF : F = i := by
        rcases hfi with h | h
        · exact h
        · exact absurd he h
      simp -implicitDefEqProofs only [go_sem, Nat.reduceAdd, Nat.reduceSub, Nat.reduceMul, Nat.reduceLT, Nat.reduceLeDiff, Nat.reduceEqDiff, Nat.reduceBEq, Nat.reduceGT, Nat.reduceMod, Nat.reduceDiv, ↓reduceIte, reduceCtorEq, Int.reduceLE, Int.reduceLT, Int.reduceToNat, Int.reduceEq, Int.reduceNeg, Int.reduceAdd, Int.reduceSub, Int.reduceMul, wa_cond, axC_t, axC_f, he, s0, s3, s7, s8, res61]
      rw [hF, if_pos hil]
      exact ⟨.app _ _, rfl⟩
    · simp -implicitDefEqProofs only [go_sem, Nat.reduceAdd, Nat.reduceSub, Nat.reduceMul, Nat.reduceLT, Nat.reduceLeDiff, Nat.reduceEqDiff, Nat.reduceBEq, Nat.reduceGT, Nat.reduceMod, Nat.reduceDiv, ↓reduceIte, reduceCtorEq, Int.reduceLE, Int.reduceLT, Int.reduceToNat, Int.reduceEq, Int.reduceNeg, Int.reduceAdd, Int.reduceSub, Int.reduceMul, wa_cond, axC_t, axC_f, he, s0, s3, s7, s8, m1]
      exact ⟨i + 1, ⟨rfl, by omega, hfi2 he⟩, by omega⟩
  · have : i = l.length := by omega
    subst this
    unfold idxZ
    rw [if_neg (by omega)]
    simp -implicitDefEqProofs only [go_sem, Nat.reduceAdd, Nat.reduceSub, Nat.reduceMul, Nat.reduceLT, Nat.reduceLeDiff, Nat.reduceEqDiff, Nat.reduceBEq, Nat.reduceGT, Nat.reduceMod, Nat.reduceDiv, ↓reduceIte, reduceCtorEq, Int.reduceLE, Int.reduceLT, Int.reduceToNat, Int.reduceEq, Int.reduceNeg, Int.reduceAdd, Int.reduceSub, Int.reduceMul, res61]
    first | exact ⟨.app _ _, rfl⟩ | exact .app _ _
theorem containsR (H : Heap) {v : Value} {l : List RR} {r : RR} (hv : RL H v l) (hl : l.length ≤ 1000000) : Sim Tryz.prog 23 #[v, r.val] H (.bool (l.any fun x => decide (r = x))) H := by
  refine flat_ex rfl ?_
  have o1 := fun G => indexR (H ++ G) (r := r) (El.app hv G) hl
  have h := idxZ_geq (fun x => decide (r = x)) l
  generalize idxZ (fun x => decide (r = x)) l = z at *
  rw [← h]
  unfold RR.val rV at *
  refine sim_ex tok mixed Tryz.func23 rfl (by kernel_rfl) (by kernel_rfl) (by simp only [Tryz.ntmps23, List.size_toArray, List.length_cons, List.length_nil]; omega) ?_
  simp -implicitDefEqProofs only [go_sem, Nat.reduceAdd, Nat.reduceSub, Nat.reduceMul, Nat.reduceLT, Nat.reduceLeDiff, Nat.reduceEqDiff, Nat.reduceBEq, Nat.reduceGT, Nat.reduceMod, Nat.reduceDiv, ↓reduceIte, reduceCtorEq, Int.reduceLE, Int.reduceLT, Int.reduceToNat, Int.reduceEq, Int.reduceNeg, Int.reduceAdd, Int.reduceSub, Int.reduceMul, mkI, iV, mkQ, qV, fV, ofV, rV, mkR]
  refine wl_callV _ (by simp -implicitDefEqProofs only [go_sem, Nat.reduceAdd, Nat.reduceSub, Nat.reduceMul, Nat.reduceLT, Nat.reduceLeDiff, Nat.reduceEqDiff, Nat.reduceBEq, Nat.reduceGT, Nat.reduceMod, Nat.reduceDiv, ↓reduceIte, reduceCtorEq, Int.reduceLE, Int.reduceLT, Int.reduceToNat, Int.reduceEq, Int.reduceNeg, Int.reduceAdd, Int.reduceSub, Int.reduceMul, mkI, iV, mkQ, qV, fV, ofV, rV, mkR]) (o1 _) ?_
  simp -implicitDefEqProofs only [go_sem, Nat.reduceAdd, Nat.reduceSub, Nat.reduceMul, Nat.reduceLT, Nat.reduceLeDiff, Nat.reduceEqDiff, Nat.reduceBEq, Nat.reduceGT, Nat.reduceMod, Nat.reduceDiv, ↓reduceIte, reduceCtorEq, Int.reduceLE, Int.reduceLT, Int.reduceToNat, Int.reduceEq, Int.reduceNeg, Int.reduceAdd, Int.reduceSub, Int.reduceMul, mkI, iV, mkQ, qV, fV, ofV, rV, mkR]
  simp -implicitDefEqProofs only [go_sem, Nat.reduceAdd, Nat.reduceSub, Nat.reduceMul, Nat.reduceLT, Nat.reduceLeDiff, Nat.reduceEqDiff, Nat.reduceBEq, Nat.reduceGT, Nat.reduceMod, Nat.reduceDiv, ↓reduceIte, reduceCtorEq, Int.reduceLE, Int.reduceLT, Int.reduceToNat, Int.reduceEq, Int.reduceNeg, Int.reduceAdd, Int.reduceSub, Int.reduceMul, mkI, iV, mkQ, qV, fV, ofV, rV, mkR, res23]
  first | exact .app _ _ | exact ⟨.app _ _, rfl⟩ | exact .refl _ | exact ⟨.refl _, rfl⟩
end Go.Proofs.YthhmkaikopdmjaaGreat
set_option linter.unusedSimpArgs false
set_option linter.unusedVariables false
set_option maxRecDepth 8000
namespace Go.Proofs.YthhmkaikopdmjaaGreat
open Go Go.Fw

theorem indexFuncR (H : Heap) {v : Value} {l : List RR} {g : FuncId} {cap : Array Value} {p : RR → Bool} (hv : RL H v l) (hl : l.length ≤ 1000000) (hf : ∀ x ∈ l, Sim Tryz.prog g (#[x.val] ++ cap) H (.bool (p x)) H) :
    Sim Tryz.prog 60 #[v, .func (.func g) #[] cap] H (.int .i64 (idxZ p l)) H := by
  have e1 := hv.len (tt := tt) tt22
  refine sim_of_ax tok mixed Tryz.func60 rfl (by kernel_rfl) (by kernel_rfl) (by simp only [Tryz.ntmps60, List.size_toArray, List.length_cons, List.length_nil]; omega) ?_
  simp -implicitDefEqProofs only [go_sem, Nat.reduceAdd, Nat.reduceSub, Nat.reduceMul, Nat.reduceLT, Nat.reduceLeDiff, Nat.reduceEqDiff, Nat.reduceBEq, Nat.reduceGT, Nat.reduceMod, Nat.reduceDiv, ↓reduceIte, reduceCtorEq, Int.reduceLE, Int.reduceLT, Int.reduceToNat, Int.reduceEq, Int.reduceNeg, Int.reduceAdd, Int.reduceSub, Int.reduceMul, e1]
  refine ax_loopx (fun (i : Nat) s T => s 0 = v ∧ s 1 = .func (.func g) #[] cap ∧ s 7 = .int .i64 (l.length : Nat) ∧ s 8 = .int .i64 (i : Nat) ∧ i ≤ l.length ∧ i ≤ l.findIdx p ∧ T = H) (fun i => l.length - i) 0 ?_ ?_
  · simp -implicitDefEqProofs only [go_sem, Nat.reduceAdd, Nat.reduceSub, Nat.reduceMul, Nat.reduceLT, Nat.reduceLeDiff, Nat.reduceEqDiff, Nat.reduceBEq, Nat.reduceGT, Nat.reduceMod, Nat.reduceDiv, ↓reduceIte, reduceCtorEq, Int.reduceLE, Int.reduceLT, Int.reduceToNat, Int.reduceEq, Int.reduceNeg, Int.reduceAdd, Int.reduceSub, Int.reduceMul]
  rintro i s T ⟨s0, s1, s7, s8, hi, hfi, rfl⟩
  simp -implicitDefEqProofs only [go_sem, Nat.reduceAdd, Nat.reduceSub, Nat.reduceMul, Nat.reduceLT, Nat.reduceLeDiff, Nat.reduceEqDiff, Nat.reduceBEq, Nat.reduceGT, Nat.reduceMod, Nat.reduceDiv, ↓reduceIte, reduceCtorEq, Int.reduceLE, Int.reduceLT, Int.reduceToNat, Int.reduceEq, Int.reduceNeg, Int.reduceAdd, Int.reduceSub, Int.reduceMul, s7, s8]
  refine ax_cond2 ?_
  simp only [ev_tmp, ev_const, ev_func, upd_at, put_some, put_none, bndB_bool, Nat.reduceEqDiff, if_true, if_false, ↓reduceIte, reduceCtorEq]
  refine ⟨fun hc0 => have hlt := of_decide_eq_true hc0; ?_, fun hc0 => have hlt := of_decide_eq_false hc0; ?_⟩
  · have hil : i < l.length := by omega
    obtain ⟨b, i0, c, rfl, hA⟩ := hv.at (fun h => by rw [h] at hil; simp at hil)
    have r1 := hA.rdR hil
    have hnn : (0 : Int) ≤ (i : Int) := by omega
    have hlt2 : (i : Int) < (l.length : Int) := by omega
    have m1 : IntKind.i64.wrap ((i : Int) + 1) = ((i + 1 : Nat) : Int) := by rw [w64 (by omega) (by omega)]; rfl
    have o1 := hf _ (List.getElem_mem hil)
    have hF1 : p l[i] = true → l.findIdx p = i := by
      intro h
      refine Nat.le_antisymm ?_ hfi
      refine Classical.byContradiction fun hn => ?_
      have := List.not_of_lt_findIdx (p := p) (xs := l) (i := i) (by omega)
      rw [h] at this; cases this
    have hF2 : p l[i] = false → i + 1 ≤ l.findIdx p := by
      intro h
      refine Nat.lt_of_le_of_ne hfi fun he => ?_
      have := List.findIdx_getElem (p := p) (xs := l) (w := by omega)
      simp only [← he] at this
      rw [h] at this; cases this
    unfold idxZ
    generalize l.findIdx p = F at *
    generalize l[i] = x at *
    unfold RR.val rV at o1
    unfold RR.cells at r1
    simp -implicitDefEqProofs only [go_sem, Nat.reduceAdd, Nat.reduceSub, Nat.reduceMul, Nat.reduceLT, Nat.reduceLeDiff, Nat.reduceEqDiff, Nat.reduceBEq, Nat.reduceGT, Nat.reduceMod, Nat.reduceDiv, ↓reduceIte, reduceCtorEq, Int.reduceLE, Int.reduceLT, Int.reduceToNat, Int.reduceEq, Int.reduceNeg, Int.reduceAdd, Int.reduceSub, Int.reduceMul, s0, s1, s7, s8, aIndexAddr, hnn, hlt2, r1]
    refine wl_callC g cap (by simp -implicitDefEqProofs only [go_sem, Nat.reduceAdd, Nat.reduceSub, Nat.reduceMul, Nat.reduceLT, Nat.reduceLeDiff, Nat.reduceEqDiff, Nat.reduceBEq, Nat.reduceGT, Nat.reduceMod, Nat.reduceDiv, ↓reduceIte, reduceCtorEq, Int.reduceLE, Int.reduceLT, Int.reduceToNat, Int.reduceEq, Int.reduceNeg, Int.reduceAdd, Int.reduceSub, Int.reduceMul, s1]) _ (by simp -implicitDefEqProofs only [go_sem, Nat.reduceAdd, Nat.reduceSub, Nat.reduceMul, Nat.reduceLT, Nat.reduceLeDiff, Nat.reduceEqDiff, Nat.reduceBEq, Nat.reduceGT, Nat.reduceMod, Nat.reduceDiv, ↓reduceIte, reduceCtorEq, Int.reduceLE, Int.reduceLT, Int.reduceToNat, Int.reduceEq, Int.reduceNeg, Int.reduceAdd, Int.reduceSub, Int.reduceMul]) o1 ?_
    cases hp : p x with
    | true =>
      have := hF1 hp
      subst this
      simp -implicitDefEqProofs only [go_sem, Nat.reduceAdd, Nat.reduceSub, Nat.reduceMul, Nat.reduceLT, Nat.reduceLeDiff, Nat.reduceEqDiff, Nat.reduceBEq, Nat.reduceGT, Nat.reduceMod, Nat.reduceDiv, ↓reduceIte, reduceCtorEq, Int.reduceLE, Int.reduceLT, Int.reduceToNat, Int.reduceEq, Int.reduceNeg, Int.reduceAdd, Int.reduceSub, Int.reduceMul, wa_cond, axC_t, axC_f, res60]
      rw [if_pos hil]
    | false =>
      simp -implicitDefEqProofs only [go_sem, Nat.reduceAdd, Nat.reduceSub, Nat.reduceMul, Nat.reduceLT, Nat.reduceLeDiff, Nat.reduceEqDiff, Nat.reduceBEq, Nat.reduceGT, Nat.reduceMod, Nat.reduceDiv, ↓reduceIte, reduceCtorEq, Int.reduceLE, Int.reduceLT, Int.reduceToNat, Int.reduceEq, Int.reduceNeg, Int.reduceAdd, Int.reduceSub, Int.reduceMul, wa_cond, axC_t, axC_f, s0, s1, s7, s8, m1]
      exact ⟨i + 1, ⟨rfl, by omega, hF2 hp⟩, by omega⟩
  · have : i = l.length := by omega
    subst this
    unfold idxZ
    rw [if_neg (by omega)]
    simp -implicitDefEqProofs only [go_sem, Nat.reduceAdd, Nat.reduceSub, Nat.reduceMul, Nat.reduceLT, Nat.reduceLeDiff, Nat.reduceEqDiff, Nat.reduceBEq, Nat.reduceGT, Nat.reduceMod, Nat.reduceDiv, ↓reduceIte, reduceCtorEq, Int.reduceLE, Int.reduceLT, Int.reduceToNat, Int.reduceEq, Int.reduceNeg, Int.reduceAdd, Int.reduceSub, Int.reduceMul, res60]
theorem containsFuncR (H : Heap) {v : Value} {l : List RR} {g : FuncId} {cap : Array Value} {p : RR → Bool} (hv : RL H v l) (hl : l.length ≤ 1000000) (hf : ∀ x ∈ l, Sim Tryz.prog g (#[x.val] ++ cap) H (.bool (p x)) H) :
    Sim Tryz.prog 21 #[v, .func (.func g) #[] cap] H (.bool (l.any p)) H := by
  have o1 := indexFuncR H hv hl hf
  have h := idxZ_geq p l
  generalize idxZ p l = z at *
  rw [← h]
  refine sim_of_ax tok mixed Tryz.func21 rfl (by kernel_rfl) (by kernel_rfl) (by simp only [Tryz.ntmps21, List.size_toArray, List.length_cons, List.length_nil]; omega) ?_
  simp -implicitDefEqProofs only [go_sem, Nat.reduceAdd, Nat.reduceSub, Nat.reduceMul, Nat.reduceLT, Nat.reduceLeDiff, Nat.reduceEqDiff, Nat.reduceBEq, Nat.reduceGT, Nat.reduceMod, Nat.reduceDiv, ↓reduceIte, reduceCtorEq, Int.reduceLE, Int.reduceLT, Int.reduceToNat, Int.reduceEq, Int.reduceNeg, Int.reduceAdd, Int.reduceSub, Int.reduceMul]
  refine wl_callV _ (by simp -implicitDefEqProofs only [go_sem, Nat.reduceAdd, Nat.reduceSub, Nat.reduceMul, Nat.reduceLT, Nat.reduceLeDiff, Nat.reduceEqDiff, Nat.reduceBEq, Nat.reduceGT, Nat.reduceMod, Nat.reduceDiv, ↓reduceIte, reduceCtorEq, Int.reduceLE, Int.reduceLT, Int.reduceToNat, Int.reduceEq, Int.reduceNeg, Int.reduceAdd, Int.reduceSub, Int.reduceMul]) o1 ?_
  simp -implicitDefEqProofs only [go_sem, Nat.reduceAdd, Nat.reduceSub, Nat.reduceMul, Nat.reduceLT, Nat.reduceLeDiff, Nat.reduceEqDiff, Nat.reduceBEq, Nat.reduceGT, Nat.reduceMod, Nat.reduceDiv, ↓reduceIte, reduceCtorEq, Int.reduceLE, Int.reduceLT, Int.reduceToNat, Int.reduceEq, Int.reduceNeg, Int.reduceAdd, Int.reduceSub, Int.reduceMul, res21]

/-- the law's closure -/
theorem quartersF (H : Heap) {b : Nat} {v : Value} {l : List RR} {r : RR} (hr : H[b]? = some ⟨[v], 1, true⟩) (hv : RL H v l) (hl : l.length ≤ 1000000) (hs : isCell v = true) :
    Sim Tryz.prog 22 #[r.val, .pointer (some ⟨b, 0, none⟩)] H (.bool (!(l.any fun x => decide (r = x)))) H := by
  refine flat_ex rfl ?_
  have o1 := fun G => containsR (H ++ G) (r := r) (El.app hv G) hl
  have r1 := fun G => rd_more (rd_cell hr) G
  generalize (l.any fun x => decide (r = x)) = z at *
  unfold RR.val rV at *
  refine sim_ex tok mixed Tryz.func22 rfl (by kernel_rfl) (by kernel_rfl) (by simp only [Tryz.ntmps22, List.size_toArray, List.length_cons, List.length_nil]; omega) ?_
  simp -implicitDefEqProofs only [go_sem, Nat.reduceAdd, Nat.reduceSub, Nat.reduceMul, Nat.reduceLT, Nat.reduceLeDiff, Nat.reduceEqDiff, Nat.reduceBEq, Nat.reduceGT, Nat.reduceMod, Nat.reduceDiv, ↓reduceIte, reduceCtorEq, Int.reduceLE, Int.reduceLT, Int.reduceToNat, Int.reduceEq, Int.reduceNeg, Int.reduceAdd, Int.reduceSub, Int.reduceMul, mkI, iV, mkQ, qV, fV, ofV, rV, mkR, r1]
  refine wl_callV _ (by simp -implicitDefEqProofs only [go_sem, Nat.reduceAdd, Nat.reduceSub, Nat.reduceMul, Nat.reduceLT, Nat.reduceLeDiff, Nat.reduceEqDiff, Nat.reduceBEq, Nat.reduceGT, Nat.reduceMod, Nat.reduceDiv, ↓reduceIte, reduceCtorEq, Int.reduceLE, Int.reduceLT, Int.reduceToNat, Int.reduceEq, Int.reduceNeg, Int.reduceAdd, Int.reduceSub, Int.reduceMul, mkI, iV, mkQ, qV, fV, ofV, rV, mkR]) (o1 _) ?_
  simp -implicitDefEqProofs only [go_sem, Nat.reduceAdd, Nat.reduceSub, Nat.reduceMul, Nat.reduceLT, Nat.reduceLeDiff, Nat.reduceEqDiff, Nat.reduceBEq, Nat.reduceGT, Nat.reduceMod, Nat.reduceDiv, ↓reduceIte, reduceCtorEq, Int.reduceLE, Int.reduceLT, Int.reduceToNat, Int.reduceEq, Int.reduceNeg, Int.reduceAdd, Int.reduceSub, Int.reduceMul, mkI, iV, mkQ, qV, fV, ofV, rV, mkR]
  simp -implicitDefEqProofs only [go_sem, Nat.reduceAdd, Nat.reduceSub, Nat.reduceMul, Nat.reduceLT, Nat.reduceLeDiff, Nat.reduceEqDiff, Nat.reduceBEq, Nat.reduceGT, Nat.reduceMod, Nat.reduceDiv, ↓reduceIte, reduceCtorEq, Int.reduceLE, Int.reduceLT, Int.reduceToNat, Int.reduceEq, Int.reduceNeg, Int.reduceAdd, Int.reduceSub, Int.reduceMul, mkI, iV, mkQ, qV, fV, ofV, rV, mkR, res22]
  first | exact .app _ _ | exact ⟨.app _ _, rfl⟩ | exact .refl _ | exact ⟨.refl _, rfl⟩
end Go.Proofs.YthhmkaikopdmjaaGreat
