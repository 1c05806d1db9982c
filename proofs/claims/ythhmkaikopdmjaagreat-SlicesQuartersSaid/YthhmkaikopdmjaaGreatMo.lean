/- slices: List; slices: neighbours. Conditions: none. -/
import Derived.Test.YthhmkaikopdmjaaGreatMn
import Derived.Test.YthhmkaikopdmjaaGreatFc
set_option linter.unusedSimpArgs false
set_option linter.unusedVariables false
set_option maxRecDepth 8000
namespace Go.Proofs.YthhmkaikopdmjaaGreat
open Go Go.Fw

def tanL (k i : Nat) : Rot := Rot.ofT (Rat.divInt (i : Int) (k : Int))
def baseL (k n : Nat) : List Rot := (List.range n).map (tanL k)
def qn : Nat → List Rot → List Rot | 0, l => l | j + 1, l => (qn j l).map Rot.qt
def outsL (k : Nat) : Nat → List Rot | 0 => baseL k k | j + 1 => outsL k j ++ qn (j + 1) (baseL k k)
theorem baseL_len (k n : Nat) : (baseL k n).length = n := by simp [baseL]
theorem qn_len (j : Nat) (l : List Rot) : (qn j l).length = l.length := by
  induction j with
  | zero => rfl
  | succ j ih => simp [qn, ih]
theorem outsL_len (k j : Nat) : (outsL k j).length = (j + 1) * k := by
  induction j with
  | zero => simp [outsL, baseL_len]
  | succ j ih =>
    unfold outsL
    rw [List.length_append, ih, qn_len, baseL_len, Nat.add_mul (j + 1) 1 k]; omega
theorem tanL_sz {k i : Nat} (hk : 0 < k) (hk2 : k ≤ 16) (hi : i ≤ 16) : (tanL k i).Sz 60 := by
  have : Fw.Sz (Rat.divInt (i : Int) (k : Int)) 6 := by
    rw [divInt_pos (by omega)]
    exact Sz.of (by omega) (by omega) (by omega)
  exact (Rot.Sz.ofT this).mono (by decide)
theorem base_sz {k n : Nat} (hk : 0 < k) (hk2 : k ≤ 16) (hn : n ≤ 16) : ∀ r ∈ baseL k n, r.Sz 60 := by
  intro r hr
  obtain ⟨i, hi, rfl⟩ := List.mem_map.1 hr
  have := List.mem_range.1 hi
  exact tanL_sz hk hk2 (by omega)
theorem qn_sz {l : List Rot} (h : ∀ r ∈ l, r.Sz 60) : ∀ j, ∀ r ∈ qn j l, r.Sz 60 := by
  intro j
  induction j with
  | zero => exact h
  | succ j ih =>
    intro r hr
    obtain ⟨x, hx, rfl⟩ := List.mem_map.1 hr
    exact ⟨(ih x hx).s.neg, (ih x hx).c⟩

theorem row1 (T : Heap) (r : RR) : aBuildSlice tt T 22 1 [(0, r.val)] = some (.slice (some ⟨T.length, 0, none⟩) 1 1, T ++ [⟨r.cells, 6, true⟩]) := rfl
theorem row1_at (T : Heap) (r : RR) : ElAt 6 (T ++ [⟨r.cells, 6, true⟩]) T.length 0 1 [r.cells] :=
  ⟨.inr (by simp), by decide, fun x hx => by simp at hx; subst hx; rfl, ⟨_, by simp; rfl, rfl, by simp [RR.cells], by simp [RR.cells]⟩, rfl⟩
/-- one more rotation -/
theorem append_R {T : Heap} {b : Nat} {l : List RR} (r : RR) (h : OwnR T b l) (hl : l.length ≤ 100000) :
    ∃ T', aAppend tt (T ++ [⟨r.cells, 6, true⟩]) [22, 22] (.slice (some ⟨b, 0, none⟩) l.length 0) (.slice (some ⟨T.length, 0, none⟩) 1 1) = some (.slice (some ⟨T.length + 1, 0, none⟩) (l.length + 1) 0, T') ∧ OwnR T' (T.length + 1) (l ++ [r]) ∧ T' = (T ++ [(⟨r.cells, 6, true⟩ : Blk)]).set b deadBlk ++ [⟨((l ++ [r]).map RR.cells).flatten, 6, true⟩] := by
  have hb := h.lt
  have := append_own (T := T ++ [⟨r.cells, 6, true⟩]) tt22 tt26 rfl (by decide) (by decide) (Own.app h [⟨r.cells, 6, true⟩]) (row1_at T r) (by simp) (by simp; omega)
  simp only [List.length_map, List.length_cons, List.length_nil, List.length_append, Nat.zero_add] at this
  refine ⟨_, this, ?_, ?_⟩
  · have h2 := OwnR.new ((T ++ [(⟨r.cells, 6, true⟩ : Blk)]).set b deadBlk) (l ++ [r])
    simp only [List.length_set, List.length_append, List.length_cons, List.length_nil, Nat.zero_add, List.map_append, List.map_cons, List.map_nil] at h2
    exact h2
  · simp only [List.map_append, List.map_cons, List.map_nil]
theorem append_R0 {T : Heap} (r : RR) :
    ∃ T', aAppend tt (T ++ [⟨r.cells, 6, true⟩]) [22, 22] (.slice none 0 0) (.slice (some ⟨T.length, 0, none⟩) 1 1) = some (.slice (some ⟨T.length + 1, 0, none⟩) 1 0, T') ∧ OwnR T' (T.length + 1) [r] ∧ Ext T T' := by
  have := append_none (T := T ++ [⟨r.cells, 6, true⟩]) tt22 tt26 rfl (by decide) (by decide) (row1_at T r) (by simp) (by simp)
  simp only [List.length_cons, List.length_nil, List.length_append, Nat.zero_add] at this
  refine ⟨_, this, ?_, ?_⟩
  · have h2 := OwnR.new (T ++ [(⟨r.cells, 6, true⟩ : Blk)]) [r]
    simp only [List.length_append, List.length_cons, List.length_nil, Nat.zero_add, List.map_cons, List.map_nil] at h2
    exact h2
  · exact (Ext.app _ _).trans (.app _ _)
/-- many more -/
theorem append_RR {T : Heap} {b : Nat} {l m : List RR} {bx ix cx : Nat} (h : OwnR T b l) (hx : ElAt 6 T bx ix cx (m.map RR.cells)) (h0 : m ≠ []) (hl : l.length + m.length ≤ 100000) :
    ∃ T', aAppend tt T [22, 22] (.slice (some ⟨b, 0, none⟩) l.length 0) (.slice (some ⟨bx, ix, none⟩) m.length cx) = some (.slice (some ⟨T.length, 0, none⟩) (l.length + m.length) 0, T') ∧ OwnR T' T.length (l ++ m) ∧ T' = T.set b deadBlk ++ [⟨((l ++ m).map RR.cells).flatten, 6, true⟩] := by
  have := append_own tt22 tt26 rfl (by decide) (by decide) h hx (by simpa using h0) (by simp; omega)
  simp only [List.length_map] at this
  refine ⟨_, this, ?_, ?_⟩
  · have h2 := OwnR.new (T.set b deadBlk) (l ++ m)
    simp only [List.length_set, List.map_append] at h2
    exact h2
  · simp only [List.map_append]

def mixL (A : List Rot) (i : Nat) : List Rot := (A.map Rot.qt).take i ++ A.drop i
theorem mixL_zero (A : List Rot) : mixL A 0 = A := by simp [mixL]
theorem mixL_all (A : List Rot) : mixL A A.length = A.map Rot.qt := by
  unfold mixL
  rw [List.drop_length, List.append_nil, List.take_of_length_le (by simp)]
theorem mixL_len (A : List Rot) {i : Nat} (hi : i ≤ A.length) : (mixL A i).length = A.length := by simp [mixL]; omega
theorem mixL_at {A : List Rot} {i : Nat} (hi : i < A.length) : (mixL A i)[i]'(by rw [mixL_len A (by omega)]; exact hi) = A[i] := by
  unfold mixL
  rw [List.getElem_append_right (by simp; omega)]
  simp only [List.getElem_drop]
  congr 1
  simp; omega
theorem mixL_set {A : List Rot} {i : Nat} (hi : i < A.length) : (mixL A i).set i (Rot.qt A[i]) = mixL A (i + 1) := by
  unfold mixL
  rw [List.set_append_right _ _ (by simp; omega)]
  have e : i - ((A.map Rot.qt).take i).length = 0 := by simp; omega
  rw [e, List.drop_eq_getElem_cons hi, List.set_cons_zero, List.take_add_one, List.getElem?_map, List.getElem?_eq_getElem hi]
  simp
theorem ListS_bad (H : Heap) {k : Int} (h : k < 1 ∨ 16 < k) : Sim Tryz.prog 12 #[.int .i64 k] H (.tuple #[.slice none 0 0, .int .i64 2]) H := by
  refine flat_ex rfl ?_
  refine sim_ex tok mixed Tryz.func12 rfl (by kernel_rfl) (by kernel_rfl) (by simp only [Tryz.ntmps12, List.size_toArray, List.length_cons, List.length_nil]; omega) ?_
  by_cases h1 : k < 1
  · simp -implicitDefEqProofs only [go_sem, Nat.reduceAdd, Nat.reduceSub, Nat.reduceMul, Nat.reduceLT, Nat.reduceLeDiff, Nat.reduceEqDiff, Nat.reduceBEq, Nat.reduceGT, Nat.reduceMod, Nat.reduceDiv, ↓reduceIte, reduceCtorEq, Int.reduceLE, Int.reduceLT, Int.reduceToNat, Int.reduceEq, Int.reduceNeg, Int.reduceAdd, Int.reduceSub, Int.reduceMul, wa_cond, axC_t, axC_f, h1, res12]
    exact .refl _
  · have h2 : 16 < k := by omega
    simp -implicitDefEqProofs only [go_sem, Nat.reduceAdd, Nat.reduceSub, Nat.reduceMul, Nat.reduceLT, Nat.reduceLeDiff, Nat.reduceEqDiff, Nat.reduceBEq, Nat.reduceGT, Nat.reduceMod, Nat.reduceDiv, ↓reduceIte, reduceCtorEq, Int.reduceLE, Int.reduceLT, Int.reduceToNat, Int.reduceEq, Int.reduceNeg, Int.reduceAdd, Int.reduceSub, Int.reduceMul, wa_cond, axC_t, axC_f, h1, h2, res12]
    exact .refl _

theorem ListS (H : Heap) {k : Nat} (h0 : 0 < k) (h16 : k ≤ 16) : ∃ w H', Sim Tryz.prog 12 #[.int .i64 (k : Nat)] H w H' ∧ Ext H H' ∧ ∃ b, H.length ≤ b ∧ w = .tuple #[.slice (some ⟨b, 0, none⟩) (4 * k) 0, .int .i64 0] ∧ OwnR H' b ((outsL k 3).map RR.of) := by
  have h1 : ¬ (k : Int) < 1 := by omega
  have h2 : ¬ 16 < (k : Int) := by omega
  refine sim_ex tok mixed Tryz.func12 rfl (by kernel_rfl) (by kernel_rfl) (by simp only [Tryz.ntmps12, List.size_toArray, List.length_cons, List.length_nil]; omega) ?_
  simp -implicitDefEqProofs only [go_sem, Nat.reduceAdd, Nat.reduceSub, Nat.reduceMul, Nat.reduceLT, Nat.reduceLeDiff, Nat.reduceEqDiff, Nat.reduceBEq, Nat.reduceGT, Nat.reduceMod, Nat.reduceDiv, ↓reduceIte, reduceCtorEq, Int.reduceLE, Int.reduceLT, Int.reduceToNat, Int.reduceEq, Int.reduceNeg, Int.reduceAdd, Int.reduceSub, Int.reduceMul, wa_cond, axC_t, axC_f, h1, h2]
  -- the first quarter
  refine ax_midl (fun s T => ∃ b, H.length ≤ b ∧ s 4 = .func (.func 43) #[] #[] ∧ s 5 = .slice (some ⟨b, 0, none⟩) k 0 ∧ OwnR T b ((baseL k k).map RR.of) ∧ Ext H T) ?_ ?_
  · refine ax_loopx (fun (i : Nat) s T => s 0 = .int .i64 (k : Nat) ∧ s 4 = .func (.func 43) #[] #[] ∧ s 18 = .int .i64 (k : Nat) ∧ s 19 = .int .i64 (i : Nat) ∧ i ≤ k ∧ Ext H T ∧
      ((i = 0 ∧ s 5 = .slice none 0 0) ∨ ∃ b, 0 < i ∧ H.length ≤ b ∧ s 5 = .slice (some ⟨b, 0, none⟩) i 0 ∧ OwnR T b ((baseL k i).map RR.of))) (fun i => k - i) 0 ?_ ?_
    · simp -implicitDefEqProofs only [go_sem, Nat.reduceAdd, Nat.reduceSub, Nat.reduceMul, Nat.reduceLT, Nat.reduceLeDiff, Nat.reduceEqDiff, Nat.reduceBEq, Nat.reduceGT, Nat.reduceMod, Nat.reduceDiv, ↓reduceIte, reduceCtorEq, Int.reduceLE, Int.reduceLT, Int.reduceToNat, Int.reduceEq, Int.reduceNeg, Int.reduceAdd, Int.reduceSub, Int.reduceMul]
      exact ⟨.refl _, .inl trivial⟩
    rintro i s T ⟨s0, s4, s18, s19, hi, hE, h5⟩
    simp -implicitDefEqProofs only [go_sem, Nat.reduceAdd, Nat.reduceSub, Nat.reduceMul, Nat.reduceLT, Nat.reduceLeDiff, Nat.reduceEqDiff, Nat.reduceBEq, Nat.reduceGT, Nat.reduceMod, Nat.reduceDiv, ↓reduceIte, reduceCtorEq, Int.reduceLE, Int.reduceLT, Int.reduceToNat, Int.reduceEq, Int.reduceNeg, Int.reduceAdd, Int.reduceSub, Int.reduceMul, s18, s19]
    refine ax_cond2 ?_
    simp only [ev_tmp, ev_const, ev_func, upd_at, put_some, put_none, bndB_bool, Nat.reduceEqDiff, if_true, if_false, ↓reduceIte, reduceCtorEq]
    refine ⟨fun hc0 => have hlt := of_decide_eq_true hc0; ?_, fun hc0 => have hlt := of_decide_eq_false hc0; ?_⟩
    · have hik : i < k := by omega
      have o1 := fun H => ratioI_sim H (n := (i : Int)) (d := (k : Int)) (by omega) (by omega) (by omega) (by omega)
      simp only [show ¬ (k : Int) = 0 by omega, if_false] at o1
      have hsz : Fw.Sz (Rat.divInt (i : Int) (k : Int)) 6 := by
        rw [divInt_pos (by omega)]
        exact Sz.of (by omega) (by omega) (by omega)
      have o2 := fun H => OfR H hsz.qv (by omega)
      have et : Rot.ofT (Rat.divInt (i : Int) (k : Int)) = tanL k i := rfl
      rw [et] at o2
      have w1 : IntKind.i64.wrap ((i : Int) + 1) = ((i + 1 : Nat) : Int) := by rw [w64 (by omega) (by omega)]; rfl
      have hbase : (baseL k (i + 1)).map RR.of = (baseL k i).map RR.of ++ [RR.of (tanL k i)] := by simp [baseL, List.range_succ]
      generalize Rat.divInt (i : Int) (k : Int) = q at *
      simp -implicitDefEqProofs only [go_sem, Nat.reduceAdd, Nat.reduceSub, Nat.reduceMul, Nat.reduceLT, Nat.reduceLeDiff, Nat.reduceEqDiff, Nat.reduceBEq, Nat.reduceGT, Nat.reduceMod, Nat.reduceDiv, ↓reduceIte, reduceCtorEq, Int.reduceLE, Int.reduceLT, Int.reduceToNat, Int.reduceEq, Int.reduceNeg, Int.reduceAdd, Int.reduceSub, Int.reduceMul, s0, s19]
      refine wl_callV _ (by simp -implicitDefEqProofs only [go_sem, Nat.reduceAdd, Nat.reduceSub, Nat.reduceMul, Nat.reduceLT, Nat.reduceLeDiff, Nat.reduceEqDiff, Nat.reduceBEq, Nat.reduceGT, Nat.reduceMod, Nat.reduceDiv, ↓reduceIte, reduceCtorEq, Int.reduceLE, Int.reduceLT, Int.reduceToNat, Int.reduceEq, Int.reduceNeg, Int.reduceAdd, Int.reduceSub, Int.reduceMul]) (o1 _) ?_
      simp -implicitDefEqProofs only [go_sem, Nat.reduceAdd, Nat.reduceSub, Nat.reduceMul, Nat.reduceLT, Nat.reduceLeDiff, Nat.reduceEqDiff, Nat.reduceBEq, Nat.reduceGT, Nat.reduceMod, Nat.reduceDiv, ↓reduceIte, reduceCtorEq, Int.reduceLE, Int.reduceLT, Int.reduceToNat, Int.reduceEq, Int.reduceNeg, Int.reduceAdd, Int.reduceSub, Int.reduceMul, mkQ, qV]
      refine wl_callV _ (by simp -implicitDefEqProofs only [go_sem, Nat.reduceAdd, Nat.reduceSub, Nat.reduceMul, Nat.reduceLT, Nat.reduceLeDiff, Nat.reduceEqDiff, Nat.reduceBEq, Nat.reduceGT, Nat.reduceMod, Nat.reduceDiv, ↓reduceIte, reduceCtorEq, Int.reduceLE, Int.reduceLT, Int.reduceToNat, Int.reduceEq, Int.reduceNeg, Int.reduceAdd, Int.reduceSub, Int.reduceMul, mkQ, qV]) (o2 _) ?_
      generalize RR.of (tanL k i) = r at *
      simp -implicitDefEqProofs only [go_sem, Nat.reduceAdd, Nat.reduceSub, Nat.reduceMul, Nat.reduceLT, Nat.reduceLeDiff, Nat.reduceEqDiff, Nat.reduceBEq, Nat.reduceGT, Nat.reduceMod, Nat.reduceDiv, ↓reduceIte, reduceCtorEq, Int.reduceLE, Int.reduceLT, Int.reduceToNat, Int.reduceEq, Int.reduceNeg, Int.reduceAdd, Int.reduceSub, Int.reduceMul, row1]
      obtain ⟨cQ, hcQ⟩ : ∃ c : Blk, c = ⟨[.bool (decide (q.num < 0)), .string (bs (digB q.num.natAbs)), .string (bs (denB q.den))], 1, true⟩ := ⟨_, rfl⟩
      rw [← hcQ]
      clear hcQ o1 o2
      rcases h5 with ⟨rfl, h5⟩ | ⟨b, hi0, hb, h5, hown⟩
      · obtain ⟨T', happ, ho', hE'⟩ := append_R0 (T := T ++ [cQ]) r
        simp only [List.append_assoc, List.cons_append, List.nil_append, List.length_append, List.length_cons, List.length_nil, Nat.zero_add] at happ ho' hE'
        rw [h5]
        have hE2 : Ext H T' := hE.trans ((Ext.app T [cQ]).trans hE')
        clear hE'
        generalize T ++ [cQ, (⟨r.cells, 6, true⟩ : Blk)] = T1 at happ ⊢
        simp -implicitDefEqProofs only [go_sem, Nat.reduceAdd, Nat.reduceSub, Nat.reduceMul, Nat.reduceLT, Nat.reduceLeDiff, Nat.reduceEqDiff, Nat.reduceBEq, Nat.reduceGT, Nat.reduceMod, Nat.reduceDiv, ↓reduceIte, reduceCtorEq, Int.reduceLE, Int.reduceLT, Int.reduceToNat, Int.reduceEq, Int.reduceNeg, Int.reduceAdd, Int.reduceSub, Int.reduceMul, happ, s0, s4, s18, s19, w1]
        refine ⟨1, ⟨rfl, by omega, hE2, .inr ⟨_, by decide, ?_, rfl, ?_⟩⟩, by omega⟩
        · have := hE.len; omega
        · rw [hbase]; exact ho'
      · have hl : ((baseL k i).map RR.of).length = i := by rw [List.length_map, baseL_len]
        obtain ⟨T', happ, ho', hT'⟩ := append_R (T := T ++ [cQ]) r (Own.app hown [cQ]) (by rw [hl]; omega)
        rw [hl] at happ
        simp only [List.append_assoc, List.cons_append, List.nil_append, List.length_append, List.length_cons, List.length_nil, Nat.zero_add] at happ ho' hT'
        have hE2 : Ext H T' := by
          rw [hT']
          exact ((hE.trans (.app _ _)).set hb _).trans (.app _ _)
        clear hT'
        rw [h5]
        generalize T ++ [cQ, (⟨r.cells, 6, true⟩ : Blk)] = T1 at happ ⊢
        simp -implicitDefEqProofs only [go_sem, Nat.reduceAdd, Nat.reduceSub, Nat.reduceMul, Nat.reduceLT, Nat.reduceLeDiff, Nat.reduceEqDiff, Nat.reduceBEq, Nat.reduceGT, Nat.reduceMod, Nat.reduceDiv, ↓reduceIte, reduceCtorEq, Int.reduceLE, Int.reduceLT, Int.reduceToNat, Int.reduceEq, Int.reduceNeg, Int.reduceAdd, Int.reduceSub, Int.reduceMul, happ, s0, s4, s18, s19, w1]
        refine ⟨i + 1, ⟨rfl, by omega, hE2, .inr ⟨_, by omega, ?_, rfl, ?_⟩⟩, by omega⟩
        · have := hE.len; omega
        · rw [hbase]; exact ho'
    · have hik : i = k := by omega
      subst hik
      rcases h5 with ⟨h, _⟩ | ⟨b, hi0, hb, h5, hown⟩
      · omega
      · simp -implicitDefEqProofs only [go_sem, Nat.reduceAdd, Nat.reduceSub, Nat.reduceMul, Nat.reduceLT, Nat.reduceLeDiff, Nat.reduceEqDiff, Nat.reduceBEq, Nat.reduceGT, Nat.reduceMod, Nat.reduceDiv, ↓reduceIte, reduceCtorEq, Int.reduceLE, Int.reduceLT, Int.reduceToNat, Int.reduceEq, Int.reduceNeg, Int.reduceAdd, Int.reduceSub, Int.reduceMul, s4, h5]
        exact ⟨b, hb, rfl, hown, hE⟩
  rintro s T ⟨b, hb, s4, s5, hown, hE⟩
  have hbl : ((baseL k k).map RR.of).length = k := by rw [List.length_map, baseL_len]
  have hne : (baseL k k).map RR.of ≠ [] := fun h => by rw [h] at hbl; simp at hbl; omega
  have hcl := cloneR T (hown.at (c := 0) (.inl rfl)) hne (by omega)
  rw [hbl] at hcl
  simp -implicitDefEqProofs only [go_sem, Nat.reduceAdd, Nat.reduceSub, Nat.reduceMul, Nat.reduceLT, Nat.reduceLeDiff, Nat.reduceEqDiff, Nat.reduceBEq, Nat.reduceGT, Nat.reduceMod, Nat.reduceDiv, ↓reduceIte, reduceCtorEq, Int.reduceLE, Int.reduceLT, Int.reduceToNat, Int.reduceEq, Int.reduceNeg, Int.reduceAdd, Int.reduceSub, Int.reduceMul, s5]
  refine wl_callT _ (by simp -implicitDefEqProofs only [go_sem, Nat.reduceAdd, Nat.reduceSub, Nat.reduceMul, Nat.reduceLT, Nat.reduceLeDiff, Nat.reduceEqDiff, Nat.reduceBEq, Nat.reduceGT, Nat.reduceMod, Nat.reduceDiv, ↓reduceIte, reduceCtorEq, Int.reduceLE, Int.reduceLT, Int.reduceToNat, Int.reduceEq, Int.reduceNeg, Int.reduceAdd, Int.reduceSub, Int.reduceMul, s5]) hcl ?_
  rintro _ T1 hE1 ⟨b1, hb1, rfl, hown1⟩
  have hownb : OwnR T1 b ((baseL k k).map RR.of) := by obtain ⟨G, rfl⟩ := hE1; exact hown.app G
  have hE2 := hE.trans hE1
  have hbT := hown.lt
  clear hcl hown hE hE1
  simp -implicitDefEqProofs only [go_sem, Nat.reduceAdd, Nat.reduceSub, Nat.reduceMul, Nat.reduceLT, Nat.reduceLeDiff, Nat.reduceEqDiff, Nat.reduceBEq, Nat.reduceGT, Nat.reduceMod, Nat.reduceDiv, ↓reduceIte, reduceCtorEq, Int.reduceLE, Int.reduceLT, Int.reduceToNat, Int.reduceEq, Int.reduceNeg, Int.reduceAdd, Int.reduceSub, Int.reduceMul, s4, s5]
  have hneb : b ≠ b1 := by omega
  refine ax_loopx (fun (j : Nat) s T => ∃ b1, H.length ≤ b1 ∧ b ≠ b1 ∧ s 4 = .func (.func 43) #[] #[] ∧ s 5 = .slice (some ⟨b, 0, none⟩) k 0 ∧ s 9 = .slice (some ⟨b1, 0, none⟩) ((j + 1) * k) 0 ∧ s 36 = .int .i64 (j : Nat) ∧ j ≤ 3 ∧
    OwnR T b ((qn j (baseL k k)).map RR.of) ∧ OwnR T b1 ((outsL k j).map RR.of) ∧ Ext H T) (fun j => 3 - j) 0 ?_ ?_
  · refine ⟨b1, ?_⟩
    simp -implicitDefEqProofs only [go_sem, Nat.reduceAdd, Nat.reduceSub, Nat.reduceMul, Nat.reduceLT, Nat.reduceLeDiff, Nat.reduceEqDiff, Nat.reduceBEq, Nat.reduceGT, Nat.reduceMod, Nat.reduceDiv, ↓reduceIte, reduceCtorEq, Int.reduceLE, Int.reduceLT, Int.reduceToNat, Int.reduceEq, Int.reduceNeg, Int.reduceAdd, Int.reduceSub, Int.reduceMul, s4, s5]
    refine ⟨by omega, hneb, by rw [Nat.one_mul], hownb, hown1, hE2⟩
  clear s4 s5 hownb hown1 hE2 hbT hb1 hneb b1 T1 hne hbl
  rintro j s T ⟨b1, hb1, hneb, s4, s5, s9, s36, hj, hA, hO, hE⟩
  simp -implicitDefEqProofs only [go_sem, Nat.reduceAdd, Nat.reduceSub, Nat.reduceMul, Nat.reduceLT, Nat.reduceLeDiff, Nat.reduceEqDiff, Nat.reduceBEq, Nat.reduceGT, Nat.reduceMod, Nat.reduceDiv, ↓reduceIte, reduceCtorEq, Int.reduceLE, Int.reduceLT, Int.reduceToNat, Int.reduceEq, Int.reduceNeg, Int.reduceAdd, Int.reduceSub, Int.reduceMul, s36]
  have hlA : (qn j (baseL k k)).length = k := by rw [qn_len, baseL_len]
  have hszA := qn_sz (base_sz h0 h16 h16 : ∀ r ∈ baseL k k, r.Sz 60) j
  have hnext : qn (j + 1) (baseL k k) = (qn j (baseL k k)).map Rot.qt := rfl
  have houts : outsL k (j + 1) = outsL k j ++ (qn j (baseL k k)).map Rot.qt := rfl
  have hlO := outsL_len k j
  refine ax_cond2 ?_
  simp only [ev_tmp, ev_const, ev_func, upd_at, put_some, put_none, bndB_bool, Nat.reduceEqDiff, if_true, if_false, ↓reduceIte, reduceCtorEq]
  refine ⟨fun hc0 => have hlt := of_decide_eq_true hc0; ?_, fun hc0 => have hlt := of_decide_eq_false hc0; ?_⟩
  · have hj3 : j < 3 := by omega
    generalize outsL k j = O at *
    generalize qn j (baseL k k) = A at *
    have aL : ∀ c, aLen tt [22] (.slice (some ⟨b, 0, none⟩) k c) = some (.int .i64 (k : Nat)) := fun _ => rfl
    simp -implicitDefEqProofs only [go_sem, Nat.reduceAdd, Nat.reduceSub, Nat.reduceMul, Nat.reduceLT, Nat.reduceLeDiff, Nat.reduceEqDiff, Nat.reduceBEq, Nat.reduceGT, Nat.reduceMod, Nat.reduceDiv, ↓reduceIte, reduceCtorEq, Int.reduceLE, Int.reduceLT, Int.reduceToNat, Int.reduceEq, Int.reduceNeg, Int.reduceAdd, Int.reduceSub, Int.reduceMul, s5, aL]
    refine ax_midl (fun s T => s 4 = .func (.func 43) #[] #[] ∧ s 5 = .slice (some ⟨b, 0, none⟩) k 0 ∧ s 9 = .slice (some ⟨b1, 0, none⟩) ((j + 1) * k) 0 ∧ s 36 = .int .i64 (j : Nat) ∧ OwnR T b ((A.map Rot.qt).map RR.of) ∧ OwnR T b1 (O.map RR.of) ∧ Ext H T) ?_ ?_
    · refine ax_loopx (fun (i : Nat) s T => s 4 = .func (.func 43) #[] #[] ∧ s 5 = .slice (some ⟨b, 0, none⟩) k 0 ∧ s 9 = .slice (some ⟨b1, 0, none⟩) ((j + 1) * k) 0 ∧ s 36 = .int .i64 (j : Nat) ∧ s 38 = .slice (some ⟨b, 0, none⟩) k 0 ∧ s 39 = .int .i64 (k : Nat) ∧ s 40 = .int .i64 (i : Nat) ∧ i ≤ k ∧
        OwnR T b ((mixL A i).map RR.of) ∧ OwnR T b1 (O.map RR.of) ∧ Ext H T) (fun i => k - i) 0 ?_ ?_
      · simp -implicitDefEqProofs only [go_sem, Nat.reduceAdd, Nat.reduceSub, Nat.reduceMul, Nat.reduceLT, Nat.reduceLeDiff, Nat.reduceEqDiff, Nat.reduceBEq, Nat.reduceGT, Nat.reduceMod, Nat.reduceDiv, ↓reduceIte, reduceCtorEq, Int.reduceLE, Int.reduceLT, Int.reduceToNat, Int.reduceEq, Int.reduceNeg, Int.reduceAdd, Int.reduceSub, Int.reduceMul, s4, s5, s9, s36]
        exact ⟨by rw [mixL_zero]; exact hA, hO, hE⟩
      clear s4 s5 s9 s36 hA hO hE
      rintro i s T ⟨s4, s5, s9, s36, s38, s39, s40, hi, hA, hO, hE⟩
      simp -implicitDefEqProofs only [go_sem, Nat.reduceAdd, Nat.reduceSub, Nat.reduceMul, Nat.reduceLT, Nat.reduceLeDiff, Nat.reduceEqDiff, Nat.reduceBEq, Nat.reduceGT, Nat.reduceMod, Nat.reduceDiv, ↓reduceIte, reduceCtorEq, Int.reduceLE, Int.reduceLT, Int.reduceToNat, Int.reduceEq, Int.reduceNeg, Int.reduceAdd, Int.reduceSub, Int.reduceMul, s39, s40]
      refine ax_cond2 ?_
      simp only [ev_tmp, ev_const, ev_func, upd_at, put_some, put_none, bndB_bool, Nat.reduceEqDiff, if_true, if_false, ↓reduceIte, reduceCtorEq]
      refine ⟨fun hc0 => have hik := of_decide_eq_true hc0; ?_, fun hc0 => have hik := of_decide_eq_false hc0; ?_⟩
      · have hiA : i < A.length := by omega
        have hml := mixL_len A (i := i) (by omega)
        have hr := (hA.at (c := 0) (.inl rfl)).rdR (j := i) (by simp; omega)
        have hel : ((mixL A i).map RR.of)[i]'(by simp; omega) = RR.of A[i] := by rw [List.getElem_map, mixL_at hiA]
        rw [hel] at hr
        have hset : ((mixL A i).map RR.of).set i (RR.of (Rot.qt A[i])) = (mixL A (i + 1)).map RR.of := by rw [← mixL_set hiA, List.map_set]
        have o1 := fun H => quarterS H (hszA _ (List.getElem_mem hiA)) (by decide)
        generalize A[i] = x at *
        have hnn : (0 : Int) ≤ (i : Int) := by omega
        have hlt2 : (i : Int) < (k : Int) := by omega
        have w1 : IntKind.i64.wrap ((i : Int) + 1) = ((i + 1 : Nat) : Int) := by rw [w64 (by omega) (by omega)]; rfl
        simp only [Nat.zero_add] at hr
        unfold RR.cells at hr
        unfold RR.val rV at o1
        simp -implicitDefEqProofs only [go_sem, Nat.reduceAdd, Nat.reduceSub, Nat.reduceMul, Nat.reduceLT, Nat.reduceLeDiff, Nat.reduceEqDiff, Nat.reduceBEq, Nat.reduceGT, Nat.reduceMod, Nat.reduceDiv, ↓reduceIte, reduceCtorEq, Int.reduceLE, Int.reduceLT, Int.reduceToNat, Int.reduceEq, Int.reduceNeg, Int.reduceAdd, Int.reduceSub, Int.reduceMul, s38, s40, aIndexAddr, hnn, hlt2, hr, s4, s5]
        refine wl_callO _ (by simp -implicitDefEqProofs only [go_sem, Nat.reduceAdd, Nat.reduceSub, Nat.reduceMul, Nat.reduceLT, Nat.reduceLeDiff, Nat.reduceEqDiff, Nat.reduceBEq, Nat.reduceGT, Nat.reduceMod, Nat.reduceDiv, ↓reduceIte, reduceCtorEq, Int.reduceLE, Int.reduceLT, Int.reduceToNat, Int.reduceEq, Int.reduceNeg, Int.reduceAdd, Int.reduceSub, Int.reduceMul, s4]) _ (by simp -implicitDefEqProofs only [go_sem, Nat.reduceAdd, Nat.reduceSub, Nat.reduceMul, Nat.reduceLT, Nat.reduceLeDiff, Nat.reduceEqDiff, Nat.reduceBEq, Nat.reduceGT, Nat.reduceMod, Nat.reduceDiv, ↓reduceIte, reduceCtorEq, Int.reduceLE, Int.reduceLT, Int.reduceToNat, Int.reduceEq, Int.reduceNeg, Int.reduceAdd, Int.reduceSub, Int.reduceMul]) (o1 _) ?_
        obtain ⟨cB, hcB⟩ : ∃ c : Blk, c = ⟨[.bool (RR.of x).g, .string (bs (RR.of x).n), .string (bs (RR.of x).d), .bool (RR.of x).g', .string (bs (RR.of x).n'), .string (bs (RR.of x).d')], 1, true⟩ := ⟨_, rfl⟩
        rw [← hcB]
        clear hcB hr o1
        have hw := Own.wr (T := T ++ [cB]) (Own.app hA [cB]) (j := i) (by simp; omega) (x := (RR.of (Rot.qt x)).cells) rfl rfl
        have hA2 := Own.set (T := T ++ [cB]) (Own.app hA [cB]) (j := i) (x := (RR.of (Rot.qt x)).cells) rfl rfl
        have hO2 : OwnR ((T ++ [cB]).set b ⟨((((mixL A i).map RR.of).map RR.cells).set i (RR.of (Rot.qt x)).cells).flatten, 6, true⟩) b1 (O.map RR.of) := Own.other (Own.app hO [cB]) hneb _
        have hE2 := (hE.trans (Ext.app T [cB])).set hb ⟨((((mixL A i).map RR.of).map RR.cells).set i (RR.of (Rot.qt x)).cells).flatten, 6, true⟩
        have hlist : (((mixL A i).map RR.of).map RR.cells).set i (RR.of (Rot.qt x)).cells = ((mixL A (i + 1)).map RR.of).map RR.cells := by rw [← hset, List.map_set]
        rw [hlist] at hw hA2 hO2 hE2
        generalize (T ++ [cB]).set b ⟨(((mixL A (i + 1)).map RR.of).map RR.cells).flatten, 6, true⟩ = T2 at *
        unfold RR.cells at hw
        simp -implicitDefEqProofs only [go_sem, Nat.reduceAdd, Nat.reduceSub, Nat.reduceMul, Nat.reduceLT, Nat.reduceLeDiff, Nat.reduceEqDiff, Nat.reduceBEq, Nat.reduceGT, Nat.reduceMod, Nat.reduceDiv, ↓reduceIte, reduceCtorEq, Int.reduceLE, Int.reduceLT, Int.reduceToNat, Int.reduceEq, Int.reduceNeg, Int.reduceAdd, Int.reduceSub, Int.reduceMul, s4, s5, s9, s36, s38, s39, s40, aIndexAddr, hnn, hlt2, hw, w1]
        exact ⟨i + 1, ⟨rfl, by omega, hA2, hO2, hE2⟩, by omega⟩
      · have hik2 : i = A.length := by omega
        simp -implicitDefEqProofs only [go_sem, Nat.reduceAdd, Nat.reduceSub, Nat.reduceMul, Nat.reduceLT, Nat.reduceLeDiff, Nat.reduceEqDiff, Nat.reduceBEq, Nat.reduceGT, Nat.reduceMod, Nat.reduceDiv, ↓reduceIte, reduceCtorEq, Int.reduceLE, Int.reduceLT, Int.reduceToNat, Int.reduceEq, Int.reduceNeg, Int.reduceAdd, Int.reduceSub, Int.reduceMul, s4, s5, s9, s36]
        refine ⟨?_, hO, hE⟩
        rw [hik2, mixL_all] at hA
        exact hA
    clear s4 s5 s9 s36 hA hO hE
    rintro s T ⟨s4, s5, s9, s36, hA, hO, hE⟩
    have hlA2 : ((A.map Rot.qt).map RR.of).length = k := by simp [hlA]
    have hlO2 : (O.map RR.of).length = (j + 1) * k := by simp [hlO]
    have hjk : (j + 1) * k ≤ 3 * 16 := Nat.mul_le_mul (by omega) h16
    obtain ⟨T', happ, hO', hT'⟩ := append_RR hO (hA.at (c := 0) (.inl rfl)) (fun h => by rw [h] at hlA2; simp at hlA2; omega) (by omega)
    rw [hlA2, hlO2] at happ
    have hbT := hA.lt
    have hA' : OwnR T' b ((A.map Rot.qt).map RR.of) := by rw [hT']; exact Own.app (Own.other hA (by omega) _) _
    have hE' : Ext H T' := by rw [hT']; exact (hE.set hb1 _).trans (.app _ _)
    have hTl := hE.len
    have w1 : IntKind.i64.wrap ((j : Int) + 1) = ((j + 1 : Nat) : Int) := by rw [w64 (by omega) (by omega)]; rfl
    have hmul : (j + 1) * k + k = (j + 1 + 1) * k := by rw [Nat.add_mul (j + 1) 1 k]; omega
    rw [hmul] at happ
    simp -implicitDefEqProofs only [go_sem, Nat.reduceAdd, Nat.reduceSub, Nat.reduceMul, Nat.reduceLT, Nat.reduceLeDiff, Nat.reduceEqDiff, Nat.reduceBEq, Nat.reduceGT, Nat.reduceMod, Nat.reduceDiv, ↓reduceIte, reduceCtorEq, Int.reduceLE, Int.reduceLT, Int.reduceToNat, Int.reduceEq, Int.reduceNeg, Int.reduceAdd, Int.reduceSub, Int.reduceMul, s4, s5, s9, s36, happ, w1]
    refine ⟨j + 1, ⟨T.length, hTl, by omega, rfl, rfl, by omega, ?_, ?_, hE'⟩, by omega⟩
    · rw [hnext]; exact hA'
    · rw [houts, List.map_append]; exact hO'
  · have hj3 : j = 3 := by omega
    subst hj3
    simp -implicitDefEqProofs only [go_sem, Nat.reduceAdd, Nat.reduceSub, Nat.reduceMul, Nat.reduceLT, Nat.reduceLeDiff, Nat.reduceEqDiff, Nat.reduceBEq, Nat.reduceGT, Nat.reduceMod, Nat.reduceDiv, ↓reduceIte, reduceCtorEq, Int.reduceLE, Int.reduceLT, Int.reduceToNat, Int.reduceEq, Int.reduceNeg, Int.reduceAdd, Int.reduceSub, Int.reduceMul, s9, res12]
    exact ⟨hE, b1, hb1, rfl, hO⟩
end Go.Proofs.YthhmkaikopdmjaaGreat
set_option linter.unusedSimpArgs false
set_option linter.unusedVariables false
set_option maxRecDepth 8000
namespace Go.Proofs.YthhmkaikopdmjaaGreat
open Go Go.Fw

theorem neighboursS (H : Heap) (x : Option Addr) (n c : Nat) : Sim Tryz.prog 65 #[.slice x n c] H (.func (.func 115) #[] #[.pointer (some ⟨H.length, 0, none⟩)]) (H ++ [⟨[.slice x n c], 1, true⟩]) := by
  refine sim_of_ax tok mixed Tryz.func65 rfl (by kernel_rfl) (by kernel_rfl) (by simp only [Tryz.ntmps65, List.size_toArray, List.length_cons, List.length_nil]; omega) ?_
  simp -implicitDefEqProofs only [go_sem, Nat.reduceAdd, Nat.reduceSub, Nat.reduceMul, Nat.reduceLT, Nat.reduceLeDiff, Nat.reduceEqDiff, Nat.reduceBEq, Nat.reduceGT, Nat.reduceMod, Nat.reduceDiv, ↓reduceIte, reduceCtorEq, Int.reduceLE, Int.reduceLT, Int.reduceToNat, Int.reduceEq, Int.reduceNeg, Int.reduceAdd, Int.reduceSub, Int.reduceMul, res65]

def nextR (l : List RR) (i : Nat) : Nat := (i + 1) % l.length
theorem nextR_lt {l : List RR} (h : l ≠ []) (i : Nat) : nextR l i < l.length := Nat.mod_lt _ (List.length_pos_iff.2 h)

theorem neighY {Y : Array Value → Heap → Heap → Prop} {l : List RR} {v : Value} {b0 : Nat} {H : Heap} (Inv : Nat → Heap → Prop) (h2 : 2 ≤ l.length) (hl : l.length ≤ 100000) (h0 : Inv 0 H)
    (hbox : ∀ i T, Inv i T → T[b0]? = some ⟨[v], 1, true⟩ ∧ RL T v l) (happ : ∀ i T B, Inv i T → Inv i (T ++ [B]))
    (hY : ∀ i T, ∀ hi : i < l.length, Inv i T → ∃ T', Y #[l[i].val, (l[nextR l i]'(nextR_lt (fun h => by rw [h] at hi; simp at hi) i)).val] T T' ∧ Inv (i + 1) T') :
    ∃ H1, SimY Tryz.prog 115 Y #[.pointer (some ⟨b0, 0, none⟩)] H H1 ∧ Inv l.length H1 := by
  have hne : l ≠ [] := fun h => by rw [h] at h2; simp at h2
  obtain ⟨G, g0, g1, g2⟩ := chain_ex (Inv := Inv) (n := l.length) (H := H) (Y := fun i T T' => ∀ hi : i < l.length, Y #[l[i].val, (l[nextR l i]'(nextR_lt hne i)).val] T T') (fun i => ⟨(l.getD i ⟨false, [], [], false, [], []⟩).cells, 1, true⟩) h0 happ
    (fun i T hi h => by obtain ⟨T', a, b⟩ := hY i T hi h; exact ⟨T', fun _ => a, b⟩)
  refine ⟨G l.length, ?_, g1 _ (Nat.le_refl _)⟩
  refine simY_of_ax tok mixed Tryz.func115 rfl (by kernel_rfl) (by kernel_rfl) (by simp only [Tryz.ntmps115, List.size_toArray, List.length_cons, List.length_nil]; omega) ?_
  intro y
  have hb := hbox 0 H h0
  obtain ⟨b, i0, c, rfl, hA0⟩ := hb.2.at hne
  have box : ∀ i, i ≤ l.length → ∀ B, rd (G i ++ B) b0 0 1 = some [.slice (some ⟨b, i0, none⟩) l.length c] := by
    intro i hi B
    refine rd_more ?_ B
    have := (hbox i _ (g1 i hi)).1
    unfold rd
    rw [this]; rfl
  have box0 := fun i hi => by simpa using box i hi []
  have hrow : ∀ i, i ≤ l.length → ElAt 6 (G i) b i0 c (l.map RR.cells) := by
    intro i hi
    obtain ⟨b', i', c', e, h⟩ := ((hbox i _ (g1 i hi)).2).at hne
    injection e with e1 e2 e3
    injection e1 with e1
    injection e1 with e4 e5
    subst e4 e5 e3
    exact h
  have e1 : aLen tt [22] (.slice (some ⟨b, i0, none⟩) l.length c) = some (.int .i64 (l.length : Nat)) := rfl
  have hnlt : ¬ (l.length : Int) < 2 := by omega
  rw [← g0]
  have bx0 := box0 0 (by omega)
  have eini : (#[Value.func (Fn.yield y) #[] #[]] ++ #[Value.pointer (some ⟨b0, 0, none⟩)] : Array Value) = #[.func (.yield y) #[] #[], .pointer (some ⟨b0, 0, none⟩)] := rfl
  rw [eini]
  simp -implicitDefEqProofs only [go_sem, Nat.reduceAdd, Nat.reduceSub, Nat.reduceMul, Nat.reduceLT, Nat.reduceLeDiff, Nat.reduceEqDiff, Nat.reduceBEq, Nat.reduceGT, Nat.reduceMod, Nat.reduceDiv, ↓reduceIte, reduceCtorEq, Int.reduceLE, Int.reduceLT, Int.reduceToNat, Int.reduceEq, Int.reduceNeg, Int.reduceAdd, Int.reduceSub, Int.reduceMul, bx0, e1]
  refine ax_loopx (fun (i : Nat) s T => s 0 = .func (.yield y) #[] #[] ∧ s 1 = .pointer (some ⟨b0, 0, none⟩) ∧ s 5 = .slice (some ⟨b, i0, none⟩) l.length c ∧ s 6 = .int .i64 (l.length : Nat) ∧ s 7 = .int .i64 (i : Nat) ∧ i ≤ l.length ∧ T = G i) (fun i => l.length - i) 0 ?_ ?_
  · simp -implicitDefEqProofs only [go_sem, Nat.reduceAdd, Nat.reduceSub, Nat.reduceMul, Nat.reduceLT, Nat.reduceLeDiff, Nat.reduceEqDiff, Nat.reduceBEq, Nat.reduceGT, Nat.reduceMod, Nat.reduceDiv, ↓reduceIte, reduceCtorEq, Int.reduceLE, Int.reduceLT, Int.reduceToNat, Int.reduceEq, Int.reduceNeg, Int.reduceAdd, Int.reduceSub, Int.reduceMul]
  rintro i s T ⟨s0, s1, s5, s6, s7, hi, rfl⟩
  simp -implicitDefEqProofs only [go_sem, Nat.reduceAdd, Nat.reduceSub, Nat.reduceMul, Nat.reduceLT, Nat.reduceLeDiff, Nat.reduceEqDiff, Nat.reduceBEq, Nat.reduceGT, Nat.reduceMod, Nat.reduceDiv, ↓reduceIte, reduceCtorEq, Int.reduceLE, Int.reduceLT, Int.reduceToNat, Int.reduceEq, Int.reduceNeg, Int.reduceAdd, Int.reduceSub, Int.reduceMul, s6, s7]
  refine ax_cond2 ?_
  simp only [ev_tmp, ev_const, ev_func, upd_at, put_some, put_none, bndB_bool, Nat.reduceEqDiff, if_true, if_false, ↓reduceIte, reduceCtorEq]
  refine ⟨fun hc0 => have hlt := of_decide_eq_true hc0; ?_, fun hc0 => have hlt := of_decide_eq_false hc0; ?_⟩
  · have hil : i < l.length := by omega
    have hr := (hrow i hi).rdR hil
    have hj := nextR_lt hne i
    have hr2 := fun B => rd_more ((hrow i hi).rdR hj) B
    have hy := g2 i hil hil
    have hgd : l.getD i ⟨false, [], [], false, [], []⟩ = l[i] := by simp [List.getD, List.getElem?_eq_getElem hil]
    rw [hgd] at hy
    have bxi := box0 i hi
    have bxi2 := box i hi
    have m1 : IntKind.i64.wrap ((i : Int) + 1) = ((i + 1 : Nat) : Int) := by rw [w64 (by omega) (by omega)]; rfl
    have m2 : Int.tmod ((i + 1 : Nat) : Int) (l.length : Int) = ((nextR l i : Nat) : Int) := by rw [tmod_nat]; rfl
    have m3 : ¬ (l.length : Int) = 0 := by omega
    have hnn : (0 : Int) ≤ (i : Int) := by omega
    have hlt2 : (i : Int) < (l.length : Int) := by omega
    have hnn2 : (0 : Int) ≤ (nextR l i : Int) := by omega
    have hlt3 : (nextR l i : Int) < (l.length : Int) := by omega
    generalize l[nextR l i] = z at hr2 hy
    generalize l[i] = x at hr hy
    generalize nextR l i = j at m2 hnn2 hlt3 hr2
    unfold RR.cells at hr hr2 hy
    simp -implicitDefEqProofs only [go_sem, Nat.reduceAdd, Nat.reduceSub, Nat.reduceMul, Nat.reduceLT, Nat.reduceLeDiff, Nat.reduceEqDiff, Nat.reduceBEq, Nat.reduceGT, Nat.reduceMod, Nat.reduceDiv, ↓reduceIte, reduceCtorEq, Int.reduceLE, Int.reduceLT, Int.reduceToNat, Int.reduceEq, Int.reduceNeg, Int.reduceAdd, Int.reduceSub, Int.reduceMul, s0, s1, s5, s7, aIndexAddr, hnn, hlt2, hr]
    refine ax_loud (by kernel_rfl) ?_
    simp -implicitDefEqProofs only [go_sem, Nat.reduceAdd, Nat.reduceSub, Nat.reduceMul, Nat.reduceLT, Nat.reduceLeDiff, Nat.reduceEqDiff, Nat.reduceBEq, Nat.reduceGT, Nat.reduceMod, Nat.reduceDiv, ↓reduceIte, reduceCtorEq, Int.reduceLE, Int.reduceLT, Int.reduceToNat, Int.reduceEq, Int.reduceNeg, Int.reduceAdd, Int.reduceSub, Int.reduceMul, s0, s1, s5, s7, aIndexAddr, hnn, hlt2, hnn2, hlt3, hr2, bxi, bxi2, e1, hnlt, m1, m2, m3]
    unfold RR.val rV at hy
    refine wl_yield y _ (by simp -implicitDefEqProofs only [go_sem, Nat.reduceAdd, Nat.reduceSub, Nat.reduceMul, Nat.reduceLT, Nat.reduceLeDiff, Nat.reduceEqDiff, Nat.reduceBEq, Nat.reduceGT, Nat.reduceMod, Nat.reduceDiv, ↓reduceIte, reduceCtorEq, Int.reduceLE, Int.reduceLT, Int.reduceToNat, Int.reduceEq, Int.reduceNeg, Int.reduceAdd, Int.reduceSub, Int.reduceMul, s0]) (by simp -implicitDefEqProofs only [go_sem, Nat.reduceAdd, Nat.reduceSub, Nat.reduceMul, Nat.reduceLT, Nat.reduceLeDiff, Nat.reduceEqDiff, Nat.reduceBEq, Nat.reduceGT, Nat.reduceMod, Nat.reduceDiv, ↓reduceIte, reduceCtorEq, Int.reduceLE, Int.reduceLT, Int.reduceToNat, Int.reduceEq, Int.reduceNeg, Int.reduceAdd, Int.reduceSub, Int.reduceMul]) ⟨rfl, rfl, hy⟩ ?_
    simp -implicitDefEqProofs only [go_sem, Nat.reduceAdd, Nat.reduceSub, Nat.reduceMul, Nat.reduceLT, Nat.reduceLeDiff, Nat.reduceEqDiff, Nat.reduceBEq, Nat.reduceGT, Nat.reduceMod, Nat.reduceDiv, ↓reduceIte, reduceCtorEq, Int.reduceLE, Int.reduceLT, Int.reduceToNat, Int.reduceEq, Int.reduceNeg, Int.reduceAdd, Int.reduceSub, Int.reduceMul, wa_cond, axC_t, axC_f, s0, s1, s5, s6, s7, m1]
    exact ⟨i + 1, ⟨rfl, by omega, rfl⟩, by omega⟩
  · have : i = l.length := by omega
    subst this
    simp -implicitDefEqProofs only [go_sem, Nat.reduceAdd, Nat.reduceSub, Nat.reduceMul, Nat.reduceLT, Nat.reduceLeDiff, Nat.reduceEqDiff, Nat.reduceBEq, Nat.reduceGT, Nat.reduceMod, Nat.reduceDiv, ↓reduceIte, reduceCtorEq, Int.reduceLE, Int.reduceLT, Int.reduceToNat, Int.reduceEq, Int.reduceNeg, Int.reduceAdd, Int.reduceSub, Int.reduceMul]
    exact ⟨[], rfl, rfl⟩
end Go.Proofs.YthhmkaikopdmjaaGreat
