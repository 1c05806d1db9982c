/- slices: List; slices: neighbours; slices: sorting by insertion; slices: SortFunc for short rows; slices: Refine; slices: turn, awake; slices: Contains, ContainsFunc, SlicesQuarters; slices: IndexFunc, ContainsFunc; SlicesQuarters; sorting: any order; by insertion; sorting: reversing, the choice of the pivot; sorting: heaps; sorting: by a heap; sorting: breaking patterns; sorting: almost sorted rows; sorting: the part of equal ones; sorting: the two parts; sorting: the whole; sorting: rows of rotations up to 255; the reference of bigint: trim, Canonical, small, value, mag, Of, Neg; the reference of bigint: compareMag, mag, Of, Neg. Conditions: none. -/
import Derived.Test.YthhmkaikopdmjaaGreatMe
set_option linter.unusedSimpArgs false
set_option linter.unusedVariables false
set_option maxRecDepth 8000
namespace Go.Proofs.YthhmkaikopdmjaaGreat
open Go Go.Fw
def tanL (k i : Nat) : Rot := Rot.ofT (Rat.divInt (i : Int) (k : Int))
def baseL (k n : Nat) : List Rot := (List.range n).map (tanL k)
def qn : Nat → List Rot → List Rot | 0, l => l | j + 1, l => (qn j l).map Rot.qt
def outsL (k : Nat) : Nat → List Rot | 0 => baseL k k | j + 1 => outsL k j ++ qn (j + 1) (baseL k k)
theorem baseL_len (k n : Nat) : (baseL k n).length = n := by simp [baseL]
theorem qn_len (j : Nat) (l : List Rot) : (qn j l).length = l.length := by
  induction j with
  | zero => rfl
  | succ j ih => simp [qn, ih]
theorem outsL_len (k j : Nat) : (outsL k j).length = (j + 1) * k := by
  induction j with
  | zero => simp [outsL, baseL_len]
  | succ j ih =>
    unfold outsL
    rw [List.length_append, ih, qn_len, baseL_len, Nat.add_mul (j + 1) 1 k]; omega
theorem tanL_sz {k i : Nat} (hk : 0 < k) (hk2 : k ≤ 16) (hi : i ≤ 16) : (tanL k i).Sz 60 := by
  have : Fw.Sz (Rat.divInt (i : Int) (k : Int)) 6 := by
    rw [divInt_pos (by omega)]
    exact Sz.of (by omega) (by omega) (by omega)
  exact (Rot.Sz.ofT this).mono (by decide)
theorem base_sz {k n : Nat} (hk : 0 < k) (hk2 : k ≤ 16) (hn : n ≤ 16) : ∀ r ∈ baseL k n, r.Sz 60 := by
  intro r hr
  obtain ⟨i, hi, rfl⟩ := List.mem_map.1 hr
  have := List.mem_range.1 hi
  exact tanL_sz hk hk2 (by omega)
theorem qn_sz {l : List Rot} (h : ∀ r ∈ l, r.Sz 60) : ∀ j, ∀ r ∈ qn j l, r.Sz 60 := by
  intro j
  induction j with
  | zero => exact h
  | succ j ih =>
    intro r hr
    obtain ⟨x, hx, rfl⟩ := List.mem_map.1 hr
    exact ⟨(ih x hx).s.neg, (ih x hx).c⟩
theorem row1 (T : Heap) (r : RR) : aBuildSlice tt T 22 1 [(0, r.val)] = some (.slice (some ⟨T.length, 0, none⟩) 1 1, T ++ [⟨r.cells, 6, true⟩]) := rfl
theorem row1_at (T : Heap) (r : RR) : ElAt 6 (T ++ [⟨r.cells, 6, true⟩]) T.length 0 1 [r.cells] :=
  ⟨.inr (by simp), by decide, fun x hx => by simp at hx; subst hx; rfl, ⟨_, by simp; rfl, rfl, by simp [RR.cells], by simp [RR.cells]⟩, rfl⟩
theorem append_R {T : Heap} {b : Nat} {l : List RR} (r : RR) (h : OwnR T b l) (hl : l.length ≤ 100000) :
    ∃ T', aAppend tt (T ++ [⟨r.cells, 6, true⟩]) [22, 22] (.slice (some ⟨b, 0, none⟩) l.length 0) (.slice (some ⟨T.length, 0, none⟩) 1 1) = some (.slice (some ⟨T.length + 1, 0, none⟩) (l.length + 1) 0, T') ∧ OwnR T' (T.length + 1) (l ++ [r]) ∧ T' = (T ++ [(⟨r.cells, 6, true⟩ : Blk)]).set b deadBlk ++ [⟨((l ++ [r]).map RR.cells).flatten, 6, true⟩] := by
  have hb := h.lt
  have := append_own (T := T ++ [⟨r.cells, 6, true⟩]) tt22 tt26 rfl (by decide) (by decide) (Own.app h [⟨r.cells, 6, true⟩]) (row1_at T r) (by simp) (by simp; omega)
  simp only [List.length_map, List.length_cons, List.length_nil, List.length_append, Nat.zero_add] at this
  refine ⟨_, this, ?_, ?_⟩
  · have h2 := OwnR.new ((T ++ [(⟨r.cells, 6, true⟩ : Blk)]).set b deadBlk) (l ++ [r])
    simp only [List.length_set, List.length_append, List.length_cons, List.length_nil, Nat.zero_add, List.map_append, List.map_cons, List.map_nil] at h2
    exact h2
  · simp only [List.map_append, List.map_cons, List.map_nil]
theorem append_R0 {T : Heap} (r : RR) :
    ∃ T', aAppend tt (T ++ [⟨r.cells, 6, true⟩]) [22, 22] (.slice none 0 0) (.slice (some ⟨T.length, 0, none⟩) 1 1) = some (.slice (some ⟨T.length + 1, 0, none⟩) 1 0, T') ∧ OwnR T' (T.length + 1) [r] ∧ Ext T T' := by
  have := append_none (T := T ++ [⟨r.cells, 6, true⟩]) tt22 tt26 rfl (by decide) (by decide) (row1_at T r) (by simp) (by simp)
  simp only [List.length_cons, List.length_nil, List.length_append, Nat.zero_add] at this
  refine ⟨_, this, ?_, ?_⟩
  · have h2 := OwnR.new (T ++ [(⟨r.cells, 6, true⟩ : Blk)]) [r]
    simp only [List.length_append, List.length_cons, List.length_nil, Nat.zero_add, List.map_cons, List.map_nil] at h2
    exact h2
  · exact (Ext.app _ _).trans (.app _ _)
theorem append_RR {T : Heap} {b : Nat} {l m : List RR} {bx ix cx : Nat} (h : OwnR T b l) (hx : ElAt 6 T bx ix cx (m.map RR.cells)) (h0 : m ≠ []) (hl : l.length + m.length ≤ 100000) :
    ∃ T', aAppend tt T [22, 22] (.slice (some ⟨b, 0, none⟩) l.length 0) (.slice (some ⟨bx, ix, none⟩) m.length cx) = some (.slice (some ⟨T.length, 0, none⟩) (l.length + m.length) 0, T') ∧ OwnR T' T.length (l ++ m) ∧ T' = T.set b deadBlk ++ [⟨((l ++ m).map RR.cells).flatten, 6, true⟩] := by
  have := append_own tt22 tt26 rfl (by decide) (by decide) h hx (by simpa using h0) (by simp; omega)
  simp only [List.length_map] at this
  refine ⟨_, this, ?_, ?_⟩
  · have h2 := OwnR.new (T.set b deadBlk) (l ++ m)
    simp only [List.length_set, List.map_append] at h2
    exact h2
  · simp only [List.map_append]
def mixL (A : List Rot) (i : Nat) : List Rot := (A.map Rot.qt).take i ++ A.drop i
theorem mixL_zero (A : List Rot) : mixL A 0 = A := by simp [mixL]
theorem mixL_all (A : List Rot) : mixL A A.length = A.map Rot.qt := by
  unfold mixL
  rw [List.drop_length, List.append_nil, List.take_of_length_le (by simp)]
theorem mixL_len (A : List Rot) {i : Nat} (hi : i ≤ A.length) : (mixL A i).length = A.length := by simp [mixL]; omega
theorem mixL_at {A : List Rot} {i : Nat} (hi : i < A.length) : (mixL A i)[i]'(by rw [mixL_len A (by omega)]; exact hi) = A[i] := by
  unfold mixL
  rw [List.getElem_append_right (by simp; omega)]
  simp only [List.getElem_drop]
  congr 1
  simp; omega
theorem mixL_set {A : List Rot} {i : Nat} (hi : i < A.length) : (mixL A i).set i (Rot.qt A[i]) = mixL A (i + 1) := by
  unfold mixL
  rw [List.set_append_right _ _ (by simp; omega)]
  have e : i - ((A.map Rot.qt).take i).length = 0 := by simp; omega
  rw [e, List.drop_eq_getElem_cons hi, List.set_cons_zero, List.take_add_one, List.getElem?_map, List.getElem?_eq_getElem hi]
  simp
theorem ListS (H : Heap) {k : Nat} (h0 : 0 < k) (h16 : k ≤ 16) : ∃ w H', Sim Tryz.prog 12 #[.int .i64 (k : Nat)] H w H' ∧ Ext H H' ∧ ∃ b, H.length ≤ b ∧ w = .tuple #[.slice (some ⟨b, 0, none⟩) (4 * k) 0, .int .i64 0] ∧ OwnR H' b ((outsL k 3).map RR.of) := by
  have h1 : ¬ (k : Int) < 1 := by omega
  have h2 : ¬ 16 < (k : Int) := by omega
  refine sim_ex tok mixed Tryz.func12 rfl (by kernel_rfl) (by kernel_rfl) (by simp only [Tryz.ntmps12, List.size_toArray, List.length_cons, List.length_nil]; omega) ?_
  simp -implicitDefEqProofs only [go_sem, simprocAttr, wa_cond, axC_t, axC_f, h1, h2]
  refine ax_midl (fun s T => ∃ b, H.length ≤ b ∧ s 4 = .func (.func 43) #[] #[] ∧ s 5 = .slice (some ⟨b, 0, none⟩) k 0 ∧ OwnR T b ((baseL k k).map RR.of) ∧ Ext H T) ?_ ?_
  · refine ax_loopx (fun (i : Nat) s T => s 0 = .int .i64 (k : Nat) ∧ s 4 = .func (.func 43) #[] #[] ∧ s 18 = .int .i64 (k : Nat) ∧ s 19 = .int .i64 (i : Nat) ∧ i ≤ k ∧ Ext H T ∧
      ((i = 0 ∧ s 5 = .slice none 0 0) ∨ ∃ b, 0 < i ∧ H.length ≤ b ∧ s 5 = .slice (some ⟨b, 0, none⟩) i 0 ∧ OwnR T b ((baseL k i).map RR.of))) (fun i => k - i) 0 ?_ ?_
    · simp -implicitDefEqProofs only [go_sem, simprocAttr]
      exact ⟨.refl _, .inl trivial⟩
    rintro i s T ⟨s0, s4, s18, s19, hi, hE, h5⟩
    simp -implicitDefEqProofs only [go_sem, simprocAttr, s18, s19]
    refine ax_cond2 ?_
    simp only [ev_tmp, ev_const, ev_func, upd_at, put_some, put_none, bndB_bool, Nat.reduceEqDiff, if_true, if_false, ↓reduceIte, reduceCtorEq]
    refine ⟨fun hc0 => have hlt := of_decide_eq_true hc0; ?_, fun hc0 => have hlt := of_decide_eq_false hc0; ?_⟩
    · have hik : i < k := by omega
      have o1 := fun H => ratioI_sim H (n := (i : Int)) (d := (k : Int)) (by omega) (by omega) (by omega) (by omega)
      simp only [show ¬ (k : Int) = 0 by omega, if_false] at o1
      have hsz : Fw.Sz (Rat.divInt (i : Int) (k : Int)) 6 := by
        rw [divInt_pos (by omega)]
        exact Sz.of (by omega) (by omega) (by omega)
      have o2 := fun H => OfR H hsz.qv (by omega)
      have et : Rot.ofT (Rat.divInt (i : Int) (k : Int)) = tanL k i := rfl
      rw [et] at o2
      have w1 : IntKind.i64.wrap ((i : Int) + 1) = ((i + 1 : Nat) : Int) := by rw [w64 (by omega) (by omega)]; rfl
      have hbase : (baseL k (i + 1)).map RR.of = (baseL k i).map RR.of ++ [RR.of (tanL k i)] := by simp [baseL, List.range_succ]
      generalize Rat.divInt (i : Int) (k : Int) = q at *
      simp -implicitDefEqProofs only [go_sem, simprocAttr, s0, s19]
      refine wl_callV _ (by simp -implicitDefEqProofs only [go_sem, simprocAttr]) (o1 _) ?_
      simp -implicitDefEqProofs only [go_sem, simprocAttr, mkQ, qV]
      refine wl_callV _ (by simp -implicitDefEqProofs only [go_sem, simprocAttr, mkQ, qV]) (o2 _) ?_
      generalize RR.of (tanL k i) = r at *
      simp -implicitDefEqProofs only [go_sem, simprocAttr, row1]
      obtain ⟨cQ, hcQ⟩ : ∃ c : Blk, c = ⟨[.bool (decide (q.num < 0)), .string (bs (digB q.num.natAbs)), .string (bs (denB q.den))], 1, true⟩ := ⟨_, rfl⟩
      rw [← hcQ]
      clear hcQ o1 o2
      rcases h5 with ⟨rfl, h5⟩ | ⟨b, hi0, hb, h5, hown⟩
      · obtain ⟨T', happ, ho', hE'⟩ := append_R0 (T := T ++ [cQ]) r
        simp only [List.append_assoc, List.cons_append, List.nil_append, List.length_append, List.length_cons, List.length_nil, Nat.zero_add] at happ ho' hE'
        rw [h5]
        have hE2 : Ext H T' := hE.trans ((Ext.app T [cQ]).trans hE')
        clear hE'
        generalize T ++ [cQ, (⟨r.cells, 6, true⟩ : Blk)] = T1 at happ ⊢
        simp -implicitDefEqProofs only [go_sem, simprocAttr, happ, s0, s4, s18, s19, w1]
        refine ⟨1, ⟨rfl, by omega, hE2, .inr ⟨_, by decide, ?_, rfl, ?_⟩⟩, by omega⟩
        · have := hE.len; omega
        · rw [hbase]; exact ho'
      · have hl : ((baseL k i).map RR.of).length = i := by rw [List.length_map, baseL_len]
        obtain ⟨T', happ, ho', hT'⟩ := append_R (T := T ++ [cQ]) r (Own.app hown [cQ]) (by rw [hl]; omega)
        rw [hl] at happ
        simp only [List.append_assoc, List.cons_append, List.nil_append, List.length_append, List.length_cons, List.length_nil, Nat.zero_add] at happ ho' hT'
        have hE2 : Ext H T' := by
          rw [hT']
          exact ((hE.trans (.app _ _)).set hb _).trans (.app _ _)
        clear hT'
        rw [h5]
        generalize T ++ [cQ, (⟨r.cells, 6, true⟩ : Blk)] = T1 at happ ⊢
        simp -implicitDefEqProofs only [go_sem, simprocAttr, happ, s0, s4, s18, s19, w1]
        refine ⟨i + 1, ⟨rfl, by omega, hE2, .inr ⟨_, by omega, ?_, rfl, ?_⟩⟩, by omega⟩
        · have := hE.len; omega
        · rw [hbase]; exact ho'
    · have hik : i = k := by omega
      subst hik
      rcases h5 with ⟨h, _⟩ | ⟨b, hi0, hb, h5, hown⟩
      · omega
      · simp -implicitDefEqProofs only [go_sem, simprocAttr, s4, h5]
        exact ⟨b, hb, rfl, hown, hE⟩
  rintro s T ⟨b, hb, s4, s5, hown, hE⟩
  have hbl : ((baseL k k).map RR.of).length = k := by rw [List.length_map, baseL_len]
  have hne : (baseL k k).map RR.of ≠ [] := fun h => by rw [h] at hbl; simp at hbl; omega
  have hcl := cloneR T (hown.at (c := 0) (.inl rfl)) hne (by omega)
  rw [hbl] at hcl
  simp -implicitDefEqProofs only [go_sem, simprocAttr, s5]
  refine wl_callT _ (by simp -implicitDefEqProofs only [go_sem, simprocAttr, s5]) hcl ?_
  rintro _ T1 hE1 ⟨b1, hb1, rfl, hown1⟩
  have hownb : OwnR T1 b ((baseL k k).map RR.of) := by obtain ⟨G, rfl⟩ := hE1; exact hown.app G
  have hE2 := hE.trans hE1
  have hbT := hown.lt
  clear hcl hown hE hE1
  simp -implicitDefEqProofs only [go_sem, simprocAttr, s4, s5]
  have hneb : b ≠ b1 := by omega
  refine ax_loopx (fun (j : Nat) s T => ∃ b1, H.length ≤ b1 ∧ b ≠ b1 ∧ s 4 = .func (.func 43) #[] #[] ∧ s 5 = .slice (some ⟨b, 0, none⟩) k 0 ∧ s 9 = .slice (some ⟨b1, 0, none⟩) ((j + 1) * k) 0 ∧ s 36 = .int .i64 (j : Nat) ∧ j ≤ 3 ∧
    OwnR T b ((qn j (baseL k k)).map RR.of) ∧ OwnR T b1 ((outsL k j).map RR.of) ∧ Ext H T) (fun j => 3 - j) 0 ?_ ?_
  · refine ⟨b1, ?_⟩
    simp -implicitDefEqProofs only [go_sem, simprocAttr, s4, s5]
    refine ⟨by omega, hneb, by rw [Nat.one_mul], hownb, hown1, hE2⟩
  clear s4 s5 hownb hown1 hE2 hbT hb1 hneb b1 T1 hne hbl
  rintro j s T ⟨b1, hb1, hneb, s4, s5, s9, s36, hj, hA, hO, hE⟩
  simp -implicitDefEqProofs only [go_sem, simprocAttr, s36]
  have hlA : (qn j (baseL k k)).length = k := by rw [qn_len, baseL_len]
  have hszA := qn_sz (base_sz h0 h16 h16 : ∀ r ∈ baseL k k, r.Sz 60) j
  have hnext : qn (j + 1) (baseL k k) = (qn j (baseL k k)).map Rot.qt := rfl
  have houts : outsL k (j + 1) = outsL k j ++ (qn j (baseL k k)).map Rot.qt := rfl
  have hlO := outsL_len k j
  refine ax_cond2 ?_
  simp only [ev_tmp, ev_const, ev_func, upd_at, put_some, put_none, bndB_bool, Nat.reduceEqDiff, if_true, if_false, ↓reduceIte, reduceCtorEq]
  refine ⟨fun hc0 => have hlt := of_decide_eq_true hc0; ?_, fun hc0 => have hlt := of_decide_eq_false hc0; ?_⟩
  · have hj3 : j < 3 := by omega
    generalize outsL k j = O at *
    generalize qn j (baseL k k) = A at *
    have aL : ∀ c, aLen tt [22] (.slice (some ⟨b, 0, none⟩) k c) = some (.int .i64 (k : Nat)) := fun _ => rfl
    simp -implicitDefEqProofs only [go_sem, simprocAttr, s5, aL]
    refine ax_midl (fun s T => s 4 = .func (.func 43) #[] #[] ∧ s 5 = .slice (some ⟨b, 0, none⟩) k 0 ∧ s 9 = .slice (some ⟨b1, 0, none⟩) ((j + 1) * k) 0 ∧ s 36 = .int .i64 (j : Nat) ∧ OwnR T b ((A.map Rot.qt).map RR.of) ∧ OwnR T b1 (O.map RR.of) ∧ Ext H T) ?_ ?_
    · refine ax_loopx (fun (i : Nat) s T => s 4 = .func (.func 43) #[] #[] ∧ s 5 = .slice (some ⟨b, 0, none⟩) k 0 ∧ s 9 = .slice (some ⟨b1, 0, none⟩) ((j + 1) * k) 0 ∧ s 36 = .int .i64 (j : Nat) ∧ s 38 = .slice (some ⟨b, 0, none⟩) k 0 ∧ s 39 = .int .i64 (k : Nat) ∧ s 40 = .int .i64 (i : Nat) ∧ i ≤ k ∧
        OwnR T b ((mixL A i).map RR.of) ∧ OwnR T b1 (O.map RR.of) ∧ Ext H T) (fun i => k - i) 0 ?_ ?_
      · simp -implicitDefEqProofs only [go_sem, simprocAttr, s4, s5, s9, s36]
        exact ⟨by rw [mixL_zero]; exact hA, hO, hE⟩
      clear s4 s5 s9 s36 hA hO hE
      rintro i s T ⟨s4, s5, s9, s36, s38, s39, s40, hi, hA, hO, hE⟩
      simp -implicitDefEqProofs only [go_sem, simprocAttr, s39, s40]
      refine ax_cond2 ?_
      simp only [ev_tmp, ev_const, ev_func, upd_at, put_some, put_none, bndB_bool, Nat.reduceEqDiff, if_true, if_false, ↓reduceIte, reduceCtorEq]
      refine ⟨fun hc0 => have hik := of_decide_eq_true hc0; ?_, fun hc0 => have hik := of_decide_eq_false hc0; ?_⟩
      · have hiA : i < A.length := by omega
        have hml := mixL_len A (i := i) (by omega)
        have hr := (hA.at (c := 0) (.inl rfl)).rdR (j := i) (by simp; omega)
        have hel : ((mixL A i).map RR.of)[i]'(by simp; omega) = RR.of A[i] := by rw [List.getElem_map, mixL_at hiA]
        rw [hel] at hr
        have hset : ((mixL A i).map RR.of).set i (RR.of (Rot.qt A[i])) = (mixL A (i + 1)).map RR.of := by rw [← mixL_set hiA, List.map_set]
        have o1 := fun H => quarterS H (hszA _ (List.getElem_mem hiA)) (by decide)
        generalize A[i] = x at *
        have hnn : (0 : Int) ≤ (i : Int) := by omega
        have hlt2 : (i : Int) < (k : Int) := by omega
        have w1 : IntKind.i64.wrap ((i : Int) + 1) = ((i + 1 : Nat) : Int) := by rw [w64 (by omega) (by omega)]; rfl
        simp only [Nat.zero_add] at hr
        unfold RR.cells at hr
        unfold RR.val rV at o1
        simp -implicitDefEqProofs only [go_sem, simprocAttr, s38, s40, aIndexAddr, hnn, hlt2, hr, s4, s5]
        refine wl_callO _ (by simp -implicitDefEqProofs only [go_sem, simprocAttr, s4]) _ (by simp -implicitDefEqProofs only [go_sem, simprocAttr]) (o1 _) ?_
        obtain ⟨cB, hcB⟩ : ∃ c : Blk, c = ⟨[.bool (RR.of x).g, .string (bs (RR.of x).n), .string (bs (RR.of x).d), .bool (RR.of x).g', .string (bs (RR.of x).n'), .string (bs (RR.of x).d')], 1, true⟩ := ⟨_, rfl⟩
        rw [← hcB]
        clear hcB hr o1
        have hw := Own.wr (T := T ++ [cB]) (Own.app hA [cB]) (j := i) (by simp; omega) (x := (RR.of (Rot.qt x)).cells) rfl rfl
        have hA2 := Own.set (T := T ++ [cB]) (Own.app hA [cB]) (j := i) (x := (RR.of (Rot.qt x)).cells) rfl rfl
        have hO2 : OwnR ((T ++ [cB]).set b ⟨((((mixL A i).map RR.of).map RR.cells).set i (RR.of (Rot.qt x)).cells).flatten, 6, true⟩) b1 (O.map RR.of) := Own.other (Own.app hO [cB]) hneb _
        have hE2 := (hE.trans (Ext.app T [cB])).set hb ⟨((((mixL A i).map RR.of).map RR.cells).set i (RR.of (Rot.qt x)).cells).flatten, 6, true⟩
        have hlist : (((mixL A i).map RR.of).map RR.cells).set i (RR.of (Rot.qt x)).cells = ((mixL A (i + 1)).map RR.of).map RR.cells := by rw [← hset, List.map_set]
        rw [hlist] at hw hA2 hO2 hE2
        generalize (T ++ [cB]).set b ⟨(((mixL A (i + 1)).map RR.of).map RR.cells).flatten, 6, true⟩ = T2 at *
        unfold RR.cells at hw
        simp -implicitDefEqProofs only [go_sem, simprocAttr, s4, s5, s9, s36, s38, s39, s40, aIndexAddr, hnn, hlt2, hw, w1]
        exact ⟨i + 1, ⟨rfl, by omega, hA2, hO2, hE2⟩, by omega⟩
      · have hik2 : i = A.length := by omega
        simp -implicitDefEqProofs only [go_sem, simprocAttr, s4, s5, s9, s36]
        refine ⟨?_, hO, hE⟩
        rw [hik2, mixL_all] at hA
        exact hA
    clear s4 s5 s9 s36 hA hO hE
    rintro s T ⟨s4, s5, s9, s36, hA, hO, hE⟩
    have hlA2 : ((A.map Rot.qt).map RR.of).length = k := by simp [hlA]
    have hlO2 : (O.map RR.of).length = (j + 1) * k := by simp [hlO]
    have hjk : (j + 1) * k ≤ 3 * 16 := Nat.mul_le_mul (by omega) h16
    obtain ⟨T', happ, hO', hT'⟩ := append_RR hO (hA.at (c := 0) (.inl rfl)) (fun h => by rw [h] at hlA2; simp at hlA2; omega) (by omega)
    rw [hlA2, hlO2] at happ
    have hbT := hA.lt
    have hA' : OwnR T' b ((A.map Rot.qt).map RR.of) := by rw [hT']; exact Own.app (Own.other hA (by omega) _) _
    have hE' : Ext H T' := by rw [hT']; exact (hE.set hb1 _).trans (.app _ _)
    have hTl := hE.len
    have w1 : IntKind.i64.wrap ((j : Int) + 1) = ((j + 1 : Nat) : Int) := by rw [w64 (by omega) (by omega)]; rfl
    have hmul : (j + 1) * k + k = (j + 1 + 1) * k := by rw [Nat.add_mul (j + 1) 1 k]; omega
    rw [hmul] at happ
    simp -implicitDefEqProofs only [go_sem, simprocAttr, s4, s5, s9, s36, happ, w1]
    refine ⟨j + 1, ⟨T.length, hTl, by omega, rfl, rfl, by omega, ?_, ?_, hE'⟩, by omega⟩
    · rw [hnext]; exact hA'
    · rw [houts, List.map_append]; exact hO'
  · have hj3 : j = 3 := by omega
    subst hj3
    simp -implicitDefEqProofs only [go_sem, simprocAttr, s9, res12]
    exact ⟨hE, b1, hb1, rfl, hO⟩
end Go.Proofs.YthhmkaikopdmjaaGreat
namespace Go.Proofs.YthhmkaikopdmjaaGreat
open Go Go.Fw
theorem neighboursS (H : Heap) (x : Option Addr) (n c : Nat) : Sim Tryz.prog 65 #[.slice x n c] H (.func (.func 115) #[] #[.pointer (some ⟨H.length, 0, none⟩)]) (H ++ [⟨[.slice x n c], 1, true⟩]) := by
  refine sim_of_ax tok mixed Tryz.func65 rfl (by kernel_rfl) (by kernel_rfl) (by simp only [Tryz.ntmps65, List.size_toArray, List.length_cons, List.length_nil]; omega) ?_
  simp -implicitDefEqProofs only [go_sem, simprocAttr, res65]
def nextR (l : List RR) (i : Nat) : Nat := (i + 1) % l.length
theorem nextR_lt {l : List RR} (h : l ≠ []) (i : Nat) : nextR l i < l.length := Nat.mod_lt _ (List.length_pos_iff.2 h)
theorem neighY {Y : Array Value → Heap → Heap → Prop} {l : List RR} {v : Value} {b0 : Nat} {H : Heap} (Inv : Nat → Heap → Prop) (h2 : 2 ≤ l.length) (hl : l.length ≤ 100000) (h0 : Inv 0 H)
    (hbox : ∀ i T, Inv i T → T[b0]? = some ⟨[v], 1, true⟩ ∧ RL T v l) (happ : ∀ i T B, Inv i T → Inv i (T ++ [B]))
    (hY : ∀ i T, ∀ hi : i < l.length, Inv i T → ∃ T', Y #[l[i].val, (l[nextR l i]'(nextR_lt (fun h => by rw [h] at hi; simp at hi) i)).val] T T' ∧ Inv (i + 1) T') :
    ∃ H1, SimY Tryz.prog 115 Y #[.pointer (some ⟨b0, 0, none⟩)] H H1 ∧ Inv l.length H1 := by
  have hne : l ≠ [] := fun h => by rw [h] at h2; simp at h2
  obtain ⟨G, g0, g1, g2⟩ := chain_ex (Inv := Inv) (n := l.length) (H := H) (Y := fun i T T' => ∀ hi : i < l.length, Y #[l[i].val, (l[nextR l i]'(nextR_lt hne i)).val] T T') (fun i => ⟨(l.getD i ⟨false, [], [], false, [], []⟩).cells, 1, true⟩) h0 happ
    (fun i T hi h => by obtain ⟨T', a, b⟩ := hY i T hi h; exact ⟨T', fun _ => a, b⟩)
  refine ⟨G l.length, ?_, g1 _ (Nat.le_refl _)⟩
  refine simY_of_ax tok mixed Tryz.func115 rfl (by kernel_rfl) (by kernel_rfl) (by simp only [Tryz.ntmps115, List.size_toArray, List.length_cons, List.length_nil]; omega) ?_
  intro y
  have hb := hbox 0 H h0
  obtain ⟨b, i0, c, rfl, hA0⟩ := hb.2.at hne
  have box : ∀ i, i ≤ l.length → ∀ B, rd (G i ++ B) b0 0 1 = some [.slice (some ⟨b, i0, none⟩) l.length c] := by
    intro i hi B
    refine rd_more ?_ B
    have := (hbox i _ (g1 i hi)).1
    unfold rd
    rw [this]; rfl
  have box0 := fun i hi => by simpa using box i hi []
  have hrow : ∀ i, i ≤ l.length → ElAt 6 (G i) b i0 c (l.map RR.cells) := by
    intro i hi
    obtain ⟨b', i', c', e, h⟩ := ((hbox i _ (g1 i hi)).2).at hne
    injection e with e1 e2 e3
    injection e1 with e1
    injection e1 with e4 e5
    subst e4 e5 e3
    exact h
  have e1 : aLen tt [22] (.slice (some ⟨b, i0, none⟩) l.length c) = some (.int .i64 (l.length : Nat)) := rfl
  have hnlt : ¬ (l.length : Int) < 2 := by omega
  rw [← g0]
  have bx0 := box0 0 (by omega)
  have eini : (#[Value.func (Fn.yield y) #[] #[]] ++ #[Value.pointer (some ⟨b0, 0, none⟩)] : Array Value) = #[.func (.yield y) #[] #[], .pointer (some ⟨b0, 0, none⟩)] := rfl
  rw [eini]
  simp -implicitDefEqProofs only [go_sem, simprocAttr, bx0, e1]
  refine ax_loopx (fun (i : Nat) s T => s 0 = .func (.yield y) #[] #[] ∧ s 1 = .pointer (some ⟨b0, 0, none⟩) ∧ s 5 = .slice (some ⟨b, i0, none⟩) l.length c ∧ s 6 = .int .i64 (l.length : Nat) ∧ s 7 = .int .i64 (i : Nat) ∧ i ≤ l.length ∧ T = G i) (fun i => l.length - i) 0 ?_ ?_
  · simp -implicitDefEqProofs only [go_sem, simprocAttr]
  rintro i s T ⟨s0, s1, s5, s6, s7, hi, rfl⟩
  simp -implicitDefEqProofs only [go_sem, simprocAttr, s6, s7]
  refine ax_cond2 ?_
  simp only [ev_tmp, ev_const, ev_func, upd_at, put_some, put_none, bndB_bool, Nat.reduceEqDiff, if_true, if_false, ↓reduceIte, reduceCtorEq]
  refine ⟨fun hc0 => have hlt := of_decide_eq_true hc0; ?_, fun hc0 => have hlt := of_decide_eq_false hc0; ?_⟩
  · have hil : i < l.length := by omega
    have hr := (hrow i hi).rdR hil
    have hj := nextR_lt hne i
    have hr2 := fun B => rd_more ((hrow i hi).rdR hj) B
    have hy := g2 i hil hil
    have hgd : l.getD i ⟨false, [], [], false, [], []⟩ = l[i] := by simp [List.getD, List.getElem?_eq_getElem hil]
    rw [hgd] at hy
    have bxi := box0 i hi
    have bxi2 := box i hi
    have m1 : IntKind.i64.wrap ((i : Int) + 1) = ((i + 1 : Nat) : Int) := by rw [w64 (by omega) (by omega)]; rfl
    have m2 : Int.tmod ((i + 1 : Nat) : Int) (l.length : Int) = ((nextR l i : Nat) : Int) := by rw [tmod_nat]; rfl
    have m3 : ¬ (l.length : Int) = 0 := by omega
    have hnn : (0 : Int) ≤ (i : Int) := by omega
    have hlt2 : (i : Int) < (l.length : Int) := by omega
    have hnn2 : (0 : Int) ≤ (nextR l i : Int) := by omega
    have hlt3 : (nextR l i : Int) < (l.length : Int) := by omega
    generalize l[nextR l i] = z at hr2 hy
    generalize l[i] = x at hr hy
    generalize nextR l i = j at m2 hnn2 hlt3 hr2
    unfold RR.cells at hr hr2 hy
    simp -implicitDefEqProofs only [go_sem, simprocAttr, s0, s1, s5, s7, aIndexAddr, hnn, hlt2, hr]
    refine ax_loud (by kernel_rfl) ?_
    simp -implicitDefEqProofs only [go_sem, simprocAttr, s0, s1, s5, s7, aIndexAddr, hnn, hlt2, hnn2, hlt3, hr2, bxi, bxi2, e1, hnlt, m1, m2, m3]
    unfold RR.val rV at hy
    refine wl_yield y _ (by simp -implicitDefEqProofs only [go_sem, simprocAttr, s0]) (by simp -implicitDefEqProofs only [go_sem, simprocAttr]) ⟨rfl, rfl, hy⟩ ?_
    simp -implicitDefEqProofs only [go_sem, simprocAttr, wa_cond, axC_t, axC_f, s0, s1, s5, s6, s7, m1]
    exact ⟨i + 1, ⟨rfl, by omega, rfl⟩, by omega⟩
  · have : i = l.length := by omega
    subst this
    simp -implicitDefEqProofs only [go_sem, simprocAttr]
    exact ⟨[], rfl, rfl⟩
end Go.Proofs.YthhmkaikopdmjaaGreat
namespace Go.Proofs.YthhmkaikopdmjaaGreat
open Go Go.Fw
theorem leq_cmp {a b : RR} (ha : a.err = 0) (hb : b.err = 0) : a.leq b ↔ ¬ cmpS b a < 0 := by rw [cmpS_ok hb ha]; rfl
theorem insertionS (T0 : Heap) {b : Nat} {L0 : List RR} {k c lo hi : Nat} (hown : OwnR T0 b L0) (hle : ∀ r ∈ L0, r.le k) (hk : k ≤ 19000) (hok : ∀ r ∈ L0, r.err = 0) (hlo : lo ≤ hi) (hhi : hi ≤ L0.length) (hlen : L0.length ≤ 1000000) :
    ∃ L, Sim Tryz.prog 177 #[.slice (some ⟨b, 0, none⟩) L0.length c, .int .i64 (lo : Nat), .int .i64 (hi : Nat), .func (.func 54) #[] #[]] T0 (.tuple #[]) (putR T0 b L) ∧ Within L0 L lo hi ∧ SrtTo RR.leq L lo hi := by
  suffices hx : ∃ w H', Sim Tryz.prog 177 #[.slice (some ⟨b, 0, none⟩) L0.length c, .int .i64 (lo : Nat), .int .i64 (hi : Nat), .func (.func 54) #[] #[]] T0 w H' ∧ w = .tuple #[] ∧ ∃ L, H' = putR T0 b L ∧ Within L0 L lo hi ∧ SrtTo RR.leq L lo hi by
    obtain ⟨w, H', h1, rfl, L, rfl, h2⟩ := hx
    exact ⟨L, h1, h2⟩
  have hb := hown.lt
  have a1 : IntKind.i64.wrap ((lo : Int) + 1) = ((lo + 1 : Nat) : Int) := by rw [w64 (by omega) (by omega)]; rfl
  have hself := putR_self hown
  refine sim_ex tok mixed Tryz.func177 rfl (by kernel_rfl) (by kernel_rfl) (by simp only [Tryz.ntmps177, List.size_toArray, List.length_cons, List.length_nil]; omega) ?_
  simp -implicitDefEqProofs only [go_sem, simprocAttr, a1]
  refine ax_loopx (fun (i : Nat) s T => s 0 = .slice (some ⟨b, 0, none⟩) L0.length c ∧ s 1 = .int .i64 (lo : Nat) ∧ s 2 = .int .i64 (hi : Nat) ∧ s 3 = .func (.func 54) #[] #[] ∧ s 8 = .int .i64 (i : Nat) ∧ lo + 1 ≤ i ∧ i ≤ hi + 1 ∧
    ∃ L, T = putR T0 b L ∧ Within L0 L lo hi ∧ SrtTo RR.leq L lo i) (fun i => hi + 1 - i) (lo + 1) ?_ ?_
  · simp -implicitDefEqProofs only [go_sem, simprocAttr]
    exact ⟨by omega, L0, hself.symm, .refl _ _ _, .one _ (by omega)⟩
  rintro i s T ⟨s0, s1, s2, s3, s8, hi1, hi2, L, rfl, hw, hs⟩
  simp -implicitDefEqProofs only [go_sem, simprocAttr, s2, s8]
  refine ax_cond2 ?_
  simp only [ev_tmp, ev_const, ev_func, upd_at, put_some, put_none, bndB_bool, Nat.reduceEqDiff, if_true, if_false, ↓reduceIte, reduceCtorEq]
  refine ⟨fun hc0 => have hlt := of_decide_eq_true hc0; ?_, fun hc0 => have hlt := of_decide_eq_false hc0; ?_⟩
  · have hih : i < hi := by omega
    simp -implicitDefEqProofs only [go_sem, simprocAttr, s8]
    refine ax_midl2 (fun s T => s 0 = .slice (some ⟨b, 0, none⟩) L0.length c ∧ s 1 = .int .i64 (lo : Nat) ∧ s 2 = .int .i64 (hi : Nat) ∧ s 3 = .func (.func 54) #[] #[] ∧ s 8 = .int .i64 (i : Nat) ∧
      ∃ L, T = putR T0 b L ∧ Within L0 L lo hi ∧ SrtTo RR.leq L lo (i + 1)) ?_ ?_
    · refine ax_loopx (fun (j : Nat) s T => s 0 = .slice (some ⟨b, 0, none⟩) L0.length c ∧ s 1 = .int .i64 (lo : Nat) ∧ s 2 = .int .i64 (hi : Nat) ∧ s 3 = .func (.func 54) #[] #[] ∧ s 8 = .int .i64 (i : Nat) ∧ s 9 = .int .i64 (j : Nat) ∧ lo ≤ j ∧ j ≤ i ∧
        ∃ L, T = putR T0 b L ∧ Within L0 L lo hi ∧ InsI RR.leq L lo i j) (fun j => j) i ?_ ?_
      · simp -implicitDefEqProofs only [go_sem, simprocAttr, s0, s1, s2, s3, s8]
        exact ⟨by omega, L, rfl, hw, hs.ins⟩
      clear s0 s1 s2 s3 s8 hw hs hself a1
      clear L
      rintro j s T ⟨s0, s1, s2, s3, s8, s9, hj1, hj2, L, rfl, hw, hs⟩
      have hLl := hw.len
      have hoL := hw.oks hok
      have hlL := hw.oks hle
      have ho := putR_own T0 L hb
      simp -implicitDefEqProofs only [go_sem, simprocAttr]
      refine ax_quiet (by kernel_rfl) ?_
      by_cases hjl : lo < j
      · obtain ⟨j, rfl⟩ : ∃ j', j = j' + 1 := ⟨j - 1, by omega⟩
        have hjn : j + 1 < L.length := by omega
        have r1 := (ho.at (c := 0) (.inl rfl)).rdR (j := j + 1) hjn
        have r2 := (ho.at (c := 0) (.inl rfl)).rdR (j := j) (by omega)
        have hcm := fun H => compareS H (hlL _ (List.getElem_mem hjn)) (hlL _ (List.getElem_mem (show j < L.length by omega))) hk
        have g1 : (lo : Int) < ((j + 1 : Nat) : Int) := by omega
        have g2 : (0 : Int) ≤ ((j + 1 : Nat) : Int) := by omega
        have g3 : ((j + 1 : Nat) : Int) < (L0.length : Int) := by omega
        have g4 : (0 : Int) ≤ (j : Int) := by omega
        have g5 : (j : Int) < (L0.length : Int) := by omega
        have m1 : IntKind.i64.wrap (((j + 1 : Nat) : Int) - 1) = (j : Int) := by rw [w64 (by omega) (by omega)]; omega
        have hiff := leq_cmp (hoL _ (List.getElem_mem (show j < L.length by omega))) (hoL _ (List.getElem_mem hjn))
        have hstep := fun hlt => hs.step (by omega) hjn hj2 hlt
        have hstop := fun hle => InsI.stop RR.tot hoL hs hjl hj2 hjn hle
        have htot := RR.lt_leq (hoL _ (List.getElem_mem hjn)) (hoL _ (List.getElem_mem (show j < L.length by omega)))
        have hcr := cmpS_ok (hoL _ (List.getElem_mem hjn)) (hoL _ (List.getElem_mem (show j < L.length by omega)))
        have hww := hw.trans (.swp L j hjn (by omega) (by omega))
        have w1 := ho.wr (j := j + 1) hjn L[j]
        have w2 := (putR_own T0 (L.set (j + 1) L[j]) hb).wr (j := j) (by simp; omega) L[j + 1]
        rw [putR_put] at w1 w2
        have hsw : (L.set (j + 1) L[j]).set j L[j + 1] = swp L j hjn := rfl
        rw [hsw] at w2
        generalize swp L j hjn = L2 at *
        generalize L.set (j + 1) L[j] = L1 at *
        simp only [Nat.add_sub_cancel] at hstop
        generalize L[j] = y at *
        generalize L[j + 1] = x at *
        unfold RR.cells at r1 r2 w1 w2
        unfold RR.val rV at hcm
        simp only [Nat.zero_add] at r1 r2
        simp -implicitDefEqProofs only [go_sem, simprocAttr, s0, s1, s2, s3, s9, aIndexAddr, g1, g2, g3, g4, g5, m1, r1, r2]
        refine wl_callO _ (by simp -implicitDefEqProofs only [go_sem, simprocAttr, s3]) _ (by simp -implicitDefEqProofs only [go_sem, simprocAttr]) (hcm _) ?_
        by_cases hc : cmpS x y < 0
        · simp -implicitDefEqProofs only [go_sem, simprocAttr, wa_cond, axC_t, axC_f, hc]
          refine ax_loud (by kernel_rfl) ?_
          simp -implicitDefEqProofs only [go_sem, simprocAttr, s0, s1, s2, s3, s8, s9, aIndexAddr, g1, g2, g3, g4, g5, m1, r1, r2, w1, w2]
          refine ⟨j, ⟨rfl, by omega, by omega, L2, rfl, hww, hstep (htot (by rw [hcr] at hc; exact hc))⟩, by omega⟩
        · simp -implicitDefEqProofs only [go_sem, simprocAttr, wa_cond, axC_t, axC_f, hc, s0, s1, s2, s3, s8]
          exact ⟨L, rfl, hw, hstop (hiff.2 hc)⟩
      · have : j = lo := by omega
        subst this
        have g1 : ¬ (j : Int) < (j : Int) := by omega
        simp -implicitDefEqProofs only [go_sem, simprocAttr, wa_cond, axC_t, axC_f, s0, s1, s2, s3, s8, s9, g1]
        exact ⟨L, rfl, hw, hs.zero⟩
    clear s0 s1 s2 s3 s8 hw hs hself a1
    clear L
    rintro s T ⟨s0, s1, s2, s3, s8, L, rfl, hw, hs⟩
    have m1 : IntKind.i64.wrap ((i : Int) + 1) = ((i + 1 : Nat) : Int) := by rw [w64 (by omega) (by omega)]; rfl
    simp -implicitDefEqProofs only [go_sem, simprocAttr, s0, s1, s2, s3, s8, m1]
    exact ⟨i + 1, ⟨rfl, by omega, by omega, L, rfl, hw, hs⟩, by omega⟩
  · have hih : hi ≤ i := by omega
    simp -implicitDefEqProofs only [go_sem, simprocAttr]
    refine ⟨[], rfl, rfl, L, rfl, hw, ?_⟩
    exact fun p q h0 h1 h2 hp hq => hs p q h0 h1 (by omega) hp hq
end Go.Proofs.YthhmkaikopdmjaaGreat
namespace Go.Proofs.YthhmkaikopdmjaaGreat
open Go Go.Fw
theorem len64_sim (H : Heap) {x : Nat} (hx : x < 256) : Sim Tryz.prog 186 #[.int .u64 (x : Nat)] H (.int .i64 (bitLen x : Nat)) H := by
  have hbl : bitLen x ≤ 8 := by
    by_cases h : x = 0
    · subst h; decide
    · exact bitLen_le (by omega) hx
  have c3 : (0 : Int) ≤ (x : Int) := by omega
  have c4 : IntKind.u8.wrap (x : Int) = (x : Int) := wu8 (by omega) (by omega)
  have c6 : IntKind.i64.wrap (((UInt8.ofNat (bitLen x)).toNat : Nat) : Int) = (bitLen x : Int) := by
    have : (UInt8.ofNat (bitLen x)).toNat = bitLen x := by simp; omega
    rw [this, w64n (by omega)]
  have c7 : IntKind.i64.wrap (0 + (bitLen x : Int)) = (bitLen x : Int) := by rw [Int.zero_add, w64n (by omega)]
  have key : ∀ (B : ByteArray), (∀ z : Fin 256, B[z.1]? = some (UInt8.ofNat (bitLen z.1))) → B[x]? = some (UInt8.ofNat (bitLen x)) := fun B h => h ⟨x, hx⟩
  have d1 : ¬ ((4294967296 : Int) ≤ (x : Int)) := by omega
  have d2 : ¬ ((65536 : Int) ≤ (x : Int)) := by omega
  have d3 : ¬ ((256 : Int) ≤ (x : Int)) := by omega
  refine sim_of_ax tok mixed Tryz.func186 rfl (by kernel_rfl) (by kernel_rfl) (by simp only [Tryz.ntmps186, List.size_toArray, List.length_cons, List.length_nil]; omega) ?_
  generalize hB : (⟨(List.toArray _)⟩ : ByteArray) = B
  have hg := key B (by rw [← hB]; decide +kernel)
  clear hB key
  simp -implicitDefEqProofs only [go_sem, simprocAttr, wa_cond, axC_t, axC_f, d1, d2, d3, aConv, c3, c4, hg, c6, c7, res186]
theorem len_sim (H : Heap) {x : Nat} (hx : x < 256) : Sim Tryz.prog 119 #[.int .u64 (x : Nat)] H (.int .i64 (bitLen x : Nat)) H := by
  have o1 := fun H => len64_sim H hx
  refine sim_of_ax tok mixed Tryz.func119 rfl (by kernel_rfl) (by kernel_rfl) (by simp only [Tryz.ntmps119, List.size_toArray, List.length_cons, List.length_nil]; omega) ?_
  simp -implicitDefEqProofs only [go_sem, simprocAttr, wa_cond, axC_t, axC_f]
  refine wl_callV _ (by simp -implicitDefEqProofs only [go_sem, simprocAttr]) (o1 _) ?_
  simp -implicitDefEqProofs only [go_sem, simprocAttr, res119]
theorem pdq12 (T0 : Heap) {b : Nat} {L0 : List RR} {k c lo hi : Nat} {z : Int} (hown : OwnR T0 b L0) (hle : ∀ r ∈ L0, r.le k) (hk : k ≤ 19000) (hok : ∀ r ∈ L0, r.err = 0) (hlo : lo ≤ hi) (hhi : hi ≤ L0.length) (hlen : L0.length ≤ 1000000) (h12 : hi - lo ≤ 12) :
    ∃ L, Sim Tryz.prog 118 #[.slice (some ⟨b, 0, none⟩) L0.length c, .int .i64 (lo : Nat), .int .i64 (hi : Nat), .int .i64 z, .func (.func 54) #[] #[]] T0 (.tuple #[]) (putR T0 b L) ∧ Within L0 L lo hi ∧ SrtTo RR.leq L lo hi := by
  obtain ⟨L, o1, hw⟩ := insertionS T0 (c := c) hown hle hk hok hlo hhi hlen
  refine ⟨L, ?_, hw⟩
  have m1 : IntKind.i64.wrap ((hi : Int) - (lo : Int)) = ((hi - lo : Nat) : Int) := by rw [w64 (by omega) (by omega)]; omega
  have m2 : ((hi - lo : Nat) : Int) ≤ 12 := by omega
  refine sim_of_ax tok mixed Tryz.func118 rfl (by kernel_rfl) (by kernel_rfl) (by simp only [Tryz.ntmps118, List.size_toArray, List.length_cons, List.length_nil]; omega) ?_
  simp -implicitDefEqProofs only [go_sem, simprocAttr]
  refine ax_loopx (fun (_ : Unit) s T => s 0 = .slice (some ⟨b, 0, none⟩) L0.length c ∧ s 1 = .int .i64 (lo : Nat) ∧ s 2 = .int .i64 (hi : Nat) ∧ s 4 = .func (.func 54) #[] #[] ∧ T = T0) (fun _ => 0) () ?_ ?_
  · simp -implicitDefEqProofs only [go_sem, simprocAttr]
  rintro _ s T ⟨s0, s1, s2, s4, rfl⟩
  simp -implicitDefEqProofs only [go_sem, simprocAttr, wa_cond, axC_t, axC_f, s0, s1, s2, s4, m1, m2]
  refine wl_callF _ (by simp -implicitDefEqProofs only [go_sem, simprocAttr]) o1 (fun h => by cases h) ?_
  simp -implicitDefEqProofs only [go_sem, simprocAttr]
  first | rfl | exact ⟨[], rfl, rfl, rfl⟩
theorem sort12 (T0 : Heap) {b : Nat} {L0 : List RR} {k c : Nat} (hown : OwnR T0 b L0) (hle : ∀ r ∈ L0, r.le k) (hk : k ≤ 19000) (hok : ∀ r ∈ L0, r.err = 0) (h12 : L0.length ≤ 12) :
    ∃ L, Sim Tryz.prog 67 #[.slice (some ⟨b, 0, none⟩) L0.length c, .func (.func 54) #[] #[]] T0 (.tuple #[]) (putR T0 b L) ∧ L.Perm L0 ∧ L.Pairwise RR.leq := by
  obtain ⟨L, o1, hw, hs⟩ := pdq12 T0 (c := c) (z := (bitLen L0.length : Nat)) hown hle hk hok (Nat.zero_le _) (Nat.le_refl _) (by omega) (by omega)
  refine ⟨L, ?_, hw.perm, ?_⟩
  · have e1 : aLen tt [22] (.slice (some ⟨b, 0, none⟩) L0.length c) = some (.int .i64 (L0.length : Nat)) := rfl
    have o2 := fun H => len_sim H (x := L0.length) (by omega)
    have c1 : IntKind.u64.wrap (L0.length : Int) = (L0.length : Int) := wu64n (by omega)
    refine sim_of_ax tok mixed Tryz.func67 rfl (by kernel_rfl) (by kernel_rfl) (by simp only [Tryz.ntmps67, List.size_toArray, List.length_cons, List.length_nil]; omega) ?_
    simp -implicitDefEqProofs only [go_sem, simprocAttr, e1, aConv, c1]
    refine wl_callV _ (by simp -implicitDefEqProofs only [go_sem, simprocAttr]) (o2 _) ?_
    simp -implicitDefEqProofs only [go_sem, simprocAttr]
    refine wl_callF _ (by simp -implicitDefEqProofs only [go_sem, simprocAttr]) o1 (fun h => by cases h) ?_
    simp -implicitDefEqProofs only [go_sem, simprocAttr]
    first | rfl | exact ⟨[], rfl, rfl, rfl⟩
  · rw [← hw.len] at hs
    exact hs.pairwise
end Go.Proofs.YthhmkaikopdmjaaGreat
namespace Go.Proofs.YthhmkaikopdmjaaGreat
open Go Go.Fw
theorem mid_ok {a b : Rot} (ha : a.ok) : (Rot.mid a b).ok := by
  unfold Rot.mid
  split
  · exact Rot.thn_ok ha (by unfold Rot.ok; simp only; grind)
  · exact Rot.thn_ok ha (Rot.ofT_ok _)
theorem mid_sz {a b : RR} {k : Nat} (ha : a.le k) (hb : b.le k) (hk : k ≤ 80) (ea : a.err = 0) (eb : b.err = 0) : (Rot.mid a.rot b.rot).Sz 18000 := by
  have oka := (RR.err_zero.1 ea).2
  have okb := (RR.err_zero.1 eb).2
  have okd : (a.rot.back.thn b.rot).ok := Rot.thn_ok (Rot.back_ok oka) okb
  have zd : (a.rot.back.thn b.rot).Sz (4 * k + 21) := by
    have := ha.bk.sz.thn hb.sz
    rw [RR.bk_rot] at this
    exact this.mono (by omega)
  have hhalf := Rot.half_one okd
  unfold Rot.mid
  generalize hdd : a.rot.back.thn b.rot = d at *
  by_cases hh : d.half = 1
  · rw [if_pos hh]
    have hq0 : (Rot.mk 0 1).Sz 2 := ⟨⟨by decide, by decide⟩, sz_one (by decide)⟩
    exact (ha.sz.thn hq0).mono (by omega)
  · rw [if_neg hh]
    obtain ⟨hs0, hc0, hc1⟩ := hhalf hh
    have hpos : 0 ≤ d.s / (1 + d.c) := by
      rw [Rat.div_def]
      exact Rat.mul_nonneg hs0 (Rat.le_of_lt (Rat.inv_pos.2 hc1))
    have zt := zd.s.div ((sz_one (k := 2) (by decide)).add zd.c) (by omega)
    have z3 := Sz.int (z := 3) (k := 2) (by decide) (by decide)
    rw [show ((3 : Int) : Rat) = 3 from rfl] at z3
    have zth := zt.div z3 (by decide)
    generalize hth : d.s / (1 + d.c) / 3 = th at *
    have hth0 : 0 ≤ th := by
      rw [← hth, Rat.div_def]
      exact Rat.mul_nonneg hpos (Rat.le_of_lt (Rat.inv_pos.2 (by decide)))
    have zs := Sz.smp (a := th) (b := th + th) (k := 16 * k + 100) (by grind) (zth.mono (by omega)) ((zth.add zth).mono (by omega)) (by omega)
    exact (ha.sz.thn (Rot.Sz.ofT zs)).mono (by omega)
def rr0 : RR := ⟨false, [], [], false, [], []⟩
def midsTo (l : List RR) (i : Nat) : List RR := (List.range i).map fun j => RR.of (Rot.mid (l.getD j rr0).rot (l.getD (nextR l j) rr0).rot)
theorem midsTo_len (l : List RR) (i : Nat) : (midsTo l i).length = i := by simp [midsTo]
theorem midsTo_succ (l : List RR) (i : Nat) : midsTo l (i + 1) = midsTo l i ++ [RR.of (Rot.mid (l.getD i rr0).rot (l.getD (nextR l i) rr0).rot)] := by simp [midsTo, List.range_succ]
theorem getD_eq {l : List RR} {i : Nat} (h : i < l.length) : l.getD i rr0 = l[i] := by simp [List.getD, List.getElem?_eq_getElem h]
theorem mids_le {l : List RR} {k i : Nat} (hle : ∀ r ∈ l, r.le k) (hok : ∀ r ∈ l, r.err = 0) (hk : k ≤ 80) (hi : i ≤ l.length) : ∀ r ∈ midsTo l i, r.le 18007 ∧ r.err = 0 := by
  intro r hr
  obtain ⟨j, hj, rfl⟩ := List.mem_map.1 hr
  have hj := List.mem_range.1 hj
  have hjl : j < l.length := by omega
  have hn := nextR_lt (l := l) (fun h => by rw [h] at hjl; simp at hjl) j
  rw [getD_eq hjl, getD_eq hn]
  have m1 := List.getElem_mem hjl
  have m2 := List.getElem_mem hn
  exact ⟨(mid_sz (hle _ m1) (hle _ m2) hk (hok _ m1) (hok _ m2)).le, by rw [RR.err_of, if_pos (mid_ok (RR.err_zero.1 (hok _ m1)).2)]⟩
theorem next_ne {l : List RR} (ho : Ord l) (h2 : 2 ≤ l.length) {i : Nat} (hi : i < l.length) : (l[i]).rot ≠ (l[nextR l i]'(nextR_lt ho.ne i)).rot := by
  have hn := nextR_lt ho.ne i
  have hp := List.pairwise_iff_getElem.1 ho.ord
  have hne : i ≠ nextR l i := by
    unfold nextR
    by_cases h : i + 1 = l.length
    · rw [h, Nat.mod_self]; omega
    · rw [Nat.mod_eq_of_lt (by omega)]; omega
  intro he
  have ok := (RR.err_zero.1 (ho.ok _ (List.getElem_mem hi))).2
  rcases Nat.lt_or_gt_of_ne hne with h | h
  · have := hp i (nextR l i) hi hn h
    rw [← he] at this
    exact Rot.lt_irrefl ok this
  · have := hp (nextR l i) i hn hi h
    rw [← he] at this
    exact Rot.lt_irrefl ok this
theorem wr_cell {T : Heap} {p : Nat} {w v : Value} (h : T[p]? = some ⟨[w], 1, true⟩) (hv : isCell v = true) : wr T p 0 [v] = some (T.set p ⟨[v], 1, true⟩) := by
  rw [wr_eq, h]
  simp [splice, hv, allC_cons, allC_nil]
theorem rd_cell {T : Heap} {p : Nat} {w : Value} (h : T[p]? = some ⟨[w], 1, true⟩) : rd T p 0 1 = some [w] := by
  unfold rd
  rw [h]; rfl
def RefInv (H : Heap) (p : Nat) (v : Value) (l : List RR) (i : Nat) (T : Heap) : Prop :=
  ∃ b', H.length ≤ b' ∧ b' ≠ p ∧ b' ≠ p + 1 ∧ T[p]? = some ⟨[.slice (some ⟨b', 0, none⟩) (l.length + i) 0], 1, true⟩ ∧ T[p + 1]? = some ⟨[v], 1, true⟩ ∧ OwnR T b' (l ++ midsTo l i) ∧ Ext H T
theorem RefineG (H : Heap) {v : Value} {l : List RR} {k : Nat} (hv : RL H v l) (hle : ∀ r ∈ l, r.le k) (hk : k ≤ 80) (ho : Ord l) (h2 : 2 ≤ l.length) (h32 : l.length ≤ 32)
    (hS : ∀ (T : Heap) (b : Nat) (L0 : List RR), OwnR T b L0 → (∀ r ∈ L0, r.le 18007) → (∀ r ∈ L0, r.err = 0) → L0.length = l.length + l.length → ∃ L, Sim Tryz.prog 67 #[.slice (some ⟨b, 0, none⟩) L0.length 0, .func (.func 54) #[] #[]] T (.tuple #[]) (putR T b L) ∧ L.Perm L0 ∧ L.Pairwise RR.leq) :
    ∃ w H', Sim Tryz.prog 26 #[v] H w H' ∧ Ext H H' ∧ ∃ b L, H.length ≤ b ∧ w = .tuple #[.slice (some ⟨b, 0, none⟩) (2 * l.length) 0, .int .i64 0] ∧ OwnR H' b L ∧ L.Perm (l ++ midsTo l l.length) ∧ L.Pairwise RR.leq := by
  have hne := ho.ne
  have o1 := CheckS H hv hle (by omega) (by omega)
  have hchk := ok_chk ho
  rw [hchk] at o1
  have e1 := hv.len (tt := tt) tt22
  obtain ⟨b, i0, c, rfl, hA⟩ := hv.at hne
  have m1 : IntKind.i64.wrap (2 * (l.length : Int)) = ((2 * l.length : Nat) : Int) := by rw [w64 (by omega) (by omega)]; omega
  have m2 : (1 : Int) < (l.length : Int) := by omega
  have m3 : ¬ (64 : Int) < ((2 * l.length : Nat) : Int) := by omega
  obtain ⟨vc, T1, ocl, hE1, b1, hb1, rfl, hown1⟩ := cloneR H hA hne (by omega)
  refine sim_exT tok mixed Tryz.func26 rfl (by kernel_rfl) (by kernel_rfl) (by simp only [Tryz.ntmps26, List.size_toArray, List.length_cons, List.length_nil]; omega) ?_
  simp -implicitDefEqProofs only [go_sem, simprocAttr, wt_seq, wt_block, wt_region, wt_loop, wt_skip, wt_exit, wt_ret, wt_cond, axCT_t, axCT_f]
  refine wl_callV _ (by simp -implicitDefEqProofs only [go_sem, simprocAttr]) o1 ?_
  simp -implicitDefEqProofs only [go_sem, simprocAttr, wt_seq, wt_block, wt_region, wt_loop, wt_skip, wt_exit, wt_ret, wt_cond, axCT_t, axCT_f, e1, m1, m2, m3]
  refine wl_callF _ (by simp -implicitDefEqProofs only [go_sem, simprocAttr]) ocl (fun h => by cases h) ?_
  simp -implicitDefEqProofs only [go_sem, simprocAttr, wt_seq, wt_block, wt_region, wt_loop, wt_skip, wt_exit, wt_ret, wt_cond, axCT_t, axCT_f]
  have on := neighboursS (T1 ++ [⟨[.slice (some ⟨b1, 0, none⟩) l.length 0], 1, true⟩]) (some ⟨b, i0, none⟩) l.length c
  refine wl_callF _ (by simp -implicitDefEqProofs only [go_sem, simprocAttr]) on (fun h => by cases h) ?_
  simp -implicitDefEqProofs only [go_sem, simprocAttr, wt_seq, wt_block, wt_region, wt_loop, wt_skip, wt_exit, wt_ret, wt_cond, axCT_t, axCT_f]
  have hlen1 := hE1.len
  have hvs : ∀ T, Ext H T → RL T (.slice (some ⟨b, i0, none⟩) l.length c) l := fun T hT => hv.ext hT
  refine axT_range (RefInv H T1.length (.slice (some ⟨b, i0, none⟩) l.length c) l l.length) (by simp -implicitDefEqProofs only [go_sem, simprocAttr]; rfl) (neighY (v := .slice (some ⟨b, i0, none⟩) l.length c) (RefInv H T1.length (.slice (some ⟨b, i0, none⟩) l.length c) l) h2 (by omega) ?_ ?_ ?_ ?_) ?_
  · refine ⟨b1, hb1, ?_, ?_, ?_, ?_, ?_, ?_⟩
    · have := hown1.lt; omega
    · have := hown1.lt; omega
    · simp
    · simp
    · simp only [midsTo, List.range_zero, List.map_nil, List.append_nil]; exact Own.app hown1 _
    · exact hE1.trans (.app _ _)
  · rintro i T ⟨b', g1, g2, g3, g4, g5, g6, g7⟩
    exact ⟨g5, hvs T g7⟩
  · rintro i T B ⟨b', g1, g2, g3, g4, g5, g6, g7⟩
    have l1 := (List.getElem?_eq_some_iff.1 g4).1
    have l2 := (List.getElem?_eq_some_iff.1 g5).1
    exact ⟨b', g1, g2, g3, by rw [List.getElem?_append_left l1]; exact g4, by rw [List.getElem?_append_left l2]; exact g5, Own.app g6 _, g7.trans (.app _ _)⟩
  · rintro i T hi ⟨b', g1, g2, g3, g4, g5, g6, g7⟩
    refine yr_ex rfl ?_
    have hj := nextR_lt hne i
    have mi := List.getElem_mem hi
    have mj := List.getElem_mem hj
    have om := fun H => MiddleR H (hle _ mi) (hle _ mj) (by omega) (ho.ok _ mi) (ho.ok _ mj) (next_ne ho h2 hi)
    have hsucc := midsTo_succ l i
    rw [getD_eq hi, getD_eq hj] at hsucc
    generalize RR.of (Rot.mid l[i].rot l[nextR l i].rot) = m at *
    generalize l[nextR l i] = z at om ⊢
    generalize l[i] = x at om ⊢
    have rp := fun B => rd_more (rd_cell g4) B
    have hlen2 : (l ++ midsTo l i).length = l.length + i := by rw [List.length_append, midsTo_len]
    have hpT := (List.getElem?_eq_some_iff.1 g4).1
    have hpT1 := (List.getElem?_eq_some_iff.1 g5).1
    have hT2 : ∀ B : Heap, ∃ T2, T2 = T ++ B ∧ OwnR T2 b' (l ++ midsTo l i) ∧ T2[T1.length]? = some ⟨[.slice (some ⟨b', 0, none⟩) (l.length + i) 0], 1, true⟩ ∧ T2[T1.length + 1]? = some ⟨[.slice (some ⟨b, i0, none⟩) l.length c], 1, true⟩ ∧ Ext H T2 ∧ T.length ≤ T2.length := fun B =>
      ⟨_, rfl, Own.app g6 _, by rw [List.getElem?_append_left hpT]; exact g4, by rw [List.getElem?_append_left hpT1]; exact g5, g7.trans (.app _ _), by simp⟩
    obtain ⟨T2, hT2, f1, f2, f3, f4, f5⟩ := hT2 [⟨x.cells, 1, true⟩, ⟨z.cells, 1, true⟩, ⟨m.cells, 1, true⟩]
    obtain ⟨T3, happ, ho3, hT3⟩ := append_R m f1 (by rw [hlen2]; omega)
    rw [hlen2] at happ
    have q1 : T3[T1.length]? = some ⟨[.slice (some ⟨b', 0, none⟩) (l.length + i) 0], 1, true⟩ := by
      rw [hT3, List.getElem?_append_left (by simp; omega), List.getElem?_set_ne g2, List.getElem?_append_left (by omega)]; exact f2
    have q2 : T3[T1.length + 1]? = some ⟨[.slice (some ⟨b, i0, none⟩) l.length c], 1, true⟩ := by
      rw [hT3, List.getElem?_append_left (by simp; omega), List.getElem?_set_ne g3, List.getElem?_append_left (by omega)]; exact f3
    have q3 : Ext H T3 := by rw [hT3]; exact ((f4.trans (.app _ _)).set g1 _).trans (.app _ _)
    have hw := wr_cell q1 (v := .slice (some ⟨T2.length + 1, 0, none⟩) (l.length + i + 1) 0) rfl
    have q4 : OwnR (T3.set T1.length ⟨[.slice (some ⟨T2.length + 1, 0, none⟩) (l.length + i + 1) 0], 1, true⟩) (T2.length + 1) (l ++ midsTo l (i + 1)) := by
      rw [hsucc, ← List.append_assoc]; exact Own.other ho3 (by omega) _
    have q5 := q3.set hlen1 ⟨[.slice (some ⟨T2.length + 1, 0, none⟩) (l.length + i + 1) 0], 1, true⟩
    have q6 : (T3.set T1.length ⟨[.slice (some ⟨T2.length + 1, 0, none⟩) (l.length + i + 1) 0], 1, true⟩)[T1.length]? = some ⟨[.slice (some ⟨T2.length + 1, 0, none⟩) (l.length + i + 1) 0], 1, true⟩ := by
      rw [List.getElem?_set_self (List.getElem?_eq_some_iff.1 q1).1]
    have q7 : (T3.set T1.length ⟨[.slice (some ⟨T2.length + 1, 0, none⟩) (l.length + i + 1) 0], 1, true⟩)[T1.length + 1]? = some ⟨[.slice (some ⟨b, i0, none⟩) l.length c], 1, true⟩ := by
      rw [List.getElem?_set_ne (by omega)]; exact q2
    have row := row1 T2 m
    generalize T3.set T1.length ⟨[.slice (some ⟨T2.length + 1, 0, none⟩) (l.length + i + 1) 0], 1, true⟩ = T4 at *
    clear hT3 q1 q2 q3 ho3 f1 f2 f3 f4
    generalize (T2 ++ [(⟨m.cells, 6, true⟩ : Blk)]) = T5 at *
    simp only [RR.cells] at hT2
    unfold RR.val rV at om ⊢
    unfold RR.val rV at row
    simp -implicitDefEqProofs only [go_sem, simprocAttr, putPs_two, mkR]
    refine wl_callV _ (by simp -implicitDefEqProofs only [go_sem, simprocAttr]) (om _) ?_
    simp -implicitDefEqProofs only [go_sem, simprocAttr, rp]
    rw [← hT2]
    clear hT2
    simp -implicitDefEqProofs only [go_sem, simprocAttr, row, happ, hw]
    exact ⟨T2.length + 1, by omega, by omega, by omega, q6, q7, q4, q5⟩
  · rintro T ⟨b', g1, g2, g3, g4, g5, g6, g7⟩
    have rp := rd_cell g4
    have hlen2 : (l ++ midsTo l l.length).length = l.length + l.length := by rw [List.length_append, midsTo_len]
    have hle2 : ∀ r ∈ l ++ midsTo l l.length, r.le 18007 := by
      intro r hr
      rcases List.mem_append.1 hr with hr | hr
      · exact (hle r hr).mono (by omega)
      · exact (mids_le hle ho.ok hk (Nat.le_refl _) r hr).1
    have hok2 : ∀ r ∈ l ++ midsTo l l.length, r.err = 0 := by
      intro r hr
      rcases List.mem_append.1 hr with hr | hr
      · exact ho.ok r hr
      · exact (mids_le hle ho.ok hk (Nat.le_refl _) r hr).2
    obtain ⟨L, os, hperm, hpair⟩ := hS T b' _ g6 hle2 hok2 hlen2
    rw [hlen2] at os
    have rp2 : rd (putR T b' L) T1.length 0 1 = some [.slice (some ⟨b', 0, none⟩) (l.length + l.length) 0] := by
      refine rd_cell ?_
      unfold putR
      rw [List.getElem?_set_ne g2]; exact g4
    simp -implicitDefEqProofs only [go_sem, simprocAttr, wt_seq, wt_block, wt_region, wt_loop, wt_skip, wt_exit, wt_ret, wt_cond, axCT_t, axCT_f, rp]
    refine wl_callF _ (by simp -implicitDefEqProofs only [go_sem, simprocAttr]) os (fun h => by cases h) ?_
    simp -implicitDefEqProofs only [go_sem, simprocAttr, wt_seq, wt_block, wt_region, wt_loop, wt_skip, wt_exit, wt_ret, wt_cond, axCT_t, axCT_f, rp2, res26]
    refine ⟨g7.set g1 _, b', L, g1, by rw [Nat.two_mul], putR_own _ _ (Own.lt g6), hperm, hpair⟩
theorem RefineS (H : Heap) {v : Value} {l : List RR} {k : Nat} (hv : RL H v l) (hle : ∀ r ∈ l, r.le k) (hk : k ≤ 80) (ho : Ord l) (h2 : 2 ≤ l.length) (h6 : l.length ≤ 6) :
    ∃ w H', Sim Tryz.prog 26 #[v] H w H' ∧ Ext H H' ∧ ∃ b L, H.length ≤ b ∧ w = .tuple #[.slice (some ⟨b, 0, none⟩) (2 * l.length) 0, .int .i64 0] ∧ OwnR H' b L ∧ L.Perm (l ++ midsTo l l.length) ∧ L.Pairwise RR.leq :=
  RefineG H hv hle hk ho h2 (by omega) fun T b L0 h1 h2 h3 h4 => sort12 T h1 h2 (by omega) h3 (by omega)
end Go.Proofs.YthhmkaikopdmjaaGreat
namespace Go.Proofs.YthhmkaikopdmjaaGreat
open Go Go.Fw
def rotI (a b c : Int) : Rot := ⟨Rat.divInt a c, Rat.divInt b c⟩
theorem turnS (H : Heap) {a b c : Int} (ha : -1000 ≤ a ∧ a ≤ 1000) (hb : -1000 ≤ b ∧ b ≤ 1000) (hc : 0 < c ∧ c ≤ 1000) : Sim Tryz.prog 20 #[.int .i64 a, .int .i64 b, .int .i64 c] H (RR.of (rotI a b c)).val H := by
  refine flat_ex rfl ?_
  have o1 := fun H => ratioI_sim H (n := a) (d := c) (by omega) (by omega) (by omega) (by omega)
  have o2 := fun H => ratioI_sim H (n := b) (d := c) (by omega) (by omega) (by omega) (by omega)
  simp only [show ¬ c = 0 by omega, if_false] at o1 o2
  rw [RR.of_val]
  unfold rotI
  simp only
  generalize Rat.divInt a c = x at *
  generalize Rat.divInt b c = y at *
  refine sim_ex tok mixed Tryz.func20 rfl (by kernel_rfl) (by kernel_rfl) (by simp only [Tryz.ntmps20, List.size_toArray, List.length_cons, List.length_nil]; omega) ?_
  simp -implicitDefEqProofs only [go_sem, simprocAttr, mkI, iV, mkQ, qV, fV, ofV, rV, mkR]
  refine wl_callV _ (by simp -implicitDefEqProofs only [go_sem, simprocAttr, mkI, iV, mkQ, qV, fV, ofV, rV, mkR]) (o1 _) ?_
  simp -implicitDefEqProofs only [go_sem, simprocAttr, mkI, iV, mkQ, qV, fV, ofV, rV, mkR]
  refine wl_callV _ (by simp -implicitDefEqProofs only [go_sem, simprocAttr, mkI, iV, mkQ, qV, fV, ofV, rV, mkR]) (o2 _) ?_
  simp -implicitDefEqProofs only [go_sem, simprocAttr, mkI, iV, mkQ, qV, fV, ofV, rV, mkR]
  simp -implicitDefEqProofs only [go_sem, simprocAttr, mkI, iV, mkQ, qV, fV, ofV, rV, mkR, res20]
  first | exact .app _ _ | exact ⟨.app _ _, rfl⟩ | exact .refl _ | exact ⟨.refl _, rfl⟩
def enumR : Nat → List RR → List (Nat × Value) | _, [] => [] | i, r :: l => (i, r.val) :: enumR (i + 1) l
theorem fill_rows : ∀ (l done : List RR) (rest : List Value), rest.length = 6 * l.length → fillL (fun i => some (i * 6, 6)) ((done.map RR.cells).flatten ++ rest) (enumR done.length l) = some (((done ++ l).map RR.cells).flatten) := by
  intro l
  induction l with
  | nil =>
    intro done rest h
    have : rest = [] := by simpa using h
    subst this
    simp [enumR, fillL]
  | cons r l ih =>
    intro done rest h
    have hl : ((done.map RR.cells).flatten).length = done.length * 6 := by
      have := flatten_len (k := 6) (RR.cells_all done)
      rw [this, List.length_map, Nat.mul_comm]
    have hlen : rest.length = 6 + 6 * l.length := by rw [h, List.length_cons]; omega
    unfold enumR fillL
    simp only
    have hsz : r.val.cells.size = 6 := rfl
    rw [if_neg (by rw [hsz, List.length_append, hl]; omega)]
    have hsp : splice ((done.map RR.cells).flatten ++ rest) (done.length * 6) r.val.cells.toList = ((done ++ [r]).map RR.cells).flatten ++ rest.drop 6 := by
      unfold splice
      have e : r.val.cells.toList = r.cells := rfl
      rw [e, ← hl, List.take_left, List.drop_append, List.drop_eq_nil_of_le (by omega)]
      simp [RR.cells_len]
    rw [hsp]
    have := ih (done ++ [r]) (rest.drop 6) (by simp; omega)
    rw [List.length_append, List.length_cons, List.length_nil, Nat.zero_add] at this
    rw [this]
    simp
theorem build_rows (T : Heap) (l : List RR) (h : 0 < l.length) (h2 : l.length ≤ 1000) : aBuildSlice tt T 22 l.length (enumR 0 l) = some (.slice (some ⟨T.length, 0, none⟩) l.length l.length, T ++ [⟨(l.map RR.cells).flatten, 6, true⟩]) := by
  have := fill_rows l [] (zerosL (if l.length * 6 = 0 then [] else (Value.agg #[(.bool false), (.string ⟨#[]⟩), (.string ⟨#[]⟩), (.bool false), (.string ⟨#[]⟩), (.string ⟨#[]⟩)]).cells.toList) (l.length * 6)) (by rw [if_neg (by omega)]; simp [zerosL]; omega)
  unfold aBuildSlice
  simp only [tt22, tt26]
  rw [if_pos (by omega)]
  simp only [List.map_nil, List.flatten_nil, List.nil_append, List.length_nil] at this
  rw [this]
theorem row8 (T : Heap) (a b c d e f g h : RR) : aBuildSlice tt T 22 8 [(0, a.val), (1, b.val), (2, c.val), (3, d.val), (4, e.val), (5, f.val), (6, g.val), (7, h.val)] = some (.slice (some ⟨T.length, 0, none⟩) 8 8, T ++ [⟨([a, b, c, d, e, f, g, h].map RR.cells).flatten, 6, true⟩]) :=
  build_rows T [a, b, c, d, e, f, g, h] (by simp) (by simp)
def wantL : List Rot := [rotI 1 0 1, rotI 3 4 5, rotI 0 1 1, rotI (-4) 3 5, rotI (-1) 0 1, rotI (-3) (-4) 5, rotI 0 (-1) 1, rotI 4 (-3) 5]
deriving instance DecidableEq for Rot
theorem want_eq : wantL = outsL 2 3 := by decide +kernel
def listR (k : Nat) : List RR := (outsL k 3).map RR.of
theorem listR_chk : ∀ k : Fin 17, 0 < k.1 → chkR (listR k.1) = 0 := by decide +kernel
theorem awake_chk2 : chk2 (listR 2) (RR.of (rotI 4 3 5)) = 0 := by decide +kernel
theorem awake_has : hasR (listR 2) (RR.of (rotI 4 3 5)) = false := by decide +kernel
theorem awake_cnt : cntLess (listR 2) (RR.of (rotI 4 3 5)) = 1 := by decide +kernel
theorem awake_perm : (listR 1 ++ midsTo (listR 1) (listR 1).length).Perm (listR 2) := by decide +kernel
theorem listR_len (k : Nat) : (listR k).length = 4 * k := by unfold listR; rw [List.length_map, outsL_len]
theorem listR_le {k : Nat} (h0 : 0 < k) (h16 : k ≤ 16) : ∀ r ∈ listR k, r.le 67 := by
  intro r hr
  obtain ⟨x, hx, rfl⟩ := List.mem_map.1 hr
  have : ∀ j, ∀ r ∈ outsL k j, r.Sz 60 := by
    intro j
    induction j with
    | zero => exact base_sz h0 h16 h16
    | succ j ih =>
      intro r hr
      rcases List.mem_append.1 hr with hr | hr
      · exact ih r hr
      · exact qn_sz (base_sz h0 h16 h16) _ r hr
  exact (this 3 x hx).le
theorem listR_ord {k : Nat} (h0 : 0 < k) (h16 : k ≤ 16) : Ord (listR k) := chk_ok (listR_chk ⟨k, by omega⟩ h0)
theorem ListK (H : Heap) {k : Nat} (h0 : 0 < k) (h16 : k ≤ 16) : ∃ w H', Sim Tryz.prog 12 #[.int .i64 (k : Nat)] H w H' ∧ Ext H H' ∧ ∃ b, H.length ≤ b ∧ w = .tuple #[.slice (some ⟨b, 0, none⟩) (4 * k) 0, .int .i64 0] ∧ OwnR H' b (listR k) := ListS H h0 h16
theorem awakeS (H : Heap) : Sim Tryz.prog 11 #[] H (.bool true) H := by
  refine flat_ex rfl ?_
  have t0 := fun H => turnS H (a := 1) (b := 0) (c := 1) (by decide) (by decide) (by decide)
  have t1 := fun H => turnS H (a := 3) (b := 4) (c := 5) (by decide) (by decide) (by decide)
  have t2 := fun H => turnS H (a := 0) (b := 1) (c := 1) (by decide) (by decide) (by decide)
  have t3 := fun H => turnS H (a := -4) (b := 3) (c := 5) (by decide) (by decide) (by decide)
  have t4 := fun H => turnS H (a := -1) (b := 0) (c := 1) (by decide) (by decide) (by decide)
  have t5 := fun H => turnS H (a := -3) (b := -4) (c := 5) (by decide) (by decide) (by decide)
  have t6 := fun H => turnS H (a := 0) (b := -1) (c := 1) (by decide) (by decide) (by decide)
  have t7 := fun H => turnS H (a := 4) (b := -3) (c := 5) (by decide) (by decide) (by decide)
  have t8 := fun H => turnS H (a := 4) (b := 3) (c := 5) (by decide) (by decide) (by decide)
  have hwant : [RR.of (rotI 1 0 1), RR.of (rotI 3 4 5), RR.of (rotI 0 1 1), RR.of (rotI (-4) 3 5), RR.of (rotI (-1) 0 1), RR.of (rotI (-3) (-4) 5), RR.of (rotI 0 (-1) 1), RR.of (rotI 4 (-3) 5)] = listR 2 := by
    show wantL.map RR.of = _
    rw [want_eq]; rfl
  have hfv : findV (listR 2) (RR.of (rotI 4 3 5)) = .tuple #[.int .i64 0, .bool false, .int .i64 0] := by
    unfold findV
    rw [awake_chk2, if_neg (by decide), awake_has, if_neg (by decide), awake_cnt, listR_len]
    rfl
  have hlek := (show (RR.of (rotI 4 3 5)).le 67 from (show (rotI 4 3 5).Sz 60 from ⟨⟨by decide +kernel, by decide +kernel⟩, ⟨by decide +kernel, by decide +kernel⟩⟩).le)
  generalize RR.of (rotI 1 0 1) = r0 at t0 hwant
  generalize RR.of (rotI 3 4 5) = r1 at t1 hwant
  generalize RR.of (rotI 0 1 1) = r2 at t2 hwant
  generalize RR.of (rotI (-4) 3 5) = r3 at t3 hwant
  generalize RR.of (rotI (-1) 0 1) = r4 at t4 hwant
  generalize RR.of (rotI (-3) (-4) 5) = r5 at t5 hwant
  generalize RR.of (rotI 0 (-1) 1) = r6 at t6 hwant
  generalize RR.of (rotI 4 (-3) 5) = r7 at t7 hwant
  generalize RR.of (rotI 4 3 5) = r8 at *
  have o2 : ∀ H, ∃ w H', Sim Tryz.prog 12 #[.int .i64 2] H w H' ∧ Ext H H' ∧ ∃ b, H.length ≤ b ∧ w = .tuple #[.slice (some ⟨b, 0, none⟩) 8 0, .int .i64 0] ∧ OwnR H' b (listR 2) := fun H => ListK H (k := 2) (by decide) (by decide)
  have o1 : ∀ H, ∃ w H', Sim Tryz.prog 12 #[.int .i64 1] H w H' ∧ Ext H H' ∧ ∃ b, H.length ≤ b ∧ w = .tuple #[.slice (some ⟨b, 0, none⟩) 4 0, .int .i64 0] ∧ OwnR H' b (listR 1) := fun H => ListK H (k := 1) (by decide) (by decide)
  refine sim_ex tok mixed Tryz.func11 rfl (by kernel_rfl) (by kernel_rfl) (by simp only [Tryz.ntmps11, List.size_toArray, List.length_cons, List.length_nil]; omega) ?_
  simp -implicitDefEqProofs only [go_sem, simprocAttr]
  refine wl_callV _ (by simp -implicitDefEqProofs only [go_sem, simprocAttr]) (t0 _) ?_
  simp -implicitDefEqProofs only [go_sem, simprocAttr, row8]
  refine wl_callV _ (by simp -implicitDefEqProofs only [go_sem, simprocAttr]) (t1 _) ?_
  simp -implicitDefEqProofs only [go_sem, simprocAttr, row8]
  refine wl_callV _ (by simp -implicitDefEqProofs only [go_sem, simprocAttr]) (t2 _) ?_
  simp -implicitDefEqProofs only [go_sem, simprocAttr, row8]
  refine wl_callV _ (by simp -implicitDefEqProofs only [go_sem, simprocAttr]) (t3 _) ?_
  simp -implicitDefEqProofs only [go_sem, simprocAttr, row8]
  refine wl_callV _ (by simp -implicitDefEqProofs only [go_sem, simprocAttr]) (t4 _) ?_
  simp -implicitDefEqProofs only [go_sem, simprocAttr, row8]
  refine wl_callV _ (by simp -implicitDefEqProofs only [go_sem, simprocAttr]) (t5 _) ?_
  simp -implicitDefEqProofs only [go_sem, simprocAttr, row8]
  refine wl_callV _ (by simp -implicitDefEqProofs only [go_sem, simprocAttr]) (t6 _) ?_
  simp -implicitDefEqProofs only [go_sem, simprocAttr, row8]
  refine wl_callV _ (by simp -implicitDefEqProofs only [go_sem, simprocAttr]) (t7 _) ?_
  simp -implicitDefEqProofs only [go_sem, simprocAttr, row8]
  have hw2 : [r0.cells, r1.cells, r2.cells, r3.cells, r4.cells, r5.cells, r6.cells, r7.cells].flatten = ((listR 2).map RR.cells).flatten := congrArg (fun l : List RR => (l.map RR.cells).flatten) hwant
  rw [hw2]
  obtain ⟨T0, hT0⟩ : ∃ T, T = H ++ [(⟨((listR 2).map RR.cells).flatten, 6, true⟩ : Blk)] := ⟨_, rfl⟩
  have hw0 : RL T0 (.slice (some ⟨H.length, 0, none⟩) 8 8) (listR 2) := by
    rw [hT0]
    exact .inr ⟨H.length, 0, 8, rfl, (OwnR.new H (listR 2)).at (.inr (by rw [List.length_map, listR_len]; decide))⟩
  have hE0 : Ext H T0 := by rw [hT0]; exact .app _ _
  rw [← hT0]
  clear hT0 hwant t0 t1 t2 t3 t4 t5 t6 t7
  refine wl_callT _ (by simp -implicitDefEqProofs only [go_sem, simprocAttr]) (o2 _) ?_
  rintro _ T1 hE1 ⟨b1, hb1, rfl, hown1⟩
  simp -implicitDefEqProofs only [go_sem, simprocAttr]
  refine wl_callV _ (by simp -implicitDefEqProofs only [go_sem, simprocAttr]) (t8 _) ?_
  simp -implicitDefEqProofs only [go_sem, simprocAttr]
  have hl8 := listR_len 2
  have hl4 := listR_len 1
  have hr1 := hown1.rl
  rw [hl8] at hr1
  have hf := FindS T1 hr1 (listR_le (by decide) (by decide)) hlek (by decide) (by rw [hl8]; decide)
  rw [hfv] at hf
  refine wl_callV _ (by simp -implicitDefEqProofs only [go_sem, simprocAttr]) hf ?_
  simp -implicitDefEqProofs only [go_sem, simprocAttr]
  refine wl_callT _ (by simp -implicitDefEqProofs only [go_sem, simprocAttr]) (o1 _) ?_
  rintro _ T2 hE2 ⟨b2, hb2, rfl, hown2⟩
  simp -implicitDefEqProofs only [go_sem, simprocAttr]
  have hr2 := hown2.rl
  rw [hl4] at hr2
  have hrf := RefineS T2 hr2 (listR_le (by decide) (by decide)) (by decide) (listR_ord (by decide) (by decide)) (by rw [hl4]; decide) (by rw [hl4]; decide)
  refine wl_callT _ (by simp -implicitDefEqProofs only [go_sem, simprocAttr]) hrf ?_
  rintro _ T3 hE3 ⟨b3, L, hb3, rfl, hown3, hperm, hpair⟩
  have ho2 := listR_ord (k := 2) (by decide) (by decide)
  have hL : L = listR 2 := by
    refine srt_unique RR.tot (hperm.trans awake_perm) ho2.ok hpair ?_
    refine List.Pairwise.imp_of_mem ?_ ho2.ord
    intro a b ha hb h
    exact RR.lt_leq (ho2.ok a ha) (ho2.ok b hb) h
  subst hL
  have hr3 := hown3.rl
  rw [hl8] at hr3
  have q1 := equalR T3 (hr1.ext (hE2.trans hE3)) (hw0.ext (hE1.trans (hE2.trans hE3))) (by rw [hl8]; decide)
  have q2 := equalR T3 hr3 (hr1.ext (hE2.trans hE3)) (by rw [hl8]; decide)
  simp only [decide_true] at q1 q2
  rw [hl4]
  have e1 : ∀ b, aLen tt [22] (.slice (some ⟨b, 0, none⟩) 8 0) = some (.int .i64 8) := fun _ => rfl
  simp -implicitDefEqProofs only [go_sem, simprocAttr]
  refine wl_callV _ (by simp -implicitDefEqProofs only [go_sem, simprocAttr]) q1 ?_
  simp -implicitDefEqProofs only [go_sem, simprocAttr]
  refine wl_callV _ (by simp -implicitDefEqProofs only [go_sem, simprocAttr]) q2 ?_
  simp -implicitDefEqProofs only [go_sem, simprocAttr, e1, res11]
  first | exact ⟨hE0.trans (hE1.trans (hE2.trans hE3)), rfl⟩ | exact hE0.trans (hE1.trans (hE2.trans hE3))
end Go.Proofs.YthhmkaikopdmjaaGreat
namespace Go.Proofs.YthhmkaikopdmjaaGreat
open Go Go.Fw
def idxZ (p : RR → Bool) (l : List RR) : Int := if l.findIdx p < l.length then (l.findIdx p : Nat) else -1
theorem idxZ_geq (p : RR → Bool) (l : List RR) : decide ((0 : Int) ≤ idxZ p l) = l.any p := by
  unfold idxZ
  by_cases h : l.findIdx p < l.length
  · rw [if_pos h]
    have := List.findIdx_getElem (xs := l) (p := p) (w := h)
    rw [List.any_eq_true.2 ⟨_, List.getElem_mem h, this⟩]
    exact decide_eq_true (by omega)
  · rw [if_neg h]
    have : l.any p = false := by
      rw [← Bool.not_eq_true, List.any_eq_true]
      rintro ⟨x, hx, hp⟩
      exact h (List.findIdx_lt_length_of_exists ⟨x, hx, hp⟩)
    rw [this]; rfl
theorem indexR (H : Heap) {v : Value} {l : List RR} {r : RR} (hv : RL H v l) (hl : l.length ≤ 1000000) : Sim Tryz.prog 61 #[v, r.val] H (.int .i64 (idxZ (fun x => decide (r = x)) l)) H := by
  refine flat_ex rfl ?_
  have e1 := hv.len (tt := tt) tt22
  unfold RR.val rV
  refine sim_ex tok mixed Tryz.func61 rfl (by kernel_rfl) (by kernel_rfl) (by simp only [Tryz.ntmps61, List.size_toArray, List.length_cons, List.length_nil]; omega) ?_
  simp -implicitDefEqProofs only [go_sem, simprocAttr, e1]
  refine ax_loopx (fun (i : Nat) s T => s 0 = v ∧ s 3 = .pointer (some ⟨H.length, 0, none⟩) ∧ s 7 = .int .i64 (l.length : Nat) ∧ s 8 = .int .i64 (i : Nat) ∧ i ≤ l.length ∧ i ≤ l.findIdx (fun x => decide (r = x)) ∧
    T = H ++ [⟨[.bool r.g, .string (bs r.n), .string (bs r.d), .bool r.g', .string (bs r.n'), .string (bs r.d')], 1, true⟩]) (fun i => l.length - i) 0 ?_ ?_
  · simp -implicitDefEqProofs only [go_sem, simprocAttr]
  rintro i s T ⟨s0, s3, s7, s8, hi, hf, rfl⟩
  simp -implicitDefEqProofs only [go_sem, simprocAttr, s7, s8]
  refine ax_cond2 ?_
  simp only [ev_tmp, ev_const, ev_func, upd_at, put_some, put_none, bndB_bool, Nat.reduceEqDiff, if_true, if_false, ↓reduceIte, reduceCtorEq]
  refine ⟨fun hc0 => have hlt := of_decide_eq_true hc0; ?_, fun hc0 => have hlt := of_decide_eq_false hc0; ?_⟩
  · have hil : i < l.length := by omega
    obtain ⟨b, i0, c, rfl, hA⟩ := hv.at (fun h => by rw [h] at hil; simp at hil)
    have r1 := fun G => rd_more (hA.rdR hil) G
    have hnn : (0 : Int) ≤ (i : Int) := by omega
    have hlt2 : (i : Int) < (l.length : Int) := by omega
    have m1 : IntKind.i64.wrap ((i : Int) + 1) = ((i + 1 : Nat) : Int) := by rw [w64 (by omega) (by omega)]; rfl
    have hq := eq26 r l[i]
    have hfi : l.findIdx (fun x => decide (r = x)) = i ∨ r ≠ l[i] := by
      by_cases h : r = l[i]
      · left
        refine Nat.le_antisymm ?_ hf
        refine Classical.byContradiction fun hn => ?_
        have := List.not_of_lt_findIdx (p := fun x => decide (r = x)) (xs := l) (i := i) (by omega)
        simp at this
        exact this h
      · exact .inr h
    have hfi2 : r ≠ l[i] → i + 1 ≤ l.findIdx (fun x => decide (r = x)) := by
      intro h
      refine Nat.lt_of_le_of_ne hf fun he => ?_
      have := List.findIdx_getElem (p := fun x => decide (r = x)) (xs := l) (w := by omega)
      simp [← he] at this
      exact h this
    unfold idxZ
    generalize l.findIdx (fun x => decide (r = x)) = F at *
    generalize l[i] = x at *
    unfold RR.cells at r1
    simp -implicitDefEqProofs only [go_sem, simprocAttr, s7, s8]
    refine ax_quiet (by kernel_rfl) ?_
    simp -implicitDefEqProofs only [go_sem, simprocAttr, s0, s3, s8, aIndexAddr, hnn, hlt2, r1, hq]
    by_cases he : r = x
    · have hF : F = i := by
        rcases hfi with h | h
        · exact h
        · exact absurd he h
      simp -implicitDefEqProofs only [go_sem, simprocAttr, wa_cond, axC_t, axC_f, he, s0, s3, s7, s8, res61]
      rw [hF, if_pos hil]
      exact ⟨.app _ _, rfl⟩
    · simp -implicitDefEqProofs only [go_sem, simprocAttr, wa_cond, axC_t, axC_f, he, s0, s3, s7, s8, m1]
      exact ⟨i + 1, ⟨rfl, by omega, hfi2 he⟩, by omega⟩
  · have : i = l.length := by omega
    subst this
    unfold idxZ
    rw [if_neg (by omega)]
    simp -implicitDefEqProofs only [go_sem, simprocAttr, res61]
    first | exact ⟨.app _ _, rfl⟩ | exact .app _ _
theorem containsR (H : Heap) {v : Value} {l : List RR} {r : RR} (hv : RL H v l) (hl : l.length ≤ 1000000) : Sim Tryz.prog 23 #[v, r.val] H (.bool (l.any fun x => decide (r = x))) H := by
  refine flat_ex rfl ?_
  have o1 := fun G => indexR (H ++ G) (r := r) (El.app hv G) hl
  have h := idxZ_geq (fun x => decide (r = x)) l
  generalize idxZ (fun x => decide (r = x)) l = z at *
  rw [← h]
  unfold RR.val rV at *
  refine sim_ex tok mixed Tryz.func23 rfl (by kernel_rfl) (by kernel_rfl) (by simp only [Tryz.ntmps23, List.size_toArray, List.length_cons, List.length_nil]; omega) ?_
  simp -implicitDefEqProofs only [go_sem, simprocAttr, mkI, iV, mkQ, qV, fV, ofV, rV, mkR]
  refine wl_callV _ (by simp -implicitDefEqProofs only [go_sem, simprocAttr, mkI, iV, mkQ, qV, fV, ofV, rV, mkR]) (o1 _) ?_
  simp -implicitDefEqProofs only [go_sem, simprocAttr, mkI, iV, mkQ, qV, fV, ofV, rV, mkR]
  simp -implicitDefEqProofs only [go_sem, simprocAttr, mkI, iV, mkQ, qV, fV, ofV, rV, mkR, res23]
  first | exact .app _ _ | exact ⟨.app _ _, rfl⟩ | exact .refl _ | exact ⟨.refl _, rfl⟩
end Go.Proofs.YthhmkaikopdmjaaGreat
namespace Go.Proofs.YthhmkaikopdmjaaGreat
open Go Go.Fw
theorem indexFuncR (H : Heap) {v : Value} {l : List RR} {g : FuncId} {cap : Array Value} {p : RR → Bool} (hv : RL H v l) (hl : l.length ≤ 1000000) (hf : ∀ x ∈ l, Sim Tryz.prog g (#[x.val] ++ cap) H (.bool (p x)) H) :
    Sim Tryz.prog 60 #[v, .func (.func g) #[] cap] H (.int .i64 (idxZ p l)) H := by
  have e1 := hv.len (tt := tt) tt22
  refine sim_of_ax tok mixed Tryz.func60 rfl (by kernel_rfl) (by kernel_rfl) (by simp only [Tryz.ntmps60, List.size_toArray, List.length_cons, List.length_nil]; omega) ?_
  simp -implicitDefEqProofs only [go_sem, simprocAttr, e1]
  refine ax_loopx (fun (i : Nat) s T => s 0 = v ∧ s 1 = .func (.func g) #[] cap ∧ s 7 = .int .i64 (l.length : Nat) ∧ s 8 = .int .i64 (i : Nat) ∧ i ≤ l.length ∧ i ≤ l.findIdx p ∧ T = H) (fun i => l.length - i) 0 ?_ ?_
  · simp -implicitDefEqProofs only [go_sem, simprocAttr]
  rintro i s T ⟨s0, s1, s7, s8, hi, hfi, rfl⟩
  simp -implicitDefEqProofs only [go_sem, simprocAttr, s7, s8]
  refine ax_cond2 ?_
  simp only [ev_tmp, ev_const, ev_func, upd_at, put_some, put_none, bndB_bool, Nat.reduceEqDiff, if_true, if_false, ↓reduceIte, reduceCtorEq]
  refine ⟨fun hc0 => have hlt := of_decide_eq_true hc0; ?_, fun hc0 => have hlt := of_decide_eq_false hc0; ?_⟩
  · have hil : i < l.length := by omega
    obtain ⟨b, i0, c, rfl, hA⟩ := hv.at (fun h => by rw [h] at hil; simp at hil)
    have r1 := hA.rdR hil
    have hnn : (0 : Int) ≤ (i : Int) := by omega
    have hlt2 : (i : Int) < (l.length : Int) := by omega
    have m1 : IntKind.i64.wrap ((i : Int) + 1) = ((i + 1 : Nat) : Int) := by rw [w64 (by omega) (by omega)]; rfl
    have o1 := hf _ (List.getElem_mem hil)
    have hF1 : p l[i] = true → l.findIdx p = i := by
      intro h
      refine Nat.le_antisymm ?_ hfi
      refine Classical.byContradiction fun hn => ?_
      have := List.not_of_lt_findIdx (p := p) (xs := l) (i := i) (by omega)
      rw [h] at this; cases this
    have hF2 : p l[i] = false → i + 1 ≤ l.findIdx p := by
      intro h
      refine Nat.lt_of_le_of_ne hfi fun he => ?_
      have := List.findIdx_getElem (p := p) (xs := l) (w := by omega)
      simp only [← he] at this
      rw [h] at this; cases this
    unfold idxZ
    generalize l.findIdx p = F at *
    generalize l[i] = x at *
    unfold RR.val rV at o1
    unfold RR.cells at r1
    simp -implicitDefEqProofs only [go_sem, simprocAttr, s0, s1, s7, s8, aIndexAddr, hnn, hlt2, r1]
    refine wl_callC g cap (by simp -implicitDefEqProofs only [go_sem, simprocAttr, s1]) _ (by simp -implicitDefEqProofs only [go_sem, simprocAttr]) o1 ?_
    cases hp : p x with
    | true =>
      have := hF1 hp
      subst this
      simp -implicitDefEqProofs only [go_sem, simprocAttr, wa_cond, axC_t, axC_f, res60]
      rw [if_pos hil]
    | false =>
      simp -implicitDefEqProofs only [go_sem, simprocAttr, wa_cond, axC_t, axC_f, s0, s1, s7, s8, m1]
      exact ⟨i + 1, ⟨rfl, by omega, hF2 hp⟩, by omega⟩
  · have : i = l.length := by omega
    subst this
    unfold idxZ
    rw [if_neg (by omega)]
    simp -implicitDefEqProofs only [go_sem, simprocAttr, res60]
theorem containsFuncR (H : Heap) {v : Value} {l : List RR} {g : FuncId} {cap : Array Value} {p : RR → Bool} (hv : RL H v l) (hl : l.length ≤ 1000000) (hf : ∀ x ∈ l, Sim Tryz.prog g (#[x.val] ++ cap) H (.bool (p x)) H) :
    Sim Tryz.prog 21 #[v, .func (.func g) #[] cap] H (.bool (l.any p)) H := by
  have o1 := indexFuncR H hv hl hf
  have h := idxZ_geq p l
  generalize idxZ p l = z at *
  rw [← h]
  refine sim_of_ax tok mixed Tryz.func21 rfl (by kernel_rfl) (by kernel_rfl) (by simp only [Tryz.ntmps21, List.size_toArray, List.length_cons, List.length_nil]; omega) ?_
  simp -implicitDefEqProofs only [go_sem, simprocAttr]
  refine wl_callV _ (by simp -implicitDefEqProofs only [go_sem, simprocAttr]) o1 ?_
  simp -implicitDefEqProofs only [go_sem, simprocAttr, res21]
end Go.Proofs.YthhmkaikopdmjaaGreat
namespace Go.Proofs.YthhmkaikopdmjaaGreat
open Go Go.Fw
structure Cmp (g : FuncId) (z : RR → RR → Int) (ok : RR → Prop) : Prop where
  call : ∀ a b, ok a → ok b → ∀ H, Sim Tryz.prog g #[a.val, b.val] H (.int .i64 (z a b)) H
  tr : ∀ a b c, ok a → ok b → ok c → ¬ z b a < 0 → ¬ z c b < 0 → ¬ z c a < 0
  asy : ∀ a b, ok a → ok b → z a b < 0 → ¬ z b a < 0
def Lq (z : RR → RR → Int) (a b : RR) : Prop := ¬ z b a < 0
theorem insertionG {g : FuncId} {z : RR → RR → Int} {ok : RR → Prop} (hg : Cmp g z ok) (T0 : Heap) {b : Nat} {L0 : List RR} {c lo hi : Nat} (hown : OwnR T0 b L0) (hok : ∀ r ∈ L0, ok r) (hlo : lo ≤ hi) (hhi : hi ≤ L0.length) (hlen : L0.length ≤ 1000000) :
    ∃ L, Sim Tryz.prog 177 #[.slice (some ⟨b, 0, none⟩) L0.length c, .int .i64 (lo : Nat), .int .i64 (hi : Nat), .func (.func g) #[] #[]] T0 (.tuple #[]) (putR T0 b L) ∧ Within L0 L lo hi ∧ SrtTo (Lq z) L lo hi := by
  suffices hx : ∃ w H', Sim Tryz.prog 177 #[.slice (some ⟨b, 0, none⟩) L0.length c, .int .i64 (lo : Nat), .int .i64 (hi : Nat), .func (.func g) #[] #[]] T0 w H' ∧ w = .tuple #[] ∧ ∃ L, H' = putR T0 b L ∧ Within L0 L lo hi ∧ SrtTo (Lq z) L lo hi by
    obtain ⟨w, H', h1, rfl, L, rfl, h2⟩ := hx
    exact ⟨L, h1, h2⟩
  have hb := hown.lt
  have a1 : IntKind.i64.wrap ((lo : Int) + 1) = ((lo + 1 : Nat) : Int) := by rw [w64 (by omega) (by omega)]; rfl
  have hself := putR_self hown
  refine sim_ex tok mixed Tryz.func177 rfl (by kernel_rfl) (by kernel_rfl) (by simp only [Tryz.ntmps177, List.size_toArray, List.length_cons, List.length_nil]; omega) ?_
  simp -implicitDefEqProofs only [go_sem, simprocAttr, a1]
  refine ax_loopx (fun (i : Nat) s T => s 0 = .slice (some ⟨b, 0, none⟩) L0.length c ∧ s 1 = .int .i64 (lo : Nat) ∧ s 2 = .int .i64 (hi : Nat) ∧ s 3 = .func (.func g) #[] #[] ∧ s 8 = .int .i64 (i : Nat) ∧ lo + 1 ≤ i ∧ i ≤ hi + 1 ∧
    ∃ L, T = putR T0 b L ∧ Within L0 L lo hi ∧ SrtTo (Lq z) L lo i) (fun i => hi + 1 - i) (lo + 1) ?_ ?_
  · simp -implicitDefEqProofs only [go_sem, simprocAttr]
    exact ⟨by omega, L0, hself.symm, .refl _ _ _, .one _ (by omega)⟩
  rintro i s T ⟨s0, s1, s2, s3, s8, hi1, hi2, L, rfl, hw, hs⟩
  simp -implicitDefEqProofs only [go_sem, simprocAttr, s2, s8]
  refine ax_cond2 ?_
  simp only [ev_tmp, ev_const, ev_func, upd_at, put_some, put_none, bndB_bool, Nat.reduceEqDiff, if_true, if_false, ↓reduceIte, reduceCtorEq]
  refine ⟨fun hc0 => have hlt := of_decide_eq_true hc0; ?_, fun hc0 => have hlt := of_decide_eq_false hc0; ?_⟩
  · have hih : i < hi := by omega
    simp -implicitDefEqProofs only [go_sem, simprocAttr, s8]
    refine ax_midl2 (fun s T => s 0 = .slice (some ⟨b, 0, none⟩) L0.length c ∧ s 1 = .int .i64 (lo : Nat) ∧ s 2 = .int .i64 (hi : Nat) ∧ s 3 = .func (.func g) #[] #[] ∧ s 8 = .int .i64 (i : Nat) ∧
      ∃ L, T = putR T0 b L ∧ Within L0 L lo hi ∧ SrtTo (Lq z) L lo (i + 1)) ?_ ?_
    · refine ax_loopx (fun (j : Nat) s T => s 0 = .slice (some ⟨b, 0, none⟩) L0.length c ∧ s 1 = .int .i64 (lo : Nat) ∧ s 2 = .int .i64 (hi : Nat) ∧ s 3 = .func (.func g) #[] #[] ∧ s 8 = .int .i64 (i : Nat) ∧ s 9 = .int .i64 (j : Nat) ∧ lo ≤ j ∧ j ≤ i ∧
        ∃ L, T = putR T0 b L ∧ Within L0 L lo hi ∧ InsI (Lq z) L lo i j) (fun j => j) i ?_ ?_
      · simp -implicitDefEqProofs only [go_sem, simprocAttr, s0, s1, s2, s3, s8]
        exact ⟨by omega, L, rfl, hw, hs.ins⟩
      clear s0 s1 s2 s3 s8 hw hs hself a1
      clear L
      rintro j s T ⟨s0, s1, s2, s3, s8, s9, hj1, hj2, L, rfl, hw, hs⟩
      have hLl := hw.len
      have hoL := hw.oks hok
      have ho := putR_own T0 L hb
      simp -implicitDefEqProofs only [go_sem, simprocAttr]
      refine ax_quiet (by kernel_rfl) ?_
      by_cases hjl : lo < j
      · obtain ⟨j, rfl⟩ : ∃ j', j = j' + 1 := ⟨j - 1, by omega⟩
        have hjn : j + 1 < L.length := by omega
        have r1 := (ho.at (c := 0) (.inl rfl)).rdR (j := j + 1) hjn
        have r2 := (ho.at (c := 0) (.inl rfl)).rdR (j := j) (by omega)
        have hcm := fun H => hg.call _ _ (hoL _ (List.getElem_mem hjn)) (hoL _ (List.getElem_mem (show j < L.length by omega))) H
        have g1 : (lo : Int) < ((j + 1 : Nat) : Int) := by omega
        have g2 : (0 : Int) ≤ ((j + 1 : Nat) : Int) := by omega
        have g3 : ((j + 1 : Nat) : Int) < (L0.length : Int) := by omega
        have g4 : (0 : Int) ≤ (j : Int) := by omega
        have g5 : (j : Int) < (L0.length : Int) := by omega
        have m1 : IntKind.i64.wrap (((j + 1 : Nat) : Int) - 1) = (j : Int) := by rw [w64 (by omega) (by omega)]; omega
        have hstep := fun hlt => hs.step (by omega) hjn hj2 hlt
        have hstop := fun hle => InsI.stop2 hg.tr hoL hs hjl hj2 hjn hle
        have htot := hg.asy _ _ (hoL _ (List.getElem_mem hjn)) (hoL _ (List.getElem_mem (show j < L.length by omega)))
        have hww := hw.trans (.swp L j hjn (by omega) (by omega))
        have w1 := ho.wr (j := j + 1) hjn L[j]
        have w2 := (putR_own T0 (L.set (j + 1) L[j]) hb).wr (j := j) (by simp; omega) L[j + 1]
        rw [putR_put] at w1 w2
        have hsw : (L.set (j + 1) L[j]).set j L[j + 1] = swp L j hjn := rfl
        rw [hsw] at w2
        generalize swp L j hjn = L2 at *
        generalize L.set (j + 1) L[j] = L1 at *
        simp only [Nat.add_sub_cancel] at hstop
        generalize L[j] = y at *
        generalize L[j + 1] = x at *
        unfold RR.cells at r1 r2 w1 w2
        unfold RR.val rV at hcm
        simp only [Nat.zero_add] at r1 r2
        simp -implicitDefEqProofs only [go_sem, simprocAttr, s0, s1, s2, s3, s9, aIndexAddr, g1, g2, g3, g4, g5, m1, r1, r2]
        refine wl_callO _ (by simp -implicitDefEqProofs only [go_sem, simprocAttr, s3]) _ (by simp -implicitDefEqProofs only [go_sem, simprocAttr]) (hcm _) ?_
        by_cases hc : z x y < 0
        · simp -implicitDefEqProofs only [go_sem, simprocAttr, wa_cond, axC_t, axC_f, hc]
          refine ax_loud (by kernel_rfl) ?_
          simp -implicitDefEqProofs only [go_sem, simprocAttr, s0, s1, s2, s3, s8, s9, aIndexAddr, g1, g2, g3, g4, g5, m1, r1, r2, w1, w2]
          refine ⟨j, ⟨rfl, by omega, by omega, L2, rfl, hww, hstep (htot hc)⟩, by omega⟩
        · simp -implicitDefEqProofs only [go_sem, simprocAttr, wa_cond, axC_t, axC_f, hc, s0, s1, s2, s3, s8]
          exact ⟨L, rfl, hw, hstop hc⟩
      · have : j = lo := by omega
        subst this
        have g1 : ¬ (j : Int) < (j : Int) := by omega
        simp -implicitDefEqProofs only [go_sem, simprocAttr, wa_cond, axC_t, axC_f, s0, s1, s2, s3, s8, s9, g1]
        exact ⟨L, rfl, hw, hs.zero⟩
    clear s0 s1 s2 s3 s8 hw hs hself a1
    clear L
    rintro s T ⟨s0, s1, s2, s3, s8, L, rfl, hw, hs⟩
    have m1 : IntKind.i64.wrap ((i : Int) + 1) = ((i + 1 : Nat) : Int) := by rw [w64 (by omega) (by omega)]; rfl
    simp -implicitDefEqProofs only [go_sem, simprocAttr, s0, s1, s2, s3, s8, m1]
    exact ⟨i + 1, ⟨rfl, by omega, by omega, L, rfl, hw, hs⟩, by omega⟩
  · have hih : hi ≤ i := by omega
    simp -implicitDefEqProofs only [go_sem, simprocAttr]
    refine ⟨[], rfl, rfl, L, rfl, hw, ?_⟩
    exact fun p q h0 h1 h2 hp hq => hs p q h0 h1 (by omega) hp hq
end Go.Proofs.YthhmkaikopdmjaaGreat
namespace Go.Proofs.YthhmkaikopdmjaaGreat
open Go Go.Fw
theorem reverseG (T0 : Heap) {f : Value} {b : Nat} {L0 : List RR} {c lo hi : Nat} (hown : OwnR T0 b L0) (hlo : lo < hi) (hhi : hi ≤ L0.length) (hlen : L0.length ≤ 1000000) :
    ∃ L, Sim Tryz.prog 181 #[.slice (some ⟨b, 0, none⟩) L0.length c, .int .i64 (lo : Nat), .int .i64 (hi : Nat), f] T0 (.tuple #[]) (putR T0 b L) ∧ Within L0 L lo hi := by
  suffices hx : ∃ w H', Sim Tryz.prog 181 #[.slice (some ⟨b, 0, none⟩) L0.length c, .int .i64 (lo : Nat), .int .i64 (hi : Nat), f] T0 w H' ∧ w = .tuple #[] ∧ ∃ L, H' = putR T0 b L ∧ Within L0 L lo hi by
    obtain ⟨w, H', h1, rfl, L, rfl, h2⟩ := hx
    exact ⟨L, h1, h2⟩
  have hb := hown.lt
  have a1 : IntKind.i64.wrap ((hi : Int) - 1) = ((hi - 1 : Nat) : Int) := by rw [w64 (by omega) (by omega)]; omega
  have hself := putR_self hown
  refine sim_ex tok mixed Tryz.func181 rfl (by kernel_rfl) (by kernel_rfl) (by simp only [Tryz.ntmps181, List.size_toArray, List.length_cons, List.length_nil]; omega) ?_
  simp -implicitDefEqProofs only [go_sem, simprocAttr, a1]
  refine ax_loopx (fun (x : Nat × Nat) s T => s 0 = .slice (some ⟨b, 0, none⟩) L0.length c ∧ s 8 = .int .i64 (x.1 : Nat) ∧ s 9 = .int .i64 (x.2 : Nat) ∧ lo ≤ x.1 ∧ x.2 < hi ∧ ∃ L, T = putR T0 b L ∧ Within L0 L lo hi) (fun x => x.2 + 1 - x.1) (lo, hi - 1) ?_ ?_
  · simp -implicitDefEqProofs only [go_sem, simprocAttr]
    exact ⟨by omega, L0, hself.symm, .refl _ _ _⟩
  rintro ⟨i, j⟩ s T ⟨s0, s8, s9, hi1, hj1, L, rfl, hw⟩
  simp only at s8 s9 hi1 hj1
  simp -implicitDefEqProofs only [go_sem, simprocAttr, s8, s9]
  refine ax_cond2 ?_
  simp only [ev_tmp, ev_const, ev_func, upd_at, put_some, put_none, bndB_bool, Nat.reduceEqDiff, if_true, if_false, ↓reduceIte, reduceCtorEq]
  refine ⟨fun hc0 => have hlt := of_decide_eq_true hc0; ?_, fun hc0 => have hlt := of_decide_eq_false hc0; ?_⟩
  · have hij : i < j := by omega
    have hLl := hw.len
    have hI : i < L.length := by omega
    have hJ : j < L.length := by omega
    have ho := putR_own T0 L hb
    have r1 := (ho.at (c := 0) (.inl rfl)).rdR (j := i) hI
    have r2 := (ho.at (c := 0) (.inl rfl)).rdR (j := j) hJ
    have g2 : (0 : Int) ≤ (i : Int) := by omega
    have g3 : (i : Int) < (L0.length : Int) := by omega
    have g4 : (0 : Int) ≤ (j : Int) := by omega
    have g5 : (j : Int) < (L0.length : Int) := by omega
    have m1 : IntKind.i64.wrap ((i : Int) + 1) = ((i + 1 : Nat) : Int) := by rw [w64 (by omega) (by omega)]; rfl
    have m2 : IntKind.i64.wrap ((j : Int) - 1) = ((j - 1 : Nat) : Int) := by rw [w64 (by omega) (by omega)]; omega
    have hww := hw.trans (.sw L i j hI hJ (by omega) (by omega))
    have w1 := ho.wr (j := i) hI L[j]
    have w2 := (putR_own T0 (L.set i L[j]) hb).wr (j := j) (by simp; omega) L[i]
    rw [putR_put] at w1 w2
    have hsw : (L.set i L[j]).set j L[i] = sw L i j hI hJ := rfl
    rw [hsw] at w2
    generalize sw L i j hI hJ = L2 at *
    generalize L.set i L[j] = L1 at *
    generalize L[j] = y at *
    generalize L[i] = x at *
    unfold RR.cells at r1 r2 w1 w2
    simp only [Nat.zero_add] at r1 r2
    simp -implicitDefEqProofs only [go_sem, simprocAttr]
    refine ax_loud (by kernel_rfl) ?_
    simp -implicitDefEqProofs only [go_sem, simprocAttr, s0, s8, s9, aIndexAddr, g2, g3, g4, g5, r1, r2, w1, w2, m1, m2]
    exact ⟨(i + 1, j - 1), ⟨rfl, rfl, by simp only; omega, by simp only; omega, L2, rfl, hww⟩, by simp only; omega⟩
  · simp -implicitDefEqProofs only [go_sem, simprocAttr]
    refine ⟨[], rfl, rfl, L, rfl, hw⟩
def cnt (T : Heap) (p : Nat) (n : Int) : Heap := T.set p ⟨[.int .i64 n], 1, true⟩
theorem cnt_cnt (T : Heap) (p : Nat) (n m : Int) : (cnt T p n).set p ⟨[.int .i64 m], 1, true⟩ = cnt T p m := by simp [cnt]
theorem cnt_at {T : Heap} {p : Nat} (h : p < T.length) (n : Int) : (cnt T p n)[p]? = some ⟨[.int .i64 n], 1, true⟩ := by unfold cnt; rw [List.getElem?_set_self h]
theorem order2G {g : FuncId} {z : RR → RR → Int} {ok : RR → Prop} (hg : Cmp g z ok) (T : Heap) {p b : Nat} {L : List RR} {c x y : Nat} {n : Int} (hp : p < T.length) (hpb : p ≠ b) (hown : OwnR T b L) (hok : ∀ r ∈ L, ok r) (hx : x < L.length) (hy : y < L.length) (hlen : L.length ≤ 1000000) :
    ∃ (x' y' : Nat) (n' : Int), Sim Tryz.prog 268 #[.slice (some ⟨b, 0, none⟩) L.length c, .int .i64 (x : Nat), .int .i64 (y : Nat), .pointer (some ⟨p, 0, none⟩), .func (.func g) #[] #[]] (cnt T p n) (.tuple #[.int .i64 (x' : Nat), .int .i64 (y' : Nat)]) (cnt T p n') ∧ ((x' = x ∧ y' = y) ∨ (x' = y ∧ y' = x)) := by
  have ho : OwnR (cnt T p n) b L := Own.other hown hpb _
  have r1 := (ho.at (c := 0) (.inl rfl)).rdR (j := x) hx
  have r2 := (ho.at (c := 0) (.inl rfl)).rdR (j := y) hy
  have hcm := fun H => hg.call _ _ (hok _ (List.getElem_mem hy)) (hok _ (List.getElem_mem hx)) H
  have g2 : (0 : Int) ≤ (x : Int) := by omega
  have g3 : (x : Int) < (L.length : Int) := by omega
  have g4 : (0 : Int) ≤ (y : Int) := by omega
  have g5 : (y : Int) < (L.length : Int) := by omega
  have rc := rd_cell (cnt_at hp n)
  have wc := wr_cell (v := .int .i64 (IntKind.i64.wrap (n + 1))) (cnt_at hp n) rfl
  rw [cnt_cnt] at wc
  generalize L[x] = u at *
  generalize L[y] = v at *
  unfold RR.cells at r1 r2
  unfold RR.val rV at hcm
  simp only [Nat.zero_add] at r1 r2
  by_cases hc : z v u < 0
  · refine ⟨y, x, IntKind.i64.wrap (n + 1), ?_, .inr ⟨rfl, rfl⟩⟩
    refine sim_of_ax tok mixed Tryz.func268 rfl (by kernel_rfl) (by kernel_rfl) (by simp only [Tryz.ntmps268, List.size_toArray, List.length_cons, List.length_nil]; omega) ?_
    simp -implicitDefEqProofs only [go_sem, simprocAttr]
    refine ax_quiet (by kernel_rfl) ?_
    simp -implicitDefEqProofs only [go_sem, simprocAttr, aIndexAddr, g2, g3, g4, g5, r1, r2]
    refine wl_callO _ (by simp -implicitDefEqProofs only [go_sem, simprocAttr]) _ (by simp -implicitDefEqProofs only [go_sem, simprocAttr]) (hcm _) ?_
    simp -implicitDefEqProofs only [go_sem, simprocAttr, wa_cond, axC_t, axC_f, hc, rc, wc, res268]
  · refine ⟨x, y, n, ?_, .inl ⟨rfl, rfl⟩⟩
    refine sim_of_ax tok mixed Tryz.func268 rfl (by kernel_rfl) (by kernel_rfl) (by simp only [Tryz.ntmps268, List.size_toArray, List.length_cons, List.length_nil]; omega) ?_
    simp -implicitDefEqProofs only [go_sem, simprocAttr]
    refine ax_quiet (by kernel_rfl) ?_
    simp -implicitDefEqProofs only [go_sem, simprocAttr, aIndexAddr, g2, g3, g4, g5, r1, r2]
    refine wl_callO _ (by simp -implicitDefEqProofs only [go_sem, simprocAttr]) _ (by simp -implicitDefEqProofs only [go_sem, simprocAttr]) (hcm _) ?_
    simp -implicitDefEqProofs only [go_sem, simprocAttr, wa_cond, axC_t, axC_f, hc, res268]
theorem medianG {g : FuncId} {z : RR → RR → Int} {ok : RR → Prop} (hg : Cmp g z ok) (T : Heap) {p b : Nat} {L : List RR} {c x y w : Nat} {n : Int} (hp : p < T.length) (hpb : p ≠ b) (hown : OwnR T b L) (hok : ∀ r ∈ L, ok r) (hx : x < L.length) (hy : y < L.length) (hw : w < L.length) (hlen : L.length ≤ 1000000) :
    ∃ (m : Nat) (n' : Int), Sim Tryz.prog 240 #[.slice (some ⟨b, 0, none⟩) L.length c, .int .i64 (x : Nat), .int .i64 (y : Nat), .int .i64 (w : Nat), .pointer (some ⟨p, 0, none⟩), .func (.func g) #[] #[]] (cnt T p n) (.int .i64 (m : Nat)) (cnt T p n') ∧ (m = x ∨ m = y ∨ m = w) := by
  obtain ⟨x1, y1, n1, o1, h1⟩ := order2G hg T (c := c) (n := n) hp hpb hown hok hx hy hlen
  obtain ⟨y2, w2, n2, o2, h2⟩ := order2G hg T (c := c) (n := n1) (x := y1) (y := w) hp hpb hown hok (by omega) hw hlen
  obtain ⟨x3, y3, n3, o3, h3⟩ := order2G hg T (c := c) (n := n2) (x := x1) (y := y2) hp hpb hown hok (by omega) (by omega) hlen
  refine ⟨y3, n3, ?_, by omega⟩
  refine sim_of_ax tok mixed Tryz.func240 rfl (by kernel_rfl) (by kernel_rfl) (by simp only [Tryz.ntmps240, List.size_toArray, List.length_cons, List.length_nil]; omega) ?_
  simp -implicitDefEqProofs only [go_sem, simprocAttr]
  refine wl_callF _ (by simp -implicitDefEqProofs only [go_sem, simprocAttr]) o1 (fun h => by cases h) ?_
  simp -implicitDefEqProofs only [go_sem, simprocAttr]
  refine wl_callF _ (by simp -implicitDefEqProofs only [go_sem, simprocAttr]) o2 (fun h => by cases h) ?_
  simp -implicitDefEqProofs only [go_sem, simprocAttr]
  refine wl_callF _ (by simp -implicitDefEqProofs only [go_sem, simprocAttr]) o3 (fun h => by cases h) ?_
  simp -implicitDefEqProofs only [go_sem, simprocAttr, res240]
theorem medianAdjG {g : FuncId} {z : RR → RR → Int} {ok : RR → Prop} (hg : Cmp g z ok) (T : Heap) {p b : Nat} {L : List RR} {c x : Nat} {n : Int} (hp : p < T.length) (hpb : p ≠ b) (hown : OwnR T b L) (hok : ∀ r ∈ L, ok r) (h0 : 0 < x) (hx : x + 1 < L.length) (hlen : L.length ≤ 1000000) :
    ∃ (m : Nat) (n' : Int), Sim Tryz.prog 239 #[.slice (some ⟨b, 0, none⟩) L.length c, .int .i64 (x : Nat), .pointer (some ⟨p, 0, none⟩), .func (.func g) #[] #[]] (cnt T p n) (.int .i64 (m : Nat)) (cnt T p n') ∧ x - 1 ≤ m ∧ m ≤ x + 1 := by
  obtain ⟨m, n', o1, h1⟩ := medianG hg T (c := c) (n := n) (x := x - 1) (y := x) (w := x + 1) hp hpb hown hok (by omega) (by omega) (by omega) hlen
  have a1 : IntKind.i64.wrap ((x : Int) - 1) = ((x - 1 : Nat) : Int) := by rw [w64 (by omega) (by omega)]; omega
  have a2 : IntKind.i64.wrap ((x : Int) + 1) = ((x + 1 : Nat) : Int) := by rw [w64 (by omega) (by omega)]; rfl
  refine ⟨m, n', ?_, by omega, by omega⟩
  refine sim_of_ax tok mixed Tryz.func239 rfl (by kernel_rfl) (by kernel_rfl) (by simp only [Tryz.ntmps239, List.size_toArray, List.length_cons, List.length_nil]; omega) ?_
  simp -implicitDefEqProofs only [go_sem, simprocAttr, a1, a2]
  refine wl_callF _ (by simp -implicitDefEqProofs only [go_sem, simprocAttr]) o1 (fun h => by cases h) ?_
  simp -implicitDefEqProofs only [go_sem, simprocAttr, res239]
theorem pivotG {g : FuncId} {z : RR → RR → Int} {ok : RR → Prop} (hg : Cmp g z ok) (T : Heap) {b : Nat} {L : List RR} {c lo hi : Nat} (hown : OwnR T b L) (hok : ∀ r ∈ L, ok r) (hlo : lo + 12 < hi) (hhi : hi ≤ L.length) (hlen : L.length ≤ 1000000) :
    ∃ (p : Nat) (h : Int), Sim Tryz.prog 180 #[.slice (some ⟨b, 0, none⟩) L.length c, .int .i64 (lo : Nat), .int .i64 (hi : Nat), .func (.func g) #[] #[]] T (.tuple #[.int .i64 (p : Nat), .int .i64 h]) T ∧ lo ≤ p ∧ p < hi := by
  suffices hx : ∃ w H', Sim Tryz.prog 180 #[.slice (some ⟨b, 0, none⟩) L.length c, .int .i64 (lo : Nat), .int .i64 (hi : Nat), .func (.func g) #[] #[]] T w H' ∧ Ext T H' ∧ ∃ (p : Nat) (h : Int), w = .tuple #[.int .i64 (p : Nat), .int .i64 h] ∧ lo ≤ p ∧ p < hi by
    obtain ⟨w, H', h1, ⟨G, rfl⟩, p, h, rfl, h2⟩ := hx
    exact ⟨p, h, Sim.flat h1 (Calm.refl T) rfl, h2⟩
  obtain ⟨l, hl⟩ : ∃ l, l = hi - lo := ⟨_, rfl⟩
  have a0 : IntKind.i64.wrap ((hi : Int) - (lo : Int)) = (l : Int) := by rw [w64 (by omega) (by omega)]; omega
  have a1 : IntKind.i64.wrap ((l : Int).tdiv 4) = ((l / 4 : Nat) : Int) := by rw [show (4 : Int) = ((4 : Nat) : Int) from rfl, tdiv_nat, w64n (by omega)]
  have a2 : IntKind.i64.wrap (((l / 4 : Nat) : Int) * 1) = ((l / 4 : Nat) : Int) := by rw [w64 (by omega) (by omega)]; omega
  have a3 : IntKind.i64.wrap (((l / 4 : Nat) : Int) * 2) = ((l / 4 * 2 : Nat) : Int) := by rw [w64 (by omega) (by omega)]; omega
  have a4 : IntKind.i64.wrap (((l / 4 : Nat) : Int) * 3) = ((l / 4 * 3 : Nat) : Int) := by rw [w64 (by omega) (by omega)]; omega
  have a5 : IntKind.i64.wrap ((lo : Int) + ((l / 4 : Nat) : Int)) = ((lo + l / 4 : Nat) : Int) := by rw [w64 (by omega) (by omega)]; omega
  have a6 : IntKind.i64.wrap ((lo : Int) + ((l / 4 * 2 : Nat) : Int)) = ((lo + l / 4 * 2 : Nat) : Int) := by rw [w64 (by omega) (by omega)]; omega
  have a7 : IntKind.i64.wrap ((lo : Int) + ((l / 4 * 3 : Nat) : Int)) = ((lo + l / 4 * 3 : Nat) : Int) := by rw [w64 (by omega) (by omega)]; omega
  have c8 : (8 : Int) ≤ (l : Int) := by omega
  have hb := hown.lt
  have hpT : T.length < (T ++ [(⟨[.int .i64 0], 1, true⟩ : Blk)]).length := by simp
  have hpb : T.length ≠ b := by omega
  have hownT : OwnR (T ++ [(⟨[.int .i64 0], 1, true⟩ : Blk)]) b L := Own.app hown _
  have hT0 : T ++ [(⟨[.int .i64 0], 1, true⟩ : Blk)] = cnt (T ++ [(⟨[.int .i64 0], 1, true⟩ : Blk)]) T.length 0 := by simp [cnt]
  have hext : ∀ n, Ext T (cnt (T ++ [(⟨[.int .i64 0], 1, true⟩ : Blk)]) T.length n) := fun n => (Ext.app _ _).set (Nat.le_refl _) _
  have med := fun {x y w : Nat} {n : Int} hx hy hw => medianG hg (T ++ [(⟨[.int .i64 0], 1, true⟩ : Blk)]) (p := T.length) (c := c) (x := x) (y := y) (w := w) (n := n) hpT hpb hownT hok hx hy hw hlen
  have adj := fun {x : Nat} {n : Int} h0 hx => medianAdjG hg (T ++ [(⟨[.int .i64 0], 1, true⟩ : Blk)]) (p := T.length) (c := c) (x := x) (n := n) hpT hpb hownT hok h0 hx hlen
  have rdc := fun n => rd_cell (cnt_at hpT n)
  have key : ∀ (i j k : Nat) (n : Int), lo ≤ i → i < hi → lo ≤ j → j < hi → lo ≤ k → k < hi → ∃ (m : Nat) (n' : Int), (Sim Tryz.prog 240 #[.slice (some ⟨b, 0, none⟩) L.length c, .int .i64 (i : Nat), .int .i64 (j : Nat), .int .i64 (k : Nat), .pointer (some ⟨T.length, 0, none⟩), .func (.func g) #[] #[]] (cnt (T ++ [(⟨[.int .i64 0], 1, true⟩ : Blk)]) T.length n) (.int .i64 (m : Nat)) (cnt (T ++ [(⟨[.int .i64 0], 1, true⟩ : Blk)]) T.length n')) ∧ lo ≤ m ∧ m < hi := fun i j k n h1 h2 h3 h4 h5 h6 => by
    obtain ⟨m, n', o, h⟩ := med (x := i) (y := j) (w := k) (n := n) (by omega) (by omega) (by omega)
    exact ⟨m, n', o, by omega, by omega⟩
  refine sim_ex tok mixed Tryz.func180 rfl (by kernel_rfl) (by kernel_rfl) (by simp only [Tryz.ntmps180, List.size_toArray, List.length_cons, List.length_nil]; omega) ?_
  simp -implicitDefEqProofs only [go_sem, simprocAttr, a0, a1, a2, a3, a4, a5, a6, a7]
  rw [hT0]
  generalize T ++ [(⟨[.int .i64 0], 1, true⟩ : Blk)] = T1 at *
  simp -implicitDefEqProofs only [go_sem, simprocAttr, c8]
  refine ax_cond2 ?_
  simp only [ev_tmp, ev_const, ev_func, upd_at, put_some, put_none, bndB_bool, Nat.reduceEqDiff, if_true, if_false, ↓reduceIte, reduceCtorEq]
  refine ⟨fun _ => ?_, fun hc => hc.elim⟩
  apply shareK (M := fun s T' => ∃ (i j k : Nat) (n : Int), s 0 = .slice (some ⟨b, 0, none⟩) L.length c ∧ s 3 = .func (.func g) #[] #[] ∧ s 11 = .pointer (some ⟨T.length, 0, none⟩) ∧ s 12 = .int .i64 (i : Nat) ∧ s 13 = .int .i64 (j : Nat) ∧ s 14 = .int .i64 (k : Nat) ∧ lo ≤ i ∧ i < hi ∧ lo ≤ j ∧ j < hi ∧ lo ≤ k ∧ k < hi ∧ T' = cnt T1 T.length n)
  · intro hrest
    by_cases c50 : 50 ≤ l
    · have d1 : (50 : Int) ≤ (l : Int) := by omega
      obtain ⟨m1, n1, q1, h1⟩ := adj (x := lo + l / 4) (n := 0) (by omega) (by omega)
      obtain ⟨m2, n2, q2, h2⟩ := adj (x := lo + l / 4 * 2) (n := n1) (by omega) (by omega)
      obtain ⟨m3, n3, q3, h3⟩ := adj (x := lo + l / 4 * 3) (n := n2) (by omega) (by omega)
      simp -implicitDefEqProofs only [go_sem, simprocAttr, d1]
      refine ax_mid _ ?_ hrest
      simp -implicitDefEqProofs only [go_sem, simprocAttr, wa_cond, axC_t, axC_f]
      refine wl_callF _ (by simp -implicitDefEqProofs only [go_sem, simprocAttr]) q1 (fun h => by cases h) ?_
      simp -implicitDefEqProofs only [go_sem, simprocAttr]
      refine wl_callF _ (by simp -implicitDefEqProofs only [go_sem, simprocAttr]) q2 (fun h => by cases h) ?_
      simp -implicitDefEqProofs only [go_sem, simprocAttr]
      refine wl_callF _ (by simp -implicitDefEqProofs only [go_sem, simprocAttr]) q3 (fun h => by cases h) ?_
      simp -implicitDefEqProofs only [go_sem, simprocAttr]
      refine ⟨m1, m2, m3, n3, ?_⟩
      ((repeat' apply And.intro) <;> first | rfl | assumption | omega)
    · have d1 : ¬ (50 : Int) ≤ (l : Int) := by omega
      simp -implicitDefEqProofs only [go_sem, simprocAttr, d1]
      refine ax_mid _ ?_ hrest
      simp -implicitDefEqProofs only [go_sem, simprocAttr, wa_cond, axC_t, axC_f]
      refine ⟨lo + l / 4, lo + l / 4 * 2, lo + l / 4 * 3, 0, ?_⟩
      ((repeat' apply And.intro) <;> first | rfl | assumption | omega)
  rintro s T' ⟨i, j, k, n, s0, s3, s11, s12, s13, s14, h1, h2, h3, h4, h5, h6, rfl⟩
  obtain ⟨m, n', o, hm1, hm2⟩ := key i j k n h1 h2 h3 h4 h5 h6
  have rc := rdc n'
  have hE := hext n'
  simp -implicitDefEqProofs only [go_sem, simprocAttr, s0, s3, s11, s12, s13, s14]
  refine wl_callF _ (by simp -implicitDefEqProofs only [go_sem, simprocAttr, s11]) o (fun h => by cases h) ?_
  by_cases z0 : n' = 0
  · subst z0
    simp -implicitDefEqProofs only [go_sem, simprocAttr, wa_cond, axC_t, axC_f, s11, rc, res180]
    exact ⟨hE, m, 1, rfl, hm1, hm2⟩
  · by_cases z12 : n' = 12
    · subst z12
      simp -implicitDefEqProofs only [go_sem, simprocAttr, wa_cond, axC_t, axC_f, s11, rc, res180]
      exact ⟨hE, m, 2, rfl, hm1, hm2⟩
    · simp -implicitDefEqProofs only [go_sem, simprocAttr, wa_cond, axC_t, axC_f, s11, rc, z0, z12, res180]
      exact ⟨hE, m, 0, rfl, hm1, hm2⟩
end Go.Proofs.YthhmkaikopdmjaaGreat
namespace Go.Proofs.YthhmkaikopdmjaaGreat
open Go Go.Fw
def HpBut (z : RR → RR → Int) (L : List RR) (first lo hi r : Nat) : Prop := ∀ i c, lo ≤ i → i ≠ r → (c = 2 * i + 1 ∨ c = 2 * i + 2) → c < hi → ∀ (h1 : first + i < L.length) (h2 : first + c < L.length), Lq z L[first + c] L[first + i]
def HpUp (z : RR → RR → Int) (L : List RR) (first lo hi r : Nat) : Prop := ∀ i c, lo ≤ i → (r = 2 * i + 1 ∨ r = 2 * i + 2) → (c = 2 * r + 1 ∨ c = 2 * r + 2) → c < hi → ∀ (h1 : first + i < L.length) (h2 : first + c < L.length), Lq z L[first + c] L[first + i]
def Hp (z : RR → RR → Int) (L : List RR) (first lo hi : Nat) : Prop := ∀ i c, lo ≤ i → (c = 2 * i + 1 ∨ c = 2 * i + 2) → c < hi → ∀ (h1 : first + i < L.length) (h2 : first + c < L.length), Lq z L[first + c] L[first + i]
theorem Lq.refl {g : FuncId} {z : RR → RR → Int} {ok : RR → Prop} (hg : Cmp g z ok) {a : RR} (ha : ok a) : Lq z a a := fun h => hg.asy a a ha ha h h
theorem Lq.of_lt {g : FuncId} {z : RR → RR → Int} {ok : RR → Prop} (hg : Cmp g z ok) {a b : RR} (ha : ok a) (hb : ok b) (h : z a b < 0) : Lq z a b := hg.asy a b ha hb h
theorem siftG {g : FuncId} {z : RR → RR → Int} {ok : RR → Prop} (hg : Cmp g z ok) (T0 : Heap) {b : Nat} {L0 : List RR} {c lo hi first : Nat} (hown : OwnR T0 b L0) (hok : ∀ r ∈ L0, ok r) (hhi : first + hi ≤ L0.length) (hlo : lo ≤ 1000000) (hlen : L0.length ≤ 1000000) (hh : HpBut z L0 first lo hi lo) :
    ∃ L, Sim Tryz.prog 236 #[.slice (some ⟨b, 0, none⟩) L0.length c, .int .i64 (lo : Nat), .int .i64 (hi : Nat), .int .i64 (first : Nat), .func (.func g) #[] #[]] T0 (.tuple #[]) (putR T0 b L) ∧ Within L0 L (first + lo) (first + hi) ∧ Hp z L first lo hi := by
  suffices hx : ∃ w H', Sim Tryz.prog 236 #[.slice (some ⟨b, 0, none⟩) L0.length c, .int .i64 (lo : Nat), .int .i64 (hi : Nat), .int .i64 (first : Nat), .func (.func g) #[] #[]] T0 w H' ∧ w = .tuple #[] ∧ ∃ L, H' = putR T0 b L ∧ Within L0 L (first + lo) (first + hi) ∧ Hp z L first lo hi by
    obtain ⟨w, H', h1, rfl, L, rfl, h2⟩ := hx
    exact ⟨L, h1, h2⟩
  have hb := hown.lt
  have hself := putR_self hown
  refine sim_ex tok mixed Tryz.func236 rfl (by kernel_rfl) (by kernel_rfl) (by simp only [Tryz.ntmps236, List.size_toArray, List.length_cons, List.length_nil]; omega) ?_
  simp -implicitDefEqProofs only [go_sem, simprocAttr]
  refine ax_loopx (fun (r : Nat) s T => s 0 = .slice (some ⟨b, 0, none⟩) L0.length c ∧ s 2 = .int .i64 (hi : Nat) ∧ s 3 = .int .i64 (first : Nat) ∧ s 4 = .func (.func g) #[] #[] ∧ s 10 = .int .i64 (r : Nat) ∧ lo ≤ r ∧ (r < hi ∨ r = lo) ∧
    ∃ L, T = putR T0 b L ∧ Within L0 L (first + lo) (first + hi) ∧ HpBut z L first lo hi r ∧ HpUp z L first lo hi r) (fun r => hi - r) lo ?_ ?_
  · simp -implicitDefEqProofs only [go_sem, simprocAttr]
    refine ⟨.inr trivial, L0, hself.symm, .refl _ _ _, hh, ?_⟩
    intro i c h1 h2 h3 h4
    omega
  clear hh hself
  rintro r s T ⟨s0, s2, s3, s4, s10, hr1, hr2, L, rfl, hw, hbut, hup⟩
  have hLl := hw.len
  have hoL := hw.oks hok
  have m1 : IntKind.i64.wrap (2 * (r : Int)) = ((2 * r : Nat) : Int) := by rw [w64 (by omega) (by omega)]; omega
  have m2 : IntKind.i64.wrap (((2 * r : Nat) : Int) + 1) = ((2 * r + 1 : Nat) : Int) := by rw [w64 (by omega) (by omega)]; rfl
  by_cases hend : hi ≤ 2 * r + 1
  · have g1 : (hi : Int) ≤ ((2 * r + 1 : Nat) : Int) := by omega
    simp -implicitDefEqProofs only [go_sem, simprocAttr, wa_cond, axC_t, axC_f, s2, s10, m1, m2, g1]
    refine ⟨[], rfl, rfl, L, rfl, hw, ?_⟩
    intro i c h1 h2 h3 h4 h5
    by_cases hir : i = r
    · omega
    · exact hbut i c h1 hir h2 h3 h4 h5
  have g1 : ¬ (hi : Int) ≤ ((2 * r + 1 : Nat) : Int) := by omega
  have hR : first + r < L.length := by omega
  have hC : first + (2 * r + 1) < L.length := by omega
  have ho := putR_own T0 L hb
  have m3 : IntKind.i64.wrap (((2 * r + 1 : Nat) : Int) + 1) = ((2 * r + 2 : Nat) : Int) := by rw [w64 (by omega) (by omega)]; rfl
  have m4 : IntKind.i64.wrap ((first : Int) + ((2 * r + 1 : Nat) : Int)) = ((first + (2 * r + 1) : Nat) : Int) := by rw [w64 (by omega) (by omega)]; omega
  have m5 : IntKind.i64.wrap (((first + (2 * r + 1) : Nat) : Int) + 1) = ((first + (2 * r + 2) : Nat) : Int) := by rw [w64 (by omega) (by omega)]; omega
  have hCok := hoL _ (List.getElem_mem hC)
  simp -implicitDefEqProofs only [go_sem, simprocAttr, s2, s10, m1, m2, g1]
  refine ax_cond2 ?_
  simp only [ev_tmp, ev_const, ev_func, upd_at, put_some, put_none, bndB_bool, Nat.reduceEqDiff, if_true, if_false, ↓reduceIte, reduceCtorEq]
  refine ⟨fun hc => hc.elim, fun _ => ?_⟩
  simp -implicitDefEqProofs only [go_sem, simprocAttr]
  apply shareK (M := fun s T => s 0 = .slice (some ⟨b, 0, none⟩) L0.length c ∧ s 2 = .int .i64 (hi : Nat) ∧ s 3 = .int .i64 (first : Nat) ∧ s 4 = .func (.func g) #[] #[] ∧ s 10 = .int .i64 (r : Nat) ∧ T = putR T0 b L ∧
    ∃ K, s 11 = .int .i64 (K : Nat) ∧ (K = 2 * r + 1 ∨ K = 2 * r + 2) ∧ K < hi ∧ ∃ hK : first + K < L.length, ∀ c, (c = 2 * r + 1 ∨ c = 2 * r + 2) → c < hi → ∀ h : first + c < L.length, Lq z L[first + c] L[first + K])
  · intro hrest
    by_cases h2 : 2 * r + 2 < hi
    · have hC2 : first + (2 * r + 2) < L.length := by omega
      have hC2ok := hoL _ (List.getElem_mem hC2)
      have r1 := (ho.at (c := 0) (.inl rfl)).rdR (j := first + (2 * r + 1)) hC
      have r2 := (ho.at (c := 0) (.inl rfl)).rdR (j := first + (2 * r + 2)) hC2
      have hcm := fun H => hg.call _ _ hCok hC2ok H
      have d1 : ((2 * r + 2 : Nat) : Int) < (hi : Int) := by omega
      have d2 : (0 : Int) ≤ ((first + (2 * r + 1) : Nat) : Int) := by omega
      have d3 : ((first + (2 * r + 1) : Nat) : Int) < (L0.length : Int) := by omega
      have d4 : (0 : Int) ≤ ((first + (2 * r + 2) : Nat) : Int) := by omega
      have d5 : ((first + (2 * r + 2) : Nat) : Int) < (L0.length : Int) := by omega
      by_cases hlt : z L[first + (2 * r + 1)] L[first + (2 * r + 2)] < 0
      · have hmax : ∀ c, (c = 2 * r + 1 ∨ c = 2 * r + 2) → c < hi → ∀ h : first + c < L.length, Lq z L[first + c] L[first + (2 * r + 2)] := fun c hc _ h => by
          rcases hc with rfl | rfl
          · exact Lq.of_lt hg hCok hC2ok hlt
          · exact Lq.refl hg hC2ok
        generalize L[first + (2 * r + 2)] = y at hcm hlt r2
        generalize L[first + (2 * r + 1)] = x at hcm hlt r1
        unfold RR.cells at r1 r2
        unfold RR.val rV at hcm
        simp only [Nat.zero_add] at r1 r2
        refine ax_quiet (by kernel_rfl) ?_
        simp -implicitDefEqProofs only [go_sem, simprocAttr, s0, s2, s3, s4, m3, d1, m4, m5, aIndexAddr, d2, d3, d4, d5, r1, r2]
        refine wl_callO _ (by simp -implicitDefEqProofs only [go_sem, simprocAttr, s4]) _ (by simp -implicitDefEqProofs only [go_sem, simprocAttr]) (hcm _) ?_
        simp -implicitDefEqProofs only [go_sem, simprocAttr, hlt]
        refine ax_mid _ ?_ hrest
        simp -implicitDefEqProofs only [go_sem, simprocAttr, wa_cond, axC_t, axC_f, s0, s2, s3, s4, s10, m3]
        exact ⟨2 * r + 2, rfl, .inr rfl, h2, hC2, hmax⟩
      · have hmax : ∀ c, (c = 2 * r + 1 ∨ c = 2 * r + 2) → c < hi → ∀ h : first + c < L.length, Lq z L[first + c] L[first + (2 * r + 1)] := fun c hc _ h => by
          rcases hc with rfl | rfl
          · exact Lq.refl hg hCok
          · exact hlt
        generalize L[first + (2 * r + 2)] = y at hcm hlt r2
        generalize L[first + (2 * r + 1)] = x at hcm hlt r1
        unfold RR.cells at r1 r2
        unfold RR.val rV at hcm
        simp only [Nat.zero_add] at r1 r2
        refine ax_quiet (by kernel_rfl) ?_
        simp -implicitDefEqProofs only [go_sem, simprocAttr, s0, s2, s3, s4, m3, d1, m4, m5, aIndexAddr, d2, d3, d4, d5, r1, r2]
        refine wl_callO _ (by simp -implicitDefEqProofs only [go_sem, simprocAttr, s4]) _ (by simp -implicitDefEqProofs only [go_sem, simprocAttr]) (hcm _) ?_
        simp -implicitDefEqProofs only [go_sem, simprocAttr, hlt]
        refine ax_mid _ ?_ hrest
        simp -implicitDefEqProofs only [go_sem, simprocAttr, wa_cond, axC_t, axC_f, s0, s2, s3, s4, s10]
        exact ⟨2 * r + 1, rfl, .inl rfl, by omega, hC, hmax⟩
    · have d1 : ¬ ((2 * r + 2 : Nat) : Int) < (hi : Int) := by omega
      have hmax : ∀ c, (c = 2 * r + 1 ∨ c = 2 * r + 2) → c < hi → ∀ h : first + c < L.length, Lq z L[first + c] L[first + (2 * r + 1)] := fun c hc hch h => by
        rcases hc with rfl | rfl
        · exact Lq.refl hg hCok
        · omega
      refine ax_quiet (by kernel_rfl) ?_
      simp -implicitDefEqProofs only [go_sem, simprocAttr, s2, m3, d1]
      refine ax_mid _ ?_ hrest
      simp -implicitDefEqProofs only [go_sem, simprocAttr, wa_cond, axC_t, axC_f, s0, s2, s3, s4, s10]
      exact ⟨2 * r + 1, rfl, .inl rfl, by omega, hC, hmax⟩
  clear s0 s2 s3 s4 s10
  rintro s T ⟨s0, s2, s3, s4, s10, rfl, K, s11, hKc, hKh, hK, hmax⟩
  have r1 := (ho.at (c := 0) (.inl rfl)).rdR (j := first + r) hR
  have r2 := (ho.at (c := 0) (.inl rfl)).rdR (j := first + K) hK
  have hRok := hoL _ (List.getElem_mem hR)
  have hKok := hoL _ (List.getElem_mem hK)
  have hcm := fun H => hg.call _ _ hRok hKok H
  have n1 : IntKind.i64.wrap ((first : Int) + (r : Int)) = ((first + r : Nat) : Int) := by rw [addc, w64n (by omega)]
  have n2 : IntKind.i64.wrap ((first : Int) + (K : Int)) = ((first + K : Nat) : Int) := by rw [addc, w64n (by omega)]
  have d2 : (0 : Int) ≤ ((first + r : Nat) : Int) := by omega
  have d3 : ((first + r : Nat) : Int) < (L0.length : Int) := by omega
  have d4 : (0 : Int) ≤ ((first + K : Nat) : Int) := by omega
  have d5 : ((first + K : Nat) : Int) < (L0.length : Int) := by omega
  by_cases hlt : z L[first + r] L[first + K] < 0
  · have hhL2 := sw_at L (first + r) (first + K) hR hK
    have hww := hw.trans (.sw L (first + r) (first + K) hR hK (by omega) (by omega))
    have hl2 := sw_len L (first + r) (first + K) hR hK
    have hfin1 : HpBut z (sw L (first + r) (first + K) hR hK) first lo hi K := by
      intro i c h1 h2 h3 h4 h5 h6
      have g5 : first + i < L.length := by rw [hl2] at h5; exact h5
      have g6 : first + c < L.length := by rw [hl2] at h6; exact h6
      rw [hhL2 _ g5, hhL2 _ g6]
      by_cases hir : i = r
      · subst hir
        rw [if_neg (show ¬ first + i = first + K by omega), if_pos rfl]
        by_cases hcK : c = K
        · subst hcK; rw [if_pos rfl]; exact Lq.of_lt hg hRok hKok hlt
        · rw [if_neg (by omega), if_neg (by omega)]; exact hmax c h3 h4 g6
      · rw [if_neg (show ¬ first + i = first + K by omega), if_neg (show ¬ first + i = first + r by omega), if_neg (show ¬ first + c = first + K by omega)]
        by_cases hcr : c = r
        · subst hcr
          rw [if_pos rfl]
          exact hup i K h1 h3 hKc hKh g5 hK
        · rw [if_neg (by omega)]
          exact hbut i c h1 hir h3 h4 g5 g6
    have hfin2 : HpUp z (sw L (first + r) (first + K) hR hK) first lo hi K := by
      intro i c h1 h2 h3 h4 h5 h6
      have g5 : first + i < L.length := by rw [hl2] at h5; exact h5
      have g6 : first + c < L.length := by rw [hl2] at h6; exact h6
      have hir : i = r := by omega
      subst hir
      rw [hhL2 _ g5, hhL2 _ g6, if_neg (show ¬ first + i = first + K by omega), if_pos rfl, if_neg (by omega), if_neg (by omega)]
      exact hbut K c (by omega) (by omega) h3 h4 hK g6
    have w1 := ho.wr (j := first + r) hR L[first + K]
    have w2 := (putR_own T0 (L.set (first + r) L[first + K]) hb).wr (j := first + K) (by simp; omega) L[first + r]
    rw [putR_put] at w1 w2
    have hsw : (L.set (first + r) L[first + K]).set (first + K) L[first + r] = sw L (first + r) (first + K) hR hK := rfl
    rw [hsw] at w2
    clear hhL2 hmax hbut hup hl2
    generalize sw L (first + r) (first + K) hR hK = L2 at *
    generalize L.set (first + r) L[first + K] = L1 at *
    generalize L[first + K] = y at *
    generalize L[first + r] = x at *
    unfold RR.cells at r1 r2 w1 w2
    unfold RR.val rV at hcm
    simp only [Nat.zero_add] at r1 r2
    simp -implicitDefEqProofs only [go_sem, simprocAttr]
    refine ax_quiet (by kernel_rfl) ?_
    simp -implicitDefEqProofs only [go_sem, simprocAttr, s0, s3, s4, s10, s11, n1, n2, aIndexAddr, d2, d3, d4, d5, r1, r2]
    refine wl_callO _ (by simp -implicitDefEqProofs only [go_sem, simprocAttr, s4]) _ (by simp -implicitDefEqProofs only [go_sem, simprocAttr]) (hcm _) ?_
    simp -implicitDefEqProofs only [go_sem, simprocAttr, wa_cond, axC_t, axC_f, hlt]
    refine ax_loud (by kernel_rfl) ?_
    simp -implicitDefEqProofs only [go_sem, simprocAttr, s0, s2, s3, s4, s10, s11, n1, n2, aIndexAddr, d2, d3, d4, d5, r1, r2, w1, w2]
    exact ⟨K, ⟨rfl, by omega, .inl hKh, L2, rfl, hww, hfin1, hfin2⟩, by omega⟩
  · have hfin : Hp z L first lo hi := by
      intro i c h1 h2 h3 h4 h5
      by_cases hir : i = r
      · subst hir
        exact hg.tr _ _ _ (hoL _ (List.getElem_mem h5)) hKok hRok (hmax c h2 h3 h5) hlt
      · exact hbut i c h1 hir h2 h3 h4 h5
    clear hmax hbut hup
    generalize L[first + K] = y at *
    generalize L[first + r] = x at *
    unfold RR.cells at r1 r2
    unfold RR.val rV at hcm
    simp only [Nat.zero_add] at r1 r2
    simp -implicitDefEqProofs only [go_sem, simprocAttr]
    refine ax_quiet (by kernel_rfl) ?_
    simp -implicitDefEqProofs only [go_sem, simprocAttr, s0, s3, s4, s10, s11, n1, n2, aIndexAddr, d2, d3, d4, d5, r1, r2]
    refine wl_callO _ (by simp -implicitDefEqProofs only [go_sem, simprocAttr, s4]) _ (by simp -implicitDefEqProofs only [go_sem, simprocAttr]) (hcm _) ?_
    simp -implicitDefEqProofs only [go_sem, simprocAttr, wa_cond, axC_t, axC_f, hlt]
    first | exact ⟨[], rfl, rfl, L, rfl, hw, hfin⟩ | exact ⟨rfl, L, rfl, hw, hfin⟩
end Go.Proofs.YthhmkaikopdmjaaGreat
namespace Go.Proofs.YthhmkaikopdmjaaGreat
open Go Go.Fw
theorem Hp.max {g : FuncId} {z : RR → RR → Int} {ok : RR → Prop} (hg : Cmp g z ok) {L : List RR} {first n : Nat} (hok : ∀ r ∈ L, ok r) (h : Hp z L first 0 n) : ∀ t, t < n → ∀ (h1 : first + t < L.length) (h0 : first < L.length), Lq z L[first + t] L[first] := by
  intro t
  induction t using Nat.strongRecOn with
  | ind t ih =>
    intro ht h1 h0
    by_cases t0 : t = 0
    · subst t0; exact Lq.refl hg (hok _ (List.getElem_mem h0))
    · have e : t = 2 * ((t - 1) / 2) + 1 ∨ t = 2 * ((t - 1) / 2) + 2 := by omega
      have hp : first + (t - 1) / 2 < L.length := by omega
      have s1 := h ((t - 1) / 2) t (Nat.zero_le _) e ht hp h1
      have s2 := ih ((t - 1) / 2) (by omega) (by omega) hp h0
      exact hg.tr _ _ _ (hok _ (List.getElem_mem h1)) (hok _ (List.getElem_mem hp)) (hok _ (List.getElem_mem h0)) s1 s2
theorem heapG {g : FuncId} {z : RR → RR → Int} {ok : RR → Prop} (hg : Cmp g z ok) (T0 : Heap) {b : Nat} {L0 : List RR} {c lo hi : Nat} (hown : OwnR T0 b L0) (hok : ∀ r ∈ L0, ok r) (hlo : lo < hi) (hhi : hi ≤ L0.length) (hlen : L0.length ≤ 1000000) :
    ∃ L, Sim Tryz.prog 178 #[.slice (some ⟨b, 0, none⟩) L0.length c, .int .i64 (lo : Nat), .int .i64 (hi : Nat), .func (.func g) #[] #[]] T0 (.tuple #[]) (putR T0 b L) ∧ Within L0 L lo hi ∧ SrtTo (Lq z) L lo hi := by
  suffices hx : ∃ w H', Sim Tryz.prog 178 #[.slice (some ⟨b, 0, none⟩) L0.length c, .int .i64 (lo : Nat), .int .i64 (hi : Nat), .func (.func g) #[] #[]] T0 w H' ∧ w = .tuple #[] ∧ ∃ L, H' = putR T0 b L ∧ Within L0 L lo hi ∧ SrtTo (Lq z) L lo hi by
    obtain ⟨w, H', h1, rfl, L, rfl, h2⟩ := hx
    exact ⟨L, h1, h2⟩
  have hb := hown.lt
  have hself := putR_self hown
  obtain ⟨n, hn⟩ : ∃ n, n = hi - lo := ⟨_, rfl⟩
  have a0 : IntKind.i64.wrap ((hi : Int) - (lo : Int)) = (n : Int) := by rw [w64 (by omega) (by omega)]; omega
  have a1 : IntKind.i64.wrap ((n : Int) - 1) = ((n - 1 : Nat) : Int) := by rw [w64 (by omega) (by omega)]; omega
  have a2 : IntKind.i64.wrap (((n - 1 : Nat) : Int).tdiv 2) = (((n - 1) / 2 + 1 : Nat) : Int) - 1 := by rw [show (2 : Int) = ((2 : Nat) : Int) from rfl, tdiv_nat, w64n (by omega)]; omega
  have a3 : ((n - 1 : Nat) : Int) = ((n : Nat) : Int) - 1 := by omega
  refine sim_ex tok mixed Tryz.func178 rfl (by kernel_rfl) (by kernel_rfl) (by simp only [Tryz.ntmps178, List.size_toArray, List.length_cons, List.length_nil]; omega) ?_
  simp -implicitDefEqProofs only [go_sem, simprocAttr, a0, a1, a2]
  refine ax_midl (fun s T => s 0 = .slice (some ⟨b, 0, none⟩) L0.length c ∧ s 3 = .func (.func g) #[] #[] ∧ s 8 = .int .i64 (lo : Nat) ∧ s 9 = .int .i64 ((0 : Nat) : Int) ∧ s 10 = .int .i64 (n : Nat) ∧ ∃ L, T = putR T0 b L ∧ Within L0 L lo hi ∧ Hp z L lo 0 n) ?_ ?_
  · refine ax_loopx (fun (q : Nat) s T => s 0 = .slice (some ⟨b, 0, none⟩) L0.length c ∧ s 3 = .func (.func g) #[] #[] ∧ s 8 = .int .i64 (lo : Nat) ∧ s 9 = .int .i64 ((0 : Nat) : Int) ∧ s 10 = .int .i64 (n : Nat) ∧ s 11 = .int .i64 ((q : Int) - 1) ∧ q ≤ n ∧ ∃ L, T = putR T0 b L ∧ Within L0 L lo hi ∧ Hp z L lo q n) (fun q => q) ((n - 1) / 2 + 1) ?_ ?_
    · simp -implicitDefEqProofs only [go_sem, simprocAttr]
      refine ⟨by omega, L0, hself.symm, .refl _ _ _, ?_⟩
      intro i c h1 h2 h3
      omega
    rintro q s T ⟨s0, s3, s8, s9, s10, s11, hq, L, rfl, hw, hh⟩
    cases q with
    | zero =>
      have e : ¬ (0 : Int) ≤ ((0 : Nat) : Int) - 1 := by decide
      simp -implicitDefEqProofs only [go_sem, simprocAttr, wa_cond, axC_t, axC_f, s0, s3, s8, s9, s10, s11, e]
      exact ⟨L, rfl, hw, hh⟩
    | succ i =>
      have e0 : ((i + 1 : Nat) : Int) - 1 = (i : Int) := by omega
      rw [e0] at s11
      have e1 : (0 : Int) ≤ (i : Int) := by omega
      have hLl := hw.len
      obtain ⟨L2, o, hw2, hh2⟩ := siftG hg (putR T0 b L) (c := c) (lo := i) (hi := n) (first := lo) (putR_own T0 L hb) (hw.oks hok) (by omega) (by omega) (by omega) (fun i' c' h1 h2 h3 h4 h5 h6 => hh i' c' (by omega) h3 h4 h5 h6)
      rw [putR_put, hLl] at o
      have m1 : IntKind.i64.wrap ((i : Int) - 1) = (i : Int) - 1 := w64 (by omega) (by omega)
      have hww := hw.trans (hw2.mono (show lo ≤ lo + i by omega) (show lo + n ≤ hi by omega))
      simp -implicitDefEqProofs only [go_sem, simprocAttr, wa_cond, axC_t, axC_f, s0, s3, s8, s9, s10, s11, e1]
      refine wl_callF _ (by simp -implicitDefEqProofs only [go_sem, simprocAttr]) o (fun h => by cases h) ?_
      simp -implicitDefEqProofs only [go_sem, simprocAttr, s0, s3, s8, s9, s10, s11, m1]
      exact ⟨i, ⟨rfl, by omega, L2, rfl, hww, hh2⟩, by omega⟩
  rintro s T ⟨s0, s3, s8, s9, s10, L, rfl, hw, hh⟩
  simp -implicitDefEqProofs only [go_sem, simprocAttr, s10, a1]
  refine ax_loopx (fun (q : Nat) s T => s 0 = .slice (some ⟨b, 0, none⟩) L0.length c ∧ s 3 = .func (.func g) #[] #[] ∧ s 8 = .int .i64 (lo : Nat) ∧ s 9 = .int .i64 ((0 : Nat) : Int) ∧ s 12 = .int .i64 ((q : Int) - 1) ∧ q ≤ n ∧ ∃ L, T = putR T0 b L ∧ Within L0 L lo hi ∧ Hp z L lo 0 q ∧ Outs (Lq z) L lo hi lo (lo + q)) (fun q => q) n ?_ ?_
  · simp -implicitDefEqProofs only [go_sem, simprocAttr, s0, s3, s8, s9, a3]
    refine ⟨L, rfl, hw, hh, ?_⟩
    rw [show lo + n = hi by omega]
    exact .start _ _ _
  clear s0 s3 s8 s9 s10 hw hh
  clear L
  rintro q s T ⟨s0, s3, s8, s9, s12, hq, L, rfl, hw, hh, hout⟩
  cases q with
  | zero =>
    have e : ¬ (0 : Int) ≤ ((0 : Nat) : Int) - 1 := by decide
    simp -implicitDefEqProofs only [go_sem, simprocAttr, wa_cond, axC_t, axC_f, s12, e]
    refine ⟨[], rfl, rfl, L, rfl, hw, ?_⟩
    exact fun p q h0 h1 h2 hp hq => hout p q h0 h1 h2 (by omega) hp hq
  | succ i =>
    have e0 : ((i + 1 : Nat) : Int) - 1 = (i : Int) := by omega
    rw [e0] at s12
    have e1 : (0 : Int) ≤ (i : Int) := by omega
    have hLl := hw.len
    have hoL := hw.oks hok
    have hI : lo < L.length := by omega
    have hJ : lo + i < L.length := by omega
    have hmax := hh.max hg hoL
    have ho := putR_own T0 L hb
    have r1 := (ho.at (c := 0) (.inl rfl)).rdR (j := lo) hI
    have r2 := (ho.at (c := 0) (.inl rfl)).rdR (j := lo + i) hJ
    have hat := sw_at L lo (lo + i) hI hJ
    have hl2 := sw_len L lo (lo + i) hI hJ
    have hw1 := Within.sw L (a := lo) (b := hi) lo (lo + i) hI hJ (by omega) (by omega)
    have hbut : HpBut z (sw L lo (lo + i) hI hJ) lo 0 i 0 := by
      intro i' c' h1 h2 h3 h4 h5 h6
      have g5 : lo + i' < L.length := by rw [hl2] at h5; exact h5
      have g6 : lo + c' < L.length := by rw [hl2] at h6; exact h6
      rw [hat _ g5, hat _ g6, if_neg (by omega), if_neg (by omega), if_neg (by omega), if_neg (by omega)]
      exact hh i' c' (by omega) h3 (by omega) g5 g6
    have hout1 : Outs (Lq z) (sw L lo (lo + i) hI hJ) lo hi lo (lo + i) := by
      intro p q h0 h1 h2 h3 hp hq
      have gp : p < L.length := by rw [hl2] at hp; exact hp
      have gq : q < L.length := by rw [hl2] at hq; exact hq
      rw [hat _ gp, hat _ gq]
      by_cases hqi : q = lo + i
      · rw [if_pos hqi, if_neg (by omega)]
        by_cases hpl : p = lo
        · rw [if_pos hpl]; exact hmax i (by omega) hJ hI
        · rw [if_neg hpl]
          have := hmax (p - lo) (by omega) (by omega) hI
          simp only [show lo + (p - lo) = p by omega] at this
          exact this
      · rw [if_neg hqi, if_neg (show ¬ q = lo by omega)]
        by_cases hpi : p = lo + i
        · rw [if_pos hpi]; exact hout lo q (Nat.le_refl _) (by omega) h2 (by omega) hI gq
        · rw [if_neg hpi]
          by_cases hpl : p = lo
          · rw [if_pos hpl]; exact hout (lo + i) q (by omega) (by omega) h2 (by omega) hJ gq
          · rw [if_neg hpl]; exact hout p q h0 h1 h2 (by omega) gp gq
    obtain ⟨L2, o, hw2, hh2⟩ := siftG hg (putR T0 b (sw L lo (lo + i) hI hJ)) (c := c) (lo := 0) (hi := i) (first := lo) (putR_own T0 _ hb) (hw1.oks hoL) (by rw [hl2]; omega) (by omega) (by rw [hl2]; omega) hbut
    rw [putR_put, hl2, hLl] at o
    have hww := hw.trans (hw1.trans (hw2.mono (show lo ≤ lo + 0 by omega) (show lo + i ≤ hi by omega)))
    have hout2 := hout1.within hw2 (Nat.le_refl _) (by omega) (by omega) (Nat.le_refl _) (by omega) (by rw [hl2]; omega)
    have w1 := ho.wr (j := lo) hI L[lo + i]
    have w2 := (putR_own T0 (L.set lo L[lo + i]) hb).wr (j := lo + i) (by simp; omega) L[lo]
    rw [putR_put] at w1 w2
    have hsw : (L.set lo L[lo + i]).set (lo + i) L[lo] = sw L lo (lo + i) hI hJ := rfl
    rw [hsw] at w2
    have n1 : IntKind.i64.wrap ((lo : Int) + (i : Int)) = ((lo + i : Nat) : Int) := by rw [addc, w64n (by omega)]
    have d2 : (0 : Int) ≤ (lo : Int) := by omega
    have d3 : (lo : Int) < (L0.length : Int) := by omega
    have d4 : (0 : Int) ≤ ((lo + i : Nat) : Int) := by omega
    have d5 : ((lo + i : Nat) : Int) < (L0.length : Int) := by omega
    have m1 : IntKind.i64.wrap ((i : Int) - 1) = (i : Int) - 1 := w64 (by omega) (by omega)
    clear hat hl2 hw1 hw2 hbut hout1 hmax hh hout
    generalize sw L lo (lo + i) hI hJ = L1 at *
    generalize L.set lo L[lo + i] = L1' at *
    generalize L[lo + i] = y at *
    generalize L[lo] = x at *
    unfold RR.cells at r1 r2 w1 w2
    simp only [Nat.zero_add] at r1 r2
    simp -implicitDefEqProofs only [go_sem, simprocAttr, wa_cond, axC_t, axC_f, s12, e1]
    refine ax_loud (by kernel_rfl) ?_
    simp -implicitDefEqProofs only [go_sem, simprocAttr, s0, s3, s8, s9, s12, n1, aIndexAddr, d2, d3, d4, d5, r1, r2, w1, w2]
    refine wl_callF _ (by simp -implicitDefEqProofs only [go_sem, simprocAttr]) o (fun h => by cases h) ?_
    simp -implicitDefEqProofs only [go_sem, simprocAttr, s0, s3, s8, s9, s12, m1]
    exact ⟨i, ⟨rfl, by omega, L2, rfl, hww, hh2, hout2⟩, by omega⟩
end Go.Proofs.YthhmkaikopdmjaaGreat
namespace Go.Proofs.YthhmkaikopdmjaaGreat
open Go Go.Fw
def rnd (T : Heap) (p : Nat) (n : Int) : Heap := T.set p ⟨[.int .u64 n], 1, true⟩
theorem rnd_at {T : Heap} {p : Nat} (h : p < T.length) (n : Int) : (rnd T p n)[p]? = some ⟨[.int .u64 n], 1, true⟩ := by unfold rnd; rw [List.getElem?_set_self h]
theorem rnd_rd {T : Heap} {p : Nat} (h : p < T.length) (n : Int) : rd (rnd T p n) p 0 1 = some [.int .u64 n] := rd_cell (rnd_at h n)
theorem rnd_wr {T : Heap} {p : Nat} (h : p < T.length) (n m : Int) : wr (rnd T p n) p 0 [.int .u64 m] = some (rnd T p m) := by
  have := wr_cell (v := .int .u64 m) (rnd_at h n) rfl
  rw [this]; simp [rnd]
theorem nextS (T : Heap) {p : Nat} (hp : p < T.length) (n : Int) : ∃ r, Sim Tryz.prog 238 #[.pointer (some ⟨p, 0, none⟩)] (rnd T p n) (.int .u64 r) (rnd T p r) := by
  suffices hx : ∃ w H', Sim Tryz.prog 238 #[.pointer (some ⟨p, 0, none⟩)] (rnd T p n) w H' ∧ ∃ r, w = .int .u64 r ∧ H' = rnd T p r by
    obtain ⟨w, H', h1, r, rfl, rfl⟩ := hx
    exact ⟨r, h1⟩
  have hr := rnd_rd hp
  have hw := rnd_wr hp
  refine sim_ex tok mixed Tryz.func238 rfl (by kernel_rfl) (by kernel_rfl) (by simp only [Tryz.ntmps238, List.size_toArray, List.length_cons, List.length_nil]; omega) ?_
  simp -implicitDefEqProofs only [go_sem, simprocAttr]
  refine ax_loud (by kernel_rfl) ?_
  simp -implicitDefEqProofs only [go_sem, simprocAttr, hr, hw]
  refine ax_loud (by kernel_rfl) ?_
  simp -implicitDefEqProofs only [go_sem, simprocAttr, hr, hw]
  refine ax_loud (by kernel_rfl) ?_
  simp -implicitDefEqProofs only [go_sem, simprocAttr, hr, hw, res238]
  exact ⟨_, rfl, rfl⟩
theorem powS (H : Heap) {x : Nat} (h0 : 0 < x) (hx : x < 256) : ∃ m : Nat, Sim Tryz.prog 237 #[.int .i64 (x : Nat)] H (.int .u64 (m : Nat)) H ∧ x < m ∧ m ≤ 2 * x := by
  have hb := bitLen_bounds h0
  have hl := bitLen_le h0 (show x < 2 ^ 8 by omega)
  have o := len_sim H hx
  refine ⟨2 ^ bitLen x, ?_, hb.2.1, ?_⟩
  · have c1 : IntKind.u64.wrap (x : Int) = (x : Int) := wu64n (by omega)
    have hp : (2 : Nat) ^ bitLen x ≤ 2 ^ 8 := Nat.pow_le_pow_right (by decide) hl
    have c2 : IntKind.u64.wrap (1 * 2 ^ min (bitLen x) 64) = ((2 ^ bitLen x : Nat) : Int) := by
      rw [Nat.min_eq_left (by omega), Int.one_mul, show (2 : Int) = ((2 : Nat) : Int) from rfl, ← Int.natCast_pow, wu64n (by omega)]
    have c3 : ¬ (bitLen x : Int) < 0 := by omega
    refine sim_of_ax tok mixed Tryz.func237 rfl (by kernel_rfl) (by kernel_rfl) (by simp only [Tryz.ntmps237, List.size_toArray, List.length_cons, List.length_nil]; omega) ?_
    simp -implicitDefEqProofs only [go_sem, simprocAttr, aConv, c1]
    refine wl_callV _ (by simp -implicitDefEqProofs only [go_sem, simprocAttr]) o ?_
    simp -implicitDefEqProofs only [go_sem, simprocAttr, c2, c3, res237]
  · have := hb.1
    have e : 2 ^ bitLen x = 2 * 2 ^ (bitLen x - 1) := by
      conv => lhs; rw [show bitLen x = (bitLen x - 1) + 1 by omega, Nat.pow_succ]
      omega
    omega
theorem breakG (T0 : Heap) {f : Value} {b : Nat} {L0 : List RR} {c lo hi : Nat} (hown : OwnR T0 b L0) (hlo : lo + 12 < hi) (hhi : hi ≤ L0.length) (hlen : L0.length ≤ 255) :
    ∃ L, Sim Tryz.prog 179 #[.slice (some ⟨b, 0, none⟩) L0.length c, .int .i64 (lo : Nat), .int .i64 (hi : Nat), f] T0 (.tuple #[]) (putR T0 b L) ∧ Within L0 L lo hi := by
  suffices hx : ∃ w H', Sim Tryz.prog 179 #[.slice (some ⟨b, 0, none⟩) L0.length c, .int .i64 (lo : Nat), .int .i64 (hi : Nat), f] T0 w H' ∧ w = .tuple #[] ∧ ∃ L G, H' = putR T0 b L ++ G ∧ Within L0 L lo hi by
    obtain ⟨w, H', h1, rfl, L, G, rfl, h2⟩ := hx
    exact ⟨L, Sim.flat h1 (putR_calm T0 b L) rfl, h2⟩
  have hb := hown.lt
  have hself := putR_self hown
  obtain ⟨l, hl⟩ : ∃ l, l = hi - lo := ⟨_, rfl⟩
  have a0 : IntKind.i64.wrap ((hi : Int) - (lo : Int)) = (l : Int) := by rw [w64 (by omega) (by omega)]; omega
  have c8 : (8 : Int) ≤ (l : Int) := by omega
  have a1 : IntKind.i64.wrap ((l : Int).tdiv 4) = ((l / 4 : Nat) : Int) := by rw [show (4 : Int) = ((4 : Nat) : Int) from rfl, tdiv_nat, w64n (by omega)]
  have a3 : IntKind.i64.wrap (((l / 4 : Nat) : Int) * 2) = ((l / 4 * 2 : Nat) : Int) := by rw [w64 (by omega) (by omega)]; omega
  have a6 : IntKind.i64.wrap ((lo : Int) + ((l / 4 * 2 : Nat) : Int)) = ((lo + l / 4 * 2 : Nat) : Int) := by rw [w64 (by omega) (by omega)]; omega
  have a7 : IntKind.i64.wrap (((lo + l / 4 * 2 : Nat) : Int) - 1) = ((lo + l / 4 * 2 - 1 : Nat) : Int) := by rw [w64 (by omega) (by omega)]; omega
  have a8 : IntKind.i64.wrap (((lo + l / 4 * 2 : Nat) : Int) + 1) = ((lo + l / 4 * 2 + 1 : Nat) : Int) := by rw [w64 (by omega) (by omega)]; omega
  obtain ⟨m, om, hm1, hm2⟩ := powS (T0 ++ [⟨[.int .u64 (IntKind.u64.wrap (l : Int))], 1, true⟩]) (x := l) (by omega) (by omega)
  refine sim_ex tok mixed Tryz.func179 rfl (by kernel_rfl) (by kernel_rfl) (by simp only [Tryz.ntmps179, List.size_toArray, List.length_cons, List.length_nil]; omega) ?_
  simp -implicitDefEqProofs only [go_sem, simprocAttr, a0, c8]
  refine ax_cond2 ?_
  simp only [ev_tmp, ev_const, ev_func, upd_at, put_some, put_none, bndB_bool, Nat.reduceEqDiff, if_true, if_false, ↓reduceIte, reduceCtorEq]
  refine ⟨fun _ => ?_, fun hc => hc.elim⟩
  simp -implicitDefEqProofs only [go_sem, simprocAttr, a0, c8, aConv]
  refine wl_callF _ (by simp -implicitDefEqProofs only [go_sem, simprocAttr]) om (fun h => by cases h) ?_
  simp -implicitDefEqProofs only [go_sem, simprocAttr, a0, a1, a3, a6, a7]
  have hini : ∃ n, T0 ++ [(⟨[.int .u64 (IntKind.u64.wrap (l : Int))], 1, true⟩ : Blk)] = rnd (putR (T0 ++ [(⟨[.int .u64 (IntKind.u64.wrap (l : Int))], 1, true⟩ : Blk)]) b L0) T0.length n := by
    refine ⟨IntKind.u64.wrap (l : Int), ?_⟩
    rw [putR_self (Own.app hown _)]
    unfold rnd
    rw [List.set_append_right _ _ (Nat.le_refl _)]
    simp
  have hfin : ∀ L n, ∃ G, rnd (putR (T0 ++ [(⟨[.int .u64 (IntKind.u64.wrap (l : Int))], 1, true⟩ : Blk)]) b L) T0.length n = putR T0 b L ++ G := by
    intro L n
    unfold rnd putR
    rw [List.set_append_left _ _ hb, List.set_append_right _ _ (by simp)]
    exact ⟨_, rfl⟩
  have hb1 : b < (T0 ++ [(⟨[.int .u64 (IntKind.u64.wrap (l : Int))], 1, true⟩ : Blk)]).length := by simp; omega
  have hp1 : T0.length < (T0 ++ [(⟨[.int .u64 (IntKind.u64.wrap (l : Int))], 1, true⟩ : Blk)]).length := by simp
  clear om
  generalize T0 ++ [(⟨[.int .u64 (IntKind.u64.wrap (l : Int))], 1, true⟩ : Blk)] = T1 at *
  obtain ⟨p, hp⟩ : ∃ p, p = T0.length := ⟨_, rfl⟩
  rw [← hp] at hini hfin hp1 ⊢
  have hbp : b ≠ p := by omega
  have hcomm : ∀ n L, putR (rnd T1 p n) b L = rnd (putR T1 b L) p n := by
    intro n L
    unfold rnd putR
    exact List.set_comm _ _ (Ne.symm hbp)
  obtain ⟨n0, hini⟩ := hini
  refine ax_loopx (fun (i : Nat) s T => s 0 = .slice (some ⟨b, 0, none⟩) L0.length c ∧ s 1 = .int .i64 (lo : Nat) ∧ s 8 = .int .i64 (l : Nat) ∧ s 9 = .pointer (some ⟨p, 0, none⟩) ∧ s 10 = .int .u64 (m : Nat) ∧ s 11 = .int .i64 (i : Nat) ∧ lo ≤ i ∧ i ≤ lo + l / 4 * 2 + 2 ∧
    ∃ L n, T = rnd (putR T1 b L) p n ∧ Within L0 L lo hi) (fun i => lo + l / 4 * 2 + 3 - i) (lo + l / 4 * 2 - 1) ?_ ?_
  · simp -implicitDefEqProofs only [go_sem, simprocAttr]
    exact ⟨by omega, by omega, L0, n0, hini, .refl _ _ _⟩
  rintro i s T ⟨s0, s1, s8, s9, s10, s11, hi1, hi2, L, n, rfl, hw⟩
  by_cases hend : i ≤ lo + l / 4 * 2 + 1
  · have g1 : (i : Int) ≤ ((lo + l / 4 * 2 + 1 : Nat) : Int) := by omega
    have hLl := hw.len
    have hp2 : p < (putR T1 b L).length := by rw [putR_len]; omega
    obtain ⟨r, o⟩ := nextS (putR T1 b L) hp2 n
    have m1 : IntKind.u64.wrap ((m : Int) - 1) = ((m - 1 : Nat) : Int) := by rw [wu64 (by omega) (by omega)]; omega
    obtain ⟨q, hq, hqm⟩ := andI_le (x := r) (m := m - 1) (by omega)
    have m2 : IntKind.i64.wrap (q : Int) = (q : Int) := w64n (by omega)
    have m3 : IntKind.i64.wrap ((i : Int) + 1) = ((i + 1 : Nat) : Int) := by rw [w64 (by omega) (by omega)]; rfl
    simp -implicitDefEqProofs only [go_sem, simprocAttr, wa_cond, axC_t, axC_f, s0, s1, s8, s9, s10, s11, a1, a3, a6, a8, g1]
    refine wl_callF _ (by simp -implicitDefEqProofs only [go_sem, simprocAttr, s9]) o (fun h => by cases h) ?_
    simp -implicitDefEqProofs only [go_sem, simprocAttr, s0, s1, s8, s9, s10, s11, m1, hq, aConv, m2]
    apply shareK (M := fun s T => s 0 = .slice (some ⟨b, 0, none⟩) L0.length c ∧ s 1 = .int .i64 (lo : Nat) ∧ s 8 = .int .i64 (l : Nat) ∧ s 9 = .pointer (some ⟨p, 0, none⟩) ∧ s 10 = .int .u64 (m : Nat) ∧ s 11 = .int .i64 (i : Nat) ∧ T = rnd (putR T1 b L) p r ∧ ∃ k : Nat, s 12 = .int .i64 (k : Nat) ∧ k < l)
    · intro hrest
      by_cases hql : l ≤ q
      · have g2 : (l : Int) ≤ (q : Int) := by omega
        have m4 : IntKind.i64.wrap ((q : Int) - (l : Int)) = ((q - l : Nat) : Int) := by rw [w64 (by omega) (by omega)]; omega
        simp -implicitDefEqProofs only [go_sem, simprocAttr, g2]
        refine ax_mid _ ?_ hrest
        simp -implicitDefEqProofs only [go_sem, simprocAttr, wa_cond, axC_t, axC_f, s0, s1, s8, s9, s10, s11, m4]
        exact ⟨q - l, rfl, by omega⟩
      · have g2 : ¬ (l : Int) ≤ (q : Int) := by omega
        simp -implicitDefEqProofs only [go_sem, simprocAttr, g2]
        refine ax_mid _ ?_ hrest
        simp -implicitDefEqProofs only [go_sem, simprocAttr, wa_cond, axC_t, axC_f, s0, s1, s8, s9, s10, s11]
        exact ⟨q, rfl, by omega⟩
    clear s0 s1 s8 s9 s10 s11 o
    rintro s T ⟨s0, s1, s8, s9, s10, s11, rfl, k, s12, hk⟩
    have hI : i < L.length := by omega
    have hJ : lo + k < L.length := by omega
    obtain ⟨x, y, L1, L2, hx, hy, hL2, r1, r2, w1, w2⟩ := swF (rnd T1 p r) (b := b) (i := i) (j := lo + k) (L := L) (by simp [rnd]; omega) hI hJ
    simp only [hcomm] at r1 r2 w1 w2
    have hww := hw.trans (.sw L i (lo + k) hI hJ (by omega) (by omega))
    rw [← hL2] at hww
    have m5 : IntKind.i64.wrap ((lo : Int) + (k : Int)) = ((lo + k : Nat) : Int) := by rw [w64 (by omega) (by omega)]; omega
    have d2 : (0 : Int) ≤ (i : Int) := by omega
    have d3 : (i : Int) < (L0.length : Int) := by omega
    have d4 : (0 : Int) ≤ ((lo + k : Nat) : Int) := by omega
    have d5 : ((lo + k : Nat) : Int) < (L0.length : Int) := by omega
    refine ax_loud (by kernel_rfl) ?_
    simp -implicitDefEqProofs only [go_sem, simprocAttr, s0, s1, s8, s9, s10, s11, s12, m5, aIndexAddr, d2, d3, d4, d5, r1, r2, w1, w2, m3]
    exact ⟨i + 1, ⟨rfl, by omega, by omega, L2, r, rfl, hww⟩, by omega⟩
  · have g1 : ¬ (i : Int) ≤ ((lo + l / 4 * 2 + 1 : Nat) : Int) := by omega
    simp -implicitDefEqProofs only [go_sem, simprocAttr, wa_cond, axC_t, axC_f, s0, s1, s8, s9, s10, s11, a1, a3, a6, a8, g1]
    obtain ⟨G, hG⟩ := hfin L n
    exact ⟨[], rfl, rfl, L, G, hG, hw⟩
end Go.Proofs.YthhmkaikopdmjaaGreat
namespace Go.Proofs.YthhmkaikopdmjaaGreat
open Go Go.Fw
theorem Srt.more {g : FuncId} {z : RR → RR → Int} {ok : RR → Prop} (hg : Cmp g z ok) {L : List RR} {lo i : Nat} (hok : ∀ r ∈ L, ok r) (h : SrtTo (Lq z) L lo i) (hi : lo < i) (hl : i < L.length) (hle : Lq z (L[i - 1]'(by omega)) L[i]) : SrtTo (Lq z) L lo (i + 1) := by
  intro p q h0 h1 h2 hp hq
  by_cases hqi : q = i
  · subst hqi
    by_cases hp1 : p = q - 1
    · subst hp1; exact hle
    · exact hg.tr _ _ _ (hok _ (List.getElem_mem hp)) (hok _ (List.getElem_mem (by omega))) (hok _ (List.getElem_mem hq)) (h p (q - 1) h0 (by omega) (by omega) hp (by omega)) hle
  · exact h p q h0 h1 (by omega) hp hq
theorem Srt.keep {z : RR → RR → Int} {L0 L : List RR} {lo i a b : Nat} (h : SrtTo (Lq z) L0 lo i) (hw : Within L0 L a b) (ha : i ≤ a) : SrtTo (Lq z) L lo i := by
  intro p q h0 h1 h2 hp hq
  rw [hw.at hp (.inl (by omega)), hw.at hq (.inl (by omega))]
  exact h p q h0 h1 h2 _ _
theorem partialG {g : FuncId} {z : RR → RR → Int} {ok : RR → Prop} (hg : Cmp g z ok) (T0 : Heap) {b : Nat} {L0 : List RR} {c lo hi : Nat} (hown : OwnR T0 b L0) (hok : ∀ r ∈ L0, ok r) (hlo : lo + 12 < hi) (hhi : hi ≤ L0.length) (hlen : L0.length ≤ 1000000) (hlb : Lb (Lq z) L0 lo hi) :
    ∃ L t, Sim Tryz.prog 182 #[.slice (some ⟨b, 0, none⟩) L0.length c, .int .i64 (lo : Nat), .int .i64 (hi : Nat), .func (.func g) #[] #[]] T0 (.bool t) (putR T0 b L) ∧ Within L0 L lo hi ∧ (t = true → SrtTo (Lq z) L lo hi) := by
  suffices hx : ∃ w H', Sim Tryz.prog 182 #[.slice (some ⟨b, 0, none⟩) L0.length c, .int .i64 (lo : Nat), .int .i64 (hi : Nat), .func (.func g) #[] #[]] T0 w H' ∧ ∃ t, w = .bool t ∧ ∃ L, H' = putR T0 b L ∧ Within L0 L lo hi ∧ (t = true → SrtTo (Lq z) L lo hi) by
    obtain ⟨w, H', h1, t, rfl, L, rfl, h2⟩ := hx
    exact ⟨L, t, h1, h2⟩
  have hb := hown.lt
  have a1 : IntKind.i64.wrap ((lo : Int) + 1) = ((lo + 1 : Nat) : Int) := by rw [w64 (by omega) (by omega)]; rfl
  have a0 : IntKind.i64.wrap ((hi : Int) - (lo : Int)) = ((hi - lo : Nat) : Int) := by rw [w64 (by omega) (by omega)]; omega
  have hself := putR_self hown
  refine sim_ex tok mixed Tryz.func182 rfl (by kernel_rfl) (by kernel_rfl) (by simp only [Tryz.ntmps182, List.size_toArray, List.length_cons, List.length_nil]; omega) ?_
  simp -implicitDefEqProofs only [go_sem, simprocAttr, a1]
  refine ax_midl (fun s T => True ∧ ∃ L, T = putR T0 b L ∧ Within L0 L lo hi) ?_ ?_
  · refine ax_loopx (fun (k : Nat) s T => s 0 = .slice (some ⟨b, 0, none⟩) L0.length c ∧ s 1 = .int .i64 (lo : Nat) ∧ s 2 = .int .i64 (hi : Nat) ∧ s 3 = .func (.func g) #[] #[] ∧ s 10 = .int .i64 (k : Nat) ∧ k ≤ 5 ∧ ∃ i L, s 9 = .int .i64 (i : Nat) ∧ lo < i ∧ i ≤ hi ∧ T = putR T0 b L ∧ Within L0 L lo hi ∧ SrtTo (Lq z) L lo i) (fun k => 5 - k) 0 ?_ ?_
    · simp -implicitDefEqProofs only [go_sem, simprocAttr]
      exact ⟨lo + 1, L0, rfl, by omega, by omega, hself.symm, .refl _ _ _, .one _ (by omega)⟩
    rintro k s T ⟨s0, s1, s2, s3, s10, hk, i0, L, s9, hi1, hi2, rfl, hw, hs⟩
    by_cases hk5 : k = 5
    · subst hk5
      have g1 : ¬ (((5 : Nat) : Int) < 5) := by decide
      simp -implicitDefEqProofs only [go_sem, simprocAttr, wa_cond, axC_t, axC_f, s0, s1, s2, s3, s9, s10, g1]
      exact ⟨L, rfl, hw⟩
    have g1 : (k : Int) < 5 := by omega
    simp -implicitDefEqProofs only [go_sem, simprocAttr, wa_cond, axC_t, axC_f, s0, s1, s2, s3, s9, s10, g1]
    refine ax_midl (fun s T => s 0 = .slice (some ⟨b, 0, none⟩) L0.length c ∧ s 1 = .int .i64 (lo : Nat) ∧ s 2 = .int .i64 (hi : Nat) ∧ s 3 = .func (.func g) #[] #[] ∧ s 10 = .int .i64 (k : Nat) ∧ T = putR T0 b L ∧ ∃ i : Nat, s 9 = .int .i64 (i : Nat) ∧ lo < i ∧ i ≤ hi ∧ SrtTo (Lq z) L lo i) ?_ ?_
    · refine ax_loopx (fun (i : Nat) s T => s 0 = .slice (some ⟨b, 0, none⟩) L0.length c ∧ s 1 = .int .i64 (lo : Nat) ∧ s 2 = .int .i64 (hi : Nat) ∧ s 3 = .func (.func g) #[] #[] ∧ s 10 = .int .i64 (k : Nat) ∧ s 9 = .int .i64 (i : Nat) ∧ lo < i ∧ i ≤ hi ∧ T = putR T0 b L ∧ SrtTo (Lq z) L lo i) (fun i => hi - i) i0 ?_ ?_
      · simp -implicitDefEqProofs only [go_sem, simprocAttr, s0, s1, s2, s3, s9, s10]
        exact ⟨hi1, hi2, hs⟩
      clear s0 s1 s2 s3 s9 s10 hs hi1 hi2
      rintro i s T ⟨s0, s1, s2, s3, s10, s9, hi1, hi2, rfl, hs⟩
      have hLl := hw.len
      have hoL := hw.oks hok
      simp -implicitDefEqProofs only [go_sem, simprocAttr]
      refine ax_quiet (by kernel_rfl) ?_
      by_cases hih : i < hi
      · have hI : i < L.length := by omega
        have hJ : i - 1 < L.length := by omega
        obtain ⟨x, hx, r1⟩ := rdF T0 hb hI
        obtain ⟨y, hy, r2⟩ := rdF T0 hb hJ
        have hcm := fun H => hg.call x y (hx ▸ hoL _ (List.getElem_mem hI)) (hy ▸ hoL _ (List.getElem_mem hJ)) H
        unfold RR.val rV at hcm
        have g1 : (i : Int) < (hi : Int) := by omega
        have m1 : IntKind.i64.wrap ((i : Int) - 1) = ((i - 1 : Nat) : Int) := by rw [w64 (by omega) (by omega)]; omega
        have m2 : IntKind.i64.wrap ((i : Int) + 1) = ((i + 1 : Nat) : Int) := by rw [w64 (by omega) (by omega)]; rfl
        have d2 : (0 : Int) ≤ (i : Int) := by omega
        have d3 : (i : Int) < (L0.length : Int) := by omega
        have d4 : (0 : Int) ≤ ((i - 1 : Nat) : Int) := by omega
        have d5 : ((i - 1 : Nat) : Int) < (L0.length : Int) := by omega
        simp -implicitDefEqProofs only [go_sem, simprocAttr, s0, s1, s2, s3, s9, aIndexAddr, g1, d2, d3, d4, d5, m1, r1, r2]
        refine wl_callO _ (by simp -implicitDefEqProofs only [go_sem, simprocAttr, s3]) _ (by simp -implicitDefEqProofs only [go_sem, simprocAttr]) (hcm _) ?_
        by_cases hc : z x y < 0
        · simp -implicitDefEqProofs only [go_sem, simprocAttr, wa_cond, axC_t, axC_f, hc, s0, s1, s2, s3, s9, s10]
          exact ⟨i, rfl, hi1, hi2, hs⟩
        · simp -implicitDefEqProofs only [go_sem, simprocAttr, wa_cond, axC_t, axC_f, hc, s0, s1, s2, s3, s9, s10, m2]
          exact ⟨i + 1, ⟨rfl, by omega, by omega, Srt.more hg hoL hs hi1 hI (by unfold Lq; rw [← hx, ← hy]; exact hc)⟩, by omega⟩
      · have g1 : ¬ (i : Int) < (hi : Int) := by omega
        simp -implicitDefEqProofs only [go_sem, simprocAttr, wa_cond, axC_t, axC_f, s0, s1, s2, s3, s9, s10, g1]
        exact ⟨i, rfl, hi1, hi2, hs⟩
    clear s0 s1 s2 s3 s9 s10 hs hi1 hi2
    rintro s T ⟨s0, s1, s2, s3, s10, rfl, i, s9, hi1, hi2, hs⟩
    have hLl := hw.len
    have hoL := hw.oks hok
    by_cases hih : i = hi
    · subst hih
      simp -implicitDefEqProofs only [go_sem, simprocAttr, wa_cond, axC_t, axC_f, s0, s1, s2, s3, s9, s10, res182]
      exact ⟨true, rfl, L, rfl, hw, fun _ => hs⟩
    have g2 : ¬ (i : Int) = (hi : Int) := by omega
    by_cases h50 : hi - lo < 50
    · have g3 : ((hi - lo : Nat) : Int) < 50 := by omega
      simp -implicitDefEqProofs only [go_sem, simprocAttr, wa_cond, axC_t, axC_f, s0, s1, s2, s3, s9, s10, g2, a0, g3, res182]
      exact ⟨false, rfl, L, rfl, hw, fun h => by cases h⟩
    have g3 : ¬ ((hi - lo : Nat) : Int) < 50 := by omega
    have hI : i < L.length := by omega
    have hJ : i - 1 < L.length := by omega
    obtain ⟨x, y, L1, L2, hx, hy, hL2, r1, r2, w1, w2⟩ := swF T0 hb hI hJ
    have m1 : IntKind.i64.wrap ((i : Int) - 1) = ((i - 1 : Nat) : Int) := by rw [w64 (by omega) (by omega)]; omega
    have m2 : IntKind.i64.wrap ((i : Int) + 1) = ((i + 1 : Nat) : Int) := by rw [w64 (by omega) (by omega)]; rfl
    have m3 : IntKind.i64.wrap ((i : Int) - (lo : Int)) = ((i - lo : Nat) : Int) := by rw [w64 (by omega) (by omega)]; omega
    have m4 : IntKind.i64.wrap ((hi : Int) - (i : Int)) = ((hi - i : Nat) : Int) := by rw [w64 (by omega) (by omega)]; omega
    have m5 : IntKind.i64.wrap ((k : Int) + 1) = ((k + 1 : Nat) : Int) := by rw [w64 (by omega) (by omega)]; rfl
    have d2 : (0 : Int) ≤ (i : Int) := by omega
    have d3 : (i : Int) < (L0.length : Int) := by omega
    have d4 : (0 : Int) ≤ ((i - 1 : Nat) : Int) := by omega
    have d5 : ((i - 1 : Nat) : Int) < (L0.length : Int) := by omega
    have hw2 : Within L L2 (i - 1) hi := by rw [hL2]; exact .sw L i (i - 1) hI hJ (by omega) (by omega)
    have hs2 : SrtTo (Lq z) L2 lo (i - 1) := Srt.keep (fun p q h0 h1 h2 => hs p q h0 h1 (by omega)) hw2 (Nat.le_refl _)
    have hww2 := hw.trans (hw2.mono (show lo ≤ i - 1 by omega) (Nat.le_refl _))
    simp -implicitDefEqProofs only [go_sem, simprocAttr, wa_cond, axC_t, axC_f, s0, s1, s2, s3, s9, s10, g2, a0, g3]
    refine ax_loud (by kernel_rfl) ?_
    simp -implicitDefEqProofs only [go_sem, simprocAttr, s0, s1, s2, s3, s9, s10, m1, aIndexAddr, d2, d3, d4, d5, r1, r2, w1, w2, m3]
    apply shareK (M := fun s T => s 0 = .slice (some ⟨b, 0, none⟩) L0.length c ∧ s 1 = .int .i64 (lo : Nat) ∧ s 2 = .int .i64 (hi : Nat) ∧ s 3 = .func (.func g) #[] #[] ∧ s 10 = .int .i64 (k : Nat) ∧ s 9 = .int .i64 (i : Nat) ∧ ∃ L, T = putR T0 b L ∧ Within L0 L lo hi ∧ SrtTo (Lq z) L lo i)
    · intro hrest
      by_cases h2 : 2 ≤ i - lo
      · have g4 : (2 : Int) ≤ ((i - lo : Nat) : Int) := by omega
        simp -implicitDefEqProofs only [go_sem, simprocAttr, g4]
        refine ax_mid _ ?_ hrest
        simp -implicitDefEqProofs only [go_sem, simprocAttr, wa_cond, axC_t, axC_f, s0, s1, s2, s3, s9, s10, m1]
        refine ax_loopx (fun (j : Nat) s T => s 0 = .slice (some ⟨b, 0, none⟩) L0.length c ∧ s 1 = .int .i64 (lo : Nat) ∧ s 2 = .int .i64 (hi : Nat) ∧ s 3 = .func (.func g) #[] #[] ∧ s 10 = .int .i64 (k : Nat) ∧ s 9 = .int .i64 (i : Nat) ∧ s 11 = .int .i64 (j : Nat) ∧ lo ≤ j ∧ j ≤ i - 1 ∧ ∃ L, T = putR T0 b L ∧ Within L0 L lo hi ∧ InsI (Lq z) L lo (i - 1) j) (fun j => j) (i - 1) ?_ ?_
        · simp -implicitDefEqProofs only [go_sem, simprocAttr, s0, s1, s2, s3, s9, s10]
          exact ⟨by omega, L2, rfl, hww2, hs2.ins⟩
        clear s0 s1 s2 s3 s9 s10 hs2 hww2 hw2 hL2 w1 w2 r1 r2 hs hw hrest
        clear L1 L2
        rintro j s T ⟨s0, s1, s2, s3, s10, s9, s11, hj1, hj2, L, rfl, hw, hs⟩
        have hLl := hw.len
        have hoL := hw.oks hok
        have fin0 : ∀ hj : j = lo, SrtTo (Lq z) L lo i := fun hj => by
          have := (hj ▸ hs).zero
          rw [show i - 1 + 1 = i by omega] at this
          exact this
        by_cases hj0 : j = 0
        · subst hj0
          have g5 : ¬ (1 : Int) ≤ ((0 : Nat) : Int) := by decide
          simp -implicitDefEqProofs only [go_sem, simprocAttr, wa_cond, axC_t, axC_f, s0, s1, s2, s3, s9, s10, s11, g5]
          exact ⟨L, rfl, hw, fin0 (by omega)⟩
        obtain ⟨j, rfl⟩ : ∃ j', j = j' + 1 := ⟨j - 1, by omega⟩
        have g5 : (1 : Int) ≤ ((j + 1 : Nat) : Int) := by omega
        have hI : j + 1 < L.length := by omega
        have hJ : j < L.length := by omega
        obtain ⟨x, y, L1, L2, hx, hy, hL2, r1, r2, w1, w2⟩ := swF T0 hb hI hJ
        have hcm := fun H => hg.call x y (hx ▸ hoL _ (List.getElem_mem hI)) (hy ▸ hoL _ (List.getElem_mem hJ)) H
        unfold RR.val rV at hcm
        have m1 : IntKind.i64.wrap (((j + 1 : Nat) : Int) - 1) = (j : Int) := by rw [w64 (by omega) (by omega)]; omega
        have d2 : (0 : Int) ≤ ((j + 1 : Nat) : Int) := by omega
        have d3 : ((j + 1 : Nat) : Int) < (L0.length : Int) := by omega
        have d4 : (0 : Int) ≤ (j : Int) := by omega
        have d5 : (j : Int) < (L0.length : Int) := by omega
        simp -implicitDefEqProofs only [go_sem, simprocAttr, wa_cond, axC_t, axC_f, s0, s1, s2, s3, s9, s10, s11, g5]
        refine ax_quiet (by kernel_rfl) ?_
        simp -implicitDefEqProofs only [go_sem, simprocAttr, s0, s1, s2, s3, s9, s10, s11, aIndexAddr, m1, d2, d3, d4, d5, r1, r2]
        refine wl_callO _ (by simp -implicitDefEqProofs only [go_sem, simprocAttr, s3]) _ (by simp -implicitDefEqProofs only [go_sem, simprocAttr]) (hcm _) ?_
        by_cases hc : z x y < 0
        · have hjl : lo ≤ j := by
            by_cases e : j + 1 = lo
            · refine absurd hc ?_
              have := (hlb.within hw (Nat.le_refl _) (Nat.le_refl _) (by omega) (by omega)) j (j + 1) (by omega) (by omega) (by omega) hJ hI
              unfold Lq at this
              rw [← hx, ← hy] at this
              exact this
            · omega
          have hst := hs.step hjl hI (by omega) (by unfold Lq; rw [← hx, ← hy]; exact hg.asy _ _ (hx ▸ hoL _ (List.getElem_mem hI)) (hy ▸ hoL _ (List.getElem_mem hJ)) hc)
          have hww := hw.trans (.swp L j hI hjl (by omega))
          have e2 : swp L j hI = L2 := hL2.symm
          rw [e2] at hst hww
          simp -implicitDefEqProofs only [go_sem, simprocAttr, wa_cond, axC_t, axC_f, hc, s0, s1, s2, s3, s9, s10, s11]
          refine ax_loud (by kernel_rfl) ?_
          simp -implicitDefEqProofs only [go_sem, simprocAttr, s0, s1, s2, s3, s9, s10, s11, aIndexAddr, m1, d2, d3, d4, d5, r1, r2, w1, w2]
          exact ⟨j, ⟨rfl, hjl, by omega, L2, rfl, hww, hst⟩, by omega⟩
        · have hfin : SrtTo (Lq z) L lo i := by
            by_cases e : j + 1 = lo
            · exact fin0 e
            · have := InsI.stop2 hg.tr hoL hs (by omega) hj2 hI (by simp only [Nat.add_sub_cancel]; rw [← hx, ← hy]; exact hc)
              rw [show i - 1 + 1 = i by omega] at this
              exact this
          simp -implicitDefEqProofs only [go_sem, simprocAttr, wa_cond, axC_t, axC_f, hc, s0, s1, s2, s3, s9, s10, s11]
          exact ⟨L, rfl, hw, hfin⟩
      · have g4 : ¬ (2 : Int) ≤ ((i - lo : Nat) : Int) := by omega
        simp -implicitDefEqProofs only [go_sem, simprocAttr, g4]
        refine ax_mid _ ?_ hrest
        simp -implicitDefEqProofs only [go_sem, simprocAttr, wa_cond, axC_t, axC_f, s0, s1, s2, s3, s9, s10]
        exact ⟨L2, rfl, hww2, .one _ (by omega)⟩
    clear s0 s1 s2 s3 s9 s10 hs2 hww2 hw2 hL2 w1 w2 r1 r2 hs hw hx hy hoL hLl hI hJ
    clear L1 L2 x y L
    rintro s T ⟨s0, s1, s2, s3, s10, s9, L, rfl, hw, hs⟩
    have hLl := hw.len
    have hoL := hw.oks hok
    simp -implicitDefEqProofs only [go_sem, simprocAttr, s0, s1, s2, s3, s9, s10, m4]
    apply shareK (M := fun s T => s 0 = .slice (some ⟨b, 0, none⟩) L0.length c ∧ s 1 = .int .i64 (lo : Nat) ∧ s 2 = .int .i64 (hi : Nat) ∧ s 3 = .func (.func g) #[] #[] ∧ s 10 = .int .i64 (k : Nat) ∧ s 9 = .int .i64 (i : Nat) ∧ ∃ L, T = putR T0 b L ∧ Within L0 L lo hi ∧ SrtTo (Lq z) L lo i)
    · intro hrest
      by_cases h2 : 2 ≤ hi - i
      · have g4 : (2 : Int) ≤ ((hi - i : Nat) : Int) := by omega
        simp -implicitDefEqProofs only [go_sem, simprocAttr, g4]
        refine ax_midb _ ?_ hrest
        simp -implicitDefEqProofs only [go_sem, simprocAttr, wa_cond, axC_t, axC_f, s0, s1, s2, s3, s9, s10, m2]
        refine ax_loopx (fun (j : Nat) s T => s 0 = .slice (some ⟨b, 0, none⟩) L0.length c ∧ s 1 = .int .i64 (lo : Nat) ∧ s 2 = .int .i64 (hi : Nat) ∧ s 3 = .func (.func g) #[] #[] ∧ s 10 = .int .i64 (k : Nat) ∧ s 9 = .int .i64 (i : Nat) ∧ s 12 = .int .i64 (j : Nat) ∧ i < j ∧ ∃ L', T = putR T0 b L' ∧ Within L L' i hi) (fun j => hi - j) (i + 1) ?_ ?_
        · simp -implicitDefEqProofs only [go_sem, simprocAttr, s0, s1, s2, s3, s9, s10]
          exact ⟨by omega, L, rfl, .refl _ _ _⟩
        clear s0 s1 s2 s3 s9 s10 hrest
        rintro j s T ⟨s0, s1, s2, s3, s10, s9, s12, hj1, L', rfl, hw'⟩
        have hfin : ∃ L'', putR T0 b L' = putR T0 b L'' ∧ Within L0 L'' lo hi ∧ SrtTo (Lq z) L'' lo i :=
          ⟨L', rfl, hw.trans (hw'.mono (by omega) (Nat.le_refl _)), Srt.keep hs hw' (Nat.le_refl _)⟩
        have hLl' := hw'.len
        have hoL' := hw'.oks hoL
        by_cases hjh : j < hi
        · have g5 : (j : Int) < (hi : Int) := by omega
          have hI : j < L'.length := by omega
          have hJ : j - 1 < L'.length := by omega
          obtain ⟨x, y, L1, L2, hx, hy, hL2, r1, r2, w1, w2⟩ := swF T0 hb hI hJ
          have hcm := fun H => hg.call x y (hx ▸ hoL' _ (List.getElem_mem hI)) (hy ▸ hoL' _ (List.getElem_mem hJ)) H
          unfold RR.val rV at hcm
          have hww : Within L L2 i hi := by rw [hL2]; exact hw'.trans (.sw L' j (j - 1) hI hJ (by omega) (by omega))
          have m1 : IntKind.i64.wrap ((j : Int) - 1) = ((j - 1 : Nat) : Int) := by rw [w64 (by omega) (by omega)]; omega
          have m2 : IntKind.i64.wrap ((j : Int) + 1) = ((j + 1 : Nat) : Int) := by rw [w64 (by omega) (by omega)]; rfl
          have d2 : (0 : Int) ≤ (j : Int) := by omega
          have d3 : (j : Int) < (L0.length : Int) := by omega
          have d4 : (0 : Int) ≤ ((j - 1 : Nat) : Int) := by omega
          have d5 : ((j - 1 : Nat) : Int) < (L0.length : Int) := by omega
          simp -implicitDefEqProofs only [go_sem, simprocAttr, wa_cond, axC_t, axC_f, s0, s1, s2, s3, s9, s10, s12, g5]
          refine ax_quiet (by kernel_rfl) ?_
          simp -implicitDefEqProofs only [go_sem, simprocAttr, s0, s1, s2, s3, s9, s10, s12, aIndexAddr, m1, d2, d3, d4, d5, r1, r2]
          refine wl_callO _ (by simp -implicitDefEqProofs only [go_sem, simprocAttr, s3]) _ (by simp -implicitDefEqProofs only [go_sem, simprocAttr]) (hcm _) ?_
          by_cases hc : z x y < 0
          · simp -implicitDefEqProofs only [go_sem, simprocAttr, wa_cond, axC_t, axC_f, hc, s0, s1, s2, s3, s9, s10, s12]
            refine ax_loud (by kernel_rfl) ?_
            simp -implicitDefEqProofs only [go_sem, simprocAttr, s0, s1, s2, s3, s9, s10, s12, aIndexAddr, m1, m2, d2, d3, d4, d5, r1, r2, w1, w2]
            exact ⟨j + 1, ⟨rfl, by omega, L2, rfl, hww⟩, by omega⟩
          · simp -implicitDefEqProofs only [go_sem, simprocAttr, wa_cond, axC_t, axC_f, hc, s0, s1, s2, s3, s9, s10, s12]
            exact hfin
        · have g5 : ¬ (j : Int) < (hi : Int) := by omega
          simp -implicitDefEqProofs only [go_sem, simprocAttr, wa_cond, axC_t, axC_f, s0, s1, s2, s3, s9, s10, s12, g5]
          exact hfin
      · have g4 : ¬ (2 : Int) ≤ ((hi - i : Nat) : Int) := by omega
        simp -implicitDefEqProofs only [go_sem, simprocAttr, g4]
        refine ax_midb _ ?_ hrest
        simp -implicitDefEqProofs only [go_sem, simprocAttr, wa_cond, axC_t, axC_f, s0, s1, s2, s3, s9, s10]
        exact ⟨L, rfl, hw, hs⟩
    clear s0 s1 s2 s3 s9 s10
    rintro s T ⟨s0, s1, s2, s3, s10, s9, L, rfl, hw, hs⟩
    simp -implicitDefEqProofs only [go_sem, simprocAttr, s0, s1, s2, s3, s9, s10, m5]
    exact ⟨k + 1, ⟨rfl, by omega, i, L, rfl, hi1, hi2, rfl, hw, hs⟩, by omega⟩
  rintro s T ⟨_, L, rfl, hw⟩
  simp -implicitDefEqProofs only [go_sem, simprocAttr, res182]
  exact ⟨false, rfl, L, rfl, hw, fun h => by cases h⟩
end Go.Proofs.YthhmkaikopdmjaaGreat
namespace Go.Proofs.YthhmkaikopdmjaaGreat
open Go Go.Fw
structure Part (A : RR → Prop) (L1 L : List RR) (lo hi i j : Nat) : Prop where
  within : Within L1 L (lo + 1) hi
  i1 : lo < i
  i2 : i ≤ hi
  hj : j < hi
  j1 : lo ≤ j
  ij : i ≤ j + 2
  front : ∀ p, lo < p → p < i → ∀ h : p < L.length, A L[p]
  back : ∀ p, j < p → p < hi → ∀ h : p < L.length, ¬ A L[p]
theorem Part.pv {A : RR → Prop} {L1 L : List RR} {lo hi i j : Nat} (h : Part A L1 L lo hi i j) (hY : lo < L.length) : L[lo] = L1[lo]'(by have := h.within.len; omega) := h.within.at hY (.inl (by omega))
theorem Part.start (A : RR → Prop) (L : List RR) {lo hi : Nat} (h : lo + 1 < hi) : Part A L L lo hi (lo + 1) (hi - 1) := ⟨.refl _ _ _, by omega, by omega, by omega, by omega, by omega, fun p _ _ => by omega, fun p _ _ => by omega⟩
theorem Part.up {A : RR → Prop} {L1 L : List RR} {lo hi i j : Nat} (h : Part A L1 L lo hi i j) (hij : i ≤ j) (hI : i < L.length) (ha : A L[i]) : Part A L1 L lo hi (i + 1) j := by
  have := h.hj
  refine ⟨h.within, by have := h.i1; omega, by omega, h.hj, h.j1, by omega, fun p h1 h2 hp => ?_, h.back⟩
  by_cases e : p = i
  · subst e; exact ha
  · exact h.front p h1 (by omega) hp
theorem Part.down {A : RR → Prop} {L1 L : List RR} {lo hi i j : Nat} (h : Part A L1 L lo hi i j) (hij : i ≤ j) (hj : j < L.length) (ha : ¬ A L[j]) : Part A L1 L lo hi i (j - 1) := by
  have := h.hj
  have := h.i1
  refine ⟨h.within, h.i1, h.i2, by omega, by omega, by omega, h.front, fun p h1 h2 hp => ?_⟩
  by_cases e : p = j
  · subst e; exact ha
  · exact h.back p (by omega) h2 hp
theorem Part.sw {A : RR → Prop} {L1 L : List RR} {lo hi i j : Nat} (h : Part A L1 L lo hi i j) (hij : i ≤ j) (hI : i < L.length) (hJ : j < L.length) (ha : ¬ A L[i]) (hb : A L[j]) : Part A L1 (Fw.sw L i j hI hJ) lo hi (i + 1) (j - 1) := by
  have h1 := h.hj
  have h2 := h.i1
  have hne : i ≠ j := fun e => by subst e; exact ha hb
  refine ⟨h.within.trans (.sw L i j hI hJ (by omega) (by omega)), by omega, by omega, by omega, by omega, by omega, fun p g1 g2 hp => ?_, fun p g1 g2 hp => ?_⟩
  · have gp : p < L.length := by rw [sw_len] at hp; exact hp
    rw [sw_at L i j hI hJ p gp]
    grind [h.front p]
  · have gp : p < L.length := by rw [sw_len] at hp; exact hp
    rw [sw_at L i j hI hJ p gp]
    grind [h.back p]
theorem equalG {g : FuncId} {z : RR → RR → Int} {ok : RR → Prop} (hg : Cmp g z ok) (T0 : Heap) {b : Nat} {L0 : List RR} {c lo hi p : Nat} (hown : OwnR T0 b L0) (hok : ∀ r ∈ L0, ok r) (hlo : lo + 12 < hi) (hhi : hi ≤ L0.length) (hlen : L0.length ≤ 1000000) (hp1 : lo ≤ p) (hp2 : p < hi) :
    ∃ L m, Sim Tryz.prog 183 #[.slice (some ⟨b, 0, none⟩) L0.length c, .int .i64 (lo : Nat), .int .i64 (hi : Nat), .int .i64 (p : Nat), .func (.func g) #[] #[]] T0 (.int .i64 ((m : Nat) : Int)) (putR T0 b L) ∧ Within L0 L lo hi ∧ lo < m ∧ m ≤ hi ∧ ∃ (h : lo < L.length) (hp : p < L0.length), L[lo] = L0[p] ∧ ∀ q, lo ≤ q → q < m → ∀ hq : q < L.length, Lq z L[q] L[lo] := by
  suffices hx : ∃ w H', Sim Tryz.prog 183 #[.slice (some ⟨b, 0, none⟩) L0.length c, .int .i64 (lo : Nat), .int .i64 (hi : Nat), .int .i64 (p : Nat), .func (.func g) #[] #[]] T0 w H' ∧ ∃ m : Nat, w = .int .i64 (m : Nat) ∧ ∃ L, H' = putR T0 b L ∧ Within L0 L lo hi ∧ lo < m ∧ m ≤ hi ∧ ∃ (h : lo < L.length) (hp : p < L0.length), L[lo] = L0[p] ∧ ∀ q, lo ≤ q → q < m → ∀ hq : q < L.length, Lq z L[q] L[lo] by
    obtain ⟨w, H', h1, m, rfl, L, rfl, h2⟩ := hx
    exact ⟨L, m, h1, h2⟩
  have hb := hown.lt
  have hself := putR_self hown
  have a1 : IntKind.i64.wrap ((lo : Int) + 1) = ((lo + 1 : Nat) : Int) := by rw [w64 (by omega) (by omega)]; rfl
  have a2 : IntKind.i64.wrap ((hi : Int) - 1) = ((hi - 1 : Nat) : Int) := by rw [w64 (by omega) (by omega)]; omega
  have hI : lo < L0.length := by omega
  have hJ : p < L0.length := by omega
  obtain ⟨x, y, L1', L1, hx, hy, hL1, r1, r2, w1, w2⟩ := swF T0 hb hI hJ
  rw [hself] at r1 r2 w1
  have hw1 : Within L0 L1 lo hi := by rw [hL1]; exact .sw L0 lo p hI hJ (by omega) (by omega)
  have hl1 := hw1.len
  have hI1 : lo < L1.length := by omega
  have hpv : L1[lo] = L0[p] := by
    have := sw_at L0 lo p hI hJ lo hI
    simp only [hL1, this]
    by_cases e : lo = p
    · subst e; simp
    · simp [e]
  have d2 : (0 : Int) ≤ (lo : Int) := by omega
  have d3 : (lo : Int) < (L0.length : Int) := by omega
  have d4 : (0 : Int) ≤ (p : Int) := by omega
  have d5 : (p : Int) < (L0.length : Int) := by omega
  refine sim_ex tok mixed Tryz.func183 rfl (by kernel_rfl) (by kernel_rfl) (by simp only [Tryz.ntmps183, List.size_toArray, List.length_cons, List.length_nil]; omega) ?_
  simp -implicitDefEqProofs only [go_sem, simprocAttr]
  refine ax_loud (by kernel_rfl) ?_
  simp -implicitDefEqProofs only [go_sem, simprocAttr, aIndexAddr, d2, d3, d4, d5, r1, r2, w1, w2, a1, a2]
  clear r1 r2 w1 w2 hx hy
  have hoL1 := hw1.oks hok
  clear hself
  obtain ⟨pv, hpve⟩ : ∃ pv, pv = L1[lo] := ⟨_, rfl⟩
  obtain ⟨A, hAe⟩ : ∃ A : RR → Prop, A = fun x => ¬ z pv x < 0 := ⟨_, rfl⟩
  have hA : ∀ x, A x = (¬ z pv x < 0) := fun x => by rw [hAe]
  clear hAe
  refine ax_midl (fun s T => ∃ (i : Nat) (L : List RR), s 11 = .int .i64 (i : Nat) ∧ T = putR T0 b L ∧ Within L1 L (lo + 1) hi ∧ lo < i ∧ i ≤ hi ∧ ∀ q, lo < q → q < i → ∀ hq : q < L.length, A L[q]) ?_ ?_
  · refine ax_loopx (fun (x : Nat × Nat) s T => s 0 = .slice (some ⟨b, 0, none⟩) L0.length c ∧ s 1 = .int .i64 (lo : Nat) ∧ s 2 = .int .i64 (hi : Nat) ∧ s 4 = .func (.func g) #[] #[] ∧ s 11 = .int .i64 (x.1 : Nat) ∧ s 12 = .int .i64 (x.2 : Nat) ∧ ∃ L, T = putR T0 b L ∧ Part A L1 L lo hi x.1 x.2) (fun x => x.2 + 2 - x.1) (lo + 1, hi - 1) ?_ ?_
    · simp -implicitDefEqProofs only [go_sem, simprocAttr]
      exact ⟨L1, rfl, Part.start A L1 (by omega)⟩
    rintro ⟨i0, j0⟩ s T ⟨s0, s1, s2, s4, si, sj, L, rfl, hP0⟩
    simp only at si sj hP0
    have hLl : L.length = L0.length := by rw [hP0.within.len, hl1]
    have hoL := hP0.within.oks hoL1
    simp -implicitDefEqProofs only [go_sem, simprocAttr]
    obtain ⟨q0, hq0'⟩ : ∃ q0, q0 = j0 + 2 - i0 := ⟨_, rfl⟩
    have hq0 : j0 + 2 - i0 ≤ q0 := by omega
    refine ax_midl (fun s T => s 0 = .slice (some ⟨b, 0, none⟩) L0.length c ∧ s 1 = .int .i64 (lo : Nat) ∧ s 2 = .int .i64 (hi : Nat) ∧ s 4 = .func (.func g) #[] #[] ∧ T = putR T0 b L ∧ ∃ i j : Nat, s 11 = .int .i64 (i : Nat) ∧ s 12 = .int .i64 (j : Nat) ∧ Part A L1 L lo hi i j ∧ j + 2 - i ≤ q0 ∧ (i ≤ j → ∀ h : i < L.length, ¬ A L[i])) ?_ ?_
    · refine ax_loopx (fun (x : Nat × Nat) s T => s 0 = .slice (some ⟨b, 0, none⟩) L0.length c ∧ s 1 = .int .i64 (lo : Nat) ∧ s 2 = .int .i64 (hi : Nat) ∧ s 4 = .func (.func g) #[] #[] ∧ T = putR T0 b L ∧ s 11 = .int .i64 (x.1 : Nat) ∧ s 12 = .int .i64 (x.2 : Nat) ∧ Part A L1 L lo hi x.1 x.2 ∧ x.2 + 2 - x.1 ≤ q0) (fun x => x.2 + 2 - x.1) (i0, j0) ?_ ?_
      · simp -implicitDefEqProofs only [go_sem, simprocAttr, s0, s1, s2, s4, si, sj]
        exact ⟨hP0, hq0⟩
      clear s0 s1 s2 s4 si sj
      rintro ⟨i, j⟩ s T ⟨s0, s1, s2, s4, rfl, si, sj, hP, hq⟩
      simp only at si sj hP hq
      simp -implicitDefEqProofs only [go_sem, simprocAttr]
      refine ax_quiet (by kernel_rfl) ?_
      by_cases hij : i ≤ j
      · have hi1 := hP.i1
        have hX : i < L.length := by have := hP.hj; omega
        have hY : lo < L.length := by omega
        obtain ⟨x, hx, r1⟩ := rdF T0 hb hX
        obtain ⟨y, hy, r2⟩ := rdF T0 hb hY
        have hpy : pv = y := by rw [hpve, hy]; exact (hP.pv hY).symm
        have hcm := fun H => hg.call y x (hy ▸ hoL _ (List.getElem_mem hY)) (hx ▸ hoL _ (List.getElem_mem hX)) H
        unfold RR.val rV at hcm
        have g1 : (i : Int) ≤ (j : Int) := by omega
        have m1 : IntKind.i64.wrap ((i : Int) + 1) = ((i + 1 : Nat) : Int) := by rw [w64 (by omega) (by omega)]; rfl
        have d2 : (0 : Int) ≤ (i : Int) := by omega
        have d3 : (i : Int) < (L0.length : Int) := by omega
        have d4 : (0 : Int) ≤ (lo : Int) := by omega
        have d5 : (lo : Int) < (L0.length : Int) := by omega
        simp -implicitDefEqProofs only [go_sem, simprocAttr, s0, s1, s2, s4, si, sj, aIndexAddr, g1, d2, d3, d4, d5, r1, r2]
        refine wl_callO _ (by simp -implicitDefEqProofs only [go_sem, simprocAttr, s4]) _ (by simp -implicitDefEqProofs only [go_sem, simprocAttr]) (hcm _) ?_
        by_cases hc : z y x < 0
        · simp -implicitDefEqProofs only [go_sem, simprocAttr, wa_cond, axC_t, axC_f, hc, s0, s1, s2, s4, si, sj]
          exact ⟨i, j, rfl, rfl, hP, hq, fun _ h => (by rw [hA, ← hx, hpy]; exact fun h => h hc)⟩
        · simp -implicitDefEqProofs only [go_sem, simprocAttr, wa_cond, axC_t, axC_f, hc, s0, s1, s2, s4, si, sj, m1]
          exact ⟨(i + 1, j), ⟨rfl, rfl, hP.up hij hX (by rw [hA, ← hx, hpy]; exact hc), by simp only; omega⟩, by simp only; omega⟩
      · have g1 : ¬ (i : Int) ≤ (j : Int) := by omega
        simp -implicitDefEqProofs only [go_sem, simprocAttr, wa_cond, axC_t, axC_f, s0, s1, s2, s4, si, sj, g1]
        exact ⟨i, j, rfl, rfl, hP, hq, fun h => absurd h hij⟩
    clear s0 s1 s2 s4 si sj
    rintro s T ⟨s0, s1, s2, s4, rfl, i, j, si, sj, hP, hq, hup⟩
    obtain ⟨i0, j0, rfl, rfl⟩ : ∃ i0' j0', i = i0' ∧ j = j0' := ⟨i, j, rfl, rfl⟩
    clear hP0 hq0
    have hP0 := hP
    have hq0 := hq
    have hup0 := hup
    clear hP hq hup
    refine ax_midl (fun s T => s 0 = .slice (some ⟨b, 0, none⟩) L0.length c ∧ s 1 = .int .i64 (lo : Nat) ∧ s 2 = .int .i64 (hi : Nat) ∧ s 4 = .func (.func g) #[] #[] ∧ T = putR T0 b L ∧ ∃ i j : Nat, s 11 = .int .i64 (i : Nat) ∧ s 12 = .int .i64 (j : Nat) ∧ Part A L1 L lo hi i j ∧ j + 2 - i ≤ q0 ∧ (i ≤ j → ∀ h : i < L.length, ¬ A L[i]) ∧ (i ≤ j → ∀ h : j < L.length, A L[j])) ?_ ?_
    · refine ax_loopx (fun (x : Nat × Nat) s T => s 0 = .slice (some ⟨b, 0, none⟩) L0.length c ∧ s 1 = .int .i64 (lo : Nat) ∧ s 2 = .int .i64 (hi : Nat) ∧ s 4 = .func (.func g) #[] #[] ∧ T = putR T0 b L ∧ s 11 = .int .i64 (x.1 : Nat) ∧ s 12 = .int .i64 (x.2 : Nat) ∧ Part A L1 L lo hi x.1 x.2 ∧ x.2 + 2 - x.1 ≤ q0 ∧ (x.1 ≤ x.2 → ∀ h : x.1 < L.length, ¬ A L[x.1])) (fun x => x.2 + 2 - x.1) (i, j) ?_ ?_
      · simp -implicitDefEqProofs only [go_sem, simprocAttr, s0, s1, s2, s4, si, sj]
        exact ⟨hP0, hq0, hup0⟩
      clear s0 s1 s2 s4 si sj
      rintro ⟨i, j⟩ s T ⟨s0, s1, s2, s4, rfl, si, sj, hP, hq, hup⟩
      simp only at si sj hP hq hup
      simp -implicitDefEqProofs only [go_sem, simprocAttr]
      refine ax_quiet (by kernel_rfl) ?_
      by_cases hij : i ≤ j
      · have hi1 := hP.i1
        have hX : j < L.length := by have := hP.hj; omega
        have hY : lo < L.length := by omega
        obtain ⟨x, hx, r1⟩ := rdF T0 hb hX
        obtain ⟨y, hy, r2⟩ := rdF T0 hb hY
        have hpy : pv = y := by rw [hpve, hy]; exact (hP.pv hY).symm
        have hcm := fun H => hg.call y x (hy ▸ hoL _ (List.getElem_mem hY)) (hx ▸ hoL _ (List.getElem_mem hX)) H
        unfold RR.val rV at hcm
        have g1 : (i : Int) ≤ (j : Int) := by omega
        have m1 : IntKind.i64.wrap ((j : Int) - 1) = ((j - 1 : Nat) : Int) := by rw [w64 (by omega) (by omega)]; have := hP.i1; omega
        have d2 : (0 : Int) ≤ (j : Int) := by omega
        have d3 : (j : Int) < (L0.length : Int) := by omega
        have d4 : (0 : Int) ≤ (lo : Int) := by omega
        have d5 : (lo : Int) < (L0.length : Int) := by omega
        simp -implicitDefEqProofs only [go_sem, simprocAttr, s0, s1, s2, s4, si, sj, aIndexAddr, g1, d2, d3, d4, d5, r1, r2]
        refine wl_callO _ (by simp -implicitDefEqProofs only [go_sem, simprocAttr, s4]) _ (by simp -implicitDefEqProofs only [go_sem, simprocAttr]) (hcm _) ?_
        by_cases hc : z y x < 0
        · simp -implicitDefEqProofs only [go_sem, simprocAttr, wa_cond, axC_t, axC_f, hc, s0, s1, s2, s4, si, sj, m1]
          exact ⟨(i, j - 1), ⟨rfl, rfl, hP.down hij hX (by rw [hA, ← hx, hpy]; exact fun h => h hc), by simp only; omega, fun h h' => hup hij h'⟩, by simp only; omega⟩
        · simp -implicitDefEqProofs only [go_sem, simprocAttr, wa_cond, axC_t, axC_f, hc, s0, s1, s2, s4, si, sj]
          exact ⟨i, j, rfl, rfl, hP, hq, hup, fun _ h => (by rw [hA, ← hx, hpy]; exact hc)⟩
      · have g1 : ¬ (i : Int) ≤ (j : Int) := by omega
        simp -implicitDefEqProofs only [go_sem, simprocAttr, wa_cond, axC_t, axC_f, s0, s1, s2, s4, si, sj, g1]
        exact ⟨i, j, rfl, rfl, hP, hq, hup, fun h => absurd h hij⟩
    clear s0 s1 s2 s4 si sj
    rintro s T ⟨s0, s1, s2, s4, rfl, i, j, si, sj, hP, hq, hup, hdn⟩
    by_cases hij : i ≤ j
    · have hI : i < L.length := by have := hP.hj; omega
      have hJ : j < L.length := by have := hP.hj; omega
      obtain ⟨x, y, L1', L2, hx, hy, hL2, r1, r2, w1, w2⟩ := swF T0 hb hI hJ
      have hP2 := hP.sw hij hI hJ (hup hij hI) (hdn hij hJ)
      rw [← hL2] at hP2
      have h11 := hP.i1
      have g1 : ¬ (j : Int) < (i : Int) := by omega
      have m1 : IntKind.i64.wrap ((i : Int) + 1) = ((i + 1 : Nat) : Int) := by rw [w64 (by omega) (by omega)]; rfl
      have m2 : IntKind.i64.wrap ((j : Int) - 1) = ((j - 1 : Nat) : Int) := by rw [w64 (by omega) (by omega)]; omega
      have d2 : (0 : Int) ≤ (i : Int) := by omega
      have d3 : (i : Int) < (L0.length : Int) := by omega
      have d4 : (0 : Int) ≤ (j : Int) := by omega
      have d5 : (j : Int) < (L0.length : Int) := by omega
      simp -implicitDefEqProofs only [go_sem, simprocAttr, wa_cond, axC_t, axC_f, s0, s1, s2, s4, si, sj, g1]
      refine ax_loud (by kernel_rfl) ?_
      simp -implicitDefEqProofs only [go_sem, simprocAttr, s0, s1, s2, s4, si, sj, aIndexAddr, d2, d3, d4, d5, r1, r2, w1, w2, m1, m2]
      exact ⟨(i + 1, j - 1), ⟨rfl, rfl, L2, rfl, hP2⟩, by simp only; omega⟩
    · have g1 : (j : Int) < (i : Int) := by omega
      simp -implicitDefEqProofs only [go_sem, simprocAttr, wa_cond, axC_t, axC_f, s0, s1, s2, s4, si, sj, g1]
      exact ⟨i, L, rfl, rfl, hP.within, hP.i1, hP.i2, hP.front⟩
  rintro s T ⟨i, L, si, rfl, hw, h1, h2, h3⟩
  simp -implicitDefEqProofs only [go_sem, simprocAttr, si, res183]
  have hll := hw.len
  have hY : lo < L.length := by omega
  have e1 : L[lo] = L1[lo] := hw.at hY (.inl (by omega))
  refine ⟨i, rfl, L, rfl, hw1.trans (hw.mono (by omega) (Nat.le_refl _)), h1, h2, hY, by omega, by rw [e1, hpv], fun q g1 g2 hq => ?_⟩
  by_cases e : q = lo
  · subst e; exact Lq.refl hg ((hw.oks hoL1) _ (List.getElem_mem hq))
  · have := h3 q (by omega) g2 hq
    rw [hA, hpve, ← e1] at this
    exact this
end Go.Proofs.YthhmkaikopdmjaaGreat
namespace Go.Proofs.YthhmkaikopdmjaaGreat
open Go Go.Fw
theorem Part.fin {g : FuncId} {z : RR → RR → Int} {ok : RR → Prop} (hg : Cmp g z ok) {pv : RR} {L1 L : List RR} {lo hi i j : Nat} (h : Part (fun x => z x pv < 0) L1 L lo hi i j) (hok : ∀ r ∈ L, ok r) (hji : j < i) (hI : lo < L.length) (hJ : j < L.length) (hpv : L[lo] = pv) :
    ∀ p q, lo ≤ p → p ≤ j → j ≤ q → q < hi → p < q → ∀ (h1 : p < (Fw.sw L j lo hJ hI).length) (h2 : q < (Fw.sw L j lo hJ hI).length), Lq z (Fw.sw L j lo hJ hI)[p] (Fw.sw L j lo hJ hI)[q] := by
  intro p q g0 g1 g2 g3 g4 h1 h2
  have gp : p < L.length := by rw [sw_len] at h1; exact h1
  have gq : q < L.length := by rw [sw_len] at h2; exact h2
  have hj1 := h.j1
  have okpv : ok pv := hpv ▸ hok _ (List.getElem_mem hI)
  have key : ∀ r, lo ≤ r → r < hi → ∀ hr : r < L.length, ∃ x, ok x ∧ (Fw.sw L j lo hJ hI)[r]'(by rw [sw_len]; exact hr) = x ∧ (r < j → z x pv < 0) ∧ (r = j → x = pv) ∧ (j < r → ¬ z x pv < 0) := by
    intro r a1 a2 hr
    rw [sw_at L j lo hJ hI r hr]
    by_cases e1 : r = lo
    · rw [if_pos e1]
      refine ⟨_, hok _ (List.getElem_mem hJ), rfl, fun a3 => h.front j (by omega) hji hJ, fun a3 => ?_, fun a3 => by omega⟩
      have : j = lo := by omega
      subst this; exact hpv
    · rw [if_neg e1]
      by_cases e2 : r = j
      · rw [if_pos e2]
        exact ⟨_, hok _ (List.getElem_mem hI), rfl, fun a3 => by omega, fun _ => hpv, fun a3 => by omega⟩
      · rw [if_neg e2]
        exact ⟨_, hok _ (List.getElem_mem hr), rfl, fun a3 => h.front r (by omega) (by omega) hr, fun a3 => absurd a3 e2, fun a3 => h.back r a3 a2 hr⟩
  obtain ⟨x, ox, ex, x1, x2, x3⟩ := key p g0 (by omega) gp
  obtain ⟨y, oy, ey, y1, y2, y3⟩ := key q (by omega) g3 gq
  rw [ex, ey]
  by_cases e1 : p = j
  · rw [x2 e1]; exact y3 (by omega)
  · have hx := hg.asy _ _ ox okpv (x1 (by omega))
    by_cases e2 : q = j
    · rw [y2 e2]; exact hx
    · exact hg.tr _ _ _ ox okpv oy hx (y3 (by omega))
theorem partG {g : FuncId} {z : RR → RR → Int} {ok : RR → Prop} (hg : Cmp g z ok) (T0 : Heap) {b : Nat} {L0 : List RR} {c lo hi p : Nat} (hown : OwnR T0 b L0) (hok : ∀ r ∈ L0, ok r) (hlo : lo + 12 < hi) (hhi : hi ≤ L0.length) (hlen : L0.length ≤ 1000000) (hp1 : lo ≤ p) (hp2 : p < hi) :
    ∃ L m t, Sim Tryz.prog 184 #[.slice (some ⟨b, 0, none⟩) L0.length c, .int .i64 (lo : Nat), .int .i64 (hi : Nat), .int .i64 (p : Nat), .func (.func g) #[] #[]] T0 (.tuple #[.int .i64 ((m : Nat) : Int), .bool t]) (putR T0 b L) ∧ Within L0 L lo hi ∧ lo ≤ m ∧ m < hi ∧ ∀ p q, lo ≤ p → p ≤ m → m ≤ q → q < hi → p < q → ∀ (h1 : p < L.length) (h2 : q < L.length), Lq z L[p] L[q] := by
  suffices hx : ∃ w H', Sim Tryz.prog 184 #[.slice (some ⟨b, 0, none⟩) L0.length c, .int .i64 (lo : Nat), .int .i64 (hi : Nat), .int .i64 (p : Nat), .func (.func g) #[] #[]] T0 w H' ∧ ∃ (m : Nat) (t : Bool), w = .tuple #[.int .i64 (m : Nat), .bool t] ∧ ∃ L, H' = putR T0 b L ∧ Within L0 L lo hi ∧ lo ≤ m ∧ m < hi ∧ ∀ p q, lo ≤ p → p ≤ m → m ≤ q → q < hi → p < q → ∀ (h1 : p < L.length) (h2 : q < L.length), Lq z L[p] L[q] by
    obtain ⟨w, H', h1, m, t, rfl, L, rfl, h2⟩ := hx
    exact ⟨L, m, t, h1, h2⟩
  have hb := hown.lt
  have hself := putR_self hown
  have a1 : IntKind.i64.wrap ((lo : Int) + 1) = ((lo + 1 : Nat) : Int) := by rw [w64 (by omega) (by omega)]; rfl
  have a2 : IntKind.i64.wrap ((hi : Int) - 1) = ((hi - 1 : Nat) : Int) := by rw [w64 (by omega) (by omega)]; omega
  have hI : lo < L0.length := by omega
  have hJ : p < L0.length := by omega
  obtain ⟨x, y, L1', L1, hx, hy, hL1, r1, r2, w1, w2⟩ := swF T0 hb hI hJ
  rw [hself] at r1 r2 w1
  have hw1 : Within L0 L1 lo hi := by rw [hL1]; exact .sw L0 lo p hI hJ (by omega) (by omega)
  have hl1 := hw1.len
  have hI1 : lo < L1.length := by omega
  have e2 : (0 : Int) ≤ (lo : Int) := by omega
  have e3 : (lo : Int) < (L0.length : Int) := by omega
  have d4 : (0 : Int) ≤ (p : Int) := by omega
  have d5 : (p : Int) < (L0.length : Int) := by omega
  refine sim_ex tok mixed Tryz.func184 rfl (by kernel_rfl) (by kernel_rfl) (by simp only [Tryz.ntmps184, List.size_toArray, List.length_cons, List.length_nil]; omega) ?_
  simp -implicitDefEqProofs only [go_sem, simprocAttr]
  refine ax_loud (by kernel_rfl) ?_
  simp -implicitDefEqProofs only [go_sem, simprocAttr, aIndexAddr, e2, e3, d4, d5, r1, r2, w1, w2, a1, a2]
  clear r1 r2 w1 w2 hx hy d4 d5
  have hoL1 := hw1.oks hok
  clear hself
  obtain ⟨pv, hpve⟩ : ∃ pv, pv = L1[lo] := ⟨_, rfl⟩
  obtain ⟨A, hAe⟩ : ∃ A : RR → Prop, A = fun x => z x pv < 0 := ⟨_, rfl⟩
  have hA : ∀ x, A x = (z x pv < 0) := fun x => by rw [hAe]
  have fin : ∀ (i j : Nat) (L : List RR), Part A L1 L lo hi i j → j < i → ∃ (x y : RR) (L' L2 : List RR),
      rd (putR T0 b L) b (j * 6) 6 = some [.bool x.g, .string (bs x.n), .string (bs x.d), .bool x.g', .string (bs x.n'), .string (bs x.d')] ∧
      rd (putR T0 b L) b (lo * 6) 6 = some [.bool y.g, .string (bs y.n), .string (bs y.d), .bool y.g', .string (bs y.n'), .string (bs y.d')] ∧
      wr (putR T0 b L) b (j * 6) [.bool y.g, .string (bs y.n), .string (bs y.d), .bool y.g', .string (bs y.n'), .string (bs y.d')] = some (putR T0 b L') ∧
      wr (putR T0 b L') b (lo * 6) [.bool x.g, .string (bs x.n), .string (bs x.d), .bool x.g', .string (bs x.n'), .string (bs x.d')] = some (putR T0 b L2) ∧
      Within L0 L2 lo hi ∧ lo ≤ j ∧ j < hi ∧ ∀ p q, lo ≤ p → p ≤ j → j ≤ q → q < hi → p < q → ∀ (h1 : p < L2.length) (h2 : q < L2.length), Lq z L2[p] L2[q] := by
    intro i j L hP hji
    have hll := hP.within.len
    have hhj := hP.hj
    have hY : lo < L.length := by omega
    have hX : j < L.length := by omega
    obtain ⟨x, y, L', L2, hx, hy, hL2, r1, r2, w1, w2⟩ := swF T0 hb hX hY
    subst hAe
    refine ⟨x, y, L', L2, r1, r2, w1, w2, ?_, hP.j1, hP.hj, ?_⟩
    · rw [hL2]
      exact (hw1.trans (hP.within.mono (by omega) (Nat.le_refl _))).trans (.sw L j lo hX hY (by have := hP.j1; omega) (by omega))
    · subst hL2
      exact hP.fin hg (hP.within.oks hoL1) hji hY hX (by rw [hpve]; exact hP.pv hY)
  clear hAe
  obtain ⟨L, hLe⟩ : ∃ L, L = L1 := ⟨_, rfl⟩
  have hP0 : Part A L1 L lo hi (lo + 1) (hi - 1) := by rw [hLe]; exact Part.start A L1 (by omega)
  rw [← hLe]
  clear hLe
  obtain ⟨q0, hq0'⟩ : ∃ q0, q0 = hi - 1 + 2 - (lo + 1) := ⟨_, rfl⟩
  have hq0 : hi - 1 + 2 - (lo + 1) ≤ q0 := by omega
  have hLl : L.length = L0.length := by rw [hP0.within.len, hl1]
  have hoL := hP0.within.oks hoL1
  refine ax_midl (fun s T => s 0 = .slice (some ⟨b, 0, none⟩) L0.length c ∧ s 1 = .int .i64 (lo : Nat) ∧ s 2 = .int .i64 (hi : Nat) ∧ s 4 = .func (.func g) #[] #[] ∧ T = putR T0 b L ∧ ∃ i j : Nat, s 12 = .int .i64 (i : Nat) ∧ s 13 = .int .i64 (j : Nat) ∧ Part A L1 L lo hi i j ∧ j + 2 - i ≤ q0 ∧ (i ≤ j → ∀ h : i < L.length, ¬ A L[i])) ?_ ?_
  · refine ax_loopx (fun (x : Nat × Nat) s T => s 0 = .slice (some ⟨b, 0, none⟩) L0.length c ∧ s 1 = .int .i64 (lo : Nat) ∧ s 2 = .int .i64 (hi : Nat) ∧ s 4 = .func (.func g) #[] #[] ∧ T = putR T0 b L ∧ s 12 = .int .i64 (x.1 : Nat) ∧ s 13 = .int .i64 (x.2 : Nat) ∧ Part A L1 L lo hi x.1 x.2 ∧ x.2 + 2 - x.1 ≤ q0) (fun x => x.2 + 2 - x.1) (lo + 1, hi - 1) ?_ ?_
    · simp -implicitDefEqProofs only [go_sem, simprocAttr]
      exact ⟨hP0, by omega⟩
    rintro ⟨i, j⟩ s T ⟨s0, s1, s2, s4, rfl, si, sj, hP, hq⟩
    simp only at si sj hP hq
    simp -implicitDefEqProofs only [go_sem, simprocAttr]
    refine ax_quiet (by kernel_rfl) ?_
    by_cases hij : i ≤ j
    · have hi1 := hP.i1
      have hX : i < L.length := by have := hP.hj; omega
      have hY : lo < L.length := by omega
      obtain ⟨x, hx, r1⟩ := rdF T0 hb hX
      obtain ⟨y, hy, r2⟩ := rdF T0 hb hY
      have hpy : pv = y := by rw [hpve, hy]; exact (hP.pv hY).symm
      have hcm := fun H => hg.call x y (hx ▸ hoL _ (List.getElem_mem hX)) (hy ▸ hoL _ (List.getElem_mem hY)) H
      unfold RR.val rV at hcm
      have g1 : (i : Int) ≤ (j : Int) := by omega
      have m1 : IntKind.i64.wrap ((i : Int) + 1) = ((i + 1 : Nat) : Int) := by rw [w64 (by omega) (by omega)]; rfl
      have d2 : (0 : Int) ≤ (i : Int) := by omega
      have d3 : (i : Int) < (L0.length : Int) := by omega
      have d4 : (0 : Int) ≤ (lo : Int) := by omega
      have d5 : (lo : Int) < (L0.length : Int) := by omega
      simp -implicitDefEqProofs only [go_sem, simprocAttr, s0, s1, s2, s4, si, sj, aIndexAddr, g1, d2, d3, d4, d5, r1, r2]
      refine wl_callO _ (by simp -implicitDefEqProofs only [go_sem, simprocAttr, s4]) _ (by simp -implicitDefEqProofs only [go_sem, simprocAttr]) (hcm _) ?_
      by_cases hc : z x y < 0
      · simp -implicitDefEqProofs only [go_sem, simprocAttr, wa_cond, axC_t, axC_f, hc, s0, s1, s2, s4, si, sj, m1]
        exact ⟨(i + 1, j), ⟨rfl, rfl, hP.up hij hX (by rw [hA, ← hx, hpy]; exact hc), by simp only; omega⟩, by simp only; omega⟩
      · simp -implicitDefEqProofs only [go_sem, simprocAttr, wa_cond, axC_t, axC_f, hc, s0, s1, s2, s4, si, sj]
        exact ⟨i, j, rfl, rfl, hP, hq, fun _ h => (by rw [hA, ← hx, hpy]; exact hc)⟩
    · have g1 : ¬ (i : Int) ≤ (j : Int) := by omega
      simp -implicitDefEqProofs only [go_sem, simprocAttr, wa_cond, axC_t, axC_f, s0, s1, s2, s4, si, sj, g1]
      exact ⟨i, j, rfl, rfl, hP, hq, fun h => absurd h hij⟩
  rintro s T ⟨s0, s1, s2, s4, rfl, i, j, si, sj, hP, hq, hup⟩
  clear hP0 hq0
  have hP0 := hP
  have hq0 := hq
  have hup0 := hup
  clear hP hq hup
  refine ax_midl (fun s T => s 0 = .slice (some ⟨b, 0, none⟩) L0.length c ∧ s 1 = .int .i64 (lo : Nat) ∧ s 2 = .int .i64 (hi : Nat) ∧ s 4 = .func (.func g) #[] #[] ∧ T = putR T0 b L ∧ ∃ i j : Nat, s 12 = .int .i64 (i : Nat) ∧ s 13 = .int .i64 (j : Nat) ∧ Part A L1 L lo hi i j ∧ j + 2 - i ≤ q0 ∧ (i ≤ j → ∀ h : i < L.length, ¬ A L[i]) ∧ (i ≤ j → ∀ h : j < L.length, A L[j])) ?_ ?_
  · refine ax_loopx (fun (x : Nat × Nat) s T => s 0 = .slice (some ⟨b, 0, none⟩) L0.length c ∧ s 1 = .int .i64 (lo : Nat) ∧ s 2 = .int .i64 (hi : Nat) ∧ s 4 = .func (.func g) #[] #[] ∧ T = putR T0 b L ∧ s 12 = .int .i64 (x.1 : Nat) ∧ s 13 = .int .i64 (x.2 : Nat) ∧ Part A L1 L lo hi x.1 x.2 ∧ x.2 + 2 - x.1 ≤ q0 ∧ (x.1 ≤ x.2 → ∀ h : x.1 < L.length, ¬ A L[x.1])) (fun x => x.2 + 2 - x.1) (i, j) ?_ ?_
    · simp -implicitDefEqProofs only [go_sem, simprocAttr, s0, s1, s2, s4, si, sj]
      exact ⟨hP0, hq0, hup0⟩
    clear s0 s1 s2 s4 si sj
    rintro ⟨i, j⟩ s T ⟨s0, s1, s2, s4, rfl, si, sj, hP, hq, hup⟩
    simp only at si sj hP hq hup
    simp -implicitDefEqProofs only [go_sem, simprocAttr]
    refine ax_quiet (by kernel_rfl) ?_
    by_cases hij : i ≤ j
    · have hi1 := hP.i1
      have hX : j < L.length := by have := hP.hj; omega
      have hY : lo < L.length := by omega
      obtain ⟨x, hx, r1⟩ := rdF T0 hb hX
      obtain ⟨y, hy, r2⟩ := rdF T0 hb hY
      have hpy : pv = y := by rw [hpve, hy]; exact (hP.pv hY).symm
      have hcm := fun H => hg.call x y (hx ▸ hoL _ (List.getElem_mem hX)) (hy ▸ hoL _ (List.getElem_mem hY)) H
      unfold RR.val rV at hcm
      have g1 : (i : Int) ≤ (j : Int) := by omega
      have m1 : IntKind.i64.wrap ((j : Int) - 1) = ((j - 1 : Nat) : Int) := by rw [w64 (by omega) (by omega)]; have := hP.i1; omega
      have d2 : (0 : Int) ≤ (j : Int) := by omega
      have d3 : (j : Int) < (L0.length : Int) := by omega
      have d4 : (0 : Int) ≤ (lo : Int) := by omega
      have d5 : (lo : Int) < (L0.length : Int) := by omega
      simp -implicitDefEqProofs only [go_sem, simprocAttr, s0, s1, s2, s4, si, sj, aIndexAddr, g1, d2, d3, d4, d5, r1, r2]
      refine wl_callO _ (by simp -implicitDefEqProofs only [go_sem, simprocAttr, s4]) _ (by simp -implicitDefEqProofs only [go_sem, simprocAttr]) (hcm _) ?_
      by_cases hc : z x y < 0
      · simp -implicitDefEqProofs only [go_sem, simprocAttr, wa_cond, axC_t, axC_f, hc, s0, s1, s2, s4, si, sj]
        exact ⟨i, j, rfl, rfl, hP, hq, hup, fun _ h => (by rw [hA, ← hx, hpy]; exact hc)⟩
      · simp -implicitDefEqProofs only [go_sem, simprocAttr, wa_cond, axC_t, axC_f, hc, s0, s1, s2, s4, si, sj, m1]
        exact ⟨(i, j - 1), ⟨rfl, rfl, hP.down hij hX (by rw [hA, ← hx, hpy]; exact hc), by simp only; omega, fun h h' => hup hij h'⟩, by simp only; omega⟩
    · have g1 : ¬ (i : Int) ≤ (j : Int) := by omega
      simp -implicitDefEqProofs only [go_sem, simprocAttr, wa_cond, axC_t, axC_f, s0, s1, s2, s4, si, sj, g1]
      exact ⟨i, j, rfl, rfl, hP, hq, hup, fun h => absurd h hij⟩
  clear s0 s1 s2 s4 si sj
  rintro s T ⟨s0, s1, s2, s4, rfl, i, j, si, sj, hP, hq, hup, hdn⟩
  by_cases hji : j < i
  · obtain ⟨x, y, L', L2, r1, r2, w1, w2, f1, f2, f3, f4⟩ := fin i j L hP (by omega)
    have d2 : (0 : Int) ≤ (j : Int) := by omega
    have d3 : (j : Int) < (L0.length : Int) := by omega
    have g1 : (j : Int) < (i : Int) := by omega
    simp -implicitDefEqProofs only [go_sem, simprocAttr, wa_cond, axC_t, axC_f, s0, s1, s2, s4, si, sj, g1]
    refine ax_loud (by kernel_rfl) ?_
    simp -implicitDefEqProofs only [go_sem, simprocAttr, s0, s1, s2, s4, si, sj, aIndexAddr, d2, d3, e2, e3, r1, r2, w1, w2, res184]
    exact ⟨j, true, rfl, L2, rfl, f1, f2, f3, f4⟩
  have hij : i ≤ j := by omega
  have hI : i < L.length := by have := hP.hj; omega
  have hJ : j < L.length := by have := hP.hj; omega
  obtain ⟨x, y, L1', L2, hx, hy, hL2, r1, r2, w1, w2⟩ := swF T0 hb hI hJ
  have hP2 := hP.sw hij hI hJ (hup hij hI) (hdn hij hJ)
  rw [← hL2] at hP2
  have h11 := hP.i1
  have g1 : ¬ (j : Int) < (i : Int) := by omega
  have m1 : IntKind.i64.wrap ((i : Int) + 1) = ((i + 1 : Nat) : Int) := by rw [w64 (by omega) (by omega)]; rfl
  have m2 : IntKind.i64.wrap ((j : Int) - 1) = ((j - 1 : Nat) : Int) := by rw [w64 (by omega) (by omega)]; omega
  have d2 : (0 : Int) ≤ (i : Int) := by omega
  have d3 : (i : Int) < (L0.length : Int) := by omega
  have d4 : (0 : Int) ≤ (j : Int) := by omega
  have d5 : (j : Int) < (L0.length : Int) := by omega
  simp -implicitDefEqProofs only [go_sem, simprocAttr, wa_cond, axC_t, axC_f, s0, s1, s2, s4, si, sj, g1]
  refine ax_loud (by kernel_rfl) ?_
  simp -implicitDefEqProofs only [go_sem, simprocAttr, s0, s1, s2, s4, si, sj, aIndexAddr, d2, d3, d4, d5, r1, r2, w1, w2, m1, m2]
  clear hP0 hq0 hup0 r1 r2 w1 w2 d2 d3 d4 d5 m1 m2 hx hy hL2 g1 hji hup hdn hij
  refine ax_midl (fun s T => s 0 = .slice (some ⟨b, 0, none⟩) L0.length c ∧ s 1 = .int .i64 (lo : Nat) ∧ s 2 = .int .i64 (hi : Nat) ∧ s 4 = .func (.func g) #[] #[] ∧ ∃ (i j : Nat) (L : List RR), s 12 = .int .i64 (i : Nat) ∧ s 13 = .int .i64 (j : Nat) ∧ T = putR T0 b L ∧ Part A L1 L lo hi i j ∧ j < i) ?_ ?_
  · refine ax_loopx (fun (x : Nat × Nat) s T => s 0 = .slice (some ⟨b, 0, none⟩) L0.length c ∧ s 1 = .int .i64 (lo : Nat) ∧ s 2 = .int .i64 (hi : Nat) ∧ s 4 = .func (.func g) #[] #[] ∧ s 12 = .int .i64 (x.1 : Nat) ∧ s 13 = .int .i64 (x.2 : Nat) ∧ ∃ L, T = putR T0 b L ∧ Part A L1 L lo hi x.1 x.2) (fun x => x.2 + 2 - x.1) (i + 1, j - 1) ?_ ?_
    · simp -implicitDefEqProofs only [go_sem, simprocAttr, s0, s1, s2, s4]
      exact ⟨L2, rfl, hP2⟩
    clear s0 s1 s2 s4 si sj hP2 hI hJ hoL hLl hP hq h11 hq0'
    clear L1' L2 L i j x y q0
    rintro ⟨i0, j0⟩ s T ⟨s0, s1, s2, s4, si, sj, L, rfl, hP0⟩
    simp only at si sj hP0
    have hLl : L.length = L0.length := by rw [hP0.within.len, hl1]
    have hoL := hP0.within.oks hoL1
    simp -implicitDefEqProofs only [go_sem, simprocAttr]
    obtain ⟨q0, hq0'⟩ : ∃ q0, q0 = j0 + 2 - i0 := ⟨_, rfl⟩
    have hq0 : j0 + 2 - i0 ≤ q0 := by omega
    refine ax_midl (fun s T => s 0 = .slice (some ⟨b, 0, none⟩) L0.length c ∧ s 1 = .int .i64 (lo : Nat) ∧ s 2 = .int .i64 (hi : Nat) ∧ s 4 = .func (.func g) #[] #[] ∧ T = putR T0 b L ∧ ∃ i j : Nat, s 12 = .int .i64 (i : Nat) ∧ s 13 = .int .i64 (j : Nat) ∧ Part A L1 L lo hi i j ∧ j + 2 - i ≤ q0 ∧ (i ≤ j → ∀ h : i < L.length, ¬ A L[i])) ?_ ?_
    · refine ax_loopx (fun (x : Nat × Nat) s T => s 0 = .slice (some ⟨b, 0, none⟩) L0.length c ∧ s 1 = .int .i64 (lo : Nat) ∧ s 2 = .int .i64 (hi : Nat) ∧ s 4 = .func (.func g) #[] #[] ∧ T = putR T0 b L ∧ s 12 = .int .i64 (x.1 : Nat) ∧ s 13 = .int .i64 (x.2 : Nat) ∧ Part A L1 L lo hi x.1 x.2 ∧ x.2 + 2 - x.1 ≤ q0) (fun x => x.2 + 2 - x.1) (i0, j0) ?_ ?_
      · simp -implicitDefEqProofs only [go_sem, simprocAttr, s0, s1, s2, s4, si, sj]
        exact ⟨hP0, hq0⟩
      clear s0 s1 s2 s4 si sj
      rintro ⟨i, j⟩ s T ⟨s0, s1, s2, s4, rfl, si, sj, hP, hq⟩
      simp only at si sj hP hq
      simp -implicitDefEqProofs only [go_sem, simprocAttr]
      refine ax_quiet (by kernel_rfl) ?_
      by_cases hij : i ≤ j
      · have hi1 := hP.i1
        have hX : i < L.length := by have := hP.hj; omega
        have hY : lo < L.length := by omega
        obtain ⟨x, hx, r1⟩ := rdF T0 hb hX
        obtain ⟨y, hy, r2⟩ := rdF T0 hb hY
        have hpy : pv = y := by rw [hpve, hy]; exact (hP.pv hY).symm
        have hcm := fun H => hg.call x y (hx ▸ hoL _ (List.getElem_mem hX)) (hy ▸ hoL _ (List.getElem_mem hY)) H
        unfold RR.val rV at hcm
        have g1 : (i : Int) ≤ (j : Int) := by omega
        have m1 : IntKind.i64.wrap ((i : Int) + 1) = ((i + 1 : Nat) : Int) := by rw [w64 (by omega) (by omega)]; rfl
        have d2 : (0 : Int) ≤ (i : Int) := by omega
        have d3 : (i : Int) < (L0.length : Int) := by omega
        have d4 : (0 : Int) ≤ (lo : Int) := by omega
        have d5 : (lo : Int) < (L0.length : Int) := by omega
        simp -implicitDefEqProofs only [go_sem, simprocAttr, s0, s1, s2, s4, si, sj, aIndexAddr, g1, d2, d3, d4, d5, r1, r2]
        refine wl_callO _ (by simp -implicitDefEqProofs only [go_sem, simprocAttr, s4]) _ (by simp -implicitDefEqProofs only [go_sem, simprocAttr]) (hcm _) ?_
        by_cases hc : z x y < 0
        · simp -implicitDefEqProofs only [go_sem, simprocAttr, wa_cond, axC_t, axC_f, hc, s0, s1, s2, s4, si, sj, m1]
          exact ⟨(i + 1, j), ⟨rfl, rfl, hP.up hij hX (by rw [hA, ← hx, hpy]; exact hc), by simp only; omega⟩, by simp only; omega⟩
        · simp -implicitDefEqProofs only [go_sem, simprocAttr, wa_cond, axC_t, axC_f, hc, s0, s1, s2, s4, si, sj]
          exact ⟨i, j, rfl, rfl, hP, hq, fun _ h => (by rw [hA, ← hx, hpy]; exact hc)⟩
      · have g1 : ¬ (i : Int) ≤ (j : Int) := by omega
        simp -implicitDefEqProofs only [go_sem, simprocAttr, wa_cond, axC_t, axC_f, s0, s1, s2, s4, si, sj, g1]
        exact ⟨i, j, rfl, rfl, hP, hq, fun h => absurd h hij⟩
    clear s0 s1 s2 s4 si sj
    rintro s T ⟨s0, s1, s2, s4, rfl, i, j, si, sj, hP, hq, hup⟩
    clear hP0 hq0
    have hP0 := hP
    have hq0 := hq
    have hup0 := hup
    clear hP hq hup
    refine ax_midl (fun s T => s 0 = .slice (some ⟨b, 0, none⟩) L0.length c ∧ s 1 = .int .i64 (lo : Nat) ∧ s 2 = .int .i64 (hi : Nat) ∧ s 4 = .func (.func g) #[] #[] ∧ T = putR T0 b L ∧ ∃ i j : Nat, s 12 = .int .i64 (i : Nat) ∧ s 13 = .int .i64 (j : Nat) ∧ Part A L1 L lo hi i j ∧ j + 2 - i ≤ q0 ∧ (i ≤ j → ∀ h : i < L.length, ¬ A L[i]) ∧ (i ≤ j → ∀ h : j < L.length, A L[j])) ?_ ?_
    · refine ax_loopx (fun (x : Nat × Nat) s T => s 0 = .slice (some ⟨b, 0, none⟩) L0.length c ∧ s 1 = .int .i64 (lo : Nat) ∧ s 2 = .int .i64 (hi : Nat) ∧ s 4 = .func (.func g) #[] #[] ∧ T = putR T0 b L ∧ s 12 = .int .i64 (x.1 : Nat) ∧ s 13 = .int .i64 (x.2 : Nat) ∧ Part A L1 L lo hi x.1 x.2 ∧ x.2 + 2 - x.1 ≤ q0 ∧ (x.1 ≤ x.2 → ∀ h : x.1 < L.length, ¬ A L[x.1])) (fun x => x.2 + 2 - x.1) (i, j) ?_ ?_
      · simp -implicitDefEqProofs only [go_sem, simprocAttr, s0, s1, s2, s4, si, sj]
        exact ⟨hP0, hq0, hup0⟩
      clear s0 s1 s2 s4 si sj
      rintro ⟨i, j⟩ s T ⟨s0, s1, s2, s4, rfl, si, sj, hP, hq, hup⟩
      simp only at si sj hP hq hup
      simp -implicitDefEqProofs only [go_sem, simprocAttr]
      refine ax_quiet (by kernel_rfl) ?_
      by_cases hij : i ≤ j
      · have hi1 := hP.i1
        have hX : j < L.length := by have := hP.hj; omega
        have hY : lo < L.length := by omega
        obtain ⟨x, hx, r1⟩ := rdF T0 hb hX
        obtain ⟨y, hy, r2⟩ := rdF T0 hb hY
        have hpy : pv = y := by rw [hpve, hy]; exact (hP.pv hY).symm
        have hcm := fun H => hg.call x y (hx ▸ hoL _ (List.getElem_mem hX)) (hy ▸ hoL _ (List.getElem_mem hY)) H
        unfold RR.val rV at hcm
        have g1 : (i : Int) ≤ (j : Int) := by omega
        have m1 : IntKind.i64.wrap ((j : Int) - 1) = ((j - 1 : Nat) : Int) := by rw [w64 (by omega) (by omega)]; have := hP.i1; omega
        have d2 : (0 : Int) ≤ (j : Int) := by omega
        have d3 : (j : Int) < (L0.length : Int) := by omega
        have d4 : (0 : Int) ≤ (lo : Int) := by omega
        have d5 : (lo : Int) < (L0.length : Int) := by omega
        simp -implicitDefEqProofs only [go_sem, simprocAttr, s0, s1, s2, s4, si, sj, aIndexAddr, g1, d2, d3, d4, d5, r1, r2]
        refine wl_callO _ (by simp -implicitDefEqProofs only [go_sem, simprocAttr, s4]) _ (by simp -implicitDefEqProofs only [go_sem, simprocAttr]) (hcm _) ?_
        by_cases hc : z x y < 0
        · simp -implicitDefEqProofs only [go_sem, simprocAttr, wa_cond, axC_t, axC_f, hc, s0, s1, s2, s4, si, sj]
          exact ⟨i, j, rfl, rfl, hP, hq, hup, fun _ h => (by rw [hA, ← hx, hpy]; exact hc)⟩
        · simp -implicitDefEqProofs only [go_sem, simprocAttr, wa_cond, axC_t, axC_f, hc, s0, s1, s2, s4, si, sj, m1]
          exact ⟨(i, j - 1), ⟨rfl, rfl, hP.down hij hX (by rw [hA, ← hx, hpy]; exact hc), by simp only; omega, fun h h' => hup hij h'⟩, by simp only; omega⟩
      · have g1 : ¬ (i : Int) ≤ (j : Int) := by omega
        simp -implicitDefEqProofs only [go_sem, simprocAttr, wa_cond, axC_t, axC_f, s0, s1, s2, s4, si, sj, g1]
        exact ⟨i, j, rfl, rfl, hP, hq, hup, fun h => absurd h hij⟩
    clear s0 s1 s2 s4 si sj
    rintro s T ⟨s0, s1, s2, s4, rfl, i, j, si, sj, hP, hq, hup, hdn⟩
    by_cases hij : i ≤ j
    · have hI : i < L.length := by have := hP.hj; omega
      have hJ : j < L.length := by have := hP.hj; omega
      obtain ⟨x, y, L1', L2, hx, hy, hL2, r1, r2, w1, w2⟩ := swF T0 hb hI hJ
      have hP2 := hP.sw hij hI hJ (hup hij hI) (hdn hij hJ)
      rw [← hL2] at hP2
      have h11 := hP.i1
      have g1 : ¬ (j : Int) < (i : Int) := by omega
      have m1 : IntKind.i64.wrap ((i : Int) + 1) = ((i + 1 : Nat) : Int) := by rw [w64 (by omega) (by omega)]; rfl
      have m2 : IntKind.i64.wrap ((j : Int) - 1) = ((j - 1 : Nat) : Int) := by rw [w64 (by omega) (by omega)]; omega
      have d2 : (0 : Int) ≤ (i : Int) := by omega
      have d3 : (i : Int) < (L0.length : Int) := by omega
      have d4 : (0 : Int) ≤ (j : Int) := by omega
      have d5 : (j : Int) < (L0.length : Int) := by omega
      simp -implicitDefEqProofs only [go_sem, simprocAttr, wa_cond, axC_t, axC_f, s0, s1, s2, s4, si, sj, g1]
      refine ax_loud (by kernel_rfl) ?_
      simp -implicitDefEqProofs only [go_sem, simprocAttr, s0, s1, s2, s4, si, sj, aIndexAddr, d2, d3, d4, d5, r1, r2, w1, w2, m1, m2]
      exact ⟨(i + 1, j - 1), ⟨rfl, rfl, L2, rfl, hP2⟩, by simp only; omega⟩
    · have g1 : (j : Int) < (i : Int) := by omega
      simp -implicitDefEqProofs only [go_sem, simprocAttr, wa_cond, axC_t, axC_f, s0, s1, s2, s4, si, sj, g1]
      exact ⟨i, j, L, rfl, rfl, rfl, hP, by omega⟩
  clear s0 s1 s2 s4 si sj hP2 hI hJ hoL hLl hP hq h11 hq0'
  clear L1' L2 L i j x y q0
  rintro s T ⟨s0, s1, s2, s4, i, j, L, si, sj, rfl, hP, hji⟩
  have hhj := hP.hj
  obtain ⟨x, y, L', L2, r1, r2, w1, w2, f1, f2, f3, f4⟩ := fin i j L hP (by omega)
  have d2 : (0 : Int) ≤ (j : Int) := by omega
  have d3 : (j : Int) < (L0.length : Int) := by omega
  simp -implicitDefEqProofs only [go_sem, simprocAttr]
  refine ax_loud (by kernel_rfl) ?_
  simp -implicitDefEqProofs only [go_sem, simprocAttr, s0, s1, s2, s4, si, sj, aIndexAddr, d2, d3, e2, e3, r1, r2, w1, w2, res184]
  exact ⟨j, false, rfl, L2, rfl, f1, f2, f3, f4⟩
end Go.Proofs.YthhmkaikopdmjaaGreat
set_option maxHeartbeats 400000
namespace Go.Proofs.YthhmkaikopdmjaaGreat
open Go Go.Fw
def PQ (z : RR → RR → Int) (L : List RR) (lo m hi : Nat) : Prop := ∀ p q, lo ≤ p → p ≤ m → m ≤ q → q < hi → p < q → ∀ (h1 : p < L.length) (h2 : q < L.length), Lq z L[p] L[q]
theorem PQ.left {z : RR → RR → Int} {L L' : List RR} {lo m hi : Nat} (h : PQ z L lo m hi) (hw : Within L L' lo m) (hm : m < hi) (hl : hi ≤ L.length) : PQ z L' lo m hi := by
  intro p q g0 g1 g2 g3 g4 h1 h2
  rw [hw.at h2 (.inr (by omega))]
  by_cases e : p = m
  · rw [hw.at h1 (.inr (by omega))]
    exact h p q g0 g1 g2 g3 g4 _ _
  · obtain ⟨p', a1, a2, a3, a4⟩ := hw.from (by omega) g0 (by omega) h1
    rw [a4]
    exact h p' q a1 (by omega) g2 g3 (by omega) _ _
theorem PQ.right {z : RR → RR → Int} {L L' : List RR} {lo m hi : Nat} (h : PQ z L lo m hi) (hw : Within L L' (m + 1) hi) (hl : hi ≤ L.length) : PQ z L' lo m hi := by
  intro p q g0 g1 g2 g3 g4 h1 h2
  rw [hw.at h1 (.inl (by omega))]
  by_cases e : q = m
  · rw [hw.at h2 (.inl (by omega))]
    exact h p q g0 g1 g2 g3 g4 _ _
  · obtain ⟨q', a1, a2, a3, a4⟩ := hw.from hl (by omega) g3 h2
    rw [a4]
    exact h p q' g0 g1 (by omega) a2 (by omega) _ _
theorem pdqG {g : FuncId} {z : RR → RR → Int} {ok : RR → Prop} (hg : Cmp g z ok) {b : Nat} {c : Nat} (n : Nat) : ∀ (T0 : Heap) (L0 : List RR) (lo hi : Nat) (lim : Int), hi - lo ≤ n → OwnR T0 b L0 → (∀ r ∈ L0, ok r) → lo ≤ hi → hi ≤ L0.length → L0.length ≤ 255 → Lb (Lq z) L0 lo hi →
    ∃ L, Sim Tryz.prog 118 #[.slice (some ⟨b, 0, none⟩) L0.length c, .int .i64 (lo : Nat), .int .i64 (hi : Nat), .int .i64 lim, .func (.func g) #[] #[]] T0 (.tuple #[]) (putR T0 b L) ∧ Within L0 L lo hi ∧ SrtTo (Lq z) L lo hi := by
  induction n using Nat.strongRecOn
  rename_i n ih
  intro T0 L0 lo hi lim hn hown hok hlo hhi hlen hlb
  suffices hx : ∃ w H', Sim Tryz.prog 118 #[.slice (some ⟨b, 0, none⟩) L0.length c, .int .i64 (lo : Nat), .int .i64 (hi : Nat), .int .i64 lim, .func (.func g) #[] #[]] T0 w H' ∧ w = .tuple #[] ∧ ∃ L, H' = putR T0 b L ∧ Within L0 L lo hi ∧ SrtTo (Lq z) L lo hi by
    obtain ⟨w, H', h1, rfl, L, rfl, h2⟩ := hx
    exact ⟨L, h1, h2⟩
  have hb := hown.lt
  have hself := putR_self hown
  refine sim_ex tok mixed Tryz.func118 rfl (by kernel_rfl) (by kernel_rfl) (by simp only [Tryz.ntmps118, List.size_toArray, List.length_cons, List.length_nil]; omega) ?_
  simp -implicitDefEqProofs only [go_sem, simprocAttr]
  refine ax_loopx (fun (x : Nat × Nat) s T => s 0 = .slice (some ⟨b, 0, none⟩) L0.length c ∧ s 1 = .int .i64 (x.1 : Nat) ∧ s 2 = .int .i64 (x.2 : Nat) ∧ s 4 = .func (.func g) #[] #[] ∧ lo ≤ x.1 ∧ x.1 ≤ x.2 ∧ x.2 ≤ hi ∧ ∃ lim wb wp L, s 3 = .int .i64 lim ∧ s 10 = .bool wb ∧ s 11 = .bool wp ∧ T = putR T0 b L ∧ Within L0 L lo hi ∧ Outs (Lq z) L lo hi x.1 x.2) (fun x => x.2 - x.1) (lo, hi) ?_ ?_
  · simp -implicitDefEqProofs only [go_sem, simprocAttr]
    exact ⟨hlo, lim, true, true, L0, rfl, rfl, rfl, hself.symm, .refl _ _ _, .start _ _ _⟩
  clear hself
  rintro ⟨a, e⟩ s T ⟨s0, s1, s2, s4, ha, hae, he, lim1, wb, wp, L, s3, s10, s11, rfl, hw, hout⟩
  simp only at s1 s2 ha hae he hout
  have hLl := hw.len
  have hoL := hw.oks hok
  have ho := putR_own T0 L hb
  have hlbL := (hlb.within hw (Nat.le_refl _) (Nat.le_refl _) hlo hhi).sub hout ha he hae
  have m0 : IntKind.i64.wrap ((e : Int) - (a : Int)) = ((e - a : Nat) : Int) := by rw [w64 (by omega) (by omega)]; omega
  by_cases h12 : e - a ≤ 12
  · have g1 : ((e - a : Nat) : Int) ≤ 12 := by omega
    obtain ⟨L2, o, hw2, hs2⟩ := insertionG hg (putR T0 b L) (c := c) (lo := a) (hi := e) ho hoL hae (by omega) (by omega)
    rw [putR_put, hLl] at o
    simp -implicitDefEqProofs only [go_sem, simprocAttr, wa_cond, axC_t, axC_f, s0, s1, s2, s3, s4, m0, g1]
    refine wl_callF _ (by simp -implicitDefEqProofs only [go_sem, simprocAttr]) o (fun h => by cases h) ?_
    simp -implicitDefEqProofs only [go_sem, simprocAttr]
    exact ⟨rfl, L2, rfl, hw.trans (hw2.mono ha he), (hout.within hw2 ha he (Nat.le_refl _) (Nat.le_refl _) hae (by omega)).srt hs2⟩
  have g1 : ¬ ((e - a : Nat) : Int) ≤ 12 := by omega
  by_cases hl0 : lim1 = 0
  · obtain ⟨L2, o, hw2, hs2⟩ := heapG hg (putR T0 b L) (c := c) (lo := a) (hi := e) ho hoL (by omega) (by omega) (by omega)
    rw [putR_put, hLl] at o
    simp -implicitDefEqProofs only [go_sem, simprocAttr, wa_cond, axC_t, axC_f, s0, s1, s2, s3, s4, m0, g1, hl0]
    refine wl_callF _ (by simp -implicitDefEqProofs only [go_sem, simprocAttr]) o (fun h => by cases h) ?_
    simp -implicitDefEqProofs only [go_sem, simprocAttr]
    exact ⟨rfl, L2, rfl, hw.trans (hw2.mono ha he), (hout.within hw2 ha he (Nat.le_refl _) (Nat.le_refl _) hae (by omega)).srt hs2⟩
  simp -implicitDefEqProofs only [go_sem, simprocAttr, s0, s1, s2, s3, s4, s10, s11, m0, g1]
  refine ax_cond2 ?_
  simp only [ev_tmp, ev_const, ev_func, upd_at, put_some, put_none, bndB_bool, Nat.reduceEqDiff, if_true, if_false, ↓reduceIte, reduceCtorEq]
  refine ⟨fun hc => hc.elim, fun _ => ?_⟩
  simp -implicitDefEqProofs only [go_sem, simprocAttr, s0, s1, s2, s3, s4, s10, s11, hl0]
  refine ax_cond2 ?_
  simp only [ev_tmp, ev_const, ev_func, upd_at, put_some, put_none, bndB_bool, Nat.reduceEqDiff, if_true, if_false, ↓reduceIte, reduceCtorEq]
  refine ⟨fun hc => hc.elim, fun _ => ?_⟩
  simp -implicitDefEqProofs only [go_sem, simprocAttr, s0, s1, s2, s3, s4, s10, s11]
  apply shareK (M := fun s T => s 0 = .slice (some ⟨b, 0, none⟩) L0.length c ∧ s 1 = .int .i64 (a : Nat) ∧ s 2 = .int .i64 (e : Nat) ∧ s 4 = .func (.func g) #[] #[] ∧ s 12 = .int .i64 ((e - a : Nat) : Int) ∧ ∃ lim wb wp L, s 3 = .int .i64 lim ∧ s 10 = .bool wb ∧ s 11 = .bool wp ∧ T = putR T0 b L ∧ Within L0 L lo hi ∧ Outs (Lq z) L lo hi a e)
  · intro hrest
    cases wb with
    | true =>
      refine ax_mid _ ?_ hrest
      simp -implicitDefEqProofs only [go_sem, simprocAttr, wa_cond, axC_t, axC_f, s0, s1, s2, s3, s4, s10, s11]
      exact ⟨lim1, true, wp, L, rfl, rfl, rfl, rfl, hw, hout⟩
    | false =>
      obtain ⟨L2, o, hw2⟩ := breakG (putR T0 b L) (f := .func (.func g) #[] #[]) (c := c) (lo := a) (hi := e) ho (by omega) (by omega) (by omega)
      rw [putR_put, hLl] at o
      refine ax_mid _ ?_ hrest
      simp -implicitDefEqProofs only [go_sem, simprocAttr, wa_cond, axC_t, axC_f, s0, s1, s2, s3, s4, s10, s11]
      refine wl_callF _ (by simp -implicitDefEqProofs only [go_sem, simprocAttr]) o (fun h => by cases h) ?_
      simp -implicitDefEqProofs only [go_sem, simprocAttr, s0, s1, s2, s3, s4, s10, s11]
      exact ⟨_, false, wp, L2, rfl, rfl, rfl, rfl, hw.trans (hw2.mono ha he), hout.within hw2 ha he (Nat.le_refl _) (Nat.le_refl _) hae (by omega)⟩
  clear s0 s1 s2 s3 s4
  rintro s T ⟨s0, s1, s2, s4, s12, lim1, wb, wp, L, s3, s10, s11, rfl, hw, hout⟩
  have hLl := hw.len
  have hoL := hw.oks hok
  have ho := putR_own T0 L hb
  obtain ⟨p, h, op, hp1, hp2⟩ := pivotG hg (putR T0 b L) (c := c) (lo := a) (hi := e) ho hoL (by omega) (by omega) (by omega)
  rw [hLl] at op
  simp -implicitDefEqProofs only [go_sem, simprocAttr, s0, s1, s2, s3, s4, s10, s11]
  refine wl_callF _ (by simp -implicitDefEqProofs only [go_sem, simprocAttr]) op (fun h => by cases h) ?_
  simp -implicitDefEqProofs only [go_sem, simprocAttr, s0, s1, s2, s3, s4, s10, s11]
  apply shareK (M := fun s T => s 0 = .slice (some ⟨b, 0, none⟩) L0.length c ∧ s 1 = .int .i64 (a : Nat) ∧ s 2 = .int .i64 (e : Nat) ∧ s 4 = .func (.func g) #[] #[] ∧ s 12 = .int .i64 ((e - a : Nat) : Int) ∧ s 3 = .int .i64 lim1 ∧ s 10 = .bool wb ∧ s 11 = .bool wp ∧ ∃ (p : Nat) (h : Int) (L : List RR), s 13 = .int .i64 (p : Nat) ∧ s 14 = .int .i64 h ∧ a ≤ p ∧ p < e ∧ T = putR T0 b L ∧ Within L0 L lo hi ∧ Outs (Lq z) L lo hi a e)
  · intro hrest
    by_cases hh : h = 2
    · obtain ⟨L2, o, hw2⟩ := reverseG (putR T0 b L) (f := .func (.func g) #[] #[]) (c := c) (lo := a) (hi := e) ho (by omega) (by omega) (by omega)
      rw [putR_put, hLl] at o
      have m1 : IntKind.i64.wrap ((e : Int) - 1) = ((e - 1 : Nat) : Int) := by rw [w64 (by omega) (by omega)]; omega
      have m2 : IntKind.i64.wrap ((p : Int) - (a : Int)) = ((p - a : Nat) : Int) := by rw [w64 (by omega) (by omega)]; omega
      have m3 : IntKind.i64.wrap (((e - 1 : Nat) : Int) - ((p - a : Nat) : Int)) = ((e - 1 - (p - a) : Nat) : Int) := by rw [w64 (by omega) (by omega)]; omega
      simp -implicitDefEqProofs only [go_sem, simprocAttr, hh]
      refine ax_mid _ ?_ hrest
      simp -implicitDefEqProofs only [go_sem, simprocAttr, wa_cond, axC_t, axC_f, s0, s1, s2, s3, s4, s10, s11, s12]
      refine wl_callF _ (by simp -implicitDefEqProofs only [go_sem, simprocAttr]) o (fun h => by cases h) ?_
      simp -implicitDefEqProofs only [go_sem, simprocAttr, s0, s1, s2, s3, s4, s10, s11, s12, m1, m2, m3]
      exact ⟨_, 1, L2, rfl, rfl, by omega, by omega, rfl, hw.trans (hw2.mono ha he), hout.within hw2 ha he (Nat.le_refl _) (Nat.le_refl _) hae (by omega)⟩
    · simp -implicitDefEqProofs only [go_sem, simprocAttr, hh]
      refine ax_mid _ ?_ hrest
      simp -implicitDefEqProofs only [go_sem, simprocAttr, wa_cond, axC_t, axC_f, s0, s1, s2, s3, s4, s10, s11, s12]
      exact ⟨p, h, L, rfl, rfl, hp1, hp2, rfl, hw, hout⟩
  clear s0 s1 s2 s3 s4 s10 s11 s12 op
  rintro s T ⟨s0, s1, s2, s4, s12, s3, s10, s11, p, h, L, s13, s14, hp1, hp2, rfl, hw, hout⟩
  have hLl := hw.len
  have hoL := hw.oks hok
  have ho := putR_own T0 L hb
  have hlbL := (hlb.within hw (Nat.le_refl _) (Nat.le_refl _) hlo hhi).sub hout ha he hae
  simp -implicitDefEqProofs only [go_sem, simprocAttr, s0, s1, s2, s3, s4, s10, s11]
  apply shareK (M := fun s T => s 0 = .slice (some ⟨b, 0, none⟩) L0.length c ∧ s 1 = .int .i64 (a : Nat) ∧ s 2 = .int .i64 (e : Nat) ∧ s 4 = .func (.func g) #[] #[] ∧ s 12 = .int .i64 ((e - a : Nat) : Int) ∧ s 3 = .int .i64 lim1 ∧ s 10 = .bool wb ∧ s 11 = .bool wp ∧ s 13 = .int .i64 (p : Nat) ∧ ∃ (L : List RR), T = putR T0 b L ∧ Within L0 L lo hi ∧ Outs (Lq z) L lo hi a e)
  · intro hrest
    have idle : Within L0 L lo hi ∧ Outs (Lq z) L lo hi a e := ⟨hw, hout⟩
    cases wb with
    | false =>
      simp -implicitDefEqProofs only [go_sem, simprocAttr, s11]
      refine ax_mid _ ?_ hrest
      simp -implicitDefEqProofs only [go_sem, simprocAttr, wa_cond, axC_t, axC_f, s0, s1, s2, s3, s4, s10, s11, s12, s13]
      exact ⟨L, rfl, idle⟩
    | true =>
      cases wp with
      | false =>
        simp -implicitDefEqProofs only [go_sem, simprocAttr, s11]
        refine ax_mid _ ?_ hrest
        simp -implicitDefEqProofs only [go_sem, simprocAttr, wa_cond, axC_t, axC_f, s0, s1, s2, s3, s4, s10, s11, s12, s13]
        exact ⟨L, rfl, idle⟩
      | true =>
        by_cases hh : h = 1
        · obtain ⟨L2, t, o, hw2, hs2⟩ := partialG hg (putR T0 b L) (c := c) (lo := a) (hi := e) ho hoL (by omega) (by omega) (by omega) hlbL
          rw [putR_put, hLl] at o
          have hww := hw.trans (hw2.mono ha he)
          have hout2 := hout.within hw2 ha he (Nat.le_refl _) (Nat.le_refl _) hae (by omega)
          simp -implicitDefEqProofs only [go_sem, simprocAttr, s11, s14, hh]
          refine ax_mid _ ?_ hrest
          simp -implicitDefEqProofs only [go_sem, simprocAttr, wa_cond, axC_t, axC_f, s0, s1, s2, s3, s4, s10, s11, s12, s13]
          refine wl_callF _ (by simp -implicitDefEqProofs only [go_sem, simprocAttr]) o (fun h => by cases h) ?_
          cases t with
          | true =>
            simp -implicitDefEqProofs only [go_sem, simprocAttr, wa_cond, axC_t, axC_f, s0, s1, s2, s3, s4, s10, s11, s12, s13]
            exact ⟨rfl, L2, rfl, hww, hout2.srt (hs2 rfl)⟩
          | false =>
            simp -implicitDefEqProofs only [go_sem, simprocAttr, wa_cond, axC_t, axC_f, s0, s1, s2, s3, s4, s10, s11, s12, s13]
            exact ⟨L2, rfl, hww, hout2⟩
        · simp -implicitDefEqProofs only [go_sem, simprocAttr, s11, s14, hh]
          refine ax_mid _ ?_ hrest
          simp -implicitDefEqProofs only [go_sem, simprocAttr, wa_cond, axC_t, axC_f, s0, s1, s2, s3, s4, s10, s11, s12, s13]
          exact ⟨L, rfl, idle⟩
  clear s0 s1 s2 s3 s4 s10 s11 s12 s13 s14
  rintro s T ⟨s0, s1, s2, s4, s12, s3, s10, s11, s13, L, rfl, hw, hout⟩
  have hLl := hw.len
  have hoL := hw.oks hok
  have ho := putR_own T0 L hb
  have hlbL := (hlb.within hw (Nat.le_refl _) (Nat.le_refl _) hlo hhi).sub hout ha he hae
  have hP : p < L.length := by omega
  simp -implicitDefEqProofs only [go_sem, simprocAttr]
  refine ax_quiet (by kernel_rfl) ?_
  apply shareK (M := fun s T => s 0 = .slice (some ⟨b, 0, none⟩) L0.length c ∧ s 1 = .int .i64 (a : Nat) ∧ s 2 = .int .i64 (e : Nat) ∧ s 4 = .func (.func g) #[] #[] ∧ s 12 = .int .i64 ((e - a : Nat) : Int) ∧ s 3 = .int .i64 lim1 ∧ s 10 = .bool wb ∧ s 11 = .bool wp ∧ s 13 = .int .i64 (p : Nat) ∧ T = putR T0 b L)
  · intro hrest
    by_cases ha0 : a = 0
    · have g2 : ¬ (0 : Int) < (a : Int) := by omega
      simp -implicitDefEqProofs only [go_sem, simprocAttr, s0, s1, s2, s3, s4, s10, s11, s12, s13, g2]
      refine ax_mid _ ?_ hrest
      simp -implicitDefEqProofs only [go_sem, simprocAttr, wa_cond, axC_t, axC_f, s0, s1, s2, s3, s4, s10, s11, s12, s13]
    have g2 : (0 : Int) < (a : Int) := by omega
    have hI : a - 1 < L.length := by omega
    obtain ⟨x, hx, r1⟩ := rdF T0 hb hI
    obtain ⟨y, hy, r2⟩ := rdF T0 hb hP
    have hcm := fun H => hg.call x y (hx ▸ hoL _ (List.getElem_mem hI)) (hy ▸ hoL _ (List.getElem_mem hP)) H
    unfold RR.val rV at hcm
    have m1 : IntKind.i64.wrap ((a : Int) - 1) = ((a - 1 : Nat) : Int) := by rw [w64 (by omega) (by omega)]; omega
    have d2 : (0 : Int) ≤ ((a - 1 : Nat) : Int) := by omega
    have d3 : ((a - 1 : Nat) : Int) < (L0.length : Int) := by omega
    have d4 : (0 : Int) ≤ (p : Int) := by omega
    have d5 : (p : Int) < (L0.length : Int) := by omega
    simp -implicitDefEqProofs only [go_sem, simprocAttr, s0, s1, s2, s3, s4, s10, s11, s12, s13, g2, aIndexAddr, m1, d2, d3, d4, d5, r1, r2]
    refine wl_callO _ (by simp -implicitDefEqProofs only [go_sem, simprocAttr, s4]) _ (by simp -implicitDefEqProofs only [go_sem, simprocAttr]) (hcm _) ?_
    by_cases hc : z x y < 0
    · simp -implicitDefEqProofs only [go_sem, simprocAttr, hc]
      refine ax_mid _ ?_ hrest
      simp -implicitDefEqProofs only [go_sem, simprocAttr, wa_cond, axC_t, axC_f, s0, s1, s2, s3, s4, s10, s11, s12, s13]
    · obtain ⟨L2, m, o, hw2, hm1, hm2, hY, hP', hpv, hle⟩ := equalG hg (putR T0 b L) (c := c) (lo := a) (hi := e) (p := p) ho hoL (by omega) (by omega) (by omega) hp1 hp2
      rw [putR_put, hLl] at o
      have hww := hw.trans (hw2.mono ha he)
      have hout2 := hout.within hw2 ha he (Nat.le_refl _) (Nat.le_refl _) hae (by omega)
      have hl2 := hw2.len
      have hoL2 := hw2.oks hoL
      have hlb2 := (hlb.within hww (Nat.le_refl _) (Nat.le_refl _) hlo hhi).sub hout2 ha he hae
      have e1 : L2[a - 1]'(by omega) = x := by rw [hw2.at (by omega) (.inl (by omega)), ← hx]
      have e2 : L2[a] = y := by rw [hpv, ← hy]
      have hout3 : Outs (Lq z) L2 lo hi m e := hout2.equal (by omega) (fun p' q' g0 g1 g3 g4 h1 h2 => by
        have k1 := hle p' g0 g1 h1
        have k2 : Lq z L2[a] (L2[a - 1]'(by omega)) := by unfold Lq; rw [e1, e2]; exact hc
        have k3 := hlb2 (a - 1) q' (by omega) (by omega) g4 (by omega) h2
        have q1 := hg.tr _ _ _ (hoL2 _ (List.getElem_mem h1)) (hoL2 _ (List.getElem_mem hY)) (hoL2 _ (List.getElem_mem (show a - 1 < L2.length by omega))) k1 k2
        exact hg.tr _ _ _ (hoL2 _ (List.getElem_mem h1)) (hoL2 _ (List.getElem_mem (show a - 1 < L2.length by omega))) (hoL2 _ (List.getElem_mem h2)) q1 k3)
      simp -implicitDefEqProofs only [go_sem, simprocAttr, hc]
      refine ax_mid _ ?_ hrest
      simp -implicitDefEqProofs only [go_sem, simprocAttr, wa_cond, axC_t, axC_f, s0, s1, s2, s3, s4, s10, s11, s12, s13]
      refine wl_callF _ (by simp -implicitDefEqProofs only [go_sem, simprocAttr]) o (fun h => by cases h) ?_
      simp -implicitDefEqProofs only [go_sem, simprocAttr, s0, s1, s2, s3, s4, s10, s11, s12, s13]
      exact ⟨(m, e), ⟨rfl, rfl, by omega, by omega, he, lim1, wb, wp, L2, rfl, rfl, rfl, rfl, hww, hout3⟩, by simp only; omega⟩
  clear s0 s1 s2 s3 s4 s10 s11 s12 s13
  rintro s T ⟨s0, s1, s2, s4, s12, s3, s10, s11, s13, rfl⟩
  obtain ⟨L2, m, t, o, hw2, hm1, hm2, hpq⟩ := partG hg (putR T0 b L) (c := c) (lo := a) (hi := e) (p := p) ho hoL (by omega) (by omega) (by omega) hp1 hp2
  rw [putR_put, hLl] at o
  have hpq : PQ z L2 a m e := hpq
  have hww := hw.trans (hw2.mono ha he)
  have hout2 := hout.within hw2 ha he (Nat.le_refl _) (Nat.le_refl _) hae (by omega)
  have hl2 := hw2.len
  have hoL2 := hw2.oks hoL
  have hlb2 := (hlb.within hww (Nat.le_refl _) (Nat.le_refl _) hlo hhi).sub hout2 ha he hae
  have m1 : IntKind.i64.wrap ((m : Int) - (a : Int)) = ((m - a : Nat) : Int) := by rw [w64 (by omega) (by omega)]; omega
  have m2 : IntKind.i64.wrap ((e : Int) - (m : Int)) = ((e - m : Nat) : Int) := by rw [w64 (by omega) (by omega)]; omega
  have m3 : IntKind.i64.wrap ((m : Int) + 1) = ((m + 1 : Nat) : Int) := by rw [w64 (by omega) (by omega)]; rfl
  simp -implicitDefEqProofs only [go_sem, simprocAttr, s0, s1, s2, s3, s4, s10, s11, s12, s13]
  refine wl_callF _ (by simp -implicitDefEqProofs only [go_sem, simprocAttr]) o (fun h => by cases h) ?_
  by_cases hlt : m - a < e - m
  · have g2 : ((m - a : Nat) : Int) < ((e - m : Nat) : Int) := by omega
    have hlb3 : Lb (Lq z) L2 a m := fun p' q' h0 h1 h2 h3 h4 => hlb2 p' q' h0 h1 (by omega) h3 h4
    obtain ⟨L3, o3, hw3, hs3⟩ := ih (m - a) (by omega) (putR T0 b L2) L2 a m lim1 (Nat.le_refl _) (putR_own T0 L2 hb) hoL2 hm1 (by omega) (by omega) hlb3
    rw [putR_put, hl2, hLl] at o3
    have hww3 := hww.trans (hw3.mono (show lo ≤ a by omega) (show m ≤ hi by omega))
    have hout3 := (hout2.within hw3 ha he (Nat.le_refl _) (by omega) hm1 (by omega)).left hs3 hm2 (hpq.left hw3 hm2 (by omega))
    simp -implicitDefEqProofs only [go_sem, simprocAttr, wa_cond, axC_t, axC_f, s0, s1, s2, s3, s4, s10, s11, s12, s13, m1, m2, g2]
    refine wl_callF _ (by simp -implicitDefEqProofs only [go_sem, simprocAttr, s3, s4]) o3 (fun h => by cases h) ?_
    simp -implicitDefEqProofs only [go_sem, simprocAttr, s0, s1, s2, s3, s4, s10, s11, s12, s13, m3]
    exact ⟨(m + 1, e), ⟨rfl, rfl, by omega, by simp only; omega, he, lim1, _, t, L3, rfl, rfl, rfl, rfl, hww3, hout3⟩, by simp only; omega⟩
  · have g2 : ¬ ((m - a : Nat) : Int) < ((e - m : Nat) : Int) := by omega
    have hlb3 : Lb (Lq z) L2 (m + 1) e := fun p' q' h0 h1 h2 h3 h4 => by
      by_cases k : p' < a
      · exact hlb2 p' q' k (by omega) h2 h3 h4
      · exact hpq p' q' (by omega) (by omega) (by omega) h2 (by omega) h3 h4
    obtain ⟨L3, o3, hw3, hs3⟩ := ih (e - (m + 1)) (by omega) (putR T0 b L2) L2 (m + 1) e lim1 (Nat.le_refl _) (putR_own T0 L2 hb) hoL2 (by omega) (by omega) (by omega) hlb3
    rw [putR_put, hl2, hLl] at o3
    have hww3 := hww.trans (hw3.mono (show lo ≤ m + 1 by omega) he)
    have hout3 := (hout2.within hw3 ha he (by omega) (Nat.le_refl _) (by omega) (by omega)).right hs3 hm1 (hpq.right hw3 (by omega))
    simp -implicitDefEqProofs only [go_sem, simprocAttr, wa_cond, axC_t, axC_f, s0, s1, s2, s3, s4, s10, s11, s12, s13, m1, m2, m3, g2]
    refine wl_callF _ (by simp -implicitDefEqProofs only [go_sem, simprocAttr, s3, s4]) o3 (fun h => by cases h) ?_
    simp -implicitDefEqProofs only [go_sem, simprocAttr, s0, s1, s2, s3, s4, s10, s11, s12, s13, m3]
    exact ⟨(a, m), ⟨rfl, rfl, ha, hm1, by omega, lim1, _, t, L3, rfl, rfl, rfl, rfl, hww3, hout3⟩, by simp only; omega⟩
end Go.Proofs.YthhmkaikopdmjaaGreat
namespace Go.Proofs.YthhmkaikopdmjaaGreat
open Go Go.Fw
theorem cmpOk {k : Nat} (hk : k ≤ 19000) : Cmp 54 cmpS (fun r => r.le k ∧ r.err = 0) := by
  refine ⟨fun a b ha hb H => compareS H ha.1 hb.1 hk, fun a b c ha hb hc h1 h2 h3 => ?_, fun a b ha hb h1 h2 => ?_⟩
  · rw [cmpS_ok hb.2 ha.2] at h1
    rw [cmpS_ok hc.2 hb.2] at h2
    rw [cmpS_ok hc.2 ha.2] at h3
    exact RR.tot.trans a b c ha.2 hb.2 hc.2 h1 h2 h3
  · rw [cmpS_ok ha.2 hb.2] at h1
    rw [cmpS_ok hb.2 ha.2] at h2
    exact RR.lt_leq ha.2 hb.2 h1 h2
theorem Lq_leq {a b : RR} (ha : a.err = 0) (hb : b.err = 0) (h : Lq cmpS a b) : RR.leq a b := by
  unfold Lq at h
  rw [cmpS_ok hb ha] at h
  exact h
theorem sort255 (T0 : Heap) {b : Nat} {L0 : List RR} {k c : Nat} (hown : OwnR T0 b L0) (hle : ∀ r ∈ L0, r.le k) (hk : k ≤ 19000) (hok : ∀ r ∈ L0, r.err = 0) (h255 : L0.length ≤ 255) :
    ∃ L, Sim Tryz.prog 67 #[.slice (some ⟨b, 0, none⟩) L0.length c, .func (.func 54) #[] #[]] T0 (.tuple #[]) (putR T0 b L) ∧ L.Perm L0 ∧ L.Pairwise RR.leq := by
  obtain ⟨L, o1, hw, hs⟩ := pdqG (cmpOk hk) (c := c) L0.length T0 L0 0 L0.length (bitLen L0.length : Nat) (by omega) hown (fun r hr => ⟨hle r hr, hok r hr⟩) (Nat.zero_le _) (Nat.le_refl _) h255 (fun p q h0 => absurd h0 (by omega))
  refine ⟨L, ?_, hw.perm, ?_⟩
  · have e1 : aLen tt [22] (.slice (some ⟨b, 0, none⟩) L0.length c) = some (.int .i64 (L0.length : Nat)) := rfl
    have o2 := fun H => len_sim H (x := L0.length) (by omega)
    have c1 : IntKind.u64.wrap (L0.length : Int) = (L0.length : Int) := wu64n (by omega)
    refine sim_of_ax tok mixed Tryz.func67 rfl (by kernel_rfl) (by kernel_rfl) (by simp only [Tryz.ntmps67, List.size_toArray, List.length_cons, List.length_nil]; omega) ?_
    simp -implicitDefEqProofs only [go_sem, simprocAttr, e1, aConv, c1]
    refine wl_callV _ (by simp -implicitDefEqProofs only [go_sem, simprocAttr]) (o2 _) ?_
    simp -implicitDefEqProofs only [go_sem, simprocAttr]
    refine wl_callF _ (by simp -implicitDefEqProofs only [go_sem, simprocAttr]) o1 (fun h => by cases h) ?_
    simp -implicitDefEqProofs only [go_sem, simprocAttr]
    first | rfl | exact ⟨[], rfl, rfl, rfl⟩
  · have hokL := hw.oks hok
    have hs : SrtTo (Lq cmpS) L 0 L.length := by rw [hw.len]; exact hs
    rw [List.pairwise_iff_getElem]
    intro p q hp hq hpq
    exact Lq_leq (hokL _ (List.getElem_mem hp)) (hokL _ (List.getElem_mem hq)) (hs p q (Nat.zero_le _) hpq hq hp hq)
theorem RefineL (H : Heap) {v : Value} {l : List RR} {k : Nat} (hv : RL H v l) (hle : ∀ r ∈ l, r.le k) (hk : k ≤ 80) (ho : Ord l) (h2 : 2 ≤ l.length) (h32 : l.length ≤ 32) :
    ∃ w H', Sim Tryz.prog 26 #[v] H w H' ∧ Ext H H' ∧ ∃ b L, H.length ≤ b ∧ w = .tuple #[.slice (some ⟨b, 0, none⟩) (2 * l.length) 0, .int .i64 0] ∧ OwnR H' b L ∧ L.Perm (l ++ midsTo l l.length) ∧ L.Pairwise RR.leq :=
  RefineG H hv hle hk ho h2 h32 fun T b L0 h1 h2 h3 h4 => sort255 T h1 h2 (by omega) h3 (by omega)
end Go.Proofs.YthhmkaikopdmjaaGreat
namespace Go.Proofs.YthhmkaikopdmjaaGreat
open Go Go.Fw
theorem trimR (H : Heap) (m : List UInt8) : Sim Tryz.prog 225 #[.string (bs m)] H (.string (bs (dropZ m))) H := by
  refine sim_of_ax tok mixed Tryz.func225 rfl (by kernel_rfl) (by kernel_rfl) (by simp only [Tryz.ntmps225, List.size_toArray, List.length_cons, List.length_nil]; omega) ?_
  simp -implicitDefEqProofs only [go_sem, simprocAttr, -Int.reducePow, -Nat.reducePow]
  refine ax_loopx (fun (l : List UInt8) s H' => s 0 = .string (bs l) ∧ dropZ l = dropZ m ∧ H' = H) List.length m ?_ ?_
  · simp -implicitDefEqProofs only [go_sem, simprocAttr, -Int.reducePow, -Nat.reducePow]
  rintro l s T ⟨h0, hl, rfl⟩
  cases l with
  | nil =>
    have e : ¬ (0 : Int) < (0 : Int) := by omega
    simp -implicitDefEqProofs only [go_sem, simprocAttr, -Int.reducePow, -Nat.reducePow, wa_cond, axC_t, axC_f, h0, aLen, e, res225]
    rw [← hl]; rfl
  | cons b l =>
    have e : (0 : Int) < ((l.length + 1 : Nat) : Int) := by omega
    by_cases hb : b = 0
    · subst hb
      simp -implicitDefEqProofs only [go_sem, simprocAttr, -Int.reducePow, -Nat.reducePow, wa_cond, axC_t, axC_f, h0, aLen, e, aSlice, bnd, u8_zero, show ((0 : UInt8).toNat : Int) = 0 from rfl]
      refine ⟨l, ⟨?_, ?_⟩, by simp⟩
      · simp
      · rw [← hl]; rfl
    · have hb2 : ¬ ((b.toNat : Int) = 0) := fun h => hb (u8_zero.1 h)
      simp -implicitDefEqProofs only [go_sem, simprocAttr, -Int.reducePow, -Nat.reducePow, wa_cond, axC_t, axC_f, h0, aLen, e, hb2, res225]
      rw [← hl]
      simp [dropZ, hb]
theorem canon_mk (g : Bool) (m : List UInt8) : mkI (ival g m) = iV (g && decide (dropZ m ≠ [])) (dropZ m) := by
  unfold mkI
  rw [ival_abs, ← digB_strip]
  congr 1
  unfold ival
  by_cases h : valB m = 0
  · have : dropZ m = [] := by rw [digB_strip, h, digB_zero]
    cases g <;> simp [h, this]
  · have : dropZ m ≠ [] := fun hd => h (by rw [← valB_drop, hd]; rfl)
    cases g <;> simp [this] <;> omega
theorem canonR (H : Heap) (g : Bool) (m : List UInt8) : Sim Tryz.prog 220 #[iV g m] H (mkI (ival g m)) H := by
  refine flat_ex rfl ?_
  have o1 := fun H => trimR H m
  rw [canon_mk]
  unfold iV
  refine sim_ex tok mixed Tryz.func220 rfl (by kernel_rfl) (by kernel_rfl) (by simp only [Tryz.ntmps220, List.size_toArray, List.length_cons, List.length_nil]; omega) ?_
  simp -implicitDefEqProofs only [go_sem, simprocAttr, -Int.reducePow, -Nat.reducePow]
  cases m with
  | nil =>
    have e : ¬ (0 : Int) < (0 : Int) := by omega
    simp -implicitDefEqProofs only [go_sem, simprocAttr, -Int.reducePow, -Nat.reducePow, wa_cond, axC_t, axC_f, aLen, e]
    refine wl_callV _ (by simp -implicitDefEqProofs only [go_sem, simprocAttr, -Int.reducePow, -Nat.reducePow]) (o1 _) ?_
    have e2 : dropZ [] = [] := rfl
    rw [e2]
    cases g <;> simp -implicitDefEqProofs only [go_sem, simprocAttr, -Int.reducePow, -Nat.reducePow, res220] <;> first | exact .app _ _ | exact ⟨.app _ _, rfl⟩
  | cons b l =>
    have e : (0 : Int) < ((l.length + 1 : Nat) : Int) := by omega
    by_cases hb : b = 0
    · have hb2 : ((b.toNat : Int) = 0) := u8_zero.2 hb
      have hne : (bs (dropZ (b :: l)) = bs []) ↔ dropZ (b :: l) = [] := bs_inj
      simp -implicitDefEqProofs only [go_sem, simprocAttr, -Int.reducePow, -Nat.reducePow, wa_cond, axC_t, axC_f, aLen, e, hb2]
      refine wl_callV _ (by simp -implicitDefEqProofs only [go_sem, simprocAttr, -Int.reducePow, -Nat.reducePow]) (o1 _) ?_
      cases g <;> simp -implicitDefEqProofs only [go_sem, simprocAttr, -Int.reducePow, -Nat.reducePow, hne, res220] <;> first | exact .app _ _ | exact ⟨.app _ _, rfl⟩
    · have hb2 : ¬ ((b.toNat : Int) = 0) := fun h => hb (u8_zero.1 h)
      have hd : dropZ (b :: l) = b :: l := by simp [dropZ, hb]
      simp -implicitDefEqProofs only [go_sem, simprocAttr, -Int.reducePow, -Nat.reducePow, wa_cond, axC_t, axC_f, aLen, e, hb2, hd, res220]
      cases g <;> first | exact .app _ _ | exact ⟨.app _ _, rfl⟩
theorem smallR (H : Heap) {m : List UInt8} (hm : m.length ≤ 7) : Sim Tryz.prog 227 #[.string (bs m)] H (.int .i64 (valB m : Nat)) H := by
  refine sim_of_ax tok mixed Tryz.func227 rfl (by kernel_rfl) (by kernel_rfl) (by simp only [Tryz.ntmps227, List.size_toArray, List.length_cons, List.length_nil]; omega) ?_
  simp -implicitDefEqProofs only [go_sem, simprocAttr, -Int.reducePow, -Nat.reducePow, aLen]
  refine ax_loopx (fun (i : Nat) s T => s 0 = .string (bs m) ∧ s 3 = .int .i64 (valB (m.take i) : Nat) ∧ s 4 = .int .i64 (i : Nat) ∧ i ≤ m.length ∧ T = H) (fun i => m.length - i) 0 ?_ ?_
  · simp -implicitDefEqProofs only [go_sem, simprocAttr, -Int.reducePow, -Nat.reducePow]
    trivial
  rintro i s T ⟨h0, h3, h4, hi, hT⟩
  subst T
  simp -implicitDefEqProofs only [go_sem, simprocAttr, -Int.reducePow, -Nat.reducePow, h0, h4, aLen]
  refine ax_cond2 ?_
  simp only [ev_tmp, ev_const, ev_func, upd_at, put_some, put_none, bndB_bool, Nat.reduceEqDiff, if_true, if_false, ↓reduceIte, reduceCtorEq]
  refine ⟨fun hc0 => have hlt := of_decide_eq_true hc0; ?_, fun hc0 => have hlt := of_decide_eq_false hc0; ?_⟩
  · have hil : i < m.length := by omega
    have hg : m[i]? = some m[i] := List.getElem?_eq_getElem hil
    have hts := valB_take_succ hil
    have hvl := valB_take_lt m i
    have hvl2 := valB_take_lt m (i + 1)
    have hm1 := pow256_le (i := i) (by omega)
    have hm2 := pow256_le (i := i + 1) (by omega)
    have hb : m[i].toNat < 256 := UInt8.toNat_lt _
    generalize m[i] = x at *
    generalize valB (m.take i) = n at *
    have a1 : IntKind.i64.wrap ((n : Int) * 2 ^ 8) = ((n * 2 ^ 8 : Nat) : Int) := by
      rw [show ((n : Int) * 2 ^ 8) = ((n * 2 ^ 8 : Nat) : Int) by simp, w64n (by omega)]
    have a2 := w64n (n := x.toNat) (by omega)
    have a3 := or_i64 (a := n * 2 ^ 8) (b := x.toNat) (by omega) (by omega)
    have a4 : n * 2 ^ 8 ||| x.toNat = valB (m.take (i + 1)) := by rw [Nat.or_comm, or_add (by omega), hts]; omega
    rw [a4] at a3
    have a5 : IntKind.i64.wrap ((i : Int) + 1) = ((i + 1 : Nat) : Int) := by rw [w64 (by omega) (by omega)]; rfl
    have h8 : ¬ ((8 : Int) < 0) := by omega
    have hnn : (0 : Int) ≤ (i : Int) := by omega
    simp -implicitDefEqProofs only [go_sem, simprocAttr, -Int.reducePow, -Nat.reducePow, h0, h3, h4, hg, aConv, a1, a2, a3, a5, h8, hnn, show min 8 64 = 8 from rfl]
    exact ⟨i + 1, ⟨rfl, rfl, by omega⟩, by omega⟩
  · have hil : i = m.length := by omega
    subst hil
    rw [List.take_length] at h3
    simp -implicitDefEqProofs only [go_sem, simprocAttr, -Int.reducePow, -Nat.reducePow, h3, res227]
theorem valueR (H : Heap) (g : Bool) {m : List UInt8} (hm : m.length ≤ 7) : Sim Tryz.prog 221 #[iV g m] H (.int .i64 (ival g m)) H := by
  refine flat_ex rfl ?_
  have o1 := fun H => smallR H hm
  have hv := valB_lt m
  have hp := pow256_le (i := m.length) (by omega)
  have a1 : IntKind.i64.wrap (0 - (valB m : Int)) = -(valB m : Int) := by rw [w64 (by omega) (by omega)]; omega
  unfold iV ival
  refine sim_ex tok mixed Tryz.func221 rfl (by kernel_rfl) (by kernel_rfl) (by simp only [Tryz.ntmps221, List.size_toArray, List.length_cons, List.length_nil]; omega) ?_
  cases g
  · simp -implicitDefEqProofs only [go_sem, simprocAttr, -Int.reducePow, -Nat.reducePow, wa_cond, axC_t, axC_f]
    refine wl_callV _ (by simp -implicitDefEqProofs only [go_sem, simprocAttr, -Int.reducePow, -Nat.reducePow]) (o1 _) ?_
    simp -implicitDefEqProofs only [go_sem, simprocAttr, -Int.reducePow, -Nat.reducePow, res221]
    first | exact .app _ _ | exact ⟨.app _ _, rfl⟩
  · simp -implicitDefEqProofs only [go_sem, simprocAttr, -Int.reducePow, -Nat.reducePow, wa_cond, axC_t, axC_f]
    refine wl_callV _ (by simp -implicitDefEqProofs only [go_sem, simprocAttr, -Int.reducePow, -Nat.reducePow]) (o1 _) ?_
    simp -implicitDefEqProofs only [go_sem, simprocAttr, -Int.reducePow, -Nat.reducePow, a1, res221]
    first | exact .app _ _ | exact ⟨.app _ _, rfl⟩
end Go.Proofs.YthhmkaikopdmjaaGreat
namespace Go.Proofs.YthhmkaikopdmjaaGreat
open Go Go.Fw
theorem bs_list (l : List UInt8) : (bs l).toList = l := Go.ByteArray.toList_eq (bs l)
theorem bytesLess_val : ∀ (l m : List UInt8), l.length = m.length → Op.bytesLess l m = decide (valB l < valB m) := by
  intro l
  induction l with
  | nil =>
    intro m h
    have : m = [] := by simpa using h.symm
    subst this; rfl
  | cons a l ih =>
    intro m h
    cases m with
    | nil => simp at h
    | cons b m =>
      have hl : l.length = m.length := by simpa using h
      rw [valB_cons, valB_cons, hl]
      have h1 := valB_lt l
      have h2 := valB_lt m
      rw [hl] at h1
      unfold Op.bytesLess
      rw [ih m hl]
      generalize 256 ^ m.length = p at *
      by_cases hab : a < b
      · have hn : a.toNat < b.toNat := UInt8.lt_iff_toNat_lt.1 hab
        have : (a.toNat + 1) * p ≤ b.toNat * p := Nat.mul_le_mul_right _ hn
        rw [Nat.add_mul] at this
        rw [decide_eq_true (show a.toNat * p + valB l < b.toNat * p + valB m by omega)]
        simp [hab]
      · by_cases he : a = b
        · subst he
          simp [hab]
        · have hn : b.toNat < a.toNat := by
            have h3 : ¬ a.toNat < b.toNat := fun h => hab (UInt8.lt_iff_toNat_lt.2 h)
            have h4 : a.toNat ≠ b.toNat := fun h => he (UInt8.toNat_inj.1 h)
            omega
          have : (b.toNat + 1) * p ≤ a.toNat * p := Nat.mul_le_mul_right _ hn
          rw [Nat.add_mul] at this
          rw [decide_eq_false (show ¬ a.toNat * p + valB l < b.toNat * p + valB m by omega)]
          simp [hab, he]
theorem digB_len_lt {n k : Nat} (h : (digB n).length < (digB k).length) : n < k := by
  have h1 := valB_lt (digB n)
  rw [valB_dig] at h1
  have h2 := dropZ_ge (digB_drop k) (fun h0 => by rw [h0] at h; simp at h)
  rw [valB_dig] at h2
  have : 256 ^ (digB n).length ≤ 256 ^ ((digB k).length - 1) := Nat.pow_le_pow_right (by decide) (by omega)
  omega
theorem compareMagR (H : Heap) (n k : Nat) : Sim Tryz.prog 223 #[.string (bs (digB n)), .string (bs (digB k))] H (.int .i64 (sgn ((n : Int) - k))) H := by
  have h1 := digB_len_lt (n := n) (k := k)
  have h2 := digB_len_lt (n := k) (k := n)
  have h3 := bytesLess_val (digB n) (digB k)
  have h4 : bs (digB n) = bs (digB k) ↔ n = k := by
    rw [bs_inj]
    refine ⟨fun h => ?_, fun h => by rw [h]⟩
    have := congrArg valB h
    rwa [valB_dig, valB_dig] at this
  rw [valB_dig, valB_dig] at h3
  generalize digB n = l at *
  generalize digB k = m at *
  have bl : ∀ t, aBin tt .lss t (.string (bs l)) (.string (bs m)) = some (.bool (Op.bytesLess l m)) := fun t => by simp only [aBin, aStr, bs_list]
  have bg : ∀ t, aBin tt .gtr t (.string (bs l)) (.string (bs m)) = some (.bool !(Op.bytesLess l m || decide (bs l = bs m))) := fun t => by simp only [aBin, aStr, beq_ba]; rw [bs_list, bs_list]
  refine sim_of_ax tok mixed Tryz.func223 rfl (by kernel_rfl) (by kernel_rfl) (by simp only [Tryz.ntmps223, List.size_toArray, List.length_cons, List.length_nil]; omega) ?_
  simp -implicitDefEqProofs only [go_sem, simprocAttr, aLen]
  by_cases hl : l.length = m.length
  · have e : ((l.length : Int) = (m.length : Int)) := by omega
    have h3 := h3 hl
    simp -implicitDefEqProofs only [go_sem, simprocAttr, wa_cond, axC_t, axC_f, e, bl, h3]
    by_cases hlt : n < k
    · have hs : sgn ((n : Int) - k) = -1 := by unfold sgn; rw [if_pos (by omega)]
      rw [hs]
      simp -implicitDefEqProofs only [go_sem, simprocAttr, wa_cond, axC_t, axC_f, hlt, res223]
    · by_cases he : n = k
      · have hs : sgn ((n : Int) - k) = 0 := by unfold sgn; rw [if_neg (by omega), if_neg (by omega)]
        rw [hs]
        have h5 := h4.2 he
        simp -implicitDefEqProofs only [go_sem, simprocAttr, wa_cond, axC_t, axC_f, hlt, bg, h3, h4, he, Bool.or_true, Bool.false_or, res223]
      · have hs : sgn ((n : Int) - k) = 1 := by unfold sgn; rw [if_neg (by omega), if_pos (by omega)]
        rw [hs]
        simp -implicitDefEqProofs only [go_sem, simprocAttr, wa_cond, axC_t, axC_f, hlt, bg, h3, h4, he, Bool.or_false, Bool.false_or, res223]
  · have e : ¬ ((l.length : Int) = (m.length : Int)) := by omega
    by_cases hlt : l.length < m.length
    · have hn := h1 hlt
      have hs : sgn ((n : Int) - k) = -1 := by unfold sgn; rw [if_pos (by omega)]
      have e2 : (l.length : Int) < (m.length : Int) := by omega
      rw [hs]
      simp -implicitDefEqProofs only [go_sem, simprocAttr, wa_cond, axC_t, axC_f, e, e2, aLen, res223]
    · have hn := h2 (by omega)
      have hs : sgn ((n : Int) - k) = 1 := by unfold sgn; rw [if_neg (by omega), if_pos (by omega)]
      have e2 : ¬ (l.length : Int) < (m.length : Int) := by omega
      rw [hs]
      simp -implicitDefEqProofs only [go_sem, simprocAttr, wa_cond, axC_t, axC_f, e, e2, aLen, res223]
end Go.Proofs.YthhmkaikopdmjaaGreat
