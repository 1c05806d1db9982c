/- sorting: reversing, the choice of the pivot; sorting: heaps; sorting: by a heap; sorting: breaking patterns; sorting: almost sorted rows; sorting: the part of equal ones; sorting: the two parts; sorting: the whole; sorting: rows of rotations up to 255; the reference of bigint: trim, Canonical, small, value, mag, Of, Neg; the reference of bigint: compareMag, mag, Of, Neg; the reference of bigint: mag, Of, Neg; the reference of bigint: addMag, subMag; the reference of bigint: subMag; the reference of bigint: Add, Sub, Compare; the reference of bigint: Sub, Compare; the reference of bigint: mulMag; the reference of bigint: mulMag; the reference of bigint: Mul. Conditions: none. -/
import Derived.Test.YthhmkaikopdmjaaGreatMe
set_option linter.unusedSimpArgs false
set_option linter.unusedVariables false
set_option maxRecDepth 8000
namespace Go.Proofs.YthhmkaikopdmjaaGreat
open Go Go.Fw
theorem reverseG (T0 : Heap) {f : Value} {b : Nat} {L0 : List RR} {c lo hi : Nat} (hown : OwnR T0 b L0) (hlo : lo < hi) (hhi : hi ≤ L0.length) (hlen : L0.length ≤ 1000000) :
    ∃ L, Sim Tryz.prog 181 #[.slice (some ⟨b, 0, none⟩) L0.length c, .int .i64 (lo : Nat), .int .i64 (hi : Nat), f] T0 (.tuple #[]) (putR T0 b L) ∧ Within L0 L lo hi := by
  suffices hx : ∃ w H', Sim Tryz.prog 181 #[.slice (some ⟨b, 0, none⟩) L0.length c, .int .i64 (lo : Nat), .int .i64 (hi : Nat), f] T0 w H' ∧ w = .tuple #[] ∧ ∃ L, H' = putR T0 b L ∧ Within L0 L lo hi by
    obtain ⟨w, H', h1, rfl, L, rfl, h2⟩ := hx
    exact ⟨L, h1, h2⟩
  have hb := hown.lt
  have a1 : IntKind.i64.wrap ((hi : Int) - 1) = ((hi - 1 : Nat) : Int) := by rw [w64 (by omega) (by omega)]; omega
  have hself := putR_self hown
  refine sxA tok mixed Tryz.func181 ?_
  simp -implicitDefEqProofs only [go_sem, simprocAttr, a1]
  refine ax_loopx (fun (x : Nat × Nat) s T => s 0 = .slice (some ⟨b, 0, none⟩) L0.length c ∧ s 8 = .int .i64 (x.1 : Nat) ∧ s 9 = .int .i64 (x.2 : Nat) ∧ lo ≤ x.1 ∧ x.2 < hi ∧ ∃ L, T = putR T0 b L ∧ Within L0 L lo hi) (fun x => x.2 + 1 - x.1) (lo, hi - 1) ?_ ?_
  · simp -implicitDefEqProofs only [go_sem, simprocAttr]
    exact ⟨by omega, L0, hself.symm, .refl _ _ _⟩
  rintro ⟨i, j⟩ s T ⟨s0, s8, s9, hi1, hj1, L, rfl, hw⟩
  simp only at s8 s9 hi1 hj1
  simp -implicitDefEqProofs only [go_sem, simprocAttr, s8, s9]
  refine ax_cond2 ?_
  simp only [ev_tmp, ev_const, ev_func, upd_at, put_some, put_none, bndB_bool, Nat.reduceEqDiff, if_true, if_false, ↓reduceIte, reduceCtorEq]
  refine ⟨fun hc0 => have hlt := of_decide_eq_true hc0; ?_, fun hc0 => have hlt := of_decide_eq_false hc0; ?_⟩
  · have hij : i < j := by omega
    have hLl := hw.len
    have hI : i < L.length := by omega
    have hJ : j < L.length := by omega
    have ho := putR_own T0 L hb
    have r1 := (ho.at (c := 0) (.inl rfl)).rdR (j := i) hI
    have r2 := (ho.at (c := 0) (.inl rfl)).rdR (j := j) hJ
    have g2 : (0 : Int) ≤ (i : Int) := by omega
    have g3 : (i : Int) < (L0.length : Int) := by omega
    have g4 : (0 : Int) ≤ (j : Int) := by omega
    have g5 : (j : Int) < (L0.length : Int) := by omega
    have m1 : IntKind.i64.wrap ((i : Int) + 1) = ((i + 1 : Nat) : Int) := by rw [w64 (by omega) (by omega)]; rfl
    have m2 : IntKind.i64.wrap ((j : Int) - 1) = ((j - 1 : Nat) : Int) := by rw [w64 (by omega) (by omega)]; omega
    have hww := hw.trans (.sw L i j hI hJ (by omega) (by omega))
    have w1 := ho.wr (j := i) hI L[j]
    have w2 := (putR_own T0 (L.set i L[j]) hb).wr (j := j) (by simp; omega) L[i]
    rw [putR_put] at w1 w2
    have hsw : (L.set i L[j]).set j L[i] = sw L i j hI hJ := rfl
    rw [hsw] at w2
    generalize sw L i j hI hJ = L2 at *
    generalize L.set i L[j] = L1 at *
    generalize L[j] = y at *
    generalize L[i] = x at *
    unfold RR.cells at r1 r2 w1 w2
    simp only [Nat.zero_add] at r1 r2
    simp -implicitDefEqProofs only [go_sem, simprocAttr]
    refine ax_loud (by kernel_rfl) ?_
    simp -implicitDefEqProofs only [go_sem, simprocAttr, s0, s8, s9, aIndexAddr, g2, g3, g4, g5, r1, r2, w1, w2, m1, m2]
    exact ⟨(i + 1, j - 1), ⟨rfl, rfl, by simp only; omega, by simp only; omega, L2, rfl, hww⟩, by simp only; omega⟩
  · simp -implicitDefEqProofs only [go_sem, simprocAttr]
    refine ⟨[], rfl, rfl, L, rfl, hw⟩
def cnt (T : Heap) (p : Nat) (n : Int) : Heap := T.set p ⟨[.int .i64 n], 1, true⟩
theorem cnt_cnt (T : Heap) (p : Nat) (n m : Int) : (cnt T p n).set p ⟨[.int .i64 m], 1, true⟩ = cnt T p m := by simp [cnt]
theorem cnt_at {T : Heap} {p : Nat} (h : p < T.length) (n : Int) : (cnt T p n)[p]? = some ⟨[.int .i64 n], 1, true⟩ := by unfold cnt; rw [List.getElem?_set_self h]
theorem order2G {g : FuncId} {z : RR → RR → Int} {ok : RR → Prop} (hg : Cmp g z ok) (T : Heap) {p b : Nat} {L : List RR} {c x y : Nat} {n : Int} (hp : p < T.length) (hpb : p ≠ b) (hown : OwnR T b L) (hok : ∀ r ∈ L, ok r) (hx : x < L.length) (hy : y < L.length) (hlen : L.length ≤ 1000000) :
    ∃ (x' y' : Nat) (n' : Int), Sim Tryz.prog 268 #[.slice (some ⟨b, 0, none⟩) L.length c, .int .i64 (x : Nat), .int .i64 (y : Nat), .pointer (some ⟨p, 0, none⟩), .func (.func g) #[] #[]] (cnt T p n) (.tuple #[.int .i64 (x' : Nat), .int .i64 (y' : Nat)]) (cnt T p n') ∧ ((x' = x ∧ y' = y) ∨ (x' = y ∧ y' = x)) := by
  have ho : OwnR (cnt T p n) b L := Own.other hown hpb _
  have r1 := (ho.at (c := 0) (.inl rfl)).rdR (j := x) hx
  have r2 := (ho.at (c := 0) (.inl rfl)).rdR (j := y) hy
  have hcm := fun H => hg.call _ _ (hok _ (List.getElem_mem hy)) (hok _ (List.getElem_mem hx)) H
  have g2 : (0 : Int) ≤ (x : Int) := by omega
  have g3 : (x : Int) < (L.length : Int) := by omega
  have g4 : (0 : Int) ≤ (y : Int) := by omega
  have g5 : (y : Int) < (L.length : Int) := by omega
  have rc := rd_cell (cnt_at hp n)
  have wc := wr_cell (v := .int .i64 (IntKind.i64.wrap (n + 1))) (cnt_at hp n) rfl
  rw [cnt_cnt] at wc
  generalize L[x] = u at *
  generalize L[y] = v at *
  unfold RR.cells at r1 r2
  unfold RR.val rV at hcm
  simp only [Nat.zero_add] at r1 r2
  by_cases hc : z v u < 0
  · refine ⟨y, x, IntKind.i64.wrap (n + 1), ?_, .inr ⟨rfl, rfl⟩⟩
    refine soA tok mixed Tryz.func268 ?_
    simp -implicitDefEqProofs only [go_sem, simprocAttr]
    refine ax_quiet (by kernel_rfl) ?_
    simp -implicitDefEqProofs only [go_sem, simprocAttr, aIndexAddr, g2, g3, g4, g5, r1, r2]
    refine wl_callO _ (by simp -implicitDefEqProofs only [go_sem, simprocAttr]) _ (by simp -implicitDefEqProofs only [go_sem, simprocAttr]) (hcm _) ?_
    simp -implicitDefEqProofs only [go_sem, simprocAttr, wa_cond, axC_t, axC_f, hc, rc, wc, res268]
  · refine ⟨x, y, n, ?_, .inl ⟨rfl, rfl⟩⟩
    refine soA tok mixed Tryz.func268 ?_
    simp -implicitDefEqProofs only [go_sem, simprocAttr]
    refine ax_quiet (by kernel_rfl) ?_
    simp -implicitDefEqProofs only [go_sem, simprocAttr, aIndexAddr, g2, g3, g4, g5, r1, r2]
    refine wl_callO _ (by simp -implicitDefEqProofs only [go_sem, simprocAttr]) _ (by simp -implicitDefEqProofs only [go_sem, simprocAttr]) (hcm _) ?_
    simp -implicitDefEqProofs only [go_sem, simprocAttr, wa_cond, axC_t, axC_f, hc, res268]
theorem medianG {g : FuncId} {z : RR → RR → Int} {ok : RR → Prop} (hg : Cmp g z ok) (T : Heap) {p b : Nat} {L : List RR} {c x y w : Nat} {n : Int} (hp : p < T.length) (hpb : p ≠ b) (hown : OwnR T b L) (hok : ∀ r ∈ L, ok r) (hx : x < L.length) (hy : y < L.length) (hw : w < L.length) (hlen : L.length ≤ 1000000) :
    ∃ (m : Nat) (n' : Int), Sim Tryz.prog 240 #[.slice (some ⟨b, 0, none⟩) L.length c, .int .i64 (x : Nat), .int .i64 (y : Nat), .int .i64 (w : Nat), .pointer (some ⟨p, 0, none⟩), .func (.func g) #[] #[]] (cnt T p n) (.int .i64 (m : Nat)) (cnt T p n') ∧ (m = x ∨ m = y ∨ m = w) := by
  obtain ⟨x1, y1, n1, o1, h1⟩ := order2G hg T (c := c) (n := n) hp hpb hown hok hx hy hlen
  obtain ⟨y2, w2, n2, o2, h2⟩ := order2G hg T (c := c) (n := n1) (x := y1) (y := w) hp hpb hown hok (by omega) hw hlen
  obtain ⟨x3, y3, n3, o3, h3⟩ := order2G hg T (c := c) (n := n2) (x := x1) (y := y2) hp hpb hown hok (by omega) (by omega) hlen
  refine ⟨y3, n3, ?_, by omega⟩
  refine soA tok mixed Tryz.func240 ?_
  simp -implicitDefEqProofs only [go_sem, simprocAttr]
  refine kl o1 ?_
  simp -implicitDefEqProofs only [go_sem, simprocAttr]
  refine kl o2 ?_
  simp -implicitDefEqProofs only [go_sem, simprocAttr]
  refine kl o3 ?_
  simp -implicitDefEqProofs only [go_sem, simprocAttr, res240]
theorem medianAdjG {g : FuncId} {z : RR → RR → Int} {ok : RR → Prop} (hg : Cmp g z ok) (T : Heap) {p b : Nat} {L : List RR} {c x : Nat} {n : Int} (hp : p < T.length) (hpb : p ≠ b) (hown : OwnR T b L) (hok : ∀ r ∈ L, ok r) (h0 : 0 < x) (hx : x + 1 < L.length) (hlen : L.length ≤ 1000000) :
    ∃ (m : Nat) (n' : Int), Sim Tryz.prog 239 #[.slice (some ⟨b, 0, none⟩) L.length c, .int .i64 (x : Nat), .pointer (some ⟨p, 0, none⟩), .func (.func g) #[] #[]] (cnt T p n) (.int .i64 (m : Nat)) (cnt T p n') ∧ x - 1 ≤ m ∧ m ≤ x + 1 := by
  obtain ⟨m, n', o1, h1⟩ := medianG hg T (c := c) (n := n) (x := x - 1) (y := x) (w := x + 1) hp hpb hown hok (by omega) (by omega) (by omega) hlen
  have a1 : IntKind.i64.wrap ((x : Int) - 1) = ((x - 1 : Nat) : Int) := by rw [w64 (by omega) (by omega)]; omega
  have a2 : IntKind.i64.wrap ((x : Int) + 1) = ((x + 1 : Nat) : Int) := by rw [w64 (by omega) (by omega)]; rfl
  refine ⟨m, n', ?_, by omega, by omega⟩
  refine soA tok mixed Tryz.func239 ?_
  simp -implicitDefEqProofs only [go_sem, simprocAttr, a1, a2]
  refine kl o1 ?_
  simp -implicitDefEqProofs only [go_sem, simprocAttr, res239]
theorem pivotG {g : FuncId} {z : RR → RR → Int} {ok : RR → Prop} (hg : Cmp g z ok) (T : Heap) {b : Nat} {L : List RR} {c lo hi : Nat} (hown : OwnR T b L) (hok : ∀ r ∈ L, ok r) (hlo : lo + 12 < hi) (hhi : hi ≤ L.length) (hlen : L.length ≤ 1000000) :
    ∃ (p : Nat) (h : Int), Sim Tryz.prog 180 #[.slice (some ⟨b, 0, none⟩) L.length c, .int .i64 (lo : Nat), .int .i64 (hi : Nat), .func (.func g) #[] #[]] T (.tuple #[.int .i64 (p : Nat), .int .i64 h]) T ∧ lo ≤ p ∧ p < hi := by
  suffices hx : ∃ w H', Sim Tryz.prog 180 #[.slice (some ⟨b, 0, none⟩) L.length c, .int .i64 (lo : Nat), .int .i64 (hi : Nat), .func (.func g) #[] #[]] T w H' ∧ Ext T H' ∧ ∃ (p : Nat) (h : Int), w = .tuple #[.int .i64 (p : Nat), .int .i64 h] ∧ lo ≤ p ∧ p < hi by
    obtain ⟨w, H', h1, ⟨G, rfl⟩, p, h, rfl, h2⟩ := hx
    exact ⟨p, h, Sim.flat h1 (Calm.refl T) rfl, h2⟩
  obtain ⟨l, hl⟩ : ∃ l, l = hi - lo := ⟨_, rfl⟩
  have a0 : IntKind.i64.wrap ((hi : Int) - (lo : Int)) = (l : Int) := by rw [w64 (by omega) (by omega)]; omega
  have a1 : IntKind.i64.wrap ((l : Int).tdiv 4) = ((l / 4 : Nat) : Int) := by rw [show (4 : Int) = ((4 : Nat) : Int) from rfl, tdiv_nat, w64n (by omega)]
  have a2 : IntKind.i64.wrap (((l / 4 : Nat) : Int) * 1) = ((l / 4 : Nat) : Int) := by rw [w64 (by omega) (by omega)]; omega
  have a3 : IntKind.i64.wrap (((l / 4 : Nat) : Int) * 2) = ((l / 4 * 2 : Nat) : Int) := by rw [w64 (by omega) (by omega)]; omega
  have a4 : IntKind.i64.wrap (((l / 4 : Nat) : Int) * 3) = ((l / 4 * 3 : Nat) : Int) := by rw [w64 (by omega) (by omega)]; omega
  have a5 : IntKind.i64.wrap ((lo : Int) + ((l / 4 : Nat) : Int)) = ((lo + l / 4 : Nat) : Int) := by rw [w64 (by omega) (by omega)]; omega
  have a6 : IntKind.i64.wrap ((lo : Int) + ((l / 4 * 2 : Nat) : Int)) = ((lo + l / 4 * 2 : Nat) : Int) := by rw [w64 (by omega) (by omega)]; omega
  have a7 : IntKind.i64.wrap ((lo : Int) + ((l / 4 * 3 : Nat) : Int)) = ((lo + l / 4 * 3 : Nat) : Int) := by rw [w64 (by omega) (by omega)]; omega
  have c8 : (8 : Int) ≤ (l : Int) := by omega
  have hb := hown.lt
  have hpT : T.length < (T ++ [(⟨[.int .i64 0], 1, true⟩ : Blk)]).length := by simp
  have hpb : T.length ≠ b := by omega
  have hownT : OwnR (T ++ [(⟨[.int .i64 0], 1, true⟩ : Blk)]) b L := Own.app hown _
  have hT0 : T ++ [(⟨[.int .i64 0], 1, true⟩ : Blk)] = cnt (T ++ [(⟨[.int .i64 0], 1, true⟩ : Blk)]) T.length 0 := by simp [cnt]
  have hext : ∀ n, Ext T (cnt (T ++ [(⟨[.int .i64 0], 1, true⟩ : Blk)]) T.length n) := fun n => (Ext.app _ _).set (Nat.le_refl _) _
  have med := fun {x y w : Nat} {n : Int} hx hy hw => medianG hg (T ++ [(⟨[.int .i64 0], 1, true⟩ : Blk)]) (p := T.length) (c := c) (x := x) (y := y) (w := w) (n := n) hpT hpb hownT hok hx hy hw hlen
  have adj := fun {x : Nat} {n : Int} h0 hx => medianAdjG hg (T ++ [(⟨[.int .i64 0], 1, true⟩ : Blk)]) (p := T.length) (c := c) (x := x) (n := n) hpT hpb hownT hok h0 hx hlen
  have rdc := fun n => rd_cell (cnt_at hpT n)
  have key : ∀ (i j k : Nat) (n : Int), lo ≤ i → i < hi → lo ≤ j → j < hi → lo ≤ k → k < hi → ∃ (m : Nat) (n' : Int), (Sim Tryz.prog 240 #[.slice (some ⟨b, 0, none⟩) L.length c, .int .i64 (i : Nat), .int .i64 (j : Nat), .int .i64 (k : Nat), .pointer (some ⟨T.length, 0, none⟩), .func (.func g) #[] #[]] (cnt (T ++ [(⟨[.int .i64 0], 1, true⟩ : Blk)]) T.length n) (.int .i64 (m : Nat)) (cnt (T ++ [(⟨[.int .i64 0], 1, true⟩ : Blk)]) T.length n')) ∧ lo ≤ m ∧ m < hi := fun i j k n h1 h2 h3 h4 h5 h6 => by
    obtain ⟨m, n', o, h⟩ := med (x := i) (y := j) (w := k) (n := n) (by omega) (by omega) (by omega)
    exact ⟨m, n', o, by omega, by omega⟩
  refine sxA tok mixed Tryz.func180 ?_
  simp -implicitDefEqProofs only [go_sem, simprocAttr, a0, a1, a2, a3, a4, a5, a6, a7]
  rw [hT0]
  generalize T ++ [(⟨[.int .i64 0], 1, true⟩ : Blk)] = T1 at *
  simp -implicitDefEqProofs only [go_sem, simprocAttr, c8]
  refine ax_cond2 ?_
  simp only [ev_tmp, ev_const, ev_func, upd_at, put_some, put_none, bndB_bool, Nat.reduceEqDiff, if_true, if_false, ↓reduceIte, reduceCtorEq]
  refine ⟨fun _ => ?_, fun hc => hc.elim⟩
  apply shareK (M := fun s T' => ∃ (i j k : Nat) (n : Int), s 0 = .slice (some ⟨b, 0, none⟩) L.length c ∧ s 3 = .func (.func g) #[] #[] ∧ s 11 = .pointer (some ⟨T.length, 0, none⟩) ∧ s 12 = .int .i64 (i : Nat) ∧ s 13 = .int .i64 (j : Nat) ∧ s 14 = .int .i64 (k : Nat) ∧ lo ≤ i ∧ i < hi ∧ lo ≤ j ∧ j < hi ∧ lo ≤ k ∧ k < hi ∧ T' = cnt T1 T.length n)
  · intro hrest
    by_cases c50 : 50 ≤ l
    · have d1 : (50 : Int) ≤ (l : Int) := by omega
      obtain ⟨m1, n1, q1, h1⟩ := adj (x := lo + l / 4) (n := 0) (by omega) (by omega)
      obtain ⟨m2, n2, q2, h2⟩ := adj (x := lo + l / 4 * 2) (n := n1) (by omega) (by omega)
      obtain ⟨m3, n3, q3, h3⟩ := adj (x := lo + l / 4 * 3) (n := n2) (by omega) (by omega)
      simp -implicitDefEqProofs only [go_sem, simprocAttr, d1]
      refine ax_mid _ ?_ hrest
      simp -implicitDefEqProofs only [go_sem, simprocAttr, wa_cond, axC_t, axC_f]
      refine kl q1 ?_
      simp -implicitDefEqProofs only [go_sem, simprocAttr]
      refine kl q2 ?_
      simp -implicitDefEqProofs only [go_sem, simprocAttr]
      refine kl q3 ?_
      simp -implicitDefEqProofs only [go_sem, simprocAttr]
      refine ⟨m1, m2, m3, n3, ?_⟩
      ((repeat' apply And.intro) <;> first | rfl | assumption | omega)
    · have d1 : ¬ (50 : Int) ≤ (l : Int) := by omega
      simp -implicitDefEqProofs only [go_sem, simprocAttr, d1]
      refine ax_mid _ ?_ hrest
      simp -implicitDefEqProofs only [go_sem, simprocAttr, wa_cond, axC_t, axC_f]
      refine ⟨lo + l / 4, lo + l / 4 * 2, lo + l / 4 * 3, 0, ?_⟩
      ((repeat' apply And.intro) <;> first | rfl | assumption | omega)
  rintro s T' ⟨i, j, k, n, s0, s3, s11, s12, s13, s14, h1, h2, h3, h4, h5, h6, rfl⟩
  obtain ⟨m, n', o, hm1, hm2⟩ := key i j k n h1 h2 h3 h4 h5 h6
  have rc := rdc n'
  have hE := hext n'
  simp -implicitDefEqProofs only [go_sem, simprocAttr, s0, s3, s11, s12, s13, s14]
  refine wl_callF _ (by simp -implicitDefEqProofs only [go_sem, simprocAttr, s11]) o (fun h => by cases h) ?_
  by_cases z0 : n' = 0
  · subst z0
    simp -implicitDefEqProofs only [go_sem, simprocAttr, wa_cond, axC_t, axC_f, s11, rc, res180]
    exact ⟨hE, m, 1, rfl, hm1, hm2⟩
  · by_cases z12 : n' = 12
    · subst z12
      simp -implicitDefEqProofs only [go_sem, simprocAttr, wa_cond, axC_t, axC_f, s11, rc, res180]
      exact ⟨hE, m, 2, rfl, hm1, hm2⟩
    · simp -implicitDefEqProofs only [go_sem, simprocAttr, wa_cond, axC_t, axC_f, s11, rc, z0, z12, res180]
      exact ⟨hE, m, 0, rfl, hm1, hm2⟩
end Go.Proofs.YthhmkaikopdmjaaGreat
namespace Go.Proofs.YthhmkaikopdmjaaGreat
open Go Go.Fw
def HpBut (z : RR → RR → Int) (L : List RR) (first lo hi r : Nat) : Prop := ∀ i c, lo ≤ i → i ≠ r → (c = 2 * i + 1 ∨ c = 2 * i + 2) → c < hi → ∀ (h1 : first + i < L.length) (h2 : first + c < L.length), Lq z L[first + c] L[first + i]
def HpUp (z : RR → RR → Int) (L : List RR) (first lo hi r : Nat) : Prop := ∀ i c, lo ≤ i → (r = 2 * i + 1 ∨ r = 2 * i + 2) → (c = 2 * r + 1 ∨ c = 2 * r + 2) → c < hi → ∀ (h1 : first + i < L.length) (h2 : first + c < L.length), Lq z L[first + c] L[first + i]
def Hp (z : RR → RR → Int) (L : List RR) (first lo hi : Nat) : Prop := ∀ i c, lo ≤ i → (c = 2 * i + 1 ∨ c = 2 * i + 2) → c < hi → ∀ (h1 : first + i < L.length) (h2 : first + c < L.length), Lq z L[first + c] L[first + i]
theorem Lq.refl {g : FuncId} {z : RR → RR → Int} {ok : RR → Prop} (hg : Cmp g z ok) {a : RR} (ha : ok a) : Lq z a a := fun h => hg.asy a a ha ha h h
theorem Lq.of_lt {g : FuncId} {z : RR → RR → Int} {ok : RR → Prop} (hg : Cmp g z ok) {a b : RR} (ha : ok a) (hb : ok b) (h : z a b < 0) : Lq z a b := hg.asy a b ha hb h
theorem siftG {g : FuncId} {z : RR → RR → Int} {ok : RR → Prop} (hg : Cmp g z ok) (T0 : Heap) {b : Nat} {L0 : List RR} {c lo hi first : Nat} (hown : OwnR T0 b L0) (hok : ∀ r ∈ L0, ok r) (hhi : first + hi ≤ L0.length) (hlo : lo ≤ 1000000) (hlen : L0.length ≤ 1000000) (hh : HpBut z L0 first lo hi lo) :
    ∃ L, Sim Tryz.prog 236 #[.slice (some ⟨b, 0, none⟩) L0.length c, .int .i64 (lo : Nat), .int .i64 (hi : Nat), .int .i64 (first : Nat), .func (.func g) #[] #[]] T0 (.tuple #[]) (putR T0 b L) ∧ Within L0 L (first + lo) (first + hi) ∧ Hp z L first lo hi := by
  suffices hx : ∃ w H', Sim Tryz.prog 236 #[.slice (some ⟨b, 0, none⟩) L0.length c, .int .i64 (lo : Nat), .int .i64 (hi : Nat), .int .i64 (first : Nat), .func (.func g) #[] #[]] T0 w H' ∧ w = .tuple #[] ∧ ∃ L, H' = putR T0 b L ∧ Within L0 L (first + lo) (first + hi) ∧ Hp z L first lo hi by
    obtain ⟨w, H', h1, rfl, L, rfl, h2⟩ := hx
    exact ⟨L, h1, h2⟩
  have hb := hown.lt
  have hself := putR_self hown
  refine sxA tok mixed Tryz.func236 ?_
  simp -implicitDefEqProofs only [go_sem, simprocAttr]
  refine ax_loopx (fun (r : Nat) s T => s 0 = .slice (some ⟨b, 0, none⟩) L0.length c ∧ s 2 = .int .i64 (hi : Nat) ∧ s 3 = .int .i64 (first : Nat) ∧ s 4 = .func (.func g) #[] #[] ∧ s 10 = .int .i64 (r : Nat) ∧ lo ≤ r ∧ (r < hi ∨ r = lo) ∧
    ∃ L, T = putR T0 b L ∧ Within L0 L (first + lo) (first + hi) ∧ HpBut z L first lo hi r ∧ HpUp z L first lo hi r) (fun r => hi - r) lo ?_ ?_
  · simp -implicitDefEqProofs only [go_sem, simprocAttr]
    refine ⟨.inr trivial, L0, hself.symm, .refl _ _ _, hh, ?_⟩
    intro i c h1 h2 h3 h4
    omega
  clear hh hself
  rintro r s T ⟨s0, s2, s3, s4, s10, hr1, hr2, L, rfl, hw, hbut, hup⟩
  have hLl := hw.len
  have hoL := hw.oks hok
  have m1 : IntKind.i64.wrap (2 * (r : Int)) = ((2 * r : Nat) : Int) := by rw [w64 (by omega) (by omega)]; omega
  have m2 : IntKind.i64.wrap (((2 * r : Nat) : Int) + 1) = ((2 * r + 1 : Nat) : Int) := by rw [w64 (by omega) (by omega)]; rfl
  by_cases hend : hi ≤ 2 * r + 1
  · have g1 : (hi : Int) ≤ ((2 * r + 1 : Nat) : Int) := by omega
    simp -implicitDefEqProofs only [go_sem, simprocAttr, wa_cond, axC_t, axC_f, s2, s10, m1, m2, g1]
    refine ⟨[], rfl, rfl, L, rfl, hw, ?_⟩
    intro i c h1 h2 h3 h4 h5
    by_cases hir : i = r
    · omega
    · exact hbut i c h1 hir h2 h3 h4 h5
  have g1 : ¬ (hi : Int) ≤ ((2 * r + 1 : Nat) : Int) := by omega
  have hR : first + r < L.length := by omega
  have hC : first + (2 * r + 1) < L.length := by omega
  have ho := putR_own T0 L hb
  have m3 : IntKind.i64.wrap (((2 * r + 1 : Nat) : Int) + 1) = ((2 * r + 2 : Nat) : Int) := by rw [w64 (by omega) (by omega)]; rfl
  have m4 : IntKind.i64.wrap ((first : Int) + ((2 * r + 1 : Nat) : Int)) = ((first + (2 * r + 1) : Nat) : Int) := by rw [w64 (by omega) (by omega)]; omega
  have m5 : IntKind.i64.wrap (((first + (2 * r + 1) : Nat) : Int) + 1) = ((first + (2 * r + 2) : Nat) : Int) := by rw [w64 (by omega) (by omega)]; omega
  have hCok := hoL _ (List.getElem_mem hC)
  simp -implicitDefEqProofs only [go_sem, simprocAttr, s2, s10, m1, m2, g1]
  refine ax_cond2 ?_
  simp only [ev_tmp, ev_const, ev_func, upd_at, put_some, put_none, bndB_bool, Nat.reduceEqDiff, if_true, if_false, ↓reduceIte, reduceCtorEq]
  refine ⟨fun hc => hc.elim, fun _ => ?_⟩
  simp -implicitDefEqProofs only [go_sem, simprocAttr]
  apply shareK (M := fun s T => s 0 = .slice (some ⟨b, 0, none⟩) L0.length c ∧ s 2 = .int .i64 (hi : Nat) ∧ s 3 = .int .i64 (first : Nat) ∧ s 4 = .func (.func g) #[] #[] ∧ s 10 = .int .i64 (r : Nat) ∧ T = putR T0 b L ∧
    ∃ K, s 11 = .int .i64 (K : Nat) ∧ (K = 2 * r + 1 ∨ K = 2 * r + 2) ∧ K < hi ∧ ∃ hK : first + K < L.length, ∀ c, (c = 2 * r + 1 ∨ c = 2 * r + 2) → c < hi → ∀ h : first + c < L.length, Lq z L[first + c] L[first + K])
  · intro hrest
    by_cases h2 : 2 * r + 2 < hi
    · have hC2 : first + (2 * r + 2) < L.length := by omega
      have hC2ok := hoL _ (List.getElem_mem hC2)
      have r1 := (ho.at (c := 0) (.inl rfl)).rdR (j := first + (2 * r + 1)) hC
      have r2 := (ho.at (c := 0) (.inl rfl)).rdR (j := first + (2 * r + 2)) hC2
      have hcm := fun H => hg.call _ _ hCok hC2ok H
      have d1 : ((2 * r + 2 : Nat) : Int) < (hi : Int) := by omega
      have d2 : (0 : Int) ≤ ((first + (2 * r + 1) : Nat) : Int) := by omega
      have d3 : ((first + (2 * r + 1) : Nat) : Int) < (L0.length : Int) := by omega
      have d4 : (0 : Int) ≤ ((first + (2 * r + 2) : Nat) : Int) := by omega
      have d5 : ((first + (2 * r + 2) : Nat) : Int) < (L0.length : Int) := by omega
      by_cases hlt : z L[first + (2 * r + 1)] L[first + (2 * r + 2)] < 0
      · have hmax : ∀ c, (c = 2 * r + 1 ∨ c = 2 * r + 2) → c < hi → ∀ h : first + c < L.length, Lq z L[first + c] L[first + (2 * r + 2)] := fun c hc _ h => by
          rcases hc with rfl | rfl
          · exact Lq.of_lt hg hCok hC2ok hlt
          · exact Lq.refl hg hC2ok
        generalize L[first + (2 * r + 2)] = y at hcm hlt r2
        generalize L[first + (2 * r + 1)] = x at hcm hlt r1
        unfold RR.cells at r1 r2
        unfold RR.val rV at hcm
        simp only [Nat.zero_add] at r1 r2
        refine ax_quiet (by kernel_rfl) ?_
        simp -implicitDefEqProofs only [go_sem, simprocAttr, s0, s2, s3, s4, m3, d1, m4, m5, aIndexAddr, d2, d3, d4, d5, r1, r2]
        refine wl_callO _ (by simp -implicitDefEqProofs only [go_sem, simprocAttr, s4]) _ (by simp -implicitDefEqProofs only [go_sem, simprocAttr]) (hcm _) ?_
        simp -implicitDefEqProofs only [go_sem, simprocAttr, hlt]
        refine ax_mid _ ?_ hrest
        simp -implicitDefEqProofs only [go_sem, simprocAttr, wa_cond, axC_t, axC_f, s0, s2, s3, s4, s10, m3]
        exact ⟨2 * r + 2, rfl, .inr rfl, h2, hC2, hmax⟩
      · have hmax : ∀ c, (c = 2 * r + 1 ∨ c = 2 * r + 2) → c < hi → ∀ h : first + c < L.length, Lq z L[first + c] L[first + (2 * r + 1)] := fun c hc _ h => by
          rcases hc with rfl | rfl
          · exact Lq.refl hg hCok
          · exact hlt
        generalize L[first + (2 * r + 2)] = y at hcm hlt r2
        generalize L[first + (2 * r + 1)] = x at hcm hlt r1
        unfold RR.cells at r1 r2
        unfold RR.val rV at hcm
        simp only [Nat.zero_add] at r1 r2
        refine ax_quiet (by kernel_rfl) ?_
        simp -implicitDefEqProofs only [go_sem, simprocAttr, s0, s2, s3, s4, m3, d1, m4, m5, aIndexAddr, d2, d3, d4, d5, r1, r2]
        refine wl_callO _ (by simp -implicitDefEqProofs only [go_sem, simprocAttr, s4]) _ (by simp -implicitDefEqProofs only [go_sem, simprocAttr]) (hcm _) ?_
        simp -implicitDefEqProofs only [go_sem, simprocAttr, hlt]
        refine ax_mid _ ?_ hrest
        simp -implicitDefEqProofs only [go_sem, simprocAttr, wa_cond, axC_t, axC_f, s0, s2, s3, s4, s10]
        exact ⟨2 * r + 1, rfl, .inl rfl, by omega, hC, hmax⟩
    · have d1 : ¬ ((2 * r + 2 : Nat) : Int) < (hi : Int) := by omega
      have hmax : ∀ c, (c = 2 * r + 1 ∨ c = 2 * r + 2) → c < hi → ∀ h : first + c < L.length, Lq z L[first + c] L[first + (2 * r + 1)] := fun c hc hch h => by
        rcases hc with rfl | rfl
        · exact Lq.refl hg hCok
        · omega
      refine ax_quiet (by kernel_rfl) ?_
      simp -implicitDefEqProofs only [go_sem, simprocAttr, s2, m3, d1]
      refine ax_mid _ ?_ hrest
      simp -implicitDefEqProofs only [go_sem, simprocAttr, wa_cond, axC_t, axC_f, s0, s2, s3, s4, s10]
      exact ⟨2 * r + 1, rfl, .inl rfl, by omega, hC, hmax⟩
  clear s0 s2 s3 s4 s10
  rintro s T ⟨s0, s2, s3, s4, s10, rfl, K, s11, hKc, hKh, hK, hmax⟩
  have r1 := (ho.at (c := 0) (.inl rfl)).rdR (j := first + r) hR
  have r2 := (ho.at (c := 0) (.inl rfl)).rdR (j := first + K) hK
  have hRok := hoL _ (List.getElem_mem hR)
  have hKok := hoL _ (List.getElem_mem hK)
  have hcm := fun H => hg.call _ _ hRok hKok H
  have n1 : IntKind.i64.wrap ((first : Int) + (r : Int)) = ((first + r : Nat) : Int) := by rw [addc, w64n (by omega)]
  have n2 : IntKind.i64.wrap ((first : Int) + (K : Int)) = ((first + K : Nat) : Int) := by rw [addc, w64n (by omega)]
  have d2 : (0 : Int) ≤ ((first + r : Nat) : Int) := by omega
  have d3 : ((first + r : Nat) : Int) < (L0.length : Int) := by omega
  have d4 : (0 : Int) ≤ ((first + K : Nat) : Int) := by omega
  have d5 : ((first + K : Nat) : Int) < (L0.length : Int) := by omega
  by_cases hlt : z L[first + r] L[first + K] < 0
  · have hhL2 := sw_at L (first + r) (first + K) hR hK
    have hww := hw.trans (.sw L (first + r) (first + K) hR hK (by omega) (by omega))
    have hl2 := sw_len L (first + r) (first + K) hR hK
    have hfin1 : HpBut z (sw L (first + r) (first + K) hR hK) first lo hi K := by
      intro i c h1 h2 h3 h4 h5 h6
      have g5 : first + i < L.length := by rw [hl2] at h5; exact h5
      have g6 : first + c < L.length := by rw [hl2] at h6; exact h6
      rw [hhL2 _ g5, hhL2 _ g6]
      by_cases hir : i = r
      · subst hir
        rw [if_neg (show ¬ first + i = first + K by omega), if_pos rfl]
        by_cases hcK : c = K
        · subst hcK; rw [if_pos rfl]; exact Lq.of_lt hg hRok hKok hlt
        · rw [if_neg (by omega), if_neg (by omega)]; exact hmax c h3 h4 g6
      · rw [if_neg (show ¬ first + i = first + K by omega), if_neg (show ¬ first + i = first + r by omega), if_neg (show ¬ first + c = first + K by omega)]
        by_cases hcr : c = r
        · subst hcr
          rw [if_pos rfl]
          exact hup i K h1 h3 hKc hKh g5 hK
        · rw [if_neg (by omega)]
          exact hbut i c h1 hir h3 h4 g5 g6
    have hfin2 : HpUp z (sw L (first + r) (first + K) hR hK) first lo hi K := by
      intro i c h1 h2 h3 h4 h5 h6
      have g5 : first + i < L.length := by rw [hl2] at h5; exact h5
      have g6 : first + c < L.length := by rw [hl2] at h6; exact h6
      have hir : i = r := by omega
      subst hir
      rw [hhL2 _ g5, hhL2 _ g6, if_neg (show ¬ first + i = first + K by omega), if_pos rfl, if_neg (by omega), if_neg (by omega)]
      exact hbut K c (by omega) (by omega) h3 h4 hK g6
    have w1 := ho.wr (j := first + r) hR L[first + K]
    have w2 := (putR_own T0 (L.set (first + r) L[first + K]) hb).wr (j := first + K) (by simp; omega) L[first + r]
    rw [putR_put] at w1 w2
    have hsw : (L.set (first + r) L[first + K]).set (first + K) L[first + r] = sw L (first + r) (first + K) hR hK := rfl
    rw [hsw] at w2
    clear hhL2 hmax hbut hup hl2
    generalize sw L (first + r) (first + K) hR hK = L2 at *
    generalize L.set (first + r) L[first + K] = L1 at *
    generalize L[first + K] = y at *
    generalize L[first + r] = x at *
    unfold RR.cells at r1 r2 w1 w2
    unfold RR.val rV at hcm
    simp only [Nat.zero_add] at r1 r2
    simp -implicitDefEqProofs only [go_sem, simprocAttr]
    refine ax_quiet (by kernel_rfl) ?_
    simp -implicitDefEqProofs only [go_sem, simprocAttr, s0, s3, s4, s10, s11, n1, n2, aIndexAddr, d2, d3, d4, d5, r1, r2]
    refine wl_callO _ (by simp -implicitDefEqProofs only [go_sem, simprocAttr, s4]) _ (by simp -implicitDefEqProofs only [go_sem, simprocAttr]) (hcm _) ?_
    simp -implicitDefEqProofs only [go_sem, simprocAttr, wa_cond, axC_t, axC_f, hlt]
    refine ax_loud (by kernel_rfl) ?_
    simp -implicitDefEqProofs only [go_sem, simprocAttr, s0, s2, s3, s4, s10, s11, n1, n2, aIndexAddr, d2, d3, d4, d5, r1, r2, w1, w2]
    exact ⟨K, ⟨rfl, by omega, .inl hKh, L2, rfl, hww, hfin1, hfin2⟩, by omega⟩
  · have hfin : Hp z L first lo hi := by
      intro i c h1 h2 h3 h4 h5
      by_cases hir : i = r
      · subst hir
        exact hg.tr _ _ _ (hoL _ (List.getElem_mem h5)) hKok hRok (hmax c h2 h3 h5) hlt
      · exact hbut i c h1 hir h2 h3 h4 h5
    clear hmax hbut hup
    generalize L[first + K] = y at *
    generalize L[first + r] = x at *
    unfold RR.cells at r1 r2
    unfold RR.val rV at hcm
    simp only [Nat.zero_add] at r1 r2
    simp -implicitDefEqProofs only [go_sem, simprocAttr]
    refine ax_quiet (by kernel_rfl) ?_
    simp -implicitDefEqProofs only [go_sem, simprocAttr, s0, s3, s4, s10, s11, n1, n2, aIndexAddr, d2, d3, d4, d5, r1, r2]
    refine wl_callO _ (by simp -implicitDefEqProofs only [go_sem, simprocAttr, s4]) _ (by simp -implicitDefEqProofs only [go_sem, simprocAttr]) (hcm _) ?_
    simp -implicitDefEqProofs only [go_sem, simprocAttr, wa_cond, axC_t, axC_f, hlt]
    first | exact ⟨[], rfl, rfl, L, rfl, hw, hfin⟩ | exact ⟨rfl, L, rfl, hw, hfin⟩
end Go.Proofs.YthhmkaikopdmjaaGreat
namespace Go.Proofs.YthhmkaikopdmjaaGreat
open Go Go.Fw
theorem Hp.max {g : FuncId} {z : RR → RR → Int} {ok : RR → Prop} (hg : Cmp g z ok) {L : List RR} {first n : Nat} (hok : ∀ r ∈ L, ok r) (h : Hp z L first 0 n) : ∀ t, t < n → ∀ (h1 : first + t < L.length) (h0 : first < L.length), Lq z L[first + t] L[first] := by
  intro t
  induction t using Nat.strongRecOn with
  | ind t ih =>
    intro ht h1 h0
    by_cases t0 : t = 0
    · subst t0; exact Lq.refl hg (hok _ (List.getElem_mem h0))
    · have e : t = 2 * ((t - 1) / 2) + 1 ∨ t = 2 * ((t - 1) / 2) + 2 := by omega
      have hp : first + (t - 1) / 2 < L.length := by omega
      have s1 := h ((t - 1) / 2) t (Nat.zero_le _) e ht hp h1
      have s2 := ih ((t - 1) / 2) (by omega) (by omega) hp h0
      exact hg.tr _ _ _ (hok _ (List.getElem_mem h1)) (hok _ (List.getElem_mem hp)) (hok _ (List.getElem_mem h0)) s1 s2
theorem heapG {g : FuncId} {z : RR → RR → Int} {ok : RR → Prop} (hg : Cmp g z ok) (T0 : Heap) {b : Nat} {L0 : List RR} {c lo hi : Nat} (hown : OwnR T0 b L0) (hok : ∀ r ∈ L0, ok r) (hlo : lo < hi) (hhi : hi ≤ L0.length) (hlen : L0.length ≤ 1000000) :
    ∃ L, Sim Tryz.prog 178 #[.slice (some ⟨b, 0, none⟩) L0.length c, .int .i64 (lo : Nat), .int .i64 (hi : Nat), .func (.func g) #[] #[]] T0 (.tuple #[]) (putR T0 b L) ∧ Within L0 L lo hi ∧ SrtTo (Lq z) L lo hi := by
  suffices hx : ∃ w H', Sim Tryz.prog 178 #[.slice (some ⟨b, 0, none⟩) L0.length c, .int .i64 (lo : Nat), .int .i64 (hi : Nat), .func (.func g) #[] #[]] T0 w H' ∧ w = .tuple #[] ∧ ∃ L, H' = putR T0 b L ∧ Within L0 L lo hi ∧ SrtTo (Lq z) L lo hi by
    obtain ⟨w, H', h1, rfl, L, rfl, h2⟩ := hx
    exact ⟨L, h1, h2⟩
  have hb := hown.lt
  have hself := putR_self hown
  obtain ⟨n, hn⟩ : ∃ n, n = hi - lo := ⟨_, rfl⟩
  have a0 : IntKind.i64.wrap ((hi : Int) - (lo : Int)) = (n : Int) := by rw [w64 (by omega) (by omega)]; omega
  have a1 : IntKind.i64.wrap ((n : Int) - 1) = ((n - 1 : Nat) : Int) := by rw [w64 (by omega) (by omega)]; omega
  have a2 : IntKind.i64.wrap (((n - 1 : Nat) : Int).tdiv 2) = (((n - 1) / 2 + 1 : Nat) : Int) - 1 := by rw [show (2 : Int) = ((2 : Nat) : Int) from rfl, tdiv_nat, w64n (by omega)]; omega
  have a3 : ((n - 1 : Nat) : Int) = ((n : Nat) : Int) - 1 := by omega
  refine sxA tok mixed Tryz.func178 ?_
  simp -implicitDefEqProofs only [go_sem, simprocAttr, a0, a1, a2]
  refine ax_midl (fun s T => s 0 = .slice (some ⟨b, 0, none⟩) L0.length c ∧ s 3 = .func (.func g) #[] #[] ∧ s 8 = .int .i64 (lo : Nat) ∧ s 9 = .int .i64 ((0 : Nat) : Int) ∧ s 10 = .int .i64 (n : Nat) ∧ ∃ L, T = putR T0 b L ∧ Within L0 L lo hi ∧ Hp z L lo 0 n) ?_ ?_
  · refine ax_loopx (fun (q : Nat) s T => s 0 = .slice (some ⟨b, 0, none⟩) L0.length c ∧ s 3 = .func (.func g) #[] #[] ∧ s 8 = .int .i64 (lo : Nat) ∧ s 9 = .int .i64 ((0 : Nat) : Int) ∧ s 10 = .int .i64 (n : Nat) ∧ s 11 = .int .i64 ((q : Int) - 1) ∧ q ≤ n ∧ ∃ L, T = putR T0 b L ∧ Within L0 L lo hi ∧ Hp z L lo q n) (fun q => q) ((n - 1) / 2 + 1) ?_ ?_
    · simp -implicitDefEqProofs only [go_sem, simprocAttr]
      refine ⟨by omega, L0, hself.symm, .refl _ _ _, ?_⟩
      intro i c h1 h2 h3
      omega
    rintro q s T ⟨s0, s3, s8, s9, s10, s11, hq, L, rfl, hw, hh⟩
    cases q with
    | zero =>
      have e : ¬ (0 : Int) ≤ ((0 : Nat) : Int) - 1 := by decide
      simp -implicitDefEqProofs only [go_sem, simprocAttr, wa_cond, axC_t, axC_f, s0, s3, s8, s9, s10, s11, e]
      exact ⟨L, rfl, hw, hh⟩
    | succ i =>
      have e0 : ((i + 1 : Nat) : Int) - 1 = (i : Int) := by omega
      rw [e0] at s11
      have e1 : (0 : Int) ≤ (i : Int) := by omega
      have hLl := hw.len
      obtain ⟨L2, o, hw2, hh2⟩ := siftG hg (putR T0 b L) (c := c) (lo := i) (hi := n) (first := lo) (putR_own T0 L hb) (hw.oks hok) (by omega) (by omega) (by omega) (fun i' c' h1 h2 h3 h4 h5 h6 => hh i' c' (by omega) h3 h4 h5 h6)
      rw [putR_put, hLl] at o
      have m1 : IntKind.i64.wrap ((i : Int) - 1) = (i : Int) - 1 := w64 (by omega) (by omega)
      have hww := hw.trans (hw2.mono (show lo ≤ lo + i by omega) (show lo + n ≤ hi by omega))
      simp -implicitDefEqProofs only [go_sem, simprocAttr, wa_cond, axC_t, axC_f, s0, s3, s8, s9, s10, s11, e1]
      refine kl o ?_
      simp -implicitDefEqProofs only [go_sem, simprocAttr, s0, s3, s8, s9, s10, s11, m1]
      exact ⟨i, ⟨rfl, by omega, L2, rfl, hww, hh2⟩, by omega⟩
  rintro s T ⟨s0, s3, s8, s9, s10, L, rfl, hw, hh⟩
  simp -implicitDefEqProofs only [go_sem, simprocAttr, s10, a1]
  refine ax_loopx (fun (q : Nat) s T => s 0 = .slice (some ⟨b, 0, none⟩) L0.length c ∧ s 3 = .func (.func g) #[] #[] ∧ s 8 = .int .i64 (lo : Nat) ∧ s 9 = .int .i64 ((0 : Nat) : Int) ∧ s 12 = .int .i64 ((q : Int) - 1) ∧ q ≤ n ∧ ∃ L, T = putR T0 b L ∧ Within L0 L lo hi ∧ Hp z L lo 0 q ∧ Outs (Lq z) L lo hi lo (lo + q)) (fun q => q) n ?_ ?_
  · simp -implicitDefEqProofs only [go_sem, simprocAttr, s0, s3, s8, s9, a3]
    refine ⟨L, rfl, hw, hh, ?_⟩
    rw [show lo + n = hi by omega]
    exact .start _ _ _
  clear s0 s3 s8 s9 s10 hw hh
  clear L
  rintro q s T ⟨s0, s3, s8, s9, s12, hq, L, rfl, hw, hh, hout⟩
  cases q with
  | zero =>
    have e : ¬ (0 : Int) ≤ ((0 : Nat) : Int) - 1 := by decide
    simp -implicitDefEqProofs only [go_sem, simprocAttr, wa_cond, axC_t, axC_f, s12, e]
    refine ⟨[], rfl, rfl, L, rfl, hw, ?_⟩
    exact fun p q h0 h1 h2 hp hq => hout p q h0 h1 h2 (by omega) hp hq
  | succ i =>
    have e0 : ((i + 1 : Nat) : Int) - 1 = (i : Int) := by omega
    rw [e0] at s12
    have e1 : (0 : Int) ≤ (i : Int) := by omega
    have hLl := hw.len
    have hoL := hw.oks hok
    have hI : lo < L.length := by omega
    have hJ : lo + i < L.length := by omega
    have hmax := hh.max hg hoL
    have ho := putR_own T0 L hb
    have r1 := (ho.at (c := 0) (.inl rfl)).rdR (j := lo) hI
    have r2 := (ho.at (c := 0) (.inl rfl)).rdR (j := lo + i) hJ
    have hat := sw_at L lo (lo + i) hI hJ
    have hl2 := sw_len L lo (lo + i) hI hJ
    have hw1 := Within.sw L (a := lo) (b := hi) lo (lo + i) hI hJ (by omega) (by omega)
    have hbut : HpBut z (sw L lo (lo + i) hI hJ) lo 0 i 0 := by
      intro i' c' h1 h2 h3 h4 h5 h6
      have g5 : lo + i' < L.length := by rw [hl2] at h5; exact h5
      have g6 : lo + c' < L.length := by rw [hl2] at h6; exact h6
      rw [hat _ g5, hat _ g6, if_neg (by omega), if_neg (by omega), if_neg (by omega), if_neg (by omega)]
      exact hh i' c' (by omega) h3 (by omega) g5 g6
    have hout1 : Outs (Lq z) (sw L lo (lo + i) hI hJ) lo hi lo (lo + i) := by
      intro p q h0 h1 h2 h3 hp hq
      have gp : p < L.length := by rw [hl2] at hp; exact hp
      have gq : q < L.length := by rw [hl2] at hq; exact hq
      rw [hat _ gp, hat _ gq]
      by_cases hqi : q = lo + i
      · rw [if_pos hqi, if_neg (by omega)]
        by_cases hpl : p = lo
        · rw [if_pos hpl]; exact hmax i (by omega) hJ hI
        · rw [if_neg hpl]
          have := hmax (p - lo) (by omega) (by omega) hI
          simp only [show lo + (p - lo) = p by omega] at this
          exact this
      · rw [if_neg hqi, if_neg (show ¬ q = lo by omega)]
        by_cases hpi : p = lo + i
        · rw [if_pos hpi]; exact hout lo q (Nat.le_refl _) (by omega) h2 (by omega) hI gq
        · rw [if_neg hpi]
          by_cases hpl : p = lo
          · rw [if_pos hpl]; exact hout (lo + i) q (by omega) (by omega) h2 (by omega) hJ gq
          · rw [if_neg hpl]; exact hout p q h0 h1 h2 (by omega) gp gq
    obtain ⟨L2, o, hw2, hh2⟩ := siftG hg (putR T0 b (sw L lo (lo + i) hI hJ)) (c := c) (lo := 0) (hi := i) (first := lo) (putR_own T0 _ hb) (hw1.oks hoL) (by rw [hl2]; omega) (by omega) (by rw [hl2]; omega) hbut
    rw [putR_put, hl2, hLl] at o
    have hww := hw.trans (hw1.trans (hw2.mono (show lo ≤ lo + 0 by omega) (show lo + i ≤ hi by omega)))
    have hout2 := hout1.within hw2 (Nat.le_refl _) (by omega) (by omega) (Nat.le_refl _) (by omega) (by rw [hl2]; omega)
    have w1 := ho.wr (j := lo) hI L[lo + i]
    have w2 := (putR_own T0 (L.set lo L[lo + i]) hb).wr (j := lo + i) (by simp; omega) L[lo]
    rw [putR_put] at w1 w2
    have hsw : (L.set lo L[lo + i]).set (lo + i) L[lo] = sw L lo (lo + i) hI hJ := rfl
    rw [hsw] at w2
    have n1 : IntKind.i64.wrap ((lo : Int) + (i : Int)) = ((lo + i : Nat) : Int) := by rw [addc, w64n (by omega)]
    have d2 : (0 : Int) ≤ (lo : Int) := by omega
    have d3 : (lo : Int) < (L0.length : Int) := by omega
    have d4 : (0 : Int) ≤ ((lo + i : Nat) : Int) := by omega
    have d5 : ((lo + i : Nat) : Int) < (L0.length : Int) := by omega
    have m1 : IntKind.i64.wrap ((i : Int) - 1) = (i : Int) - 1 := w64 (by omega) (by omega)
    clear hat hl2 hw1 hw2 hbut hout1 hmax hh hout
    generalize sw L lo (lo + i) hI hJ = L1 at *
    generalize L.set lo L[lo + i] = L1' at *
    generalize L[lo + i] = y at *
    generalize L[lo] = x at *
    unfold RR.cells at r1 r2 w1 w2
    simp only [Nat.zero_add] at r1 r2
    simp -implicitDefEqProofs only [go_sem, simprocAttr, wa_cond, axC_t, axC_f, s12, e1]
    refine ax_loud (by kernel_rfl) ?_
    simp -implicitDefEqProofs only [go_sem, simprocAttr, s0, s3, s8, s9, s12, n1, aIndexAddr, d2, d3, d4, d5, r1, r2, w1, w2]
    refine kl o ?_
    simp -implicitDefEqProofs only [go_sem, simprocAttr, s0, s3, s8, s9, s12, m1]
    exact ⟨i, ⟨rfl, by omega, L2, rfl, hww, hh2, hout2⟩, by omega⟩
end Go.Proofs.YthhmkaikopdmjaaGreat
namespace Go.Proofs.YthhmkaikopdmjaaGreat
open Go Go.Fw
def rnd (T : Heap) (p : Nat) (n : Int) : Heap := T.set p ⟨[.int .u64 n], 1, true⟩
theorem rnd_at {T : Heap} {p : Nat} (h : p < T.length) (n : Int) : (rnd T p n)[p]? = some ⟨[.int .u64 n], 1, true⟩ := by unfold rnd; rw [List.getElem?_set_self h]
theorem rnd_rd {T : Heap} {p : Nat} (h : p < T.length) (n : Int) : rd (rnd T p n) p 0 1 = some [.int .u64 n] := rd_cell (rnd_at h n)
theorem rnd_wr {T : Heap} {p : Nat} (h : p < T.length) (n m : Int) : wr (rnd T p n) p 0 [.int .u64 m] = some (rnd T p m) := by
  have := wr_cell (v := .int .u64 m) (rnd_at h n) rfl
  rw [this]; simp [rnd]
theorem nextS (T : Heap) {p : Nat} (hp : p < T.length) (n : Int) : ∃ r, Sim Tryz.prog 238 #[.pointer (some ⟨p, 0, none⟩)] (rnd T p n) (.int .u64 r) (rnd T p r) := by
  suffices hx : ∃ w H', Sim Tryz.prog 238 #[.pointer (some ⟨p, 0, none⟩)] (rnd T p n) w H' ∧ ∃ r, w = .int .u64 r ∧ H' = rnd T p r by
    obtain ⟨w, H', h1, r, rfl, rfl⟩ := hx
    exact ⟨r, h1⟩
  have hr := rnd_rd hp
  have hw := rnd_wr hp
  refine sxA tok mixed Tryz.func238 ?_
  simp -implicitDefEqProofs only [go_sem, simprocAttr]
  refine ax_loud (by kernel_rfl) ?_
  simp -implicitDefEqProofs only [go_sem, simprocAttr, hr, hw]
  refine ax_loud (by kernel_rfl) ?_
  simp -implicitDefEqProofs only [go_sem, simprocAttr, hr, hw]
  refine ax_loud (by kernel_rfl) ?_
  simp -implicitDefEqProofs only [go_sem, simprocAttr, hr, hw, res238]
  exact ⟨_, rfl, rfl⟩
theorem powS (H : Heap) {x : Nat} (h0 : 0 < x) (hx : x < 256) : ∃ m : Nat, Sim Tryz.prog 237 #[.int .i64 (x : Nat)] H (.int .u64 (m : Nat)) H ∧ x < m ∧ m ≤ 2 * x := by
  have hb := bitLen_bounds h0
  have hl := bitLen_le h0 (show x < 2 ^ 8 by omega)
  have o := len_sim H hx
  refine ⟨2 ^ bitLen x, ?_, hb.2.1, ?_⟩
  · have c1 : IntKind.u64.wrap (x : Int) = (x : Int) := wu64n (by omega)
    have hp : (2 : Nat) ^ bitLen x ≤ 2 ^ 8 := Nat.pow_le_pow_right (by decide) hl
    have c2 : IntKind.u64.wrap (1 * 2 ^ min (bitLen x) 64) = ((2 ^ bitLen x : Nat) : Int) := by
      rw [Nat.min_eq_left (by omega), Int.one_mul, show (2 : Int) = ((2 : Nat) : Int) from rfl, ← Int.natCast_pow, wu64n (by omega)]
    have c3 : ¬ (bitLen x : Int) < 0 := by omega
    refine soA tok mixed Tryz.func237 ?_
    simp -implicitDefEqProofs only [go_sem, simprocAttr, aConv, c1]
    refine kv o ?_
    simp -implicitDefEqProofs only [go_sem, simprocAttr, c2, c3, res237]
  · have := hb.1
    have e : 2 ^ bitLen x = 2 * 2 ^ (bitLen x - 1) := by
      conv => lhs; rw [show bitLen x = (bitLen x - 1) + 1 by omega, Nat.pow_succ]
      omega
    omega
theorem breakG (T0 : Heap) {f : Value} {b : Nat} {L0 : List RR} {c lo hi : Nat} (hown : OwnR T0 b L0) (hlo : lo + 12 < hi) (hhi : hi ≤ L0.length) (hlen : L0.length ≤ 255) :
    ∃ L, Sim Tryz.prog 179 #[.slice (some ⟨b, 0, none⟩) L0.length c, .int .i64 (lo : Nat), .int .i64 (hi : Nat), f] T0 (.tuple #[]) (putR T0 b L) ∧ Within L0 L lo hi := by
  suffices hx : ∃ w H', Sim Tryz.prog 179 #[.slice (some ⟨b, 0, none⟩) L0.length c, .int .i64 (lo : Nat), .int .i64 (hi : Nat), f] T0 w H' ∧ w = .tuple #[] ∧ ∃ L G, H' = putR T0 b L ++ G ∧ Within L0 L lo hi by
    obtain ⟨w, H', h1, rfl, L, G, rfl, h2⟩ := hx
    exact ⟨L, Sim.flat h1 (putR_calm T0 b L) rfl, h2⟩
  have hb := hown.lt
  have hself := putR_self hown
  obtain ⟨l, hl⟩ : ∃ l, l = hi - lo := ⟨_, rfl⟩
  have a0 : IntKind.i64.wrap ((hi : Int) - (lo : Int)) = (l : Int) := by rw [w64 (by omega) (by omega)]; omega
  have c8 : (8 : Int) ≤ (l : Int) := by omega
  have a1 : IntKind.i64.wrap ((l : Int).tdiv 4) = ((l / 4 : Nat) : Int) := by rw [show (4 : Int) = ((4 : Nat) : Int) from rfl, tdiv_nat, w64n (by omega)]
  have a3 : IntKind.i64.wrap (((l / 4 : Nat) : Int) * 2) = ((l / 4 * 2 : Nat) : Int) := by rw [w64 (by omega) (by omega)]; omega
  have a6 : IntKind.i64.wrap ((lo : Int) + ((l / 4 * 2 : Nat) : Int)) = ((lo + l / 4 * 2 : Nat) : Int) := by rw [w64 (by omega) (by omega)]; omega
  have a7 : IntKind.i64.wrap (((lo + l / 4 * 2 : Nat) : Int) - 1) = ((lo + l / 4 * 2 - 1 : Nat) : Int) := by rw [w64 (by omega) (by omega)]; omega
  have a8 : IntKind.i64.wrap (((lo + l / 4 * 2 : Nat) : Int) + 1) = ((lo + l / 4 * 2 + 1 : Nat) : Int) := by rw [w64 (by omega) (by omega)]; omega
  obtain ⟨m, om, hm1, hm2⟩ := powS (T0 ++ [⟨[.int .u64 (IntKind.u64.wrap (l : Int))], 1, true⟩]) (x := l) (by omega) (by omega)
  refine sxA tok mixed Tryz.func179 ?_
  simp -implicitDefEqProofs only [go_sem, simprocAttr, a0, c8]
  refine ax_cond2 ?_
  simp only [ev_tmp, ev_const, ev_func, upd_at, put_some, put_none, bndB_bool, Nat.reduceEqDiff, if_true, if_false, ↓reduceIte, reduceCtorEq]
  refine ⟨fun _ => ?_, fun hc => hc.elim⟩
  simp -implicitDefEqProofs only [go_sem, simprocAttr, a0, c8, aConv]
  refine kl om ?_
  simp -implicitDefEqProofs only [go_sem, simprocAttr, a0, a1, a3, a6, a7]
  have hini : ∃ n, T0 ++ [(⟨[.int .u64 (IntKind.u64.wrap (l : Int))], 1, true⟩ : Blk)] = rnd (putR (T0 ++ [(⟨[.int .u64 (IntKind.u64.wrap (l : Int))], 1, true⟩ : Blk)]) b L0) T0.length n := by
    refine ⟨IntKind.u64.wrap (l : Int), ?_⟩
    rw [putR_self (Own.app hown _)]
    unfold rnd
    rw [List.set_append_right _ _ (Nat.le_refl _)]
    simp
  have hfin : ∀ L n, ∃ G, rnd (putR (T0 ++ [(⟨[.int .u64 (IntKind.u64.wrap (l : Int))], 1, true⟩ : Blk)]) b L) T0.length n = putR T0 b L ++ G := by
    intro L n
    unfold rnd putR
    rw [List.set_append_left _ _ hb, List.set_append_right _ _ (by simp)]
    exact ⟨_, rfl⟩
  have hb1 : b < (T0 ++ [(⟨[.int .u64 (IntKind.u64.wrap (l : Int))], 1, true⟩ : Blk)]).length := by simp; omega
  have hp1 : T0.length < (T0 ++ [(⟨[.int .u64 (IntKind.u64.wrap (l : Int))], 1, true⟩ : Blk)]).length := by simp
  clear om
  generalize T0 ++ [(⟨[.int .u64 (IntKind.u64.wrap (l : Int))], 1, true⟩ : Blk)] = T1 at *
  obtain ⟨p, hp⟩ : ∃ p, p = T0.length := ⟨_, rfl⟩
  rw [← hp] at hini hfin hp1 ⊢
  have hbp : b ≠ p := by omega
  have hcomm : ∀ n L, putR (rnd T1 p n) b L = rnd (putR T1 b L) p n := by
    intro n L
    unfold rnd putR
    exact List.set_comm _ _ (Ne.symm hbp)
  obtain ⟨n0, hini⟩ := hini
  refine ax_loopx (fun (i : Nat) s T => s 0 = .slice (some ⟨b, 0, none⟩) L0.length c ∧ s 1 = .int .i64 (lo : Nat) ∧ s 8 = .int .i64 (l : Nat) ∧ s 9 = .pointer (some ⟨p, 0, none⟩) ∧ s 10 = .int .u64 (m : Nat) ∧ s 11 = .int .i64 (i : Nat) ∧ lo ≤ i ∧ i ≤ lo + l / 4 * 2 + 2 ∧
    ∃ L n, T = rnd (putR T1 b L) p n ∧ Within L0 L lo hi) (fun i => lo + l / 4 * 2 + 3 - i) (lo + l / 4 * 2 - 1) ?_ ?_
  · simp -implicitDefEqProofs only [go_sem, simprocAttr]
    exact ⟨by omega, by omega, L0, n0, hini, .refl _ _ _⟩
  rintro i s T ⟨s0, s1, s8, s9, s10, s11, hi1, hi2, L, n, rfl, hw⟩
  by_cases hend : i ≤ lo + l / 4 * 2 + 1
  · have g1 : (i : Int) ≤ ((lo + l / 4 * 2 + 1 : Nat) : Int) := by omega
    have hLl := hw.len
    have hp2 : p < (putR T1 b L).length := by rw [putR_len]; omega
    obtain ⟨r, o⟩ := nextS (putR T1 b L) hp2 n
    have m1 : IntKind.u64.wrap ((m : Int) - 1) = ((m - 1 : Nat) : Int) := by rw [wu64 (by omega) (by omega)]; omega
    obtain ⟨q, hq, hqm⟩ := andI_le (x := r) (m := m - 1) (by omega)
    have m2 : IntKind.i64.wrap (q : Int) = (q : Int) := w64n (by omega)
    have m3 : IntKind.i64.wrap ((i : Int) + 1) = ((i + 1 : Nat) : Int) := by rw [w64 (by omega) (by omega)]; rfl
    simp -implicitDefEqProofs only [go_sem, simprocAttr, wa_cond, axC_t, axC_f, s0, s1, s8, s9, s10, s11, a1, a3, a6, a8, g1]
    refine wl_callF _ (by simp -implicitDefEqProofs only [go_sem, simprocAttr, s9]) o (fun h => by cases h) ?_
    simp -implicitDefEqProofs only [go_sem, simprocAttr, s0, s1, s8, s9, s10, s11, m1, hq, aConv, m2]
    apply shareK (M := fun s T => s 0 = .slice (some ⟨b, 0, none⟩) L0.length c ∧ s 1 = .int .i64 (lo : Nat) ∧ s 8 = .int .i64 (l : Nat) ∧ s 9 = .pointer (some ⟨p, 0, none⟩) ∧ s 10 = .int .u64 (m : Nat) ∧ s 11 = .int .i64 (i : Nat) ∧ T = rnd (putR T1 b L) p r ∧ ∃ k : Nat, s 12 = .int .i64 (k : Nat) ∧ k < l)
    · intro hrest
      by_cases hql : l ≤ q
      · have g2 : (l : Int) ≤ (q : Int) := by omega
        have m4 : IntKind.i64.wrap ((q : Int) - (l : Int)) = ((q - l : Nat) : Int) := by rw [w64 (by omega) (by omega)]; omega
        simp -implicitDefEqProofs only [go_sem, simprocAttr, g2]
        refine ax_mid _ ?_ hrest
        simp -implicitDefEqProofs only [go_sem, simprocAttr, wa_cond, axC_t, axC_f, s0, s1, s8, s9, s10, s11, m4]
        exact ⟨q - l, rfl, by omega⟩
      · have g2 : ¬ (l : Int) ≤ (q : Int) := by omega
        simp -implicitDefEqProofs only [go_sem, simprocAttr, g2]
        refine ax_mid _ ?_ hrest
        simp -implicitDefEqProofs only [go_sem, simprocAttr, wa_cond, axC_t, axC_f, s0, s1, s8, s9, s10, s11]
        exact ⟨q, rfl, by omega⟩
    clear s0 s1 s8 s9 s10 s11 o
    rintro s T ⟨s0, s1, s8, s9, s10, s11, rfl, k, s12, hk⟩
    have hI : i < L.length := by omega
    have hJ : lo + k < L.length := by omega
    obtain ⟨x, y, L1, L2, hx, hy, hL2, r1, r2, w1, w2⟩ := swF (rnd T1 p r) (b := b) (i := i) (j := lo + k) (L := L) (by simp [rnd]; omega) hI hJ
    simp only [hcomm] at r1 r2 w1 w2
    have hww := hw.trans (.sw L i (lo + k) hI hJ (by omega) (by omega))
    rw [← hL2] at hww
    have m5 : IntKind.i64.wrap ((lo : Int) + (k : Int)) = ((lo + k : Nat) : Int) := by rw [w64 (by omega) (by omega)]; omega
    have d2 : (0 : Int) ≤ (i : Int) := by omega
    have d3 : (i : Int) < (L0.length : Int) := by omega
    have d4 : (0 : Int) ≤ ((lo + k : Nat) : Int) := by omega
    have d5 : ((lo + k : Nat) : Int) < (L0.length : Int) := by omega
    refine ax_loud (by kernel_rfl) ?_
    simp -implicitDefEqProofs only [go_sem, simprocAttr, s0, s1, s8, s9, s10, s11, s12, m5, aIndexAddr, d2, d3, d4, d5, r1, r2, w1, w2, m3]
    exact ⟨i + 1, ⟨rfl, by omega, by omega, L2, r, rfl, hww⟩, by omega⟩
  · have g1 : ¬ (i : Int) ≤ ((lo + l / 4 * 2 + 1 : Nat) : Int) := by omega
    simp -implicitDefEqProofs only [go_sem, simprocAttr, wa_cond, axC_t, axC_f, s0, s1, s8, s9, s10, s11, a1, a3, a6, a8, g1]
    obtain ⟨G, hG⟩ := hfin L n
    exact ⟨[], rfl, rfl, L, G, hG, hw⟩
end Go.Proofs.YthhmkaikopdmjaaGreat
namespace Go.Proofs.YthhmkaikopdmjaaGreat
open Go Go.Fw
theorem Srt.more {g : FuncId} {z : RR → RR → Int} {ok : RR → Prop} (hg : Cmp g z ok) {L : List RR} {lo i : Nat} (hok : ∀ r ∈ L, ok r) (h : SrtTo (Lq z) L lo i) (hi : lo < i) (hl : i < L.length) (hle : Lq z (L[i - 1]'(by omega)) L[i]) : SrtTo (Lq z) L lo (i + 1) := by
  intro p q h0 h1 h2 hp hq
  by_cases hqi : q = i
  · subst hqi
    by_cases hp1 : p = q - 1
    · subst hp1; exact hle
    · exact hg.tr _ _ _ (hok _ (List.getElem_mem hp)) (hok _ (List.getElem_mem (by omega))) (hok _ (List.getElem_mem hq)) (h p (q - 1) h0 (by omega) (by omega) hp (by omega)) hle
  · exact h p q h0 h1 (by omega) hp hq
theorem Srt.keep {z : RR → RR → Int} {L0 L : List RR} {lo i a b : Nat} (h : SrtTo (Lq z) L0 lo i) (hw : Within L0 L a b) (ha : i ≤ a) : SrtTo (Lq z) L lo i := by
  intro p q h0 h1 h2 hp hq
  rw [hw.at hp (.inl (by omega)), hw.at hq (.inl (by omega))]
  exact h p q h0 h1 h2 _ _
theorem partialG {g : FuncId} {z : RR → RR → Int} {ok : RR → Prop} (hg : Cmp g z ok) (T0 : Heap) {b : Nat} {L0 : List RR} {c lo hi : Nat} (hown : OwnR T0 b L0) (hok : ∀ r ∈ L0, ok r) (hlo : lo + 12 < hi) (hhi : hi ≤ L0.length) (hlen : L0.length ≤ 1000000) (hlb : Lb (Lq z) L0 lo hi) :
    ∃ L t, Sim Tryz.prog 182 #[.slice (some ⟨b, 0, none⟩) L0.length c, .int .i64 (lo : Nat), .int .i64 (hi : Nat), .func (.func g) #[] #[]] T0 (.bool t) (putR T0 b L) ∧ Within L0 L lo hi ∧ (t = true → SrtTo (Lq z) L lo hi) := by
  suffices hx : ∃ w H', Sim Tryz.prog 182 #[.slice (some ⟨b, 0, none⟩) L0.length c, .int .i64 (lo : Nat), .int .i64 (hi : Nat), .func (.func g) #[] #[]] T0 w H' ∧ ∃ t, w = .bool t ∧ ∃ L, H' = putR T0 b L ∧ Within L0 L lo hi ∧ (t = true → SrtTo (Lq z) L lo hi) by
    obtain ⟨w, H', h1, t, rfl, L, rfl, h2⟩ := hx
    exact ⟨L, t, h1, h2⟩
  have hb := hown.lt
  have a1 : IntKind.i64.wrap ((lo : Int) + 1) = ((lo + 1 : Nat) : Int) := by rw [w64 (by omega) (by omega)]; rfl
  have a0 : IntKind.i64.wrap ((hi : Int) - (lo : Int)) = ((hi - lo : Nat) : Int) := by rw [w64 (by omega) (by omega)]; omega
  have hself := putR_self hown
  refine sxA tok mixed Tryz.func182 ?_
  simp -implicitDefEqProofs only [go_sem, simprocAttr, a1]
  refine ax_midl (fun s T => True ∧ ∃ L, T = putR T0 b L ∧ Within L0 L lo hi) ?_ ?_
  · refine ax_loopx (fun (k : Nat) s T => s 0 = .slice (some ⟨b, 0, none⟩) L0.length c ∧ s 1 = .int .i64 (lo : Nat) ∧ s 2 = .int .i64 (hi : Nat) ∧ s 3 = .func (.func g) #[] #[] ∧ s 10 = .int .i64 (k : Nat) ∧ k ≤ 5 ∧ ∃ i L, s 9 = .int .i64 (i : Nat) ∧ lo < i ∧ i ≤ hi ∧ T = putR T0 b L ∧ Within L0 L lo hi ∧ SrtTo (Lq z) L lo i) (fun k => 5 - k) 0 ?_ ?_
    · simp -implicitDefEqProofs only [go_sem, simprocAttr]
      exact ⟨lo + 1, L0, rfl, by omega, by omega, hself.symm, .refl _ _ _, .one _ (by omega)⟩
    rintro k s T ⟨s0, s1, s2, s3, s10, hk, i0, L, s9, hi1, hi2, rfl, hw, hs⟩
    by_cases hk5 : k = 5
    · subst hk5
      have g1 : ¬ (((5 : Nat) : Int) < 5) := by decide
      simp -implicitDefEqProofs only [go_sem, simprocAttr, wa_cond, axC_t, axC_f, s0, s1, s2, s3, s9, s10, g1]
      exact ⟨L, rfl, hw⟩
    have g1 : (k : Int) < 5 := by omega
    simp -implicitDefEqProofs only [go_sem, simprocAttr, wa_cond, axC_t, axC_f, s0, s1, s2, s3, s9, s10, g1]
    refine ax_midl (fun s T => s 0 = .slice (some ⟨b, 0, none⟩) L0.length c ∧ s 1 = .int .i64 (lo : Nat) ∧ s 2 = .int .i64 (hi : Nat) ∧ s 3 = .func (.func g) #[] #[] ∧ s 10 = .int .i64 (k : Nat) ∧ T = putR T0 b L ∧ ∃ i : Nat, s 9 = .int .i64 (i : Nat) ∧ lo < i ∧ i ≤ hi ∧ SrtTo (Lq z) L lo i) ?_ ?_
    · refine ax_loopx (fun (i : Nat) s T => s 0 = .slice (some ⟨b, 0, none⟩) L0.length c ∧ s 1 = .int .i64 (lo : Nat) ∧ s 2 = .int .i64 (hi : Nat) ∧ s 3 = .func (.func g) #[] #[] ∧ s 10 = .int .i64 (k : Nat) ∧ s 9 = .int .i64 (i : Nat) ∧ lo < i ∧ i ≤ hi ∧ T = putR T0 b L ∧ SrtTo (Lq z) L lo i) (fun i => hi - i) i0 ?_ ?_
      · simp -implicitDefEqProofs only [go_sem, simprocAttr, s0, s1, s2, s3, s9, s10]
        exact ⟨hi1, hi2, hs⟩
      clear s0 s1 s2 s3 s9 s10 hs hi1 hi2
      rintro i s T ⟨s0, s1, s2, s3, s10, s9, hi1, hi2, rfl, hs⟩
      have hLl := hw.len
      have hoL := hw.oks hok
      simp -implicitDefEqProofs only [go_sem, simprocAttr]
      refine ax_quiet (by kernel_rfl) ?_
      by_cases hih : i < hi
      · have hI : i < L.length := by omega
        have hJ : i - 1 < L.length := by omega
        obtain ⟨x, hx, r1⟩ := rdF T0 hb hI
        obtain ⟨y, hy, r2⟩ := rdF T0 hb hJ
        have hcm := fun H => hg.call x y (hx ▸ hoL _ (List.getElem_mem hI)) (hy ▸ hoL _ (List.getElem_mem hJ)) H
        unfold RR.val rV at hcm
        have g1 : (i : Int) < (hi : Int) := by omega
        have m1 : IntKind.i64.wrap ((i : Int) - 1) = ((i - 1 : Nat) : Int) := by rw [w64 (by omega) (by omega)]; omega
        have m2 : IntKind.i64.wrap ((i : Int) + 1) = ((i + 1 : Nat) : Int) := by rw [w64 (by omega) (by omega)]; rfl
        have d2 : (0 : Int) ≤ (i : Int) := by omega
        have d3 : (i : Int) < (L0.length : Int) := by omega
        have d4 : (0 : Int) ≤ ((i - 1 : Nat) : Int) := by omega
        have d5 : ((i - 1 : Nat) : Int) < (L0.length : Int) := by omega
        simp -implicitDefEqProofs only [go_sem, simprocAttr, s0, s1, s2, s3, s9, aIndexAddr, g1, d2, d3, d4, d5, m1, r1, r2]
        refine wl_callO _ (by simp -implicitDefEqProofs only [go_sem, simprocAttr, s3]) _ (by simp -implicitDefEqProofs only [go_sem, simprocAttr]) (hcm _) ?_
        by_cases hc : z x y < 0
        · simp -implicitDefEqProofs only [go_sem, simprocAttr, wa_cond, axC_t, axC_f, hc, s0, s1, s2, s3, s9, s10]
          exact ⟨i, rfl, hi1, hi2, hs⟩
        · simp -implicitDefEqProofs only [go_sem, simprocAttr, wa_cond, axC_t, axC_f, hc, s0, s1, s2, s3, s9, s10, m2]
          exact ⟨i + 1, ⟨rfl, by omega, by omega, Srt.more hg hoL hs hi1 hI (by unfold Lq; rw [← hx, ← hy]; exact hc)⟩, by omega⟩
      · have g1 : ¬ (i : Int) < (hi : Int) := by omega
        simp -implicitDefEqProofs only [go_sem, simprocAttr, wa_cond, axC_t, axC_f, s0, s1, s2, s3, s9, s10, g1]
        exact ⟨i, rfl, hi1, hi2, hs⟩
    clear s0 s1 s2 s3 s9 s10 hs hi1 hi2
    rintro s T ⟨s0, s1, s2, s3, s10, rfl, i, s9, hi1, hi2, hs⟩
    have hLl := hw.len
    have hoL := hw.oks hok
    by_cases hih : i = hi
    · subst hih
      simp -implicitDefEqProofs only [go_sem, simprocAttr, wa_cond, axC_t, axC_f, s0, s1, s2, s3, s9, s10, res182]
      exact ⟨true, rfl, L, rfl, hw, fun _ => hs⟩
    have g2 : ¬ (i : Int) = (hi : Int) := by omega
    by_cases h50 : hi - lo < 50
    · have g3 : ((hi - lo : Nat) : Int) < 50 := by omega
      simp -implicitDefEqProofs only [go_sem, simprocAttr, wa_cond, axC_t, axC_f, s0, s1, s2, s3, s9, s10, g2, a0, g3, res182]
      exact ⟨false, rfl, L, rfl, hw, fun h => by cases h⟩
    have g3 : ¬ ((hi - lo : Nat) : Int) < 50 := by omega
    have hI : i < L.length := by omega
    have hJ : i - 1 < L.length := by omega
    obtain ⟨x, y, L1, L2, hx, hy, hL2, r1, r2, w1, w2⟩ := swF T0 hb hI hJ
    have m1 : IntKind.i64.wrap ((i : Int) - 1) = ((i - 1 : Nat) : Int) := by rw [w64 (by omega) (by omega)]; omega
    have m2 : IntKind.i64.wrap ((i : Int) + 1) = ((i + 1 : Nat) : Int) := by rw [w64 (by omega) (by omega)]; rfl
    have m3 : IntKind.i64.wrap ((i : Int) - (lo : Int)) = ((i - lo : Nat) : Int) := by rw [w64 (by omega) (by omega)]; omega
    have m4 : IntKind.i64.wrap ((hi : Int) - (i : Int)) = ((hi - i : Nat) : Int) := by rw [w64 (by omega) (by omega)]; omega
    have m5 : IntKind.i64.wrap ((k : Int) + 1) = ((k + 1 : Nat) : Int) := by rw [w64 (by omega) (by omega)]; rfl
    have d2 : (0 : Int) ≤ (i : Int) := by omega
    have d3 : (i : Int) < (L0.length : Int) := by omega
    have d4 : (0 : Int) ≤ ((i - 1 : Nat) : Int) := by omega
    have d5 : ((i - 1 : Nat) : Int) < (L0.length : Int) := by omega
    have hw2 : Within L L2 (i - 1) hi := by rw [hL2]; exact .sw L i (i - 1) hI hJ (by omega) (by omega)
    have hs2 : SrtTo (Lq z) L2 lo (i - 1) := Srt.keep (fun p q h0 h1 h2 => hs p q h0 h1 (by omega)) hw2 (Nat.le_refl _)
    have hww2 := hw.trans (hw2.mono (show lo ≤ i - 1 by omega) (Nat.le_refl _))
    simp -implicitDefEqProofs only [go_sem, simprocAttr, wa_cond, axC_t, axC_f, s0, s1, s2, s3, s9, s10, g2, a0, g3]
    refine ax_loud (by kernel_rfl) ?_
    simp -implicitDefEqProofs only [go_sem, simprocAttr, s0, s1, s2, s3, s9, s10, m1, aIndexAddr, d2, d3, d4, d5, r1, r2, w1, w2, m3]
    apply shareK (M := fun s T => s 0 = .slice (some ⟨b, 0, none⟩) L0.length c ∧ s 1 = .int .i64 (lo : Nat) ∧ s 2 = .int .i64 (hi : Nat) ∧ s 3 = .func (.func g) #[] #[] ∧ s 10 = .int .i64 (k : Nat) ∧ s 9 = .int .i64 (i : Nat) ∧ ∃ L, T = putR T0 b L ∧ Within L0 L lo hi ∧ SrtTo (Lq z) L lo i)
    · intro hrest
      by_cases h2 : 2 ≤ i - lo
      · have g4 : (2 : Int) ≤ ((i - lo : Nat) : Int) := by omega
        simp -implicitDefEqProofs only [go_sem, simprocAttr, g4]
        refine ax_mid _ ?_ hrest
        simp -implicitDefEqProofs only [go_sem, simprocAttr, wa_cond, axC_t, axC_f, s0, s1, s2, s3, s9, s10, m1]
        refine ax_loopx (fun (j : Nat) s T => s 0 = .slice (some ⟨b, 0, none⟩) L0.length c ∧ s 1 = .int .i64 (lo : Nat) ∧ s 2 = .int .i64 (hi : Nat) ∧ s 3 = .func (.func g) #[] #[] ∧ s 10 = .int .i64 (k : Nat) ∧ s 9 = .int .i64 (i : Nat) ∧ s 11 = .int .i64 (j : Nat) ∧ lo ≤ j ∧ j ≤ i - 1 ∧ ∃ L, T = putR T0 b L ∧ Within L0 L lo hi ∧ InsI (Lq z) L lo (i - 1) j) (fun j => j) (i - 1) ?_ ?_
        · simp -implicitDefEqProofs only [go_sem, simprocAttr, s0, s1, s2, s3, s9, s10]
          exact ⟨by omega, L2, rfl, hww2, hs2.ins⟩
        clear s0 s1 s2 s3 s9 s10 hs2 hww2 hw2 hL2 w1 w2 r1 r2 hs hw hrest
        clear L1 L2
        rintro j s T ⟨s0, s1, s2, s3, s10, s9, s11, hj1, hj2, L, rfl, hw, hs⟩
        have hLl := hw.len
        have hoL := hw.oks hok
        have fin0 : ∀ hj : j = lo, SrtTo (Lq z) L lo i := fun hj => by
          have := (hj ▸ hs).zero
          rw [show i - 1 + 1 = i by omega] at this
          exact this
        by_cases hj0 : j = 0
        · subst hj0
          have g5 : ¬ (1 : Int) ≤ ((0 : Nat) : Int) := by decide
          simp -implicitDefEqProofs only [go_sem, simprocAttr, wa_cond, axC_t, axC_f, s0, s1, s2, s3, s9, s10, s11, g5]
          exact ⟨L, rfl, hw, fin0 (by omega)⟩
        obtain ⟨j, rfl⟩ : ∃ j', j = j' + 1 := ⟨j - 1, by omega⟩
        have g5 : (1 : Int) ≤ ((j + 1 : Nat) : Int) := by omega
        have hI : j + 1 < L.length := by omega
        have hJ : j < L.length := by omega
        obtain ⟨x, y, L1, L2, hx, hy, hL2, r1, r2, w1, w2⟩ := swF T0 hb hI hJ
        have hcm := fun H => hg.call x y (hx ▸ hoL _ (List.getElem_mem hI)) (hy ▸ hoL _ (List.getElem_mem hJ)) H
        unfold RR.val rV at hcm
        have m1 : IntKind.i64.wrap (((j + 1 : Nat) : Int) - 1) = (j : Int) := by rw [w64 (by omega) (by omega)]; omega
        have d2 : (0 : Int) ≤ ((j + 1 : Nat) : Int) := by omega
        have d3 : ((j + 1 : Nat) : Int) < (L0.length : Int) := by omega
        have d4 : (0 : Int) ≤ (j : Int) := by omega
        have d5 : (j : Int) < (L0.length : Int) := by omega
        simp -implicitDefEqProofs only [go_sem, simprocAttr, wa_cond, axC_t, axC_f, s0, s1, s2, s3, s9, s10, s11, g5]
        refine ax_quiet (by kernel_rfl) ?_
        simp -implicitDefEqProofs only [go_sem, simprocAttr, s0, s1, s2, s3, s9, s10, s11, aIndexAddr, m1, d2, d3, d4, d5, r1, r2]
        refine wl_callO _ (by simp -implicitDefEqProofs only [go_sem, simprocAttr, s3]) _ (by simp -implicitDefEqProofs only [go_sem, simprocAttr]) (hcm _) ?_
        by_cases hc : z x y < 0
        · have hjl : lo ≤ j := by
            by_cases e : j + 1 = lo
            · refine absurd hc ?_
              have := (hlb.within hw (Nat.le_refl _) (Nat.le_refl _) (by omega) (by omega)) j (j + 1) (by omega) (by omega) (by omega) hJ hI
              unfold Lq at this
              rw [← hx, ← hy] at this
              exact this
            · omega
          have hst := hs.step hjl hI (by omega) (by unfold Lq; rw [← hx, ← hy]; exact hg.asy _ _ (hx ▸ hoL _ (List.getElem_mem hI)) (hy ▸ hoL _ (List.getElem_mem hJ)) hc)
          have hww := hw.trans (.swp L j hI hjl (by omega))
          have e2 : swp L j hI = L2 := hL2.symm
          rw [e2] at hst hww
          simp -implicitDefEqProofs only [go_sem, simprocAttr, wa_cond, axC_t, axC_f, hc, s0, s1, s2, s3, s9, s10, s11]
          refine ax_loud (by kernel_rfl) ?_
          simp -implicitDefEqProofs only [go_sem, simprocAttr, s0, s1, s2, s3, s9, s10, s11, aIndexAddr, m1, d2, d3, d4, d5, r1, r2, w1, w2]
          exact ⟨j, ⟨rfl, hjl, by omega, L2, rfl, hww, hst⟩, by omega⟩
        · have hfin : SrtTo (Lq z) L lo i := by
            by_cases e : j + 1 = lo
            · exact fin0 e
            · have := InsI.stop2 hg.tr hoL hs (by omega) hj2 hI (by simp only [Nat.add_sub_cancel]; rw [← hx, ← hy]; exact hc)
              rw [show i - 1 + 1 = i by omega] at this
              exact this
          simp -implicitDefEqProofs only [go_sem, simprocAttr, wa_cond, axC_t, axC_f, hc, s0, s1, s2, s3, s9, s10, s11]
          exact ⟨L, rfl, hw, hfin⟩
      · have g4 : ¬ (2 : Int) ≤ ((i - lo : Nat) : Int) := by omega
        simp -implicitDefEqProofs only [go_sem, simprocAttr, g4]
        refine ax_mid _ ?_ hrest
        simp -implicitDefEqProofs only [go_sem, simprocAttr, wa_cond, axC_t, axC_f, s0, s1, s2, s3, s9, s10]
        exact ⟨L2, rfl, hww2, .one _ (by omega)⟩
    clear s0 s1 s2 s3 s9 s10 hs2 hww2 hw2 hL2 w1 w2 r1 r2 hs hw hx hy hoL hLl hI hJ
    clear L1 L2 x y L
    rintro s T ⟨s0, s1, s2, s3, s10, s9, L, rfl, hw, hs⟩
    have hLl := hw.len
    have hoL := hw.oks hok
    simp -implicitDefEqProofs only [go_sem, simprocAttr, s0, s1, s2, s3, s9, s10, m4]
    apply shareK (M := fun s T => s 0 = .slice (some ⟨b, 0, none⟩) L0.length c ∧ s 1 = .int .i64 (lo : Nat) ∧ s 2 = .int .i64 (hi : Nat) ∧ s 3 = .func (.func g) #[] #[] ∧ s 10 = .int .i64 (k : Nat) ∧ s 9 = .int .i64 (i : Nat) ∧ ∃ L, T = putR T0 b L ∧ Within L0 L lo hi ∧ SrtTo (Lq z) L lo i)
    · intro hrest
      by_cases h2 : 2 ≤ hi - i
      · have g4 : (2 : Int) ≤ ((hi - i : Nat) : Int) := by omega
        simp -implicitDefEqProofs only [go_sem, simprocAttr, g4]
        refine ax_midb _ ?_ hrest
        simp -implicitDefEqProofs only [go_sem, simprocAttr, wa_cond, axC_t, axC_f, s0, s1, s2, s3, s9, s10, m2]
        refine ax_loopx (fun (j : Nat) s T => s 0 = .slice (some ⟨b, 0, none⟩) L0.length c ∧ s 1 = .int .i64 (lo : Nat) ∧ s 2 = .int .i64 (hi : Nat) ∧ s 3 = .func (.func g) #[] #[] ∧ s 10 = .int .i64 (k : Nat) ∧ s 9 = .int .i64 (i : Nat) ∧ s 12 = .int .i64 (j : Nat) ∧ i < j ∧ ∃ L', T = putR T0 b L' ∧ Within L L' i hi) (fun j => hi - j) (i + 1) ?_ ?_
        · simp -implicitDefEqProofs only [go_sem, simprocAttr, s0, s1, s2, s3, s9, s10]
          exact ⟨by omega, L, rfl, .refl _ _ _⟩
        clear s0 s1 s2 s3 s9 s10 hrest
        rintro j s T ⟨s0, s1, s2, s3, s10, s9, s12, hj1, L', rfl, hw'⟩
        have hfin : ∃ L'', putR T0 b L' = putR T0 b L'' ∧ Within L0 L'' lo hi ∧ SrtTo (Lq z) L'' lo i :=
          ⟨L', rfl, hw.trans (hw'.mono (by omega) (Nat.le_refl _)), Srt.keep hs hw' (Nat.le_refl _)⟩
        have hLl' := hw'.len
        have hoL' := hw'.oks hoL
        by_cases hjh : j < hi
        · have g5 : (j : Int) < (hi : Int) := by omega
          have hI : j < L'.length := by omega
          have hJ : j - 1 < L'.length := by omega
          obtain ⟨x, y, L1, L2, hx, hy, hL2, r1, r2, w1, w2⟩ := swF T0 hb hI hJ
          have hcm := fun H => hg.call x y (hx ▸ hoL' _ (List.getElem_mem hI)) (hy ▸ hoL' _ (List.getElem_mem hJ)) H
          unfold RR.val rV at hcm
          have hww : Within L L2 i hi := by rw [hL2]; exact hw'.trans (.sw L' j (j - 1) hI hJ (by omega) (by omega))
          have m1 : IntKind.i64.wrap ((j : Int) - 1) = ((j - 1 : Nat) : Int) := by rw [w64 (by omega) (by omega)]; omega
          have m2 : IntKind.i64.wrap ((j : Int) + 1) = ((j + 1 : Nat) : Int) := by rw [w64 (by omega) (by omega)]; rfl
          have d2 : (0 : Int) ≤ (j : Int) := by omega
          have d3 : (j : Int) < (L0.length : Int) := by omega
          have d4 : (0 : Int) ≤ ((j - 1 : Nat) : Int) := by omega
          have d5 : ((j - 1 : Nat) : Int) < (L0.length : Int) := by omega
          simp -implicitDefEqProofs only [go_sem, simprocAttr, wa_cond, axC_t, axC_f, s0, s1, s2, s3, s9, s10, s12, g5]
          refine ax_quiet (by kernel_rfl) ?_
          simp -implicitDefEqProofs only [go_sem, simprocAttr, s0, s1, s2, s3, s9, s10, s12, aIndexAddr, m1, d2, d3, d4, d5, r1, r2]
          refine wl_callO _ (by simp -implicitDefEqProofs only [go_sem, simprocAttr, s3]) _ (by simp -implicitDefEqProofs only [go_sem, simprocAttr]) (hcm _) ?_
          by_cases hc : z x y < 0
          · simp -implicitDefEqProofs only [go_sem, simprocAttr, wa_cond, axC_t, axC_f, hc, s0, s1, s2, s3, s9, s10, s12]
            refine ax_loud (by kernel_rfl) ?_
            simp -implicitDefEqProofs only [go_sem, simprocAttr, s0, s1, s2, s3, s9, s10, s12, aIndexAddr, m1, m2, d2, d3, d4, d5, r1, r2, w1, w2]
            exact ⟨j + 1, ⟨rfl, by omega, L2, rfl, hww⟩, by omega⟩
          · simp -implicitDefEqProofs only [go_sem, simprocAttr, wa_cond, axC_t, axC_f, hc, s0, s1, s2, s3, s9, s10, s12]
            exact hfin
        · have g5 : ¬ (j : Int) < (hi : Int) := by omega
          simp -implicitDefEqProofs only [go_sem, simprocAttr, wa_cond, axC_t, axC_f, s0, s1, s2, s3, s9, s10, s12, g5]
          exact hfin
      · have g4 : ¬ (2 : Int) ≤ ((hi - i : Nat) : Int) := by omega
        simp -implicitDefEqProofs only [go_sem, simprocAttr, g4]
        refine ax_midb _ ?_ hrest
        simp -implicitDefEqProofs only [go_sem, simprocAttr, wa_cond, axC_t, axC_f, s0, s1, s2, s3, s9, s10]
        exact ⟨L, rfl, hw, hs⟩
    clear s0 s1 s2 s3 s9 s10
    rintro s T ⟨s0, s1, s2, s3, s10, s9, L, rfl, hw, hs⟩
    simp -implicitDefEqProofs only [go_sem, simprocAttr, s0, s1, s2, s3, s9, s10, m5]
    exact ⟨k + 1, ⟨rfl, by omega, i, L, rfl, hi1, hi2, rfl, hw, hs⟩, by omega⟩
  rintro s T ⟨_, L, rfl, hw⟩
  simp -implicitDefEqProofs only [go_sem, simprocAttr, res182]
  exact ⟨false, rfl, L, rfl, hw, fun h => by cases h⟩
end Go.Proofs.YthhmkaikopdmjaaGreat
namespace Go.Proofs.YthhmkaikopdmjaaGreat
open Go Go.Fw
structure Part (A : RR → Prop) (L1 L : List RR) (lo hi i j : Nat) : Prop where
  within : Within L1 L (lo + 1) hi
  i1 : lo < i
  i2 : i ≤ hi
  hj : j < hi
  j1 : lo ≤ j
  ij : i ≤ j + 2
  front : ∀ p, lo < p → p < i → ∀ h : p < L.length, A L[p]
  back : ∀ p, j < p → p < hi → ∀ h : p < L.length, ¬ A L[p]
theorem Part.pv {A : RR → Prop} {L1 L : List RR} {lo hi i j : Nat} (h : Part A L1 L lo hi i j) (hY : lo < L.length) : L[lo] = L1[lo]'(by have := h.within.len; omega) := h.within.at hY (.inl (by omega))
theorem Part.start (A : RR → Prop) (L : List RR) {lo hi : Nat} (h : lo + 1 < hi) : Part A L L lo hi (lo + 1) (hi - 1) := ⟨.refl _ _ _, by omega, by omega, by omega, by omega, by omega, fun p _ _ => by omega, fun p _ _ => by omega⟩
theorem Part.up {A : RR → Prop} {L1 L : List RR} {lo hi i j : Nat} (h : Part A L1 L lo hi i j) (hij : i ≤ j) (hI : i < L.length) (ha : A L[i]) : Part A L1 L lo hi (i + 1) j := by
  have := h.hj
  refine ⟨h.within, by have := h.i1; omega, by omega, h.hj, h.j1, by omega, fun p h1 h2 hp => ?_, h.back⟩
  by_cases e : p = i
  · subst e; exact ha
  · exact h.front p h1 (by omega) hp
theorem Part.down {A : RR → Prop} {L1 L : List RR} {lo hi i j : Nat} (h : Part A L1 L lo hi i j) (hij : i ≤ j) (hj : j < L.length) (ha : ¬ A L[j]) : Part A L1 L lo hi i (j - 1) := by
  have := h.hj
  have := h.i1
  refine ⟨h.within, h.i1, h.i2, by omega, by omega, by omega, h.front, fun p h1 h2 hp => ?_⟩
  by_cases e : p = j
  · subst e; exact ha
  · exact h.back p (by omega) h2 hp
theorem Part.sw {A : RR → Prop} {L1 L : List RR} {lo hi i j : Nat} (h : Part A L1 L lo hi i j) (hij : i ≤ j) (hI : i < L.length) (hJ : j < L.length) (ha : ¬ A L[i]) (hb : A L[j]) : Part A L1 (Fw.sw L i j hI hJ) lo hi (i + 1) (j - 1) := by
  have h1 := h.hj
  have h2 := h.i1
  have hne : i ≠ j := fun e => by subst e; exact ha hb
  refine ⟨h.within.trans (.sw L i j hI hJ (by omega) (by omega)), by omega, by omega, by omega, by omega, by omega, fun p g1 g2 hp => ?_, fun p g1 g2 hp => ?_⟩
  · have gp : p < L.length := by rw [sw_len] at hp; exact hp
    rw [sw_at L i j hI hJ p gp]
    grind [h.front p]
  · have gp : p < L.length := by rw [sw_len] at hp; exact hp
    rw [sw_at L i j hI hJ p gp]
    grind [h.back p]
theorem equalG {g : FuncId} {z : RR → RR → Int} {ok : RR → Prop} (hg : Cmp g z ok) (T0 : Heap) {b : Nat} {L0 : List RR} {c lo hi p : Nat} (hown : OwnR T0 b L0) (hok : ∀ r ∈ L0, ok r) (hlo : lo + 12 < hi) (hhi : hi ≤ L0.length) (hlen : L0.length ≤ 1000000) (hp1 : lo ≤ p) (hp2 : p < hi) :
    ∃ L m, Sim Tryz.prog 183 #[.slice (some ⟨b, 0, none⟩) L0.length c, .int .i64 (lo : Nat), .int .i64 (hi : Nat), .int .i64 (p : Nat), .func (.func g) #[] #[]] T0 (.int .i64 ((m : Nat) : Int)) (putR T0 b L) ∧ Within L0 L lo hi ∧ lo < m ∧ m ≤ hi ∧ ∃ (h : lo < L.length) (hp : p < L0.length), L[lo] = L0[p] ∧ ∀ q, lo ≤ q → q < m → ∀ hq : q < L.length, Lq z L[q] L[lo] := by
  suffices hx : ∃ w H', Sim Tryz.prog 183 #[.slice (some ⟨b, 0, none⟩) L0.length c, .int .i64 (lo : Nat), .int .i64 (hi : Nat), .int .i64 (p : Nat), .func (.func g) #[] #[]] T0 w H' ∧ ∃ m : Nat, w = .int .i64 (m : Nat) ∧ ∃ L, H' = putR T0 b L ∧ Within L0 L lo hi ∧ lo < m ∧ m ≤ hi ∧ ∃ (h : lo < L.length) (hp : p < L0.length), L[lo] = L0[p] ∧ ∀ q, lo ≤ q → q < m → ∀ hq : q < L.length, Lq z L[q] L[lo] by
    obtain ⟨w, H', h1, m, rfl, L, rfl, h2⟩ := hx
    exact ⟨L, m, h1, h2⟩
  have hb := hown.lt
  have hself := putR_self hown
  have a1 : IntKind.i64.wrap ((lo : Int) + 1) = ((lo + 1 : Nat) : Int) := by rw [w64 (by omega) (by omega)]; rfl
  have a2 : IntKind.i64.wrap ((hi : Int) - 1) = ((hi - 1 : Nat) : Int) := by rw [w64 (by omega) (by omega)]; omega
  have hI : lo < L0.length := by omega
  have hJ : p < L0.length := by omega
  obtain ⟨x, y, L1', L1, hx, hy, hL1, r1, r2, w1, w2⟩ := swF T0 hb hI hJ
  rw [hself] at r1 r2 w1
  have hw1 : Within L0 L1 lo hi := by rw [hL1]; exact .sw L0 lo p hI hJ (by omega) (by omega)
  have hl1 := hw1.len
  have hI1 : lo < L1.length := by omega
  have hpv : L1[lo] = L0[p] := by
    have := sw_at L0 lo p hI hJ lo hI
    simp only [hL1, this]
    by_cases e : lo = p
    · subst e; simp
    · simp [e]
  have d2 : (0 : Int) ≤ (lo : Int) := by omega
  have d3 : (lo : Int) < (L0.length : Int) := by omega
  have d4 : (0 : Int) ≤ (p : Int) := by omega
  have d5 : (p : Int) < (L0.length : Int) := by omega
  refine sxA tok mixed Tryz.func183 ?_
  simp -implicitDefEqProofs only [go_sem, simprocAttr]
  refine ax_loud (by kernel_rfl) ?_
  simp -implicitDefEqProofs only [go_sem, simprocAttr, aIndexAddr, d2, d3, d4, d5, r1, r2, w1, w2, a1, a2]
  clear r1 r2 w1 w2 hx hy
  have hoL1 := hw1.oks hok
  clear hself
  obtain ⟨pv, hpve⟩ : ∃ pv, pv = L1[lo] := ⟨_, rfl⟩
  obtain ⟨A, hAe⟩ : ∃ A : RR → Prop, A = fun x => ¬ z pv x < 0 := ⟨_, rfl⟩
  have hA : ∀ x, A x = (¬ z pv x < 0) := fun x => by rw [hAe]
  clear hAe
  refine ax_midl (fun s T => ∃ (i : Nat) (L : List RR), s 11 = .int .i64 (i : Nat) ∧ T = putR T0 b L ∧ Within L1 L (lo + 1) hi ∧ lo < i ∧ i ≤ hi ∧ ∀ q, lo < q → q < i → ∀ hq : q < L.length, A L[q]) ?_ ?_
  · refine ax_loopx (fun (x : Nat × Nat) s T => s 0 = .slice (some ⟨b, 0, none⟩) L0.length c ∧ s 1 = .int .i64 (lo : Nat) ∧ s 2 = .int .i64 (hi : Nat) ∧ s 4 = .func (.func g) #[] #[] ∧ s 11 = .int .i64 (x.1 : Nat) ∧ s 12 = .int .i64 (x.2 : Nat) ∧ ∃ L, T = putR T0 b L ∧ Part A L1 L lo hi x.1 x.2) (fun x => x.2 + 2 - x.1) (lo + 1, hi - 1) ?_ ?_
    · simp -implicitDefEqProofs only [go_sem, simprocAttr]
      exact ⟨L1, rfl, Part.start A L1 (by omega)⟩
    rintro ⟨i0, j0⟩ s T ⟨s0, s1, s2, s4, si, sj, L, rfl, hP0⟩
    simp only at si sj hP0
    have hLl : L.length = L0.length := by rw [hP0.within.len, hl1]
    have hoL := hP0.within.oks hoL1
    simp -implicitDefEqProofs only [go_sem, simprocAttr]
    obtain ⟨q0, hq0'⟩ : ∃ q0, q0 = j0 + 2 - i0 := ⟨_, rfl⟩
    have hq0 : j0 + 2 - i0 ≤ q0 := by omega
    refine ax_midl (fun s T => s 0 = .slice (some ⟨b, 0, none⟩) L0.length c ∧ s 1 = .int .i64 (lo : Nat) ∧ s 2 = .int .i64 (hi : Nat) ∧ s 4 = .func (.func g) #[] #[] ∧ T = putR T0 b L ∧ ∃ i j : Nat, s 11 = .int .i64 (i : Nat) ∧ s 12 = .int .i64 (j : Nat) ∧ Part A L1 L lo hi i j ∧ j + 2 - i ≤ q0 ∧ (i ≤ j → ∀ h : i < L.length, ¬ A L[i])) ?_ ?_
    · refine ax_loopx (fun (x : Nat × Nat) s T => s 0 = .slice (some ⟨b, 0, none⟩) L0.length c ∧ s 1 = .int .i64 (lo : Nat) ∧ s 2 = .int .i64 (hi : Nat) ∧ s 4 = .func (.func g) #[] #[] ∧ T = putR T0 b L ∧ s 11 = .int .i64 (x.1 : Nat) ∧ s 12 = .int .i64 (x.2 : Nat) ∧ Part A L1 L lo hi x.1 x.2 ∧ x.2 + 2 - x.1 ≤ q0) (fun x => x.2 + 2 - x.1) (i0, j0) ?_ ?_
      · simp -implicitDefEqProofs only [go_sem, simprocAttr, s0, s1, s2, s4, si, sj]
        exact ⟨hP0, hq0⟩
      clear s0 s1 s2 s4 si sj
      rintro ⟨i, j⟩ s T ⟨s0, s1, s2, s4, rfl, si, sj, hP, hq⟩
      simp only at si sj hP hq
      simp -implicitDefEqProofs only [go_sem, simprocAttr]
      refine ax_quiet (by kernel_rfl) ?_
      by_cases hij : i ≤ j
      · have hi1 := hP.i1
        have hX : i < L.length := by have := hP.hj; omega
        have hY : lo < L.length := by omega
        obtain ⟨x, hx, r1⟩ := rdF T0 hb hX
        obtain ⟨y, hy, r2⟩ := rdF T0 hb hY
        have hpy : pv = y := by rw [hpve, hy]; exact (hP.pv hY).symm
        have hcm := fun H => hg.call y x (hy ▸ hoL _ (List.getElem_mem hY)) (hx ▸ hoL _ (List.getElem_mem hX)) H
        unfold RR.val rV at hcm
        have g1 : (i : Int) ≤ (j : Int) := by omega
        have m1 : IntKind.i64.wrap ((i : Int) + 1) = ((i + 1 : Nat) : Int) := by rw [w64 (by omega) (by omega)]; rfl
        have d2 : (0 : Int) ≤ (i : Int) := by omega
        have d3 : (i : Int) < (L0.length : Int) := by omega
        have d4 : (0 : Int) ≤ (lo : Int) := by omega
        have d5 : (lo : Int) < (L0.length : Int) := by omega
        simp -implicitDefEqProofs only [go_sem, simprocAttr, s0, s1, s2, s4, si, sj, aIndexAddr, g1, d2, d3, d4, d5, r1, r2]
        refine wl_callO _ (by simp -implicitDefEqProofs only [go_sem, simprocAttr, s4]) _ (by simp -implicitDefEqProofs only [go_sem, simprocAttr]) (hcm _) ?_
        by_cases hc : z y x < 0
        · simp -implicitDefEqProofs only [go_sem, simprocAttr, wa_cond, axC_t, axC_f, hc, s0, s1, s2, s4, si, sj]
          exact ⟨i, j, rfl, rfl, hP, hq, fun _ h => (by rw [hA, ← hx, hpy]; exact fun h => h hc)⟩
        · simp -implicitDefEqProofs only [go_sem, simprocAttr, wa_cond, axC_t, axC_f, hc, s0, s1, s2, s4, si, sj, m1]
          exact ⟨(i + 1, j), ⟨rfl, rfl, hP.up hij hX (by rw [hA, ← hx, hpy]; exact hc), by simp only; omega⟩, by simp only; omega⟩
      · have g1 : ¬ (i : Int) ≤ (j : Int) := by omega
        simp -implicitDefEqProofs only [go_sem, simprocAttr, wa_cond, axC_t, axC_f, s0, s1, s2, s4, si, sj, g1]
        exact ⟨i, j, rfl, rfl, hP, hq, fun h => absurd h hij⟩
    clear s0 s1 s2 s4 si sj
    rintro s T ⟨s0, s1, s2, s4, rfl, i, j, si, sj, hP, hq, hup⟩
    obtain ⟨i0, j0, rfl, rfl⟩ : ∃ i0' j0', i = i0' ∧ j = j0' := ⟨i, j, rfl, rfl⟩
    clear hP0 hq0
    have hP0 := hP
    have hq0 := hq
    have hup0 := hup
    clear hP hq hup
    refine ax_midl (fun s T => s 0 = .slice (some ⟨b, 0, none⟩) L0.length c ∧ s 1 = .int .i64 (lo : Nat) ∧ s 2 = .int .i64 (hi : Nat) ∧ s 4 = .func (.func g) #[] #[] ∧ T = putR T0 b L ∧ ∃ i j : Nat, s 11 = .int .i64 (i : Nat) ∧ s 12 = .int .i64 (j : Nat) ∧ Part A L1 L lo hi i j ∧ j + 2 - i ≤ q0 ∧ (i ≤ j → ∀ h : i < L.length, ¬ A L[i]) ∧ (i ≤ j → ∀ h : j < L.length, A L[j])) ?_ ?_
    · refine ax_loopx (fun (x : Nat × Nat) s T => s 0 = .slice (some ⟨b, 0, none⟩) L0.length c ∧ s 1 = .int .i64 (lo : Nat) ∧ s 2 = .int .i64 (hi : Nat) ∧ s 4 = .func (.func g) #[] #[] ∧ T = putR T0 b L ∧ s 11 = .int .i64 (x.1 : Nat) ∧ s 12 = .int .i64 (x.2 : Nat) ∧ Part A L1 L lo hi x.1 x.2 ∧ x.2 + 2 - x.1 ≤ q0 ∧ (x.1 ≤ x.2 → ∀ h : x.1 < L.length, ¬ A L[x.1])) (fun x => x.2 + 2 - x.1) (i, j) ?_ ?_
      · simp -implicitDefEqProofs only [go_sem, simprocAttr, s0, s1, s2, s4, si, sj]
        exact ⟨hP0, hq0, hup0⟩
      clear s0 s1 s2 s4 si sj
      rintro ⟨i, j⟩ s T ⟨s0, s1, s2, s4, rfl, si, sj, hP, hq, hup⟩
      simp only at si sj hP hq hup
      simp -implicitDefEqProofs only [go_sem, simprocAttr]
      refine ax_quiet (by kernel_rfl) ?_
      by_cases hij : i ≤ j
      · have hi1 := hP.i1
        have hX : j < L.length := by have := hP.hj; omega
        have hY : lo < L.length := by omega
        obtain ⟨x, hx, r1⟩ := rdF T0 hb hX
        obtain ⟨y, hy, r2⟩ := rdF T0 hb hY
        have hpy : pv = y := by rw [hpve, hy]; exact (hP.pv hY).symm
        have hcm := fun H => hg.call y x (hy ▸ hoL _ (List.getElem_mem hY)) (hx ▸ hoL _ (List.getElem_mem hX)) H
        unfold RR.val rV at hcm
        have g1 : (i : Int) ≤ (j : Int) := by omega
        have m1 : IntKind.i64.wrap ((j : Int) - 1) = ((j - 1 : Nat) : Int) := by rw [w64 (by omega) (by omega)]; have := hP.i1; omega
        have d2 : (0 : Int) ≤ (j : Int) := by omega
        have d3 : (j : Int) < (L0.length : Int) := by omega
        have d4 : (0 : Int) ≤ (lo : Int) := by omega
        have d5 : (lo : Int) < (L0.length : Int) := by omega
        simp -implicitDefEqProofs only [go_sem, simprocAttr, s0, s1, s2, s4, si, sj, aIndexAddr, g1, d2, d3, d4, d5, r1, r2]
        refine wl_callO _ (by simp -implicitDefEqProofs only [go_sem, simprocAttr, s4]) _ (by simp -implicitDefEqProofs only [go_sem, simprocAttr]) (hcm _) ?_
        by_cases hc : z y x < 0
        · simp -implicitDefEqProofs only [go_sem, simprocAttr, wa_cond, axC_t, axC_f, hc, s0, s1, s2, s4, si, sj, m1]
          exact ⟨(i, j - 1), ⟨rfl, rfl, hP.down hij hX (by rw [hA, ← hx, hpy]; exact fun h => h hc), by simp only; omega, fun h h' => hup hij h'⟩, by simp only; omega⟩
        · simp -implicitDefEqProofs only [go_sem, simprocAttr, wa_cond, axC_t, axC_f, hc, s0, s1, s2, s4, si, sj]
          exact ⟨i, j, rfl, rfl, hP, hq, hup, fun _ h => (by rw [hA, ← hx, hpy]; exact hc)⟩
      · have g1 : ¬ (i : Int) ≤ (j : Int) := by omega
        simp -implicitDefEqProofs only [go_sem, simprocAttr, wa_cond, axC_t, axC_f, s0, s1, s2, s4, si, sj, g1]
        exact ⟨i, j, rfl, rfl, hP, hq, hup, fun h => absurd h hij⟩
    clear s0 s1 s2 s4 si sj
    rintro s T ⟨s0, s1, s2, s4, rfl, i, j, si, sj, hP, hq, hup, hdn⟩
    by_cases hij : i ≤ j
    · have hI : i < L.length := by have := hP.hj; omega
      have hJ : j < L.length := by have := hP.hj; omega
      obtain ⟨x, y, L1', L2, hx, hy, hL2, r1, r2, w1, w2⟩ := swF T0 hb hI hJ
      have hP2 := hP.sw hij hI hJ (hup hij hI) (hdn hij hJ)
      rw [← hL2] at hP2
      have h11 := hP.i1
      have g1 : ¬ (j : Int) < (i : Int) := by omega
      have m1 : IntKind.i64.wrap ((i : Int) + 1) = ((i + 1 : Nat) : Int) := by rw [w64 (by omega) (by omega)]; rfl
      have m2 : IntKind.i64.wrap ((j : Int) - 1) = ((j - 1 : Nat) : Int) := by rw [w64 (by omega) (by omega)]; omega
      have d2 : (0 : Int) ≤ (i : Int) := by omega
      have d3 : (i : Int) < (L0.length : Int) := by omega
      have d4 : (0 : Int) ≤ (j : Int) := by omega
      have d5 : (j : Int) < (L0.length : Int) := by omega
      simp -implicitDefEqProofs only [go_sem, simprocAttr, wa_cond, axC_t, axC_f, s0, s1, s2, s4, si, sj, g1]
      refine ax_loud (by kernel_rfl) ?_
      simp -implicitDefEqProofs only [go_sem, simprocAttr, s0, s1, s2, s4, si, sj, aIndexAddr, d2, d3, d4, d5, r1, r2, w1, w2, m1, m2]
      exact ⟨(i + 1, j - 1), ⟨rfl, rfl, L2, rfl, hP2⟩, by simp only; omega⟩
    · have g1 : (j : Int) < (i : Int) := by omega
      simp -implicitDefEqProofs only [go_sem, simprocAttr, wa_cond, axC_t, axC_f, s0, s1, s2, s4, si, sj, g1]
      exact ⟨i, L, rfl, rfl, hP.within, hP.i1, hP.i2, hP.front⟩
  rintro s T ⟨i, L, si, rfl, hw, h1, h2, h3⟩
  simp -implicitDefEqProofs only [go_sem, simprocAttr, si, res183]
  have hll := hw.len
  have hY : lo < L.length := by omega
  have e1 : L[lo] = L1[lo] := hw.at hY (.inl (by omega))
  refine ⟨i, rfl, L, rfl, hw1.trans (hw.mono (by omega) (Nat.le_refl _)), h1, h2, hY, by omega, by rw [e1, hpv], fun q g1 g2 hq => ?_⟩
  by_cases e : q = lo
  · subst e; exact Lq.refl hg ((hw.oks hoL1) _ (List.getElem_mem hq))
  · have := h3 q (by omega) g2 hq
    rw [hA, hpve, ← e1] at this
    exact this
end Go.Proofs.YthhmkaikopdmjaaGreat
namespace Go.Proofs.YthhmkaikopdmjaaGreat
open Go Go.Fw
theorem Part.fin {g : FuncId} {z : RR → RR → Int} {ok : RR → Prop} (hg : Cmp g z ok) {pv : RR} {L1 L : List RR} {lo hi i j : Nat} (h : Part (fun x => z x pv < 0) L1 L lo hi i j) (hok : ∀ r ∈ L, ok r) (hji : j < i) (hI : lo < L.length) (hJ : j < L.length) (hpv : L[lo] = pv) :
    ∀ p q, lo ≤ p → p ≤ j → j ≤ q → q < hi → p < q → ∀ (h1 : p < (Fw.sw L j lo hJ hI).length) (h2 : q < (Fw.sw L j lo hJ hI).length), Lq z (Fw.sw L j lo hJ hI)[p] (Fw.sw L j lo hJ hI)[q] := by
  intro p q g0 g1 g2 g3 g4 h1 h2
  have gp : p < L.length := by rw [sw_len] at h1; exact h1
  have gq : q < L.length := by rw [sw_len] at h2; exact h2
  have hj1 := h.j1
  have okpv : ok pv := hpv ▸ hok _ (List.getElem_mem hI)
  have key : ∀ r, lo ≤ r → r < hi → ∀ hr : r < L.length, ∃ x, ok x ∧ (Fw.sw L j lo hJ hI)[r]'(by rw [sw_len]; exact hr) = x ∧ (r < j → z x pv < 0) ∧ (r = j → x = pv) ∧ (j < r → ¬ z x pv < 0) := by
    intro r a1 a2 hr
    rw [sw_at L j lo hJ hI r hr]
    by_cases e1 : r = lo
    · rw [if_pos e1]
      refine ⟨_, hok _ (List.getElem_mem hJ), rfl, fun a3 => h.front j (by omega) hji hJ, fun a3 => ?_, fun a3 => by omega⟩
      have : j = lo := by omega
      subst this; exact hpv
    · rw [if_neg e1]
      by_cases e2 : r = j
      · rw [if_pos e2]
        exact ⟨_, hok _ (List.getElem_mem hI), rfl, fun a3 => by omega, fun _ => hpv, fun a3 => by omega⟩
      · rw [if_neg e2]
        exact ⟨_, hok _ (List.getElem_mem hr), rfl, fun a3 => h.front r (by omega) (by omega) hr, fun a3 => absurd a3 e2, fun a3 => h.back r a3 a2 hr⟩
  obtain ⟨x, ox, ex, x1, x2, x3⟩ := key p g0 (by omega) gp
  obtain ⟨y, oy, ey, y1, y2, y3⟩ := key q (by omega) g3 gq
  rw [ex, ey]
  by_cases e1 : p = j
  · rw [x2 e1]; exact y3 (by omega)
  · have hx := hg.asy _ _ ox okpv (x1 (by omega))
    by_cases e2 : q = j
    · rw [y2 e2]; exact hx
    · exact hg.tr _ _ _ ox okpv oy hx (y3 (by omega))
theorem partG {g : FuncId} {z : RR → RR → Int} {ok : RR → Prop} (hg : Cmp g z ok) (T0 : Heap) {b : Nat} {L0 : List RR} {c lo hi p : Nat} (hown : OwnR T0 b L0) (hok : ∀ r ∈ L0, ok r) (hlo : lo + 12 < hi) (hhi : hi ≤ L0.length) (hlen : L0.length ≤ 1000000) (hp1 : lo ≤ p) (hp2 : p < hi) :
    ∃ L m t, Sim Tryz.prog 184 #[.slice (some ⟨b, 0, none⟩) L0.length c, .int .i64 (lo : Nat), .int .i64 (hi : Nat), .int .i64 (p : Nat), .func (.func g) #[] #[]] T0 (.tuple #[.int .i64 ((m : Nat) : Int), .bool t]) (putR T0 b L) ∧ Within L0 L lo hi ∧ lo ≤ m ∧ m < hi ∧ ∀ p q, lo ≤ p → p ≤ m → m ≤ q → q < hi → p < q → ∀ (h1 : p < L.length) (h2 : q < L.length), Lq z L[p] L[q] := by
  suffices hx : ∃ w H', Sim Tryz.prog 184 #[.slice (some ⟨b, 0, none⟩) L0.length c, .int .i64 (lo : Nat), .int .i64 (hi : Nat), .int .i64 (p : Nat), .func (.func g) #[] #[]] T0 w H' ∧ ∃ (m : Nat) (t : Bool), w = .tuple #[.int .i64 (m : Nat), .bool t] ∧ ∃ L, H' = putR T0 b L ∧ Within L0 L lo hi ∧ lo ≤ m ∧ m < hi ∧ ∀ p q, lo ≤ p → p ≤ m → m ≤ q → q < hi → p < q → ∀ (h1 : p < L.length) (h2 : q < L.length), Lq z L[p] L[q] by
    obtain ⟨w, H', h1, m, t, rfl, L, rfl, h2⟩ := hx
    exact ⟨L, m, t, h1, h2⟩
  have hb := hown.lt
  have hself := putR_self hown
  have a1 : IntKind.i64.wrap ((lo : Int) + 1) = ((lo + 1 : Nat) : Int) := by rw [w64 (by omega) (by omega)]; rfl
  have a2 : IntKind.i64.wrap ((hi : Int) - 1) = ((hi - 1 : Nat) : Int) := by rw [w64 (by omega) (by omega)]; omega
  have hI : lo < L0.length := by omega
  have hJ : p < L0.length := by omega
  obtain ⟨x, y, L1', L1, hx, hy, hL1, r1, r2, w1, w2⟩ := swF T0 hb hI hJ
  rw [hself] at r1 r2 w1
  have hw1 : Within L0 L1 lo hi := by rw [hL1]; exact .sw L0 lo p hI hJ (by omega) (by omega)
  have hl1 := hw1.len
  have hI1 : lo < L1.length := by omega
  have e2 : (0 : Int) ≤ (lo : Int) := by omega
  have e3 : (lo : Int) < (L0.length : Int) := by omega
  have d4 : (0 : Int) ≤ (p : Int) := by omega
  have d5 : (p : Int) < (L0.length : Int) := by omega
  refine sxA tok mixed Tryz.func184 ?_
  simp -implicitDefEqProofs only [go_sem, simprocAttr]
  refine ax_loud (by kernel_rfl) ?_
  simp -implicitDefEqProofs only [go_sem, simprocAttr, aIndexAddr, e2, e3, d4, d5, r1, r2, w1, w2, a1, a2]
  clear r1 r2 w1 w2 hx hy d4 d5
  have hoL1 := hw1.oks hok
  clear hself
  obtain ⟨pv, hpve⟩ : ∃ pv, pv = L1[lo] := ⟨_, rfl⟩
  obtain ⟨A, hAe⟩ : ∃ A : RR → Prop, A = fun x => z x pv < 0 := ⟨_, rfl⟩
  have hA : ∀ x, A x = (z x pv < 0) := fun x => by rw [hAe]
  have fin : ∀ (i j : Nat) (L : List RR), Part A L1 L lo hi i j → j < i → ∃ (x y : RR) (L' L2 : List RR),
      rd (putR T0 b L) b (j * 6) 6 = some [.bool x.g, .string (bs x.n), .string (bs x.d), .bool x.g', .string (bs x.n'), .string (bs x.d')] ∧
      rd (putR T0 b L) b (lo * 6) 6 = some [.bool y.g, .string (bs y.n), .string (bs y.d), .bool y.g', .string (bs y.n'), .string (bs y.d')] ∧
      wr (putR T0 b L) b (j * 6) [.bool y.g, .string (bs y.n), .string (bs y.d), .bool y.g', .string (bs y.n'), .string (bs y.d')] = some (putR T0 b L') ∧
      wr (putR T0 b L') b (lo * 6) [.bool x.g, .string (bs x.n), .string (bs x.d), .bool x.g', .string (bs x.n'), .string (bs x.d')] = some (putR T0 b L2) ∧
      Within L0 L2 lo hi ∧ lo ≤ j ∧ j < hi ∧ ∀ p q, lo ≤ p → p ≤ j → j ≤ q → q < hi → p < q → ∀ (h1 : p < L2.length) (h2 : q < L2.length), Lq z L2[p] L2[q] := by
    intro i j L hP hji
    have hll := hP.within.len
    have hhj := hP.hj
    have hY : lo < L.length := by omega
    have hX : j < L.length := by omega
    obtain ⟨x, y, L', L2, hx, hy, hL2, r1, r2, w1, w2⟩ := swF T0 hb hX hY
    subst hAe
    refine ⟨x, y, L', L2, r1, r2, w1, w2, ?_, hP.j1, hP.hj, ?_⟩
    · rw [hL2]
      exact (hw1.trans (hP.within.mono (by omega) (Nat.le_refl _))).trans (.sw L j lo hX hY (by have := hP.j1; omega) (by omega))
    · subst hL2
      exact hP.fin hg (hP.within.oks hoL1) hji hY hX (by rw [hpve]; exact hP.pv hY)
  clear hAe
  obtain ⟨L, hLe⟩ : ∃ L, L = L1 := ⟨_, rfl⟩
  have hP0 : Part A L1 L lo hi (lo + 1) (hi - 1) := by rw [hLe]; exact Part.start A L1 (by omega)
  rw [← hLe]
  clear hLe
  obtain ⟨q0, hq0'⟩ : ∃ q0, q0 = hi - 1 + 2 - (lo + 1) := ⟨_, rfl⟩
  have hq0 : hi - 1 + 2 - (lo + 1) ≤ q0 := by omega
  have hLl : L.length = L0.length := by rw [hP0.within.len, hl1]
  have hoL := hP0.within.oks hoL1
  refine ax_midl (fun s T => s 0 = .slice (some ⟨b, 0, none⟩) L0.length c ∧ s 1 = .int .i64 (lo : Nat) ∧ s 2 = .int .i64 (hi : Nat) ∧ s 4 = .func (.func g) #[] #[] ∧ T = putR T0 b L ∧ ∃ i j : Nat, s 12 = .int .i64 (i : Nat) ∧ s 13 = .int .i64 (j : Nat) ∧ Part A L1 L lo hi i j ∧ j + 2 - i ≤ q0 ∧ (i ≤ j → ∀ h : i < L.length, ¬ A L[i])) ?_ ?_
  · refine ax_loopx (fun (x : Nat × Nat) s T => s 0 = .slice (some ⟨b, 0, none⟩) L0.length c ∧ s 1 = .int .i64 (lo : Nat) ∧ s 2 = .int .i64 (hi : Nat) ∧ s 4 = .func (.func g) #[] #[] ∧ T = putR T0 b L ∧ s 12 = .int .i64 (x.1 : Nat) ∧ s 13 = .int .i64 (x.2 : Nat) ∧ Part A L1 L lo hi x.1 x.2 ∧ x.2 + 2 - x.1 ≤ q0) (fun x => x.2 + 2 - x.1) (lo + 1, hi - 1) ?_ ?_
    · simp -implicitDefEqProofs only [go_sem, simprocAttr]
      exact ⟨hP0, by omega⟩
    rintro ⟨i, j⟩ s T ⟨s0, s1, s2, s4, rfl, si, sj, hP, hq⟩
    simp only at si sj hP hq
    simp -implicitDefEqProofs only [go_sem, simprocAttr]
    refine ax_quiet (by kernel_rfl) ?_
    by_cases hij : i ≤ j
    · have hi1 := hP.i1
      have hX : i < L.length := by have := hP.hj; omega
      have hY : lo < L.length := by omega
      obtain ⟨x, hx, r1⟩ := rdF T0 hb hX
      obtain ⟨y, hy, r2⟩ := rdF T0 hb hY
      have hpy : pv = y := by rw [hpve, hy]; exact (hP.pv hY).symm
      have hcm := fun H => hg.call x y (hx ▸ hoL _ (List.getElem_mem hX)) (hy ▸ hoL _ (List.getElem_mem hY)) H
      unfold RR.val rV at hcm
      have g1 : (i : Int) ≤ (j : Int) := by omega
      have m1 : IntKind.i64.wrap ((i : Int) + 1) = ((i + 1 : Nat) : Int) := by rw [w64 (by omega) (by omega)]; rfl
      have d2 : (0 : Int) ≤ (i : Int) := by omega
      have d3 : (i : Int) < (L0.length : Int) := by omega
      have d4 : (0 : Int) ≤ (lo : Int) := by omega
      have d5 : (lo : Int) < (L0.length : Int) := by omega
      simp -implicitDefEqProofs only [go_sem, simprocAttr, s0, s1, s2, s4, si, sj, aIndexAddr, g1, d2, d3, d4, d5, r1, r2]
      refine wl_callO _ (by simp -implicitDefEqProofs only [go_sem, simprocAttr, s4]) _ (by simp -implicitDefEqProofs only [go_sem, simprocAttr]) (hcm _) ?_
      by_cases hc : z x y < 0
      · simp -implicitDefEqProofs only [go_sem, simprocAttr, wa_cond, axC_t, axC_f, hc, s0, s1, s2, s4, si, sj, m1]
        exact ⟨(i + 1, j), ⟨rfl, rfl, hP.up hij hX (by rw [hA, ← hx, hpy]; exact hc), by simp only; omega⟩, by simp only; omega⟩
      · simp -implicitDefEqProofs only [go_sem, simprocAttr, wa_cond, axC_t, axC_f, hc, s0, s1, s2, s4, si, sj]
        exact ⟨i, j, rfl, rfl, hP, hq, fun _ h => (by rw [hA, ← hx, hpy]; exact hc)⟩
    · have g1 : ¬ (i : Int) ≤ (j : Int) := by omega
      simp -implicitDefEqProofs only [go_sem, simprocAttr, wa_cond, axC_t, axC_f, s0, s1, s2, s4, si, sj, g1]
      exact ⟨i, j, rfl, rfl, hP, hq, fun h => absurd h hij⟩
  rintro s T ⟨s0, s1, s2, s4, rfl, i, j, si, sj, hP, hq, hup⟩
  clear hP0 hq0
  have hP0 := hP
  have hq0 := hq
  have hup0 := hup
  clear hP hq hup
  refine ax_midl (fun s T => s 0 = .slice (some ⟨b, 0, none⟩) L0.length c ∧ s 1 = .int .i64 (lo : Nat) ∧ s 2 = .int .i64 (hi : Nat) ∧ s 4 = .func (.func g) #[] #[] ∧ T = putR T0 b L ∧ ∃ i j : Nat, s 12 = .int .i64 (i : Nat) ∧ s 13 = .int .i64 (j : Nat) ∧ Part A L1 L lo hi i j ∧ j + 2 - i ≤ q0 ∧ (i ≤ j → ∀ h : i < L.length, ¬ A L[i]) ∧ (i ≤ j → ∀ h : j < L.length, A L[j])) ?_ ?_
  · refine ax_loopx (fun (x : Nat × Nat) s T => s 0 = .slice (some ⟨b, 0, none⟩) L0.length c ∧ s 1 = .int .i64 (lo : Nat) ∧ s 2 = .int .i64 (hi : Nat) ∧ s 4 = .func (.func g) #[] #[] ∧ T = putR T0 b L ∧ s 12 = .int .i64 (x.1 : Nat) ∧ s 13 = .int .i64 (x.2 : Nat) ∧ Part A L1 L lo hi x.1 x.2 ∧ x.2 + 2 - x.1 ≤ q0 ∧ (x.1 ≤ x.2 → ∀ h : x.1 < L.length, ¬ A L[x.1])) (fun x => x.2 + 2 - x.1) (i, j) ?_ ?_
    · simp -implicitDefEqProofs only [go_sem, simprocAttr, s0, s1, s2, s4, si, sj]
      exact ⟨hP0, hq0, hup0⟩
    clear s0 s1 s2 s4 si sj
    rintro ⟨i, j⟩ s T ⟨s0, s1, s2, s4, rfl, si, sj, hP, hq, hup⟩
    simp only at si sj hP hq hup
    simp -implicitDefEqProofs only [go_sem, simprocAttr]
    refine ax_quiet (by kernel_rfl) ?_
    by_cases hij : i ≤ j
    · have hi1 := hP.i1
      have hX : j < L.length := by have := hP.hj; omega
      have hY : lo < L.length := by omega
      obtain ⟨x, hx, r1⟩ := rdF T0 hb hX
      obtain ⟨y, hy, r2⟩ := rdF T0 hb hY
      have hpy : pv = y := by rw [hpve, hy]; exact (hP.pv hY).symm
      have hcm := fun H => hg.call x y (hx ▸ hoL _ (List.getElem_mem hX)) (hy ▸ hoL _ (List.getElem_mem hY)) H
      unfold RR.val rV at hcm
      have g1 : (i : Int) ≤ (j : Int) := by omega
      have m1 : IntKind.i64.wrap ((j : Int) - 1) = ((j - 1 : Nat) : Int) := by rw [w64 (by omega) (by omega)]; have := hP.i1; omega
      have d2 : (0 : Int) ≤ (j : Int) := by omega
      have d3 : (j : Int) < (L0.length : Int) := by omega
      have d4 : (0 : Int) ≤ (lo : Int) := by omega
      have d5 : (lo : Int) < (L0.length : Int) := by omega
      simp -implicitDefEqProofs only [go_sem, simprocAttr, s0, s1, s2, s4, si, sj, aIndexAddr, g1, d2, d3, d4, d5, r1, r2]
      refine wl_callO _ (by simp -implicitDefEqProofs only [go_sem, simprocAttr, s4]) _ (by simp -implicitDefEqProofs only [go_sem, simprocAttr]) (hcm _) ?_
      by_cases hc : z x y < 0
      · simp -implicitDefEqProofs only [go_sem, simprocAttr, wa_cond, axC_t, axC_f, hc, s0, s1, s2, s4, si, sj]
        exact ⟨i, j, rfl, rfl, hP, hq, hup, fun _ h => (by rw [hA, ← hx, hpy]; exact hc)⟩
      · simp -implicitDefEqProofs only [go_sem, simprocAttr, wa_cond, axC_t, axC_f, hc, s0, s1, s2, s4, si, sj, m1]
        exact ⟨(i, j - 1), ⟨rfl, rfl, hP.down hij hX (by rw [hA, ← hx, hpy]; exact hc), by simp only; omega, fun h h' => hup hij h'⟩, by simp only; omega⟩
    · have g1 : ¬ (i : Int) ≤ (j : Int) := by omega
      simp -implicitDefEqProofs only [go_sem, simprocAttr, wa_cond, axC_t, axC_f, s0, s1, s2, s4, si, sj, g1]
      exact ⟨i, j, rfl, rfl, hP, hq, hup, fun h => absurd h hij⟩
  clear s0 s1 s2 s4 si sj
  rintro s T ⟨s0, s1, s2, s4, rfl, i, j, si, sj, hP, hq, hup, hdn⟩
  by_cases hji : j < i
  · obtain ⟨x, y, L', L2, r1, r2, w1, w2, f1, f2, f3, f4⟩ := fin i j L hP (by omega)
    have d2 : (0 : Int) ≤ (j : Int) := by omega
    have d3 : (j : Int) < (L0.length : Int) := by omega
    have g1 : (j : Int) < (i : Int) := by omega
    simp -implicitDefEqProofs only [go_sem, simprocAttr, wa_cond, axC_t, axC_f, s0, s1, s2, s4, si, sj, g1]
    refine ax_loud (by kernel_rfl) ?_
    simp -implicitDefEqProofs only [go_sem, simprocAttr, s0, s1, s2, s4, si, sj, aIndexAddr, d2, d3, e2, e3, r1, r2, w1, w2, res184]
    exact ⟨j, true, rfl, L2, rfl, f1, f2, f3, f4⟩
  have hij : i ≤ j := by omega
  have hI : i < L.length := by have := hP.hj; omega
  have hJ : j < L.length := by have := hP.hj; omega
  obtain ⟨x, y, L1', L2, hx, hy, hL2, r1, r2, w1, w2⟩ := swF T0 hb hI hJ
  have hP2 := hP.sw hij hI hJ (hup hij hI) (hdn hij hJ)
  rw [← hL2] at hP2
  have h11 := hP.i1
  have g1 : ¬ (j : Int) < (i : Int) := by omega
  have m1 : IntKind.i64.wrap ((i : Int) + 1) = ((i + 1 : Nat) : Int) := by rw [w64 (by omega) (by omega)]; rfl
  have m2 : IntKind.i64.wrap ((j : Int) - 1) = ((j - 1 : Nat) : Int) := by rw [w64 (by omega) (by omega)]; omega
  have d2 : (0 : Int) ≤ (i : Int) := by omega
  have d3 : (i : Int) < (L0.length : Int) := by omega
  have d4 : (0 : Int) ≤ (j : Int) := by omega
  have d5 : (j : Int) < (L0.length : Int) := by omega
  simp -implicitDefEqProofs only [go_sem, simprocAttr, wa_cond, axC_t, axC_f, s0, s1, s2, s4, si, sj, g1]
  refine ax_loud (by kernel_rfl) ?_
  simp -implicitDefEqProofs only [go_sem, simprocAttr, s0, s1, s2, s4, si, sj, aIndexAddr, d2, d3, d4, d5, r1, r2, w1, w2, m1, m2]
  clear hP0 hq0 hup0 r1 r2 w1 w2 d2 d3 d4 d5 m1 m2 hx hy hL2 g1 hji hup hdn hij
  refine ax_midl (fun s T => s 0 = .slice (some ⟨b, 0, none⟩) L0.length c ∧ s 1 = .int .i64 (lo : Nat) ∧ s 2 = .int .i64 (hi : Nat) ∧ s 4 = .func (.func g) #[] #[] ∧ ∃ (i j : Nat) (L : List RR), s 12 = .int .i64 (i : Nat) ∧ s 13 = .int .i64 (j : Nat) ∧ T = putR T0 b L ∧ Part A L1 L lo hi i j ∧ j < i) ?_ ?_
  · refine ax_loopx (fun (x : Nat × Nat) s T => s 0 = .slice (some ⟨b, 0, none⟩) L0.length c ∧ s 1 = .int .i64 (lo : Nat) ∧ s 2 = .int .i64 (hi : Nat) ∧ s 4 = .func (.func g) #[] #[] ∧ s 12 = .int .i64 (x.1 : Nat) ∧ s 13 = .int .i64 (x.2 : Nat) ∧ ∃ L, T = putR T0 b L ∧ Part A L1 L lo hi x.1 x.2) (fun x => x.2 + 2 - x.1) (i + 1, j - 1) ?_ ?_
    · simp -implicitDefEqProofs only [go_sem, simprocAttr, s0, s1, s2, s4]
      exact ⟨L2, rfl, hP2⟩
    clear s0 s1 s2 s4 si sj hP2 hI hJ hoL hLl hP hq h11 hq0'
    clear L1' L2 L i j x y q0
    rintro ⟨i0, j0⟩ s T ⟨s0, s1, s2, s4, si, sj, L, rfl, hP0⟩
    simp only at si sj hP0
    have hLl : L.length = L0.length := by rw [hP0.within.len, hl1]
    have hoL := hP0.within.oks hoL1
    simp -implicitDefEqProofs only [go_sem, simprocAttr]
    obtain ⟨q0, hq0'⟩ : ∃ q0, q0 = j0 + 2 - i0 := ⟨_, rfl⟩
    have hq0 : j0 + 2 - i0 ≤ q0 := by omega
    refine ax_midl (fun s T => s 0 = .slice (some ⟨b, 0, none⟩) L0.length c ∧ s 1 = .int .i64 (lo : Nat) ∧ s 2 = .int .i64 (hi : Nat) ∧ s 4 = .func (.func g) #[] #[] ∧ T = putR T0 b L ∧ ∃ i j : Nat, s 12 = .int .i64 (i : Nat) ∧ s 13 = .int .i64 (j : Nat) ∧ Part A L1 L lo hi i j ∧ j + 2 - i ≤ q0 ∧ (i ≤ j → ∀ h : i < L.length, ¬ A L[i])) ?_ ?_
    · refine ax_loopx (fun (x : Nat × Nat) s T => s 0 = .slice (some ⟨b, 0, none⟩) L0.length c ∧ s 1 = .int .i64 (lo : Nat) ∧ s 2 = .int .i64 (hi : Nat) ∧ s 4 = .func (.func g) #[] #[] ∧ T = putR T0 b L ∧ s 12 = .int .i64 (x.1 : Nat) ∧ s 13 = .int .i64 (x.2 : Nat) ∧ Part A L1 L lo hi x.1 x.2 ∧ x.2 + 2 - x.1 ≤ q0) (fun x => x.2 + 2 - x.1) (i0, j0) ?_ ?_
      · simp -implicitDefEqProofs only [go_sem, simprocAttr, s0, s1, s2, s4, si, sj]
        exact ⟨hP0, hq0⟩
      clear s0 s1 s2 s4 si sj
      rintro ⟨i, j⟩ s T ⟨s0, s1, s2, s4, rfl, si, sj, hP, hq⟩
      simp only at si sj hP hq
      simp -implicitDefEqProofs only [go_sem, simprocAttr]
      refine ax_quiet (by kernel_rfl) ?_
      by_cases hij : i ≤ j
      · have hi1 := hP.i1
        have hX : i < L.length := by have := hP.hj; omega
        have hY : lo < L.length := by omega
        obtain ⟨x, hx, r1⟩ := rdF T0 hb hX
        obtain ⟨y, hy, r2⟩ := rdF T0 hb hY
        have hpy : pv = y := by rw [hpve, hy]; exact (hP.pv hY).symm
        have hcm := fun H => hg.call x y (hx ▸ hoL _ (List.getElem_mem hX)) (hy ▸ hoL _ (List.getElem_mem hY)) H
        unfold RR.val rV at hcm
        have g1 : (i : Int) ≤ (j : Int) := by omega
        have m1 : IntKind.i64.wrap ((i : Int) + 1) = ((i + 1 : Nat) : Int) := by rw [w64 (by omega) (by omega)]; rfl
        have d2 : (0 : Int) ≤ (i : Int) := by omega
        have d3 : (i : Int) < (L0.length : Int) := by omega
        have d4 : (0 : Int) ≤ (lo : Int) := by omega
        have d5 : (lo : Int) < (L0.length : Int) := by omega
        simp -implicitDefEqProofs only [go_sem, simprocAttr, s0, s1, s2, s4, si, sj, aIndexAddr, g1, d2, d3, d4, d5, r1, r2]
        refine wl_callO _ (by simp -implicitDefEqProofs only [go_sem, simprocAttr, s4]) _ (by simp -implicitDefEqProofs only [go_sem, simprocAttr]) (hcm _) ?_
        by_cases hc : z x y < 0
        · simp -implicitDefEqProofs only [go_sem, simprocAttr, wa_cond, axC_t, axC_f, hc, s0, s1, s2, s4, si, sj, m1]
          exact ⟨(i + 1, j), ⟨rfl, rfl, hP.up hij hX (by rw [hA, ← hx, hpy]; exact hc), by simp only; omega⟩, by simp only; omega⟩
        · simp -implicitDefEqProofs only [go_sem, simprocAttr, wa_cond, axC_t, axC_f, hc, s0, s1, s2, s4, si, sj]
          exact ⟨i, j, rfl, rfl, hP, hq, fun _ h => (by rw [hA, ← hx, hpy]; exact hc)⟩
      · have g1 : ¬ (i : Int) ≤ (j : Int) := by omega
        simp -implicitDefEqProofs only [go_sem, simprocAttr, wa_cond, axC_t, axC_f, s0, s1, s2, s4, si, sj, g1]
        exact ⟨i, j, rfl, rfl, hP, hq, fun h => absurd h hij⟩
    clear s0 s1 s2 s4 si sj
    rintro s T ⟨s0, s1, s2, s4, rfl, i, j, si, sj, hP, hq, hup⟩
    clear hP0 hq0
    have hP0 := hP
    have hq0 := hq
    have hup0 := hup
    clear hP hq hup
    refine ax_midl (fun s T => s 0 = .slice (some ⟨b, 0, none⟩) L0.length c ∧ s 1 = .int .i64 (lo : Nat) ∧ s 2 = .int .i64 (hi : Nat) ∧ s 4 = .func (.func g) #[] #[] ∧ T = putR T0 b L ∧ ∃ i j : Nat, s 12 = .int .i64 (i : Nat) ∧ s 13 = .int .i64 (j : Nat) ∧ Part A L1 L lo hi i j ∧ j + 2 - i ≤ q0 ∧ (i ≤ j → ∀ h : i < L.length, ¬ A L[i]) ∧ (i ≤ j → ∀ h : j < L.length, A L[j])) ?_ ?_
    · refine ax_loopx (fun (x : Nat × Nat) s T => s 0 = .slice (some ⟨b, 0, none⟩) L0.length c ∧ s 1 = .int .i64 (lo : Nat) ∧ s 2 = .int .i64 (hi : Nat) ∧ s 4 = .func (.func g) #[] #[] ∧ T = putR T0 b L ∧ s 12 = .int .i64 (x.1 : Nat) ∧ s 13 = .int .i64 (x.2 : Nat) ∧ Part A L1 L lo hi x.1 x.2 ∧ x.2 + 2 - x.1 ≤ q0 ∧ (x.1 ≤ x.2 → ∀ h : x.1 < L.length, ¬ A L[x.1])) (fun x => x.2 + 2 - x.1) (i, j) ?_ ?_
      · simp -implicitDefEqProofs only [go_sem, simprocAttr, s0, s1, s2, s4, si, sj]
        exact ⟨hP0, hq0, hup0⟩
      clear s0 s1 s2 s4 si sj
      rintro ⟨i, j⟩ s T ⟨s0, s1, s2, s4, rfl, si, sj, hP, hq, hup⟩
      simp only at si sj hP hq hup
      simp -implicitDefEqProofs only [go_sem, simprocAttr]
      refine ax_quiet (by kernel_rfl) ?_
      by_cases hij : i ≤ j
      · have hi1 := hP.i1
        have hX : j < L.length := by have := hP.hj; omega
        have hY : lo < L.length := by omega
        obtain ⟨x, hx, r1⟩ := rdF T0 hb hX
        obtain ⟨y, hy, r2⟩ := rdF T0 hb hY
        have hpy : pv = y := by rw [hpve, hy]; exact (hP.pv hY).symm
        have hcm := fun H => hg.call x y (hx ▸ hoL _ (List.getElem_mem hX)) (hy ▸ hoL _ (List.getElem_mem hY)) H
        unfold RR.val rV at hcm
        have g1 : (i : Int) ≤ (j : Int) := by omega
        have m1 : IntKind.i64.wrap ((j : Int) - 1) = ((j - 1 : Nat) : Int) := by rw [w64 (by omega) (by omega)]; have := hP.i1; omega
        have d2 : (0 : Int) ≤ (j : Int) := by omega
        have d3 : (j : Int) < (L0.length : Int) := by omega
        have d4 : (0 : Int) ≤ (lo : Int) := by omega
        have d5 : (lo : Int) < (L0.length : Int) := by omega
        simp -implicitDefEqProofs only [go_sem, simprocAttr, s0, s1, s2, s4, si, sj, aIndexAddr, g1, d2, d3, d4, d5, r1, r2]
        refine wl_callO _ (by simp -implicitDefEqProofs only [go_sem, simprocAttr, s4]) _ (by simp -implicitDefEqProofs only [go_sem, simprocAttr]) (hcm _) ?_
        by_cases hc : z x y < 0
        · simp -implicitDefEqProofs only [go_sem, simprocAttr, wa_cond, axC_t, axC_f, hc, s0, s1, s2, s4, si, sj]
          exact ⟨i, j, rfl, rfl, hP, hq, hup, fun _ h => (by rw [hA, ← hx, hpy]; exact hc)⟩
        · simp -implicitDefEqProofs only [go_sem, simprocAttr, wa_cond, axC_t, axC_f, hc, s0, s1, s2, s4, si, sj, m1]
          exact ⟨(i, j - 1), ⟨rfl, rfl, hP.down hij hX (by rw [hA, ← hx, hpy]; exact hc), by simp only; omega, fun h h' => hup hij h'⟩, by simp only; omega⟩
      · have g1 : ¬ (i : Int) ≤ (j : Int) := by omega
        simp -implicitDefEqProofs only [go_sem, simprocAttr, wa_cond, axC_t, axC_f, s0, s1, s2, s4, si, sj, g1]
        exact ⟨i, j, rfl, rfl, hP, hq, hup, fun h => absurd h hij⟩
    clear s0 s1 s2 s4 si sj
    rintro s T ⟨s0, s1, s2, s4, rfl, i, j, si, sj, hP, hq, hup, hdn⟩
    by_cases hij : i ≤ j
    · have hI : i < L.length := by have := hP.hj; omega
      have hJ : j < L.length := by have := hP.hj; omega
      obtain ⟨x, y, L1', L2, hx, hy, hL2, r1, r2, w1, w2⟩ := swF T0 hb hI hJ
      have hP2 := hP.sw hij hI hJ (hup hij hI) (hdn hij hJ)
      rw [← hL2] at hP2
      have h11 := hP.i1
      have g1 : ¬ (j : Int) < (i : Int) := by omega
      have m1 : IntKind.i64.wrap ((i : Int) + 1) = ((i + 1 : Nat) : Int) := by rw [w64 (by omega) (by omega)]; rfl
      have m2 : IntKind.i64.wrap ((j : Int) - 1) = ((j - 1 : Nat) : Int) := by rw [w64 (by omega) (by omega)]; omega
      have d2 : (0 : Int) ≤ (i : Int) := by omega
      have d3 : (i : Int) < (L0.length : Int) := by omega
      have d4 : (0 : Int) ≤ (j : Int) := by omega
      have d5 : (j : Int) < (L0.length : Int) := by omega
      simp -implicitDefEqProofs only [go_sem, simprocAttr, wa_cond, axC_t, axC_f, s0, s1, s2, s4, si, sj, g1]
      refine ax_loud (by kernel_rfl) ?_
      simp -implicitDefEqProofs only [go_sem, simprocAttr, s0, s1, s2, s4, si, sj, aIndexAddr, d2, d3, d4, d5, r1, r2, w1, w2, m1, m2]
      exact ⟨(i + 1, j - 1), ⟨rfl, rfl, L2, rfl, hP2⟩, by simp only; omega⟩
    · have g1 : (j : Int) < (i : Int) := by omega
      simp -implicitDefEqProofs only [go_sem, simprocAttr, wa_cond, axC_t, axC_f, s0, s1, s2, s4, si, sj, g1]
      exact ⟨i, j, L, rfl, rfl, rfl, hP, by omega⟩
  clear s0 s1 s2 s4 si sj hP2 hI hJ hoL hLl hP hq h11 hq0'
  clear L1' L2 L i j x y q0
  rintro s T ⟨s0, s1, s2, s4, i, j, L, si, sj, rfl, hP, hji⟩
  have hhj := hP.hj
  obtain ⟨x, y, L', L2, r1, r2, w1, w2, f1, f2, f3, f4⟩ := fin i j L hP (by omega)
  have d2 : (0 : Int) ≤ (j : Int) := by omega
  have d3 : (j : Int) < (L0.length : Int) := by omega
  simp -implicitDefEqProofs only [go_sem, simprocAttr]
  refine ax_loud (by kernel_rfl) ?_
  simp -implicitDefEqProofs only [go_sem, simprocAttr, s0, s1, s2, s4, si, sj, aIndexAddr, d2, d3, e2, e3, r1, r2, w1, w2, res184]
  exact ⟨j, false, rfl, L2, rfl, f1, f2, f3, f4⟩
end Go.Proofs.YthhmkaikopdmjaaGreat
set_option maxHeartbeats 400000
namespace Go.Proofs.YthhmkaikopdmjaaGreat
open Go Go.Fw
def PQ (z : RR → RR → Int) (L : List RR) (lo m hi : Nat) : Prop := ∀ p q, lo ≤ p → p ≤ m → m ≤ q → q < hi → p < q → ∀ (h1 : p < L.length) (h2 : q < L.length), Lq z L[p] L[q]
theorem PQ.left {z : RR → RR → Int} {L L' : List RR} {lo m hi : Nat} (h : PQ z L lo m hi) (hw : Within L L' lo m) (hm : m < hi) (hl : hi ≤ L.length) : PQ z L' lo m hi := by
  intro p q g0 g1 g2 g3 g4 h1 h2
  rw [hw.at h2 (.inr (by omega))]
  by_cases e : p = m
  · rw [hw.at h1 (.inr (by omega))]
    exact h p q g0 g1 g2 g3 g4 _ _
  · obtain ⟨p', a1, a2, a3, a4⟩ := hw.from (by omega) g0 (by omega) h1
    rw [a4]
    exact h p' q a1 (by omega) g2 g3 (by omega) _ _
theorem PQ.right {z : RR → RR → Int} {L L' : List RR} {lo m hi : Nat} (h : PQ z L lo m hi) (hw : Within L L' (m + 1) hi) (hl : hi ≤ L.length) : PQ z L' lo m hi := by
  intro p q g0 g1 g2 g3 g4 h1 h2
  rw [hw.at h1 (.inl (by omega))]
  by_cases e : q = m
  · rw [hw.at h2 (.inl (by omega))]
    exact h p q g0 g1 g2 g3 g4 _ _
  · obtain ⟨q', a1, a2, a3, a4⟩ := hw.from hl (by omega) g3 h2
    rw [a4]
    exact h p q' g0 g1 (by omega) a2 (by omega) _ _
theorem pdqG {g : FuncId} {z : RR → RR → Int} {ok : RR → Prop} (hg : Cmp g z ok) {b : Nat} {c : Nat} (n : Nat) : ∀ (T0 : Heap) (L0 : List RR) (lo hi : Nat) (lim : Int), hi - lo ≤ n → OwnR T0 b L0 → (∀ r ∈ L0, ok r) → lo ≤ hi → hi ≤ L0.length → L0.length ≤ 255 → Lb (Lq z) L0 lo hi →
    ∃ L, Sim Tryz.prog 118 #[.slice (some ⟨b, 0, none⟩) L0.length c, .int .i64 (lo : Nat), .int .i64 (hi : Nat), .int .i64 lim, .func (.func g) #[] #[]] T0 (.tuple #[]) (putR T0 b L) ∧ Within L0 L lo hi ∧ SrtTo (Lq z) L lo hi := by
  induction n using Nat.strongRecOn
  rename_i n ih
  intro T0 L0 lo hi lim hn hown hok hlo hhi hlen hlb
  suffices hx : ∃ w H', Sim Tryz.prog 118 #[.slice (some ⟨b, 0, none⟩) L0.length c, .int .i64 (lo : Nat), .int .i64 (hi : Nat), .int .i64 lim, .func (.func g) #[] #[]] T0 w H' ∧ w = .tuple #[] ∧ ∃ L, H' = putR T0 b L ∧ Within L0 L lo hi ∧ SrtTo (Lq z) L lo hi by
    obtain ⟨w, H', h1, rfl, L, rfl, h2⟩ := hx
    exact ⟨L, h1, h2⟩
  have hb := hown.lt
  have hself := putR_self hown
  refine sxA tok mixed Tryz.func118 ?_
  simp -implicitDefEqProofs only [go_sem, simprocAttr]
  refine ax_loopx (fun (x : Nat × Nat) s T => s 0 = .slice (some ⟨b, 0, none⟩) L0.length c ∧ s 1 = .int .i64 (x.1 : Nat) ∧ s 2 = .int .i64 (x.2 : Nat) ∧ s 4 = .func (.func g) #[] #[] ∧ lo ≤ x.1 ∧ x.1 ≤ x.2 ∧ x.2 ≤ hi ∧ ∃ lim wb wp L, s 3 = .int .i64 lim ∧ s 10 = .bool wb ∧ s 11 = .bool wp ∧ T = putR T0 b L ∧ Within L0 L lo hi ∧ Outs (Lq z) L lo hi x.1 x.2) (fun x => x.2 - x.1) (lo, hi) ?_ ?_
  · simp -implicitDefEqProofs only [go_sem, simprocAttr]
    exact ⟨hlo, lim, true, true, L0, rfl, rfl, rfl, hself.symm, .refl _ _ _, .start _ _ _⟩
  clear hself
  rintro ⟨a, e⟩ s T ⟨s0, s1, s2, s4, ha, hae, he, lim1, wb, wp, L, s3, s10, s11, rfl, hw, hout⟩
  simp only at s1 s2 ha hae he hout
  have hLl := hw.len
  have hoL := hw.oks hok
  have ho := putR_own T0 L hb
  have hlbL := (hlb.within hw (Nat.le_refl _) (Nat.le_refl _) hlo hhi).sub hout ha he hae
  have m0 : IntKind.i64.wrap ((e : Int) - (a : Int)) = ((e - a : Nat) : Int) := by rw [w64 (by omega) (by omega)]; omega
  by_cases h12 : e - a ≤ 12
  · have g1 : ((e - a : Nat) : Int) ≤ 12 := by omega
    obtain ⟨L2, o, hw2, hs2⟩ := insertionG hg (putR T0 b L) (c := c) (lo := a) (hi := e) ho hoL hae (by omega) (by omega)
    rw [putR_put, hLl] at o
    simp -implicitDefEqProofs only [go_sem, simprocAttr, wa_cond, axC_t, axC_f, s0, s1, s2, s3, s4, m0, g1]
    refine kl o ?_
    simp -implicitDefEqProofs only [go_sem, simprocAttr]
    exact ⟨rfl, L2, rfl, hw.trans (hw2.mono ha he), (hout.within hw2 ha he (Nat.le_refl _) (Nat.le_refl _) hae (by omega)).srt hs2⟩
  have g1 : ¬ ((e - a : Nat) : Int) ≤ 12 := by omega
  by_cases hl0 : lim1 = 0
  · obtain ⟨L2, o, hw2, hs2⟩ := heapG hg (putR T0 b L) (c := c) (lo := a) (hi := e) ho hoL (by omega) (by omega) (by omega)
    rw [putR_put, hLl] at o
    simp -implicitDefEqProofs only [go_sem, simprocAttr, wa_cond, axC_t, axC_f, s0, s1, s2, s3, s4, m0, g1, hl0]
    refine kl o ?_
    simp -implicitDefEqProofs only [go_sem, simprocAttr]
    exact ⟨rfl, L2, rfl, hw.trans (hw2.mono ha he), (hout.within hw2 ha he (Nat.le_refl _) (Nat.le_refl _) hae (by omega)).srt hs2⟩
  simp -implicitDefEqProofs only [go_sem, simprocAttr, s0, s1, s2, s3, s4, s10, s11, m0, g1]
  refine ax_cond2 ?_
  simp only [ev_tmp, ev_const, ev_func, upd_at, put_some, put_none, bndB_bool, Nat.reduceEqDiff, if_true, if_false, ↓reduceIte, reduceCtorEq]
  refine ⟨fun hc => hc.elim, fun _ => ?_⟩
  simp -implicitDefEqProofs only [go_sem, simprocAttr, s0, s1, s2, s3, s4, s10, s11, hl0]
  refine ax_cond2 ?_
  simp only [ev_tmp, ev_const, ev_func, upd_at, put_some, put_none, bndB_bool, Nat.reduceEqDiff, if_true, if_false, ↓reduceIte, reduceCtorEq]
  refine ⟨fun hc => hc.elim, fun _ => ?_⟩
  simp -implicitDefEqProofs only [go_sem, simprocAttr, s0, s1, s2, s3, s4, s10, s11]
  apply shareK (M := fun s T => s 0 = .slice (some ⟨b, 0, none⟩) L0.length c ∧ s 1 = .int .i64 (a : Nat) ∧ s 2 = .int .i64 (e : Nat) ∧ s 4 = .func (.func g) #[] #[] ∧ s 12 = .int .i64 ((e - a : Nat) : Int) ∧ ∃ lim wb wp L, s 3 = .int .i64 lim ∧ s 10 = .bool wb ∧ s 11 = .bool wp ∧ T = putR T0 b L ∧ Within L0 L lo hi ∧ Outs (Lq z) L lo hi a e)
  · intro hrest
    cases wb with
    | true =>
      refine ax_mid _ ?_ hrest
      simp -implicitDefEqProofs only [go_sem, simprocAttr, wa_cond, axC_t, axC_f, s0, s1, s2, s3, s4, s10, s11]
      exact ⟨lim1, true, wp, L, rfl, rfl, rfl, rfl, hw, hout⟩
    | false =>
      obtain ⟨L2, o, hw2⟩ := breakG (putR T0 b L) (f := .func (.func g) #[] #[]) (c := c) (lo := a) (hi := e) ho (by omega) (by omega) (by omega)
      rw [putR_put, hLl] at o
      refine ax_mid _ ?_ hrest
      simp -implicitDefEqProofs only [go_sem, simprocAttr, wa_cond, axC_t, axC_f, s0, s1, s2, s3, s4, s10, s11]
      refine kl o ?_
      simp -implicitDefEqProofs only [go_sem, simprocAttr, s0, s1, s2, s3, s4, s10, s11]
      exact ⟨_, false, wp, L2, rfl, rfl, rfl, rfl, hw.trans (hw2.mono ha he), hout.within hw2 ha he (Nat.le_refl _) (Nat.le_refl _) hae (by omega)⟩
  clear s0 s1 s2 s3 s4
  rintro s T ⟨s0, s1, s2, s4, s12, lim1, wb, wp, L, s3, s10, s11, rfl, hw, hout⟩
  have hLl := hw.len
  have hoL := hw.oks hok
  have ho := putR_own T0 L hb
  obtain ⟨p, h, op, hp1, hp2⟩ := pivotG hg (putR T0 b L) (c := c) (lo := a) (hi := e) ho hoL (by omega) (by omega) (by omega)
  rw [hLl] at op
  simp -implicitDefEqProofs only [go_sem, simprocAttr, s0, s1, s2, s3, s4, s10, s11]
  refine kl op ?_
  simp -implicitDefEqProofs only [go_sem, simprocAttr, s0, s1, s2, s3, s4, s10, s11]
  apply shareK (M := fun s T => s 0 = .slice (some ⟨b, 0, none⟩) L0.length c ∧ s 1 = .int .i64 (a : Nat) ∧ s 2 = .int .i64 (e : Nat) ∧ s 4 = .func (.func g) #[] #[] ∧ s 12 = .int .i64 ((e - a : Nat) : Int) ∧ s 3 = .int .i64 lim1 ∧ s 10 = .bool wb ∧ s 11 = .bool wp ∧ ∃ (p : Nat) (h : Int) (L : List RR), s 13 = .int .i64 (p : Nat) ∧ s 14 = .int .i64 h ∧ a ≤ p ∧ p < e ∧ T = putR T0 b L ∧ Within L0 L lo hi ∧ Outs (Lq z) L lo hi a e)
  · intro hrest
    by_cases hh : h = 2
    · obtain ⟨L2, o, hw2⟩ := reverseG (putR T0 b L) (f := .func (.func g) #[] #[]) (c := c) (lo := a) (hi := e) ho (by omega) (by omega) (by omega)
      rw [putR_put, hLl] at o
      have m1 : IntKind.i64.wrap ((e : Int) - 1) = ((e - 1 : Nat) : Int) := by rw [w64 (by omega) (by omega)]; omega
      have m2 : IntKind.i64.wrap ((p : Int) - (a : Int)) = ((p - a : Nat) : Int) := by rw [w64 (by omega) (by omega)]; omega
      have m3 : IntKind.i64.wrap (((e - 1 : Nat) : Int) - ((p - a : Nat) : Int)) = ((e - 1 - (p - a) : Nat) : Int) := by rw [w64 (by omega) (by omega)]; omega
      simp -implicitDefEqProofs only [go_sem, simprocAttr, hh]
      refine ax_mid _ ?_ hrest
      simp -implicitDefEqProofs only [go_sem, simprocAttr, wa_cond, axC_t, axC_f, s0, s1, s2, s3, s4, s10, s11, s12]
      refine kl o ?_
      simp -implicitDefEqProofs only [go_sem, simprocAttr, s0, s1, s2, s3, s4, s10, s11, s12, m1, m2, m3]
      exact ⟨_, 1, L2, rfl, rfl, by omega, by omega, rfl, hw.trans (hw2.mono ha he), hout.within hw2 ha he (Nat.le_refl _) (Nat.le_refl _) hae (by omega)⟩
    · simp -implicitDefEqProofs only [go_sem, simprocAttr, hh]
      refine ax_mid _ ?_ hrest
      simp -implicitDefEqProofs only [go_sem, simprocAttr, wa_cond, axC_t, axC_f, s0, s1, s2, s3, s4, s10, s11, s12]
      exact ⟨p, h, L, rfl, rfl, hp1, hp2, rfl, hw, hout⟩
  clear s0 s1 s2 s3 s4 s10 s11 s12 op
  rintro s T ⟨s0, s1, s2, s4, s12, s3, s10, s11, p, h, L, s13, s14, hp1, hp2, rfl, hw, hout⟩
  have hLl := hw.len
  have hoL := hw.oks hok
  have ho := putR_own T0 L hb
  have hlbL := (hlb.within hw (Nat.le_refl _) (Nat.le_refl _) hlo hhi).sub hout ha he hae
  simp -implicitDefEqProofs only [go_sem, simprocAttr, s0, s1, s2, s3, s4, s10, s11]
  apply shareK (M := fun s T => s 0 = .slice (some ⟨b, 0, none⟩) L0.length c ∧ s 1 = .int .i64 (a : Nat) ∧ s 2 = .int .i64 (e : Nat) ∧ s 4 = .func (.func g) #[] #[] ∧ s 12 = .int .i64 ((e - a : Nat) : Int) ∧ s 3 = .int .i64 lim1 ∧ s 10 = .bool wb ∧ s 11 = .bool wp ∧ s 13 = .int .i64 (p : Nat) ∧ ∃ (L : List RR), T = putR T0 b L ∧ Within L0 L lo hi ∧ Outs (Lq z) L lo hi a e)
  · intro hrest
    have idle : Within L0 L lo hi ∧ Outs (Lq z) L lo hi a e := ⟨hw, hout⟩
    cases wb with
    | false =>
      simp -implicitDefEqProofs only [go_sem, simprocAttr, s11]
      refine ax_mid _ ?_ hrest
      simp -implicitDefEqProofs only [go_sem, simprocAttr, wa_cond, axC_t, axC_f, s0, s1, s2, s3, s4, s10, s11, s12, s13]
      exact ⟨L, rfl, idle⟩
    | true =>
      cases wp with
      | false =>
        simp -implicitDefEqProofs only [go_sem, simprocAttr, s11]
        refine ax_mid _ ?_ hrest
        simp -implicitDefEqProofs only [go_sem, simprocAttr, wa_cond, axC_t, axC_f, s0, s1, s2, s3, s4, s10, s11, s12, s13]
        exact ⟨L, rfl, idle⟩
      | true =>
        by_cases hh : h = 1
        · obtain ⟨L2, t, o, hw2, hs2⟩ := partialG hg (putR T0 b L) (c := c) (lo := a) (hi := e) ho hoL (by omega) (by omega) (by omega) hlbL
          rw [putR_put, hLl] at o
          have hww := hw.trans (hw2.mono ha he)
          have hout2 := hout.within hw2 ha he (Nat.le_refl _) (Nat.le_refl _) hae (by omega)
          simp -implicitDefEqProofs only [go_sem, simprocAttr, s11, s14, hh]
          refine ax_mid _ ?_ hrest
          simp -implicitDefEqProofs only [go_sem, simprocAttr, wa_cond, axC_t, axC_f, s0, s1, s2, s3, s4, s10, s11, s12, s13]
          refine kl o ?_
          cases t with
          | true =>
            simp -implicitDefEqProofs only [go_sem, simprocAttr, wa_cond, axC_t, axC_f, s0, s1, s2, s3, s4, s10, s11, s12, s13]
            exact ⟨rfl, L2, rfl, hww, hout2.srt (hs2 rfl)⟩
          | false =>
            simp -implicitDefEqProofs only [go_sem, simprocAttr, wa_cond, axC_t, axC_f, s0, s1, s2, s3, s4, s10, s11, s12, s13]
            exact ⟨L2, rfl, hww, hout2⟩
        · simp -implicitDefEqProofs only [go_sem, simprocAttr, s11, s14, hh]
          refine ax_mid _ ?_ hrest
          simp -implicitDefEqProofs only [go_sem, simprocAttr, wa_cond, axC_t, axC_f, s0, s1, s2, s3, s4, s10, s11, s12, s13]
          exact ⟨L, rfl, idle⟩
  clear s0 s1 s2 s3 s4 s10 s11 s12 s13 s14
  rintro s T ⟨s0, s1, s2, s4, s12, s3, s10, s11, s13, L, rfl, hw, hout⟩
  have hLl := hw.len
  have hoL := hw.oks hok
  have ho := putR_own T0 L hb
  have hlbL := (hlb.within hw (Nat.le_refl _) (Nat.le_refl _) hlo hhi).sub hout ha he hae
  have hP : p < L.length := by omega
  simp -implicitDefEqProofs only [go_sem, simprocAttr]
  refine ax_quiet (by kernel_rfl) ?_
  apply shareK (M := fun s T => s 0 = .slice (some ⟨b, 0, none⟩) L0.length c ∧ s 1 = .int .i64 (a : Nat) ∧ s 2 = .int .i64 (e : Nat) ∧ s 4 = .func (.func g) #[] #[] ∧ s 12 = .int .i64 ((e - a : Nat) : Int) ∧ s 3 = .int .i64 lim1 ∧ s 10 = .bool wb ∧ s 11 = .bool wp ∧ s 13 = .int .i64 (p : Nat) ∧ T = putR T0 b L)
  · intro hrest
    by_cases ha0 : a = 0
    · have g2 : ¬ (0 : Int) < (a : Int) := by omega
      simp -implicitDefEqProofs only [go_sem, simprocAttr, s0, s1, s2, s3, s4, s10, s11, s12, s13, g2]
      refine ax_mid _ ?_ hrest
      simp -implicitDefEqProofs only [go_sem, simprocAttr, wa_cond, axC_t, axC_f, s0, s1, s2, s3, s4, s10, s11, s12, s13]
    have g2 : (0 : Int) < (a : Int) := by omega
    have hI : a - 1 < L.length := by omega
    obtain ⟨x, hx, r1⟩ := rdF T0 hb hI
    obtain ⟨y, hy, r2⟩ := rdF T0 hb hP
    have hcm := fun H => hg.call x y (hx ▸ hoL _ (List.getElem_mem hI)) (hy ▸ hoL _ (List.getElem_mem hP)) H
    unfold RR.val rV at hcm
    have m1 : IntKind.i64.wrap ((a : Int) - 1) = ((a - 1 : Nat) : Int) := by rw [w64 (by omega) (by omega)]; omega
    have d2 : (0 : Int) ≤ ((a - 1 : Nat) : Int) := by omega
    have d3 : ((a - 1 : Nat) : Int) < (L0.length : Int) := by omega
    have d4 : (0 : Int) ≤ (p : Int) := by omega
    have d5 : (p : Int) < (L0.length : Int) := by omega
    simp -implicitDefEqProofs only [go_sem, simprocAttr, s0, s1, s2, s3, s4, s10, s11, s12, s13, g2, aIndexAddr, m1, d2, d3, d4, d5, r1, r2]
    refine wl_callO _ (by simp -implicitDefEqProofs only [go_sem, simprocAttr, s4]) _ (by simp -implicitDefEqProofs only [go_sem, simprocAttr]) (hcm _) ?_
    by_cases hc : z x y < 0
    · simp -implicitDefEqProofs only [go_sem, simprocAttr, hc]
      refine ax_mid _ ?_ hrest
      simp -implicitDefEqProofs only [go_sem, simprocAttr, wa_cond, axC_t, axC_f, s0, s1, s2, s3, s4, s10, s11, s12, s13]
    · obtain ⟨L2, m, o, hw2, hm1, hm2, hY, hP', hpv, hle⟩ := equalG hg (putR T0 b L) (c := c) (lo := a) (hi := e) (p := p) ho hoL (by omega) (by omega) (by omega) hp1 hp2
      rw [putR_put, hLl] at o
      have hww := hw.trans (hw2.mono ha he)
      have hout2 := hout.within hw2 ha he (Nat.le_refl _) (Nat.le_refl _) hae (by omega)
      have hl2 := hw2.len
      have hoL2 := hw2.oks hoL
      have hlb2 := (hlb.within hww (Nat.le_refl _) (Nat.le_refl _) hlo hhi).sub hout2 ha he hae
      have e1 : L2[a - 1]'(by omega) = x := by rw [hw2.at (by omega) (.inl (by omega)), ← hx]
      have e2 : L2[a] = y := by rw [hpv, ← hy]
      have hout3 : Outs (Lq z) L2 lo hi m e := hout2.equal (by omega) (fun p' q' g0 g1 g3 g4 h1 h2 => by
        have k1 := hle p' g0 g1 h1
        have k2 : Lq z L2[a] (L2[a - 1]'(by omega)) := by unfold Lq; rw [e1, e2]; exact hc
        have k3 := hlb2 (a - 1) q' (by omega) (by omega) g4 (by omega) h2
        have q1 := hg.tr _ _ _ (hoL2 _ (List.getElem_mem h1)) (hoL2 _ (List.getElem_mem hY)) (hoL2 _ (List.getElem_mem (show a - 1 < L2.length by omega))) k1 k2
        exact hg.tr _ _ _ (hoL2 _ (List.getElem_mem h1)) (hoL2 _ (List.getElem_mem (show a - 1 < L2.length by omega))) (hoL2 _ (List.getElem_mem h2)) q1 k3)
      simp -implicitDefEqProofs only [go_sem, simprocAttr, hc]
      refine ax_mid _ ?_ hrest
      simp -implicitDefEqProofs only [go_sem, simprocAttr, wa_cond, axC_t, axC_f, s0, s1, s2, s3, s4, s10, s11, s12, s13]
      refine kl o ?_
      simp -implicitDefEqProofs only [go_sem, simprocAttr, s0, s1, s2, s3, s4, s10, s11, s12, s13]
      exact ⟨(m, e), ⟨rfl, rfl, by omega, by omega, he, lim1, wb, wp, L2, rfl, rfl, rfl, rfl, hww, hout3⟩, by simp only; omega⟩
  clear s0 s1 s2 s3 s4 s10 s11 s12 s13
  rintro s T ⟨s0, s1, s2, s4, s12, s3, s10, s11, s13, rfl⟩
  obtain ⟨L2, m, t, o, hw2, hm1, hm2, hpq⟩ := partG hg (putR T0 b L) (c := c) (lo := a) (hi := e) (p := p) ho hoL (by omega) (by omega) (by omega) hp1 hp2
  rw [putR_put, hLl] at o
  have hpq : PQ z L2 a m e := hpq
  have hww := hw.trans (hw2.mono ha he)
  have hout2 := hout.within hw2 ha he (Nat.le_refl _) (Nat.le_refl _) hae (by omega)
  have hl2 := hw2.len
  have hoL2 := hw2.oks hoL
  have hlb2 := (hlb.within hww (Nat.le_refl _) (Nat.le_refl _) hlo hhi).sub hout2 ha he hae
  have m1 : IntKind.i64.wrap ((m : Int) - (a : Int)) = ((m - a : Nat) : Int) := by rw [w64 (by omega) (by omega)]; omega
  have m2 : IntKind.i64.wrap ((e : Int) - (m : Int)) = ((e - m : Nat) : Int) := by rw [w64 (by omega) (by omega)]; omega
  have m3 : IntKind.i64.wrap ((m : Int) + 1) = ((m + 1 : Nat) : Int) := by rw [w64 (by omega) (by omega)]; rfl
  simp -implicitDefEqProofs only [go_sem, simprocAttr, s0, s1, s2, s3, s4, s10, s11, s12, s13]
  refine kl o ?_
  by_cases hlt : m - a < e - m
  · have g2 : ((m - a : Nat) : Int) < ((e - m : Nat) : Int) := by omega
    have hlb3 : Lb (Lq z) L2 a m := fun p' q' h0 h1 h2 h3 h4 => hlb2 p' q' h0 h1 (by omega) h3 h4
    obtain ⟨L3, o3, hw3, hs3⟩ := ih (m - a) (by omega) (putR T0 b L2) L2 a m lim1 (Nat.le_refl _) (putR_own T0 L2 hb) hoL2 hm1 (by omega) (by omega) hlb3
    rw [putR_put, hl2, hLl] at o3
    have hww3 := hww.trans (hw3.mono (show lo ≤ a by omega) (show m ≤ hi by omega))
    have hout3 := (hout2.within hw3 ha he (Nat.le_refl _) (by omega) hm1 (by omega)).left hs3 hm2 (hpq.left hw3 hm2 (by omega))
    simp -implicitDefEqProofs only [go_sem, simprocAttr, wa_cond, axC_t, axC_f, s0, s1, s2, s3, s4, s10, s11, s12, s13, m1, m2, g2]
    refine wl_callF _ (by simp -implicitDefEqProofs only [go_sem, simprocAttr, s3, s4]) o3 (fun h => by cases h) ?_
    simp -implicitDefEqProofs only [go_sem, simprocAttr, s0, s1, s2, s3, s4, s10, s11, s12, s13, m3]
    exact ⟨(m + 1, e), ⟨rfl, rfl, by omega, by simp only; omega, he, lim1, _, t, L3, rfl, rfl, rfl, rfl, hww3, hout3⟩, by simp only; omega⟩
  · have g2 : ¬ ((m - a : Nat) : Int) < ((e - m : Nat) : Int) := by omega
    have hlb3 : Lb (Lq z) L2 (m + 1) e := fun p' q' h0 h1 h2 h3 h4 => by
      by_cases k : p' < a
      · exact hlb2 p' q' k (by omega) h2 h3 h4
      · exact hpq p' q' (by omega) (by omega) (by omega) h2 (by omega) h3 h4
    obtain ⟨L3, o3, hw3, hs3⟩ := ih (e - (m + 1)) (by omega) (putR T0 b L2) L2 (m + 1) e lim1 (Nat.le_refl _) (putR_own T0 L2 hb) hoL2 (by omega) (by omega) (by omega) hlb3
    rw [putR_put, hl2, hLl] at o3
    have hww3 := hww.trans (hw3.mono (show lo ≤ m + 1 by omega) he)
    have hout3 := (hout2.within hw3 ha he (by omega) (Nat.le_refl _) (by omega) (by omega)).right hs3 hm1 (hpq.right hw3 (by omega))
    simp -implicitDefEqProofs only [go_sem, simprocAttr, wa_cond, axC_t, axC_f, s0, s1, s2, s3, s4, s10, s11, s12, s13, m1, m2, m3, g2]
    refine wl_callF _ (by simp -implicitDefEqProofs only [go_sem, simprocAttr, s3, s4]) o3 (fun h => by cases h) ?_
    simp -implicitDefEqProofs only [go_sem, simprocAttr, s0, s1, s2, s3, s4, s10, s11, s12, s13, m3]
    exact ⟨(a, m), ⟨rfl, rfl, ha, hm1, by omega, lim1, _, t, L3, rfl, rfl, rfl, rfl, hww3, hout3⟩, by simp only; omega⟩
end Go.Proofs.YthhmkaikopdmjaaGreat
namespace Go.Proofs.YthhmkaikopdmjaaGreat
open Go Go.Fw
theorem cmpOk {k : Nat} (hk : k ≤ 19000) : Cmp 54 cmpS (fun r => r.le k ∧ r.err = 0) := by
  refine ⟨fun a b ha hb H => compareS H ha.1 hb.1 hk, fun a b c ha hb hc h1 h2 h3 => ?_, fun a b ha hb h1 h2 => ?_⟩
  · rw [cmpS_ok hb.2 ha.2] at h1
    rw [cmpS_ok hc.2 hb.2] at h2
    rw [cmpS_ok hc.2 ha.2] at h3
    exact RR.tot.trans a b c ha.2 hb.2 hc.2 h1 h2 h3
  · rw [cmpS_ok ha.2 hb.2] at h1
    rw [cmpS_ok hb.2 ha.2] at h2
    exact RR.lt_leq ha.2 hb.2 h1 h2
theorem Lq_leq {a b : RR} (ha : a.err = 0) (hb : b.err = 0) (h : Lq cmpS a b) : RR.leq a b := by
  unfold Lq at h
  rw [cmpS_ok hb ha] at h
  exact h
theorem sort255 (T0 : Heap) {b : Nat} {L0 : List RR} {k c : Nat} (hown : OwnR T0 b L0) (hle : ∀ r ∈ L0, r.le k) (hk : k ≤ 19000) (hok : ∀ r ∈ L0, r.err = 0) (h255 : L0.length ≤ 255) :
    ∃ L, Sim Tryz.prog 67 #[.slice (some ⟨b, 0, none⟩) L0.length c, .func (.func 54) #[] #[]] T0 (.tuple #[]) (putR T0 b L) ∧ L.Perm L0 ∧ L.Pairwise RR.leq := by
  obtain ⟨L, o1, hw, hs⟩ := pdqG (cmpOk hk) (c := c) L0.length T0 L0 0 L0.length (bitLen L0.length : Nat) (by omega) hown (fun r hr => ⟨hle r hr, hok r hr⟩) (Nat.zero_le _) (Nat.le_refl _) h255 (fun p q h0 => absurd h0 (by omega))
  refine ⟨L, ?_, hw.perm, ?_⟩
  · have e1 : aLen tt [22] (.slice (some ⟨b, 0, none⟩) L0.length c) = some (.int .i64 (L0.length : Nat)) := rfl
    have o2 := fun H => len_sim H (x := L0.length) (by omega)
    have c1 : IntKind.u64.wrap (L0.length : Int) = (L0.length : Int) := wu64n (by omega)
    refine soA tok mixed Tryz.func67 ?_
    simp -implicitDefEqProofs only [go_sem, simprocAttr, e1, aConv, c1]
    refine kv (o2 _) ?_
    simp -implicitDefEqProofs only [go_sem, simprocAttr]
    refine kl o1 ?_
    simp -implicitDefEqProofs only [go_sem, simprocAttr]
    first | rfl | exact ⟨[], rfl, rfl, rfl⟩
  · have hokL := hw.oks hok
    have hs : SrtTo (Lq cmpS) L 0 L.length := by rw [hw.len]; exact hs
    rw [List.pairwise_iff_getElem]
    intro p q hp hq hpq
    exact Lq_leq (hokL _ (List.getElem_mem hp)) (hokL _ (List.getElem_mem hq)) (hs p q (Nat.zero_le _) hpq hq hp hq)
theorem RefineL (H : Heap) {v : Value} {l : List RR} {k : Nat} (hv : RL H v l) (hle : ∀ r ∈ l, r.le k) (hk : k ≤ 80) (ho : Ord l) (h2 : 2 ≤ l.length) (h32 : l.length ≤ 32) :
    ∃ w H', Sim Tryz.prog 26 #[v] H w H' ∧ Ext H H' ∧ ∃ b L, H.length ≤ b ∧ w = .tuple #[.slice (some ⟨b, 0, none⟩) (2 * l.length) 0, .int .i64 0] ∧ OwnR H' b L ∧ L.Perm (l ++ midsTo l l.length) ∧ L.Pairwise RR.leq :=
  RefineG H hv hle hk ho h2 h32 fun T b L0 h1 h2 h3 h4 => sort255 T h1 h2 (by omega) h3 (by omega)
end Go.Proofs.YthhmkaikopdmjaaGreat
namespace Go.Proofs.YthhmkaikopdmjaaGreat
open Go Go.Fw
theorem trimR (H : Heap) (m : List UInt8) : Sim Tryz.prog 225 #[.string (bs m)] H (.string (bs (dropZ m))) H := by
  refine soA tok mixed Tryz.func225 ?_
  simp -implicitDefEqProofs only [go_sem, simprocAttr, -Int.reducePow, -Nat.reducePow]
  refine ax_loopx (fun (l : List UInt8) s H' => s 0 = .string (bs l) ∧ dropZ l = dropZ m ∧ H' = H) List.length m ?_ ?_
  · simp -implicitDefEqProofs only [go_sem, simprocAttr, -Int.reducePow, -Nat.reducePow]
  rintro l s T ⟨h0, hl, rfl⟩
  cases l with
  | nil =>
    have e : ¬ (0 : Int) < (0 : Int) := by omega
    simp -implicitDefEqProofs only [go_sem, simprocAttr, -Int.reducePow, -Nat.reducePow, wa_cond, axC_t, axC_f, h0, aLen, e, res225]
    rw [← hl]; rfl
  | cons b l =>
    have e : (0 : Int) < ((l.length + 1 : Nat) : Int) := by omega
    by_cases hb : b = 0
    · subst hb
      simp -implicitDefEqProofs only [go_sem, simprocAttr, -Int.reducePow, -Nat.reducePow, wa_cond, axC_t, axC_f, h0, aLen, e, aSlice, bnd, u8_zero, show ((0 : UInt8).toNat : Int) = 0 from rfl]
      refine ⟨l, ⟨?_, ?_⟩, by simp⟩
      · simp
      · rw [← hl]; rfl
    · have hb2 : ¬ ((b.toNat : Int) = 0) := fun h => hb (u8_zero.1 h)
      simp -implicitDefEqProofs only [go_sem, simprocAttr, -Int.reducePow, -Nat.reducePow, wa_cond, axC_t, axC_f, h0, aLen, e, hb2, res225]
      rw [← hl]
      simp [dropZ, hb]
theorem canon_mk (g : Bool) (m : List UInt8) : mkI (ival g m) = iV (g && decide (dropZ m ≠ [])) (dropZ m) := by
  unfold mkI
  rw [ival_abs, ← digB_strip]
  congr 1
  unfold ival
  by_cases h : valB m = 0
  · have : dropZ m = [] := by rw [digB_strip, h, digB_zero]
    cases g <;> simp [h, this]
  · have : dropZ m ≠ [] := fun hd => h (by rw [← valB_drop, hd]; rfl)
    cases g <;> simp [this] <;> omega
theorem canonR (H : Heap) (g : Bool) (m : List UInt8) : Sim Tryz.prog 220 #[iV g m] H (mkI (ival g m)) H := by
  refine flat_ex rfl ?_
  have o1 := fun H => trimR H m
  rw [canon_mk]
  unfold iV
  refine sxA tok mixed Tryz.func220 ?_
  simp -implicitDefEqProofs only [go_sem, simprocAttr, -Int.reducePow, -Nat.reducePow]
  cases m with
  | nil =>
    have e : ¬ (0 : Int) < (0 : Int) := by omega
    simp -implicitDefEqProofs only [go_sem, simprocAttr, -Int.reducePow, -Nat.reducePow, wa_cond, axC_t, axC_f, aLen, e]
    refine kv (o1 _) ?_
    have e2 : dropZ [] = [] := rfl
    rw [e2]
    cases g <;> simp -implicitDefEqProofs only [go_sem, simprocAttr, -Int.reducePow, -Nat.reducePow, res220] <;> first | exact .app _ _ | exact ⟨.app _ _, rfl⟩
  | cons b l =>
    have e : (0 : Int) < ((l.length + 1 : Nat) : Int) := by omega
    by_cases hb : b = 0
    · have hb2 : ((b.toNat : Int) = 0) := u8_zero.2 hb
      have hne : (bs (dropZ (b :: l)) = bs []) ↔ dropZ (b :: l) = [] := bs_inj
      simp -implicitDefEqProofs only [go_sem, simprocAttr, -Int.reducePow, -Nat.reducePow, wa_cond, axC_t, axC_f, aLen, e, hb2]
      refine kv (o1 _) ?_
      cases g <;> simp -implicitDefEqProofs only [go_sem, simprocAttr, -Int.reducePow, -Nat.reducePow, hne, res220] <;> first | exact .app _ _ | exact ⟨.app _ _, rfl⟩
    · have hb2 : ¬ ((b.toNat : Int) = 0) := fun h => hb (u8_zero.1 h)
      have hd : dropZ (b :: l) = b :: l := by simp [dropZ, hb]
      simp -implicitDefEqProofs only [go_sem, simprocAttr, -Int.reducePow, -Nat.reducePow, wa_cond, axC_t, axC_f, aLen, e, hb2, hd, res220]
      cases g <;> first | exact .app _ _ | exact ⟨.app _ _, rfl⟩
theorem smallR (H : Heap) {m : List UInt8} (hm : m.length ≤ 7) : Sim Tryz.prog 227 #[.string (bs m)] H (.int .i64 (valB m : Nat)) H := by
  refine soA tok mixed Tryz.func227 ?_
  simp -implicitDefEqProofs only [go_sem, simprocAttr, -Int.reducePow, -Nat.reducePow, aLen]
  refine ax_loopx (fun (i : Nat) s T => s 0 = .string (bs m) ∧ s 3 = .int .i64 (valB (m.take i) : Nat) ∧ s 4 = .int .i64 (i : Nat) ∧ i ≤ m.length ∧ T = H) (fun i => m.length - i) 0 ?_ ?_
  · simp -implicitDefEqProofs only [go_sem, simprocAttr, -Int.reducePow, -Nat.reducePow]
    trivial
  rintro i s T ⟨h0, h3, h4, hi, hT⟩
  subst T
  simp -implicitDefEqProofs only [go_sem, simprocAttr, -Int.reducePow, -Nat.reducePow, h0, h4, aLen]
  refine ax_cond2 ?_
  simp only [ev_tmp, ev_const, ev_func, upd_at, put_some, put_none, bndB_bool, Nat.reduceEqDiff, if_true, if_false, ↓reduceIte, reduceCtorEq]
  refine ⟨fun hc0 => have hlt := of_decide_eq_true hc0; ?_, fun hc0 => have hlt := of_decide_eq_false hc0; ?_⟩
  · have hil : i < m.length := by omega
    have hg : m[i]? = some m[i] := List.getElem?_eq_getElem hil
    have hts := valB_take_succ hil
    have hvl := valB_take_lt m i
    have hvl2 := valB_take_lt m (i + 1)
    have hm1 := pow256_le (i := i) (by omega)
    have hm2 := pow256_le (i := i + 1) (by omega)
    have hb : m[i].toNat < 256 := UInt8.toNat_lt _
    generalize m[i] = x at *
    generalize valB (m.take i) = n at *
    have a1 : IntKind.i64.wrap ((n : Int) * 2 ^ 8) = ((n * 2 ^ 8 : Nat) : Int) := by
      rw [show ((n : Int) * 2 ^ 8) = ((n * 2 ^ 8 : Nat) : Int) by simp, w64n (by omega)]
    have a2 := w64n (n := x.toNat) (by omega)
    have a3 := or_i64 (a := n * 2 ^ 8) (b := x.toNat) (by omega) (by omega)
    have a4 : n * 2 ^ 8 ||| x.toNat = valB (m.take (i + 1)) := by rw [Nat.or_comm, or_add (by omega), hts]; omega
    rw [a4] at a3
    have a5 : IntKind.i64.wrap ((i : Int) + 1) = ((i + 1 : Nat) : Int) := by rw [w64 (by omega) (by omega)]; rfl
    have h8 : ¬ ((8 : Int) < 0) := by omega
    have hnn : (0 : Int) ≤ (i : Int) := by omega
    simp -implicitDefEqProofs only [go_sem, simprocAttr, -Int.reducePow, -Nat.reducePow, h0, h3, h4, hg, aConv, a1, a2, a3, a5, h8, hnn, show min 8 64 = 8 from rfl]
    exact ⟨i + 1, ⟨rfl, rfl, by omega⟩, by omega⟩
  · have hil : i = m.length := by omega
    subst hil
    rw [List.take_length] at h3
    simp -implicitDefEqProofs only [go_sem, simprocAttr, -Int.reducePow, -Nat.reducePow, h3, res227]
theorem valueR (H : Heap) (g : Bool) {m : List UInt8} (hm : m.length ≤ 7) : Sim Tryz.prog 221 #[iV g m] H (.int .i64 (ival g m)) H := by
  refine flat_ex rfl ?_
  have o1 := fun H => smallR H hm
  have hv := valB_lt m
  have hp := pow256_le (i := m.length) (by omega)
  have a1 : IntKind.i64.wrap (0 - (valB m : Int)) = -(valB m : Int) := by rw [w64 (by omega) (by omega)]; omega
  unfold iV ival
  refine sxA tok mixed Tryz.func221 ?_
  cases g
  · simp -implicitDefEqProofs only [go_sem, simprocAttr, -Int.reducePow, -Nat.reducePow, wa_cond, axC_t, axC_f]
    refine kv (o1 _) ?_
    simp -implicitDefEqProofs only [go_sem, simprocAttr, -Int.reducePow, -Nat.reducePow, res221]
    first | exact .app _ _ | exact ⟨.app _ _, rfl⟩
  · simp -implicitDefEqProofs only [go_sem, simprocAttr, -Int.reducePow, -Nat.reducePow, wa_cond, axC_t, axC_f]
    refine kv (o1 _) ?_
    simp -implicitDefEqProofs only [go_sem, simprocAttr, -Int.reducePow, -Nat.reducePow, a1, res221]
    first | exact .app _ _ | exact ⟨.app _ _, rfl⟩
end Go.Proofs.YthhmkaikopdmjaaGreat
namespace Go.Proofs.YthhmkaikopdmjaaGreat
open Go Go.Fw
theorem bs_list (l : List UInt8) : (bs l).toList = l := Go.ByteArray.toList_eq (bs l)
theorem bytesLess_val : ∀ (l m : List UInt8), l.length = m.length → Op.bytesLess l m = decide (valB l < valB m) := by
  intro l
  induction l with
  | nil =>
    intro m h
    have : m = [] := by simpa using h.symm
    subst this; rfl
  | cons a l ih =>
    intro m h
    cases m with
    | nil => simp at h
    | cons b m =>
      have hl : l.length = m.length := by simpa using h
      rw [valB_cons, valB_cons, hl]
      have h1 := valB_lt l
      have h2 := valB_lt m
      rw [hl] at h1
      unfold Op.bytesLess
      rw [ih m hl]
      generalize 256 ^ m.length = p at *
      by_cases hab : a < b
      · have hn : a.toNat < b.toNat := UInt8.lt_iff_toNat_lt.1 hab
        have : (a.toNat + 1) * p ≤ b.toNat * p := Nat.mul_le_mul_right _ hn
        rw [Nat.add_mul] at this
        rw [decide_eq_true (show a.toNat * p + valB l < b.toNat * p + valB m by omega)]
        simp [hab]
      · by_cases he : a = b
        · subst he
          simp [hab]
        · have hn : b.toNat < a.toNat := by
            have h3 : ¬ a.toNat < b.toNat := fun h => hab (UInt8.lt_iff_toNat_lt.2 h)
            have h4 : a.toNat ≠ b.toNat := fun h => he (UInt8.toNat_inj.1 h)
            omega
          have : (b.toNat + 1) * p ≤ a.toNat * p := Nat.mul_le_mul_right _ hn
          rw [Nat.add_mul] at this
          rw [decide_eq_false (show ¬ a.toNat * p + valB l < b.toNat * p + valB m by omega)]
          simp [hab, he]
theorem digB_len_lt {n k : Nat} (h : (digB n).length < (digB k).length) : n < k := by
  have h1 := valB_lt (digB n)
  rw [valB_dig] at h1
  have h2 := dropZ_ge (digB_drop k) (fun h0 => by rw [h0] at h; simp at h)
  rw [valB_dig] at h2
  have : 256 ^ (digB n).length ≤ 256 ^ ((digB k).length - 1) := Nat.pow_le_pow_right (by decide) (by omega)
  omega
theorem compareMagR (H : Heap) (n k : Nat) : Sim Tryz.prog 223 #[.string (bs (digB n)), .string (bs (digB k))] H (.int .i64 (sgn ((n : Int) - k))) H := by
  have h1 := digB_len_lt (n := n) (k := k)
  have h2 := digB_len_lt (n := k) (k := n)
  have h3 := bytesLess_val (digB n) (digB k)
  have h4 : bs (digB n) = bs (digB k) ↔ n = k := by
    rw [bs_inj]
    refine ⟨fun h => ?_, fun h => by rw [h]⟩
    have := congrArg valB h
    rwa [valB_dig, valB_dig] at this
  rw [valB_dig, valB_dig] at h3
  generalize digB n = l at *
  generalize digB k = m at *
  have bl : ∀ t, aBin tt .lss t (.string (bs l)) (.string (bs m)) = some (.bool (Op.bytesLess l m)) := fun t => by simp only [aBin, aStr, bs_list]
  have bg : ∀ t, aBin tt .gtr t (.string (bs l)) (.string (bs m)) = some (.bool !(Op.bytesLess l m || decide (bs l = bs m))) := fun t => by simp only [aBin, aStr, beq_ba]; rw [bs_list, bs_list]
  refine soA tok mixed Tryz.func223 ?_
  simp -implicitDefEqProofs only [go_sem, simprocAttr, aLen]
  by_cases hl : l.length = m.length
  · have e : ((l.length : Int) = (m.length : Int)) := by omega
    have h3 := h3 hl
    simp -implicitDefEqProofs only [go_sem, simprocAttr, wa_cond, axC_t, axC_f, e, bl, h3]
    by_cases hlt : n < k
    · have hs : sgn ((n : Int) - k) = -1 := by unfold sgn; rw [if_pos (by omega)]
      rw [hs]
      simp -implicitDefEqProofs only [go_sem, simprocAttr, wa_cond, axC_t, axC_f, hlt, res223]
    · by_cases he : n = k
      · have hs : sgn ((n : Int) - k) = 0 := by unfold sgn; rw [if_neg (by omega), if_neg (by omega)]
        rw [hs]
        have h5 := h4.2 he
        simp -implicitDefEqProofs only [go_sem, simprocAttr, wa_cond, axC_t, axC_f, hlt, bg, h3, h4, he, Bool.or_true, Bool.false_or, res223]
      · have hs : sgn ((n : Int) - k) = 1 := by unfold sgn; rw [if_neg (by omega), if_pos (by omega)]
        rw [hs]
        simp -implicitDefEqProofs only [go_sem, simprocAttr, wa_cond, axC_t, axC_f, hlt, bg, h3, h4, he, Bool.or_false, Bool.false_or, res223]
  · have e : ¬ ((l.length : Int) = (m.length : Int)) := by omega
    by_cases hlt : l.length < m.length
    · have hn := h1 hlt
      have hs : sgn ((n : Int) - k) = -1 := by unfold sgn; rw [if_pos (by omega)]
      have e2 : (l.length : Int) < (m.length : Int) := by omega
      rw [hs]
      simp -implicitDefEqProofs only [go_sem, simprocAttr, wa_cond, axC_t, axC_f, e, e2, aLen, res223]
    · have hn := h2 (by omega)
      have hs : sgn ((n : Int) - k) = 1 := by unfold sgn; rw [if_neg (by omega), if_pos (by omega)]
      have e2 : ¬ (l.length : Int) < (m.length : Int) := by omega
      rw [hs]
      simp -implicitDefEqProofs only [go_sem, simprocAttr, wa_cond, axC_t, axC_f, e, e2, aLen, res223]
end Go.Proofs.YthhmkaikopdmjaaGreat
namespace Go.Proofs.YthhmkaikopdmjaaGreat
open Go Go.Fw
theorem byte1 (H : Heap) (x : Int) : aBuildSlice tt H 203 1 [(0, .int .u8 x)] = some (.slice (some ⟨H.length, 0, none⟩) 1 1, H ++ [⟨[.int .u8 x], 1, true⟩]) := rfl
theorem digB_one {n : Nat} (h0 : n ≠ 0) (h : n < 256) : digB n = [UInt8.ofNat n] := by
  rw [digB_step h0]
  have : n / 2 ^ 8 = 0 := by omega
  rw [this, digB_zero, List.nil_append]
theorem magR (H : Heap) {n : Nat} (hn : n < 9223372036854775808) : Sim Tryz.prog 166 #[.int .i64 (n : Nat)] H (.string (bs (digB n))) H := by
  refine flat_ex rfl ?_
  refine sxA tok mixed Tryz.func166 ?_
  simp -implicitDefEqProofs only [go_sem, Nat.reduceAdd, Nat.reduceSub, Nat.reduceMul, Nat.reduceLT, Nat.reduceLeDiff, Nat.reduceEqDiff, Nat.reduceBEq, Nat.reduceGT, Nat.reduceMod, Nat.reduceDiv, ↓reduceIte, reduceCtorEq, Int.reduceLE, Int.reduceLT, Int.reduceToNat, Int.reduceEq, Int.reduceNeg, Int.reduceAdd, Int.reduceSub, Int.reduceMul]
  by_cases h256 : n < 256
  · have e : (n : Int) < 256 := by omega
    by_cases h0 : n = 0
    · subst h0
      rw [digB_zero]
      simp -implicitDefEqProofs only [go_sem, Nat.reduceAdd, Nat.reduceSub, Nat.reduceMul, Nat.reduceLT, Nat.reduceLeDiff, Nat.reduceEqDiff, Nat.reduceBEq, Nat.reduceGT, Nat.reduceMod, Nat.reduceDiv, ↓reduceIte, reduceCtorEq, Int.reduceLE, Int.reduceLT, Int.reduceToNat, Int.reduceEq, Int.reduceNeg, Int.reduceAdd, Int.reduceSub, Int.reduceMul, wa_cond, axC_t, axC_f, res166]
      first | exact .refl _ | exact ⟨.refl _, rfl⟩
    · have e2 : ¬ (n : Int) = 0 := by omega
      have a2 := low_u8 n
      have hrd : rd (H ++ [⟨u8s [UInt8.ofNat n], 1, true⟩]) H.length 0 1 = some (u8s [UInt8.ofNat n]) := by simp [rd, u8s]
      have hb := bytesOf_u8s [UInt8.ofNat n]
      unfold u8s at hrd hb
      simp only [List.map_cons, List.map_nil] at hrd hb
      simp -implicitDefEqProofs only [go_sem, Nat.reduceAdd, Nat.reduceSub, Nat.reduceMul, Nat.reduceLT, Nat.reduceLeDiff, Nat.reduceEqDiff, Nat.reduceBEq, Nat.reduceGT, Nat.reduceMod, Nat.reduceDiv, ↓reduceIte, reduceCtorEq, Int.reduceLE, Int.reduceLT, Int.reduceToNat, Int.reduceEq, Int.reduceNeg, Int.reduceAdd, Int.reduceSub, Int.reduceMul, wa_cond, axC_t, axC_f, e, e2, aConv, a2, byte1, hrd, hb, res166]
      rw [digB_one h0 h256]
      first | exact .app _ _ | exact ⟨.app _ _, rfl⟩
  have e : ¬ (n : Int) < 256 := by omega
  have h0 : 0 < n := by omega
  simp -implicitDefEqProofs only [go_sem, Nat.reduceAdd, Nat.reduceSub, Nat.reduceMul, Nat.reduceLT, Nat.reduceLeDiff, Nat.reduceEqDiff, Nat.reduceBEq, Nat.reduceGT, Nat.reduceMod, Nat.reduceDiv, ↓reduceIte, reduceCtorEq, Int.reduceLE, Int.reduceLT, Int.reduceToNat, Int.reduceEq, Int.reduceNeg, Int.reduceAdd, Int.reduceSub, Int.reduceMul, wa_cond, axC_t, axC_f, e]
  refine ax_loopx (fun (r : Nat) s T => ∃ (i : Nat) (o : List UInt8), s 0 = .int .i64 (r : Nat) ∧ s 3 = .pointer (some ⟨H.length, 0, none⟩) ∧ s 4 = .int .i64 (i : Nat) ∧ i ≤ 8 ∧ o.length = 8 ∧ r < 256 ^ i ∧ r < 9223372036854775808 ∧ digB n = digB r ++ o.drop i ∧ (r = 0 → i < 8) ∧
    T = H ++ [⟨u8s o, 1, true⟩]) id n ?_ ?_
  · refine ⟨8, List.replicate 8 0, ?_⟩
    simp -implicitDefEqProofs only [go_sem, Nat.reduceAdd, Nat.reduceSub, Nat.reduceMul, Nat.reduceLT, Nat.reduceLeDiff, Nat.reduceEqDiff, Nat.reduceBEq, Nat.reduceGT, Nat.reduceMod, Nat.reduceDiv, ↓reduceIte, reduceCtorEq, Int.reduceLE, Int.reduceLT, Int.reduceToNat, Int.reduceEq, Int.reduceNeg, Int.reduceAdd, Int.reduceSub, Int.reduceMul]
    exact ⟨rfl, by simp, by rw [show 256 ^ 8 = 18446744073709551616 from rfl]; omega, hn, by simp, by omega, rfl⟩
  rintro r s T ⟨i, o, s0, s3, s4, hi, ho, hr, hr2, hd, h8, hT⟩
  subst T
  simp -implicitDefEqProofs only [go_sem, Nat.reduceAdd, Nat.reduceSub, Nat.reduceMul, Nat.reduceLT, Nat.reduceLeDiff, Nat.reduceEqDiff, Nat.reduceBEq, Nat.reduceGT, Nat.reduceMod, Nat.reduceDiv, ↓reduceIte, reduceCtorEq, Int.reduceLE, Int.reduceLT, Int.reduceToNat, Int.reduceEq, Int.reduceNeg, Int.reduceAdd, Int.reduceSub, Int.reduceMul, s0]
  refine ax_cond2 ?_
  simp only [ev_tmp, ev_const, ev_func, upd_at, put_some, put_none, bndB_bool, Nat.reduceEqDiff, if_true, if_false, ↓reduceIte, reduceCtorEq]
  refine ⟨fun hc0 => have hc := of_decide_eq_true hc0; ?_, fun hc0 => have hc := of_decide_eq_false hc0; ?_⟩
  · have hr0 : r ≠ 0 := by omega
    obtain ⟨i, rfl⟩ : ∃ i', i = i' + 1 := ⟨i - 1, by
      cases i with
      | zero => simp at hr; omega
      | succ i => omega⟩
    have a1 : IntKind.i64.wrap (((i + 1 : Nat) : Int) - 1) = (i : Int) := by rw [castS]; exact w64 (by omega) (by omega)
    have a2 := low_u8 r
    have a3 := fdiv_pow r 8
    have hi2 : (0 : Int) ≤ (i : Int) ∧ (i : Int) < ((8 : Nat) : Int) := by omega
    have hw := u8_wr (L := []) (l := o) (k := i) (b := UInt8.ofNat r) (by omega)
    have hd8 : ¬ ((8 : Int) < 0) := by omega
    simp -implicitDefEqProofs only [go_sem, Nat.reduceAdd, Nat.reduceSub, Nat.reduceMul, Nat.reduceLT, Nat.reduceLeDiff, Nat.reduceEqDiff, Nat.reduceBEq, Nat.reduceGT, Nat.reduceMod, Nat.reduceDiv, ↓reduceIte, reduceCtorEq, Int.reduceLE, Int.reduceLT, Int.reduceToNat, Int.reduceEq, Int.reduceNeg, Int.reduceAdd, Int.reduceSub, Int.reduceMul, s0, s3, s4, a1, aConv, a2, aIndexAddr, hi2, Nat.mul_one, hw, a3, hd8, show min 8 64 = 8 from rfl]
    refine ⟨r / 2 ^ 8, ⟨i, o.set i (UInt8.ofNat r), ?_⟩, Nat.div_lt_self (by omega) (by decide)⟩
    refine ⟨rfl, rfl, by omega, by simpa using ho, ?_, by omega, ?_, by omega, rfl⟩
    · rw [Nat.div_lt_iff_lt_mul (by decide)]
      rw [Nat.pow_succ] at hr
      exact hr
    · rw [hd, digB_step hr0, List.append_assoc]
      congr 1
      rw [List.drop_eq_getElem_cons (l := o.set i (UInt8.ofNat r)) (i := i) (by simp; omega), List.getElem_set_self, List.drop_set_of_lt (by omega)]
      rfl
  · have hr0 : r = 0 := by omega
    subst hr0
    have hi8 := h8 rfl
    rw [digB_zero, List.nil_append] at hd
    have hs : aSlice tt (H ++ [⟨u8s o, 1, true⟩]) 204 (.pointer (some ⟨H.length, 0, none⟩)) (some (.int .i64 (i : Nat))) none none = some (.slice (some ⟨H.length, i, none⟩) (8 - i) (8 - i)) := by
      simp only [aSlice, tt204, sizeT, tt5, bnd, Option.map_some, Int.toNat_natCast]
      simp [show i ≤ 8 by omega, hi8]
    have hrd := u8_rd (L := []) (l := o) (k := i) (n := 8 - i) (by omega)
    simp -implicitDefEqProofs only [go_sem, Nat.reduceAdd, Nat.reduceSub, Nat.reduceMul, Nat.reduceLT, Nat.reduceLeDiff, Nat.reduceEqDiff, Nat.reduceBEq, Nat.reduceGT, Nat.reduceMod, Nat.reduceDiv, ↓reduceIte, reduceCtorEq, Int.reduceLE, Int.reduceLT, Int.reduceToNat, Int.reduceEq, Int.reduceNeg, Int.reduceAdd, Int.reduceSub, Int.reduceMul, s3, s4, hs, aConv, hrd, bytesOf_u8s, res166]
    rw [hd]
    first | exact .app _ _ | exact ⟨.app _ _, rfl⟩
theorem ofR (H : Heap) {z : Int} (h1 : -9223372036854775808 ≤ z) (h2 : z < 9223372036854775808) : Sim Tryz.prog 102 #[.int .i64 z] H (mkI z) H := by
  refine flat_ex (flat_mkI z) ?_
  have b106 : ∀ s : ByteArray, aBuild tt 106 [(1, .string s)] = some (.agg #[.bool false, .string s]) := fun _ => rfl
  by_cases hz : 0 ≤ z
  · have o1 := fun H => magR H (n := z.natAbs) (by omega)
    rw [show ((z.natAbs : Nat) : Int) = z by omega] at o1
    have e : ¬ z < 0 := by omega
    unfold mkI iV
    refine sxA tok mixed Tryz.func102 ?_
    simp -implicitDefEqProofs only [go_sem, Nat.reduceAdd, Nat.reduceSub, Nat.reduceMul, Nat.reduceLT, Nat.reduceLeDiff, Nat.reduceEqDiff, Nat.reduceBEq, Nat.reduceGT, Nat.reduceMod, Nat.reduceDiv, ↓reduceIte, reduceCtorEq, Int.reduceLE, Int.reduceLT, Int.reduceToNat, Int.reduceEq, Int.reduceNeg, Int.reduceAdd, Int.reduceSub, Int.reduceMul, wa_cond, axC_t, axC_f, hz]
    refine kv (o1 _) ?_
    simp -implicitDefEqProofs only [go_sem, Nat.reduceAdd, Nat.reduceSub, Nat.reduceMul, Nat.reduceLT, Nat.reduceLeDiff, Nat.reduceEqDiff, Nat.reduceBEq, Nat.reduceGT, Nat.reduceMod, Nat.reduceDiv, ↓reduceIte, reduceCtorEq, Int.reduceLE, Int.reduceLT, Int.reduceToNat, Int.reduceEq, Int.reduceNeg, Int.reduceAdd, Int.reduceSub, Int.reduceMul, b106, e, res102]
    first | exact .app _ _ | exact ⟨.app _ _, rfl⟩
  · have e : z < 0 := by omega
    by_cases hm : z = -9223372036854775808
    · subst hm
      have a1 : IntKind.i64.wrap 9223372036854775808 = -9223372036854775808 := by decide
      have hd : digB (Int.natAbs (-9223372036854775808)) = [128, 0, 0, 0, 0, 0, 0, 0] := by decide +kernel
      unfold mkI iV
      rw [hd]
      refine sxA tok mixed Tryz.func102 ?_
      simp -implicitDefEqProofs only [go_sem, Nat.reduceAdd, Nat.reduceSub, Nat.reduceMul, Nat.reduceLT, Nat.reduceLeDiff, Nat.reduceEqDiff, Nat.reduceBEq, Nat.reduceGT, Nat.reduceMod, Nat.reduceDiv, ↓reduceIte, reduceCtorEq, Int.reduceLE, Int.reduceLT, Int.reduceToNat, Int.reduceEq, Int.reduceNeg, Int.reduceAdd, Int.reduceSub, Int.reduceMul, wa_cond, axC_t, axC_f, a1, res102]
      first | exact .app _ _ | exact ⟨.app _ _, rfl⟩
    · have a1 : IntKind.i64.wrap (0 - z) = -z := by rw [w64 (by omega) (by omega)]; omega
      have e2 : ¬ z = -z := by omega
      have o1 := fun H => magR H (n := z.natAbs) (by omega)
      rw [show ((z.natAbs : Nat) : Int) = -z by omega] at o1
      unfold mkI iV
      refine sxA tok mixed Tryz.func102 ?_
      simp -implicitDefEqProofs only [go_sem, Nat.reduceAdd, Nat.reduceSub, Nat.reduceMul, Nat.reduceLT, Nat.reduceLeDiff, Nat.reduceEqDiff, Nat.reduceBEq, Nat.reduceGT, Nat.reduceMod, Nat.reduceDiv, ↓reduceIte, reduceCtorEq, Int.reduceLE, Int.reduceLT, Int.reduceToNat, Int.reduceEq, Int.reduceNeg, Int.reduceAdd, Int.reduceSub, Int.reduceMul, wa_cond, axC_t, axC_f, hz, a1, e2]
      refine kv (o1 _) ?_
      simp -implicitDefEqProofs only [go_sem, Nat.reduceAdd, Nat.reduceSub, Nat.reduceMul, Nat.reduceLT, Nat.reduceLeDiff, Nat.reduceEqDiff, Nat.reduceBEq, Nat.reduceGT, Nat.reduceMod, Nat.reduceDiv, ↓reduceIte, reduceCtorEq, Int.reduceLE, Int.reduceLT, Int.reduceToNat, Int.reduceEq, Int.reduceNeg, Int.reduceAdd, Int.reduceSub, Int.reduceMul, e, res102]
      first | exact .app _ _ | exact ⟨.app _ _, rfl⟩
theorem negR (H : Heap) (g : Bool) (m : List UInt8) : Sim Tryz.prog 163 #[iV g m] H (mkI (-(ival g m))) H := by
  refine flat_ex (flat_mkI _) ?_
  have o1 := fun H => canonR H g m
  generalize ival g m = z at *
  have hne : bs (digB z.natAbs) = bs [] ↔ z = 0 := by rw [bs_inj, digB_nil_iff]; omega
  have hn : mkI (-z) = .agg #[.bool (!decide (z < 0) && decide (z ≠ 0)), .string (bs (digB z.natAbs))] := by
    unfold mkI iV
    rw [Int.natAbs_neg]
    congr 3
    by_cases h1 : z < 0
    · have : ¬ -z < 0 := by omega
      simp [h1, this]; omega
    · by_cases h2 : z = 0
      · subst h2; rfl
      · have : -z < 0 := by omega
        simp [h1, h2, this]; omega
  rw [hn]
  unfold mkI iV at *
  refine sxA tok mixed Tryz.func163 ?_
  simp -implicitDefEqProofs only [go_sem, Nat.reduceAdd, Nat.reduceSub, Nat.reduceMul, Nat.reduceLT, Nat.reduceLeDiff, Nat.reduceEqDiff, Nat.reduceBEq, Nat.reduceGT, Nat.reduceMod, Nat.reduceDiv, ↓reduceIte, reduceCtorEq, Int.reduceLE, Int.reduceLT, Int.reduceToNat, Int.reduceEq, Int.reduceNeg, Int.reduceAdd, Int.reduceSub, Int.reduceMul]
  refine kv (o1 _) ?_
  by_cases h1 : z < 0
  · simp -implicitDefEqProofs only [go_sem, Nat.reduceAdd, Nat.reduceSub, Nat.reduceMul, Nat.reduceLT, Nat.reduceLeDiff, Nat.reduceEqDiff, Nat.reduceBEq, Nat.reduceGT, Nat.reduceMod, Nat.reduceDiv, ↓reduceIte, reduceCtorEq, Int.reduceLE, Int.reduceLT, Int.reduceToNat, Int.reduceEq, Int.reduceNeg, Int.reduceAdd, Int.reduceSub, Int.reduceMul, h1, Bool.false_and, res163]
    first | exact .app _ _ | exact ⟨.app _ _, rfl⟩
  · simp -implicitDefEqProofs only [go_sem, Nat.reduceAdd, Nat.reduceSub, Nat.reduceMul, Nat.reduceLT, Nat.reduceLeDiff, Nat.reduceEqDiff, Nat.reduceBEq, Nat.reduceGT, Nat.reduceMod, Nat.reduceDiv, ↓reduceIte, reduceCtorEq, Int.reduceLE, Int.reduceLT, Int.reduceToNat, Int.reduceEq, Int.reduceNeg, Int.reduceAdd, Int.reduceSub, Int.reduceMul, h1, hne, Bool.true_and, res163]
    first | exact .app _ _ | exact ⟨.app _ _, rfl⟩
end Go.Proofs.YthhmkaikopdmjaaGreat
namespace Go.Proofs.YthhmkaikopdmjaaGreat
open Go Go.Fw
def dgt (l : List UInt8) (k : Nat) : Nat := if h : k < l.length then (l[l.length - 1 - k]'(by omega)).toNat else 0
def lowB (l : List UInt8) (k : Nat) : Nat := valB (l.drop (l.length - k))
theorem dgt_lt (l : List UInt8) (k : Nat) : dgt l k < 256 := by unfold dgt; split; exact UInt8.toNat_lt _; omega
theorem lowB_zero (l : List UInt8) : lowB l 0 = 0 := by simp [lowB, valB]
theorem lowB_all {l : List UInt8} {k : Nat} (h : l.length ≤ k) : lowB l k = valB l := by unfold lowB; rw [show l.length - k = 0 by omega, List.drop_zero]
theorem lowB_succ (l : List UInt8) (k : Nat) : lowB l (k + 1) = lowB l k + 256 ^ k * dgt l k := by
  unfold dgt
  by_cases h : k < l.length
  · rw [dif_pos h]
    unfold lowB
    rw [List.drop_eq_getElem_cons (show l.length - (k + 1) < l.length by omega), valB_cons]
    have e : l.length - (k + 1) + 1 = l.length - k := by omega
    have e2 : (l.drop (l.length - k)).length = k := by simp; omega
    rw [e, e2, Nat.mul_comm, Nat.add_comm]
    congr 3
    congr 1
    omega
  · rw [dif_neg h, lowB_all (by omega), lowB_all (by omega), Nat.mul_zero, Nat.add_zero]
theorem dgt_at {l : List UInt8} {k : Nat} (h : k < l.length) : ∃ b : UInt8, l[l.length - 1 - k]? = some b ∧ b.toNat = dgt l k := by
  refine ⟨l[l.length - 1 - k]'(by omega), List.getElem?_eq_getElem (by omega), ?_⟩
  unfold dgt
  rw [dif_pos h]
theorem dgt_zero {l : List UInt8} {k : Nat} (h : ¬ k < l.length) : dgt l k = 0 := by unfold dgt; rw [dif_neg h]
theorem lowB_set {o : List UInt8} {k : Nat} (h : k < o.length) (b : UInt8) : lowB (o.set (o.length - 1 - k) b) (k + 1) = lowB o k + 256 ^ k * b.toNat := by
  rw [lowB_succ]
  congr 1
  · unfold lowB
    rw [List.length_set, List.drop_set_of_lt (by omega)]
  · unfold dgt
    rw [dif_pos (by simpa using h)]
    simp
theorem sum_step8 {A B C p c x y : Nat} (h : A + p * c = B + C) : A + p * ((c + x + y) % 256) + p * 256 * ((c + x + y) / 256) = (B + p * x) + (C + p * y) := by
  have e := Nat.mod_add_div (c + x + y) 256
  have e2 : p * ((c + x + y) % 256) + p * 256 * ((c + x + y) / 256) = p * (c + x + y) := by
    rw [Nat.mul_assoc, ← Nat.mul_add, e]
  rw [Nat.add_assoc, e2, Nat.mul_add, Nat.mul_add]
  omega
theorem make_u8 (H : Heap) (n : Nat) (h : n ≤ 10000000) : aMakeSlice tt H 203 (.int .i64 (n : Nat)) (.int .i64 (n : Nat)) = some (.slice (some ⟨H.length, 0, none⟩) n n, H ++ [⟨u8s (List.replicate n 0), 1, true⟩]) := by
  unfold aMakeSlice
  simp only [tt203, tt5]
  rw [if_pos (by omega)]
  by_cases h0 : n = 0
  · subst h0
    simp [zerosL, u8s]
  · simp only [Int.toNat_natCast, Nat.mul_one, if_neg h0, cells_int]
    rw [zerosL_one]
    simp [u8s]
theorem addMagR (H : Heap) {l m : List UInt8} (hl : l.length ≤ 1000000) (hm : m.length ≤ 1000000) :
    Sim Tryz.prog 222 #[.string (bs l), .string (bs m)] H (.string (bs (digB (valB l + valB m)))) H := by
  refine flat_ex rfl ?_
  obtain ⟨n, hn⟩ : ∃ n, n = max l.length m.length + 1 := ⟨_, rfl⟩
  have hmx : ∀ H, aBuiltin tt H .max [3, 3] [.int .i64 (l.length : Nat), .int .i64 (m.length : Nat)] = some (.int .i64 ((n - 1 : Nat) : Int), H) := by
    intro H
    unfold aBuiltin
    by_cases h : m.length > l.length
    · have e : ((n - 1 : Nat) : Int) = (m.length : Int) := by omega
      have h2 : (m.length : Int) > (l.length : Int) := by omega
      simp [maxInts, h2, e]
    · have e : ((n - 1 : Nat) : Int) = (l.length : Int) := by omega
      have h2 : ¬ (m.length : Int) > (l.length : Int) := by omega
      simp [maxInts, h2, e]
  have a1 : IntKind.i64.wrap (((n - 1 : Nat) : Int) + 1) = (n : Int) := by rw [w64 (by omega) (by omega)]; omega
  refine sxA tok mixed Tryz.func222 ?_
  simp -implicitDefEqProofs only [go_sem, simprocAttr, -Int.reducePow, -Nat.reducePow, aLen, hmx, a1, make_u8 H n (by omega)]
  refine ax_loopx (fun (i : Nat) s T => ∃ (o : List UInt8) (c : Nat), s 0 = .string (bs l) ∧ s 1 = .string (bs m) ∧ s 5 = .int .i64 (n : Nat) ∧ s 6 = .slice (some ⟨H.length, 0, none⟩) n n ∧ s 7 = .int .i64 (c : Nat) ∧ s 8 = .int .i64 ((i + 1 : Nat) : Int) ∧
    i ≤ n ∧ c ≤ 1 ∧ o.length = n ∧ lowB o i + 256 ^ i * c = lowB l i + lowB m i ∧ T = H ++ [⟨u8s o, 1, true⟩]) (fun i => n - i) 0 ?_ ?_
  · refine ⟨List.replicate n 0, 0, ?_⟩
    simp -implicitDefEqProofs only [go_sem, simprocAttr, -Int.reducePow, -Nat.reducePow]
    exact ⟨by simp, by simp [lowB_zero]⟩
  rintro i s T ⟨o, c, s0, s1, s5, s6, s7, s8, hi, hc, ho, hinv, rfl⟩
  simp -implicitDefEqProofs only [go_sem, simprocAttr, -Int.reducePow, -Nat.reducePow, s5, s8]
  refine ax_cond2 ?_
  simp only [ev_tmp, ev_const, ev_func, upd_at, put_some, put_none, bndB_bool, Nat.reduceEqDiff, if_true, if_false, ↓reduceIte, reduceCtorEq]
  refine ⟨fun hc0 => have hlt := of_decide_eq_true hc0; ?_, fun hc0 => have hlt := of_decide_eq_false hc0; ?_⟩
  · have hin : i < n := by omega
    have hst := sum_step8 (x := dgt l i) (y := dgt m i) hinv
    rw [← lowB_succ, ← lowB_succ] at hst
    have hx := dgt_lt l i
    have hy := dgt_lt m i
    have hlc : ((i + 1 : Nat) : Int) ≤ (l.length : Int) ↔ i < l.length := by omega
    have hmc : ((i + 1 : Nat) : Int) ≤ (m.length : Int) ↔ i < m.length := by omega
    simp -implicitDefEqProofs only [go_sem, simprocAttr, -Int.reducePow, -Nat.reducePow, s0, s8, aLen]
    refine ax_mid (fun s T => s 0 = .string (bs l) ∧ s 1 = .string (bs m) ∧ s 5 = .int .i64 (n : Nat) ∧ s 6 = .slice (some ⟨H.length, 0, none⟩) n n ∧ s 7 = .int .i64 ((c + dgt l i : Nat) : Int) ∧ s 8 = .int .i64 ((i + 1 : Nat) : Int) ∧ T = H ++ [⟨u8s o, 1, true⟩]) ?_ ?_
    · by_cases h : i < l.length
      · obtain ⟨b, hb1, hb2⟩ := dgt_at h
        have a2 : IntKind.i64.wrap ((l.length : Int) - ((i + 1 : Nat) : Int)) = ((l.length - 1 - i : Nat) : Int) := by rw [w64 (by omega) (by omega)]; omega
        have a3 : IntKind.i64.wrap ((b.toNat : Nat) : Int) = ((b.toNat : Nat) : Int) := w64n (by omega)
        have a4 : IntKind.i64.wrap ((c : Int) + (b.toNat : Int)) = ((c + dgt l i : Nat) : Int) := by rw [w64 (by omega) (by omega)]; omega
        have hnn : (0 : Int) ≤ ((l.length - 1 - i : Nat) : Int) := by omega
        have h1 := hlc.2 h
        simp -implicitDefEqProofs only [go_sem, simprocAttr, -Int.reducePow, -Nat.reducePow, wa_cond, axC_t, axC_f, h1, s0, s1, s5, s6, s7, s8, aLen, a2, hnn, hb1, aConv, a3, a4]
      · have h1 : ¬ ((i + 1 : Nat) : Int) ≤ (l.length : Int) := fun hh => h (hlc.1 hh)
        rw [dgt_zero h]
        simp -implicitDefEqProofs only [go_sem, simprocAttr, -Int.reducePow, -Nat.reducePow, wa_cond, axC_t, axC_f, h1, s0, s1, s5, s6, s7, s8]
    clear s0 s1 s5 s6 s7 s8
    rintro s T ⟨s0, s1, s5, s6, s7, s8, rfl⟩
    simp -implicitDefEqProofs only [go_sem, simprocAttr, -Int.reducePow, -Nat.reducePow, s1, s8, aLen]
    refine ax_mid (fun s T => s 0 = .string (bs l) ∧ s 1 = .string (bs m) ∧ s 5 = .int .i64 (n : Nat) ∧ s 6 = .slice (some ⟨H.length, 0, none⟩) n n ∧ s 7 = .int .i64 ((c + dgt l i + dgt m i : Nat) : Int) ∧ s 8 = .int .i64 ((i + 1 : Nat) : Int) ∧ T = H ++ [⟨u8s o, 1, true⟩]) ?_ ?_
    · by_cases h : i < m.length
      · obtain ⟨b, hb1, hb2⟩ := dgt_at h
        have a2 : IntKind.i64.wrap ((m.length : Int) - ((i + 1 : Nat) : Int)) = ((m.length - 1 - i : Nat) : Int) := by rw [w64 (by omega) (by omega)]; omega
        have a3 : IntKind.i64.wrap ((b.toNat : Nat) : Int) = ((b.toNat : Nat) : Int) := w64n (by omega)
        have a4 : IntKind.i64.wrap (((c + dgt l i : Nat) : Int) + (b.toNat : Int)) = ((c + dgt l i + dgt m i : Nat) : Int) := by rw [w64 (by omega) (by omega)]; omega
        have hnn : (0 : Int) ≤ ((m.length - 1 - i : Nat) : Int) := by omega
        have h1 := hmc.2 h
        simp -implicitDefEqProofs only [go_sem, simprocAttr, -Int.reducePow, -Nat.reducePow, wa_cond, axC_t, axC_f, h1, s0, s1, s5, s6, s7, s8, aLen, a2, hnn, hb1, aConv, a3, a4]
      · have h1 : ¬ ((i + 1 : Nat) : Int) ≤ (m.length : Int) := fun hh => h (hmc.1 hh)
        rw [dgt_zero h]
        simp -implicitDefEqProofs only [go_sem, simprocAttr, -Int.reducePow, -Nat.reducePow, wa_cond, axC_t, axC_f, h1, s0, s1, s5, s6, s7, s8, Nat.add_zero]
    clear s0 s1 s5 s6 s7 s8
    rintro s T ⟨s0, s1, s5, s6, s7, s8, rfl⟩
    have a5 : IntKind.i64.wrap ((n : Int) - ((i + 1 : Nat) : Int)) = ((o.length - 1 - i : Nat) : Int) := by rw [w64 (by omega) (by omega)]; omega
    have a6 := low_u8 (c + dgt l i + dgt m i)
    have a7 := fdiv_pow (c + dgt l i + dgt m i) 8
    have hd8 : ¬ ((8 : Int) < 0) := by omega
    have a8 : IntKind.i64.wrap (((i + 1 : Nat) : Int) + 1) = ((i + 1 + 1 : Nat) : Int) := by rw [w64 (by omega) (by omega)]; rfl
    have hi2 : (0 : Int) ≤ ((o.length - 1 - i : Nat) : Int) ∧ ((o.length - 1 - i : Nat) : Int) < (n : Int) := by omega
    have hw := u8_wr (L := []) (l := o) (k := o.length - 1 - i) (b := UInt8.ofNat (c + dgt l i + dgt m i)) (by omega)
    have hset := lowB_set (o := o) (k := i) (by omega) (UInt8.ofNat (c + dgt l i + dgt m i))
    have hby : (UInt8.ofNat (c + dgt l i + dgt m i)).toNat = (c + dgt l i + dgt m i) % 256 := by simp
    rw [hby] at hset
    simp -implicitDefEqProofs only [go_sem, simprocAttr, -Int.reducePow, -Nat.reducePow, s0, s1, s5, s6, s7, s8, a5, aConv, a6, aIndexAddr, hi2, Nat.mul_one, hw, a7, hd8, show min 8 64 = 8 from rfl, a8]
    refine ⟨i + 1, ⟨o.set (o.length - 1 - i) (UInt8.ofNat (c + dgt l i + dgt m i)), (c + dgt l i + dgt m i) / 2 ^ 8, rfl, rfl, by omega, by omega, by simpa using ho, ?_, rfl⟩, by omega⟩
    rw [hset, Nat.pow_succ]
    exact hst
  · have hin : i = n := by omega
    subst hin
    have hvo := valB_lt o
    have hvl := valB_lt l
    have hvm := valB_lt m
    rw [lowB_all (by omega), lowB_all (by omega), lowB_all (by omega)] at hinv
    have p1 : 256 ^ l.length ≤ 256 ^ (i - 1) := Nat.pow_le_pow_right (by decide) (by omega)
    have p2 : 256 ^ m.length ≤ 256 ^ (i - 1) := Nat.pow_le_pow_right (by decide) (by omega)
    have p3 : 256 ^ i = 256 * 256 ^ (i - 1) := by rw [Nat.mul_comm, ← Nat.pow_succ]; congr 1; omega
    have hc0 : c = 0 := by
      rcases Nat.eq_zero_or_pos c with h | h
      · exact h
      · have : c = 1 := by omega
        subst this
        rw [p3] at hinv
        omega
    subst hc0
    rw [Nat.mul_zero, Nat.add_zero] at hinv
    have hrd := u8_rd (L := []) (l := o) (k := 0) (n := i) (by omega)
    rw [List.drop_zero] at hrd
    have o1 := fun H => trimR H o
    rw [digB_strip, hinv] at o1
    unfold bs at o1
    simp -implicitDefEqProofs only [go_sem, simprocAttr, -Int.reducePow, -Nat.reducePow, s6, aConv, hrd, bytesOf_u8s]
    refine kv (o1 _) ?_
    simp -implicitDefEqProofs only [go_sem, simprocAttr, -Int.reducePow, -Nat.reducePow, res222]
    first | exact .app _ _ | exact ⟨.app _ _, rfl⟩
end Go.Proofs.YthhmkaikopdmjaaGreat
namespace Go.Proofs.YthhmkaikopdmjaaGreat
open Go Go.Fw
theorem sub_step8 {Lo Lm Ll p c x y b c' : Nat} (h : Lo + Lm = Ll + p * c) (hb : b + y + c = x + 256 * c') : (Lo + p * b) + (Lm + p * y) = (Ll + p * x) + p * 256 * c' := by
  have := congrArg (p * ·) hb
  simp only [Nat.mul_add] at this
  rw [Nat.mul_assoc]
  omega
theorem subMagR (H : Heap) {l m : List UInt8} (hl : l.length ≤ 1000000) (hm : m.length ≤ l.length) (hle : valB m ≤ valB l) :
    Sim Tryz.prog 224 #[.string (bs l), .string (bs m)] H (.string (bs (digB (valB l - valB m)))) H := by
  refine flat_ex rfl ?_
  refine sxA tok mixed Tryz.func224 ?_
  simp -implicitDefEqProofs only [go_sem, simprocAttr, aLen, make_u8 H l.length (by omega)]
  refine ax_loopx (fun (i : Nat) s T => ∃ (o : List UInt8) (c : Nat), s 0 = .string (bs l) ∧ s 1 = .string (bs m) ∧ s 5 = .slice (some ⟨H.length, 0, none⟩) l.length l.length ∧ s 6 = .int .i64 (c : Nat) ∧ s 7 = .int .i64 ((i + 1 : Nat) : Int) ∧
    i ≤ l.length ∧ c ≤ 1 ∧ o.length = l.length ∧ lowB o i + lowB m i = lowB l i + 256 ^ i * c ∧ T = H ++ [⟨u8s o, 1, true⟩]) (fun i => l.length - i) 0 ?_ ?_
  · refine ⟨List.replicate l.length 0, 0, ?_⟩
    simp -implicitDefEqProofs only [go_sem, simprocAttr]
    exact ⟨by simp, by simp [lowB_zero]⟩
  rintro i s T ⟨o, c, s0, s1, s5, s6, s7, hi, hc, ho, hinv, rfl⟩
  simp -implicitDefEqProofs only [go_sem, simprocAttr, s0, s7, aLen]
  refine ax_cond2 ?_
  simp only [ev_tmp, ev_const, ev_func, upd_at, put_some, put_none, bndB_bool, Nat.reduceEqDiff, if_true, if_false, ↓reduceIte, reduceCtorEq]
  refine ⟨fun hc0 => have hlt := of_decide_eq_true hc0; ?_, fun hc0 => have hlt := of_decide_eq_false hc0; ?_⟩
  · have hin : i < l.length := by omega
    have hx := dgt_lt l i
    have hy := dgt_lt m i
    obtain ⟨b, hb1, hb2⟩ := dgt_at hin
    have hmc : ((i + 1 : Nat) : Int) ≤ (m.length : Int) ↔ i < m.length := by omega
    have a2 : IntKind.i64.wrap ((l.length : Int) - ((i + 1 : Nat) : Int)) = ((l.length - 1 - i : Nat) : Int) := by rw [w64 (by omega) (by omega)]; omega
    have a3 : IntKind.i64.wrap ((b.toNat : Nat) : Int) = ((b.toNat : Nat) : Int) := w64n (by omega)
    have a4 : IntKind.i64.wrap ((b.toNat : Int) - (c : Int)) = ((dgt l i : Nat) : Int) - (c : Int) := by rw [w64 (by omega) (by omega)]; omega
    have hnn : (0 : Int) ≤ ((l.length - 1 - i : Nat) : Int) := by omega
    simp -implicitDefEqProofs only [go_sem, simprocAttr, s0, s1, s5, s6, s7, aLen, a2, hnn, hb1, aConv, a3, a4]
    refine ax_mid (fun s T => s 0 = .string (bs l) ∧ s 1 = .string (bs m) ∧ s 5 = .slice (some ⟨H.length, 0, none⟩) l.length l.length ∧ s 7 = .int .i64 ((i + 1 : Nat) : Int) ∧ s 8 = .int .i64 (((dgt l i : Nat) : Int) - (c : Int) - ((dgt m i : Nat) : Int)) ∧ T = H ++ [⟨u8s o, 1, true⟩]) ?_ ?_
    · by_cases h : i < m.length
      · obtain ⟨b', hb1', hb2'⟩ := dgt_at h
        have a2' : IntKind.i64.wrap ((m.length : Int) - ((i + 1 : Nat) : Int)) = ((m.length - 1 - i : Nat) : Int) := by rw [w64 (by omega) (by omega)]; omega
        have a3' : IntKind.i64.wrap ((b'.toNat : Nat) : Int) = ((b'.toNat : Nat) : Int) := w64n (by omega)
        have a4' : IntKind.i64.wrap (((dgt l i : Nat) : Int) - (c : Int) - (b'.toNat : Int)) = ((dgt l i : Nat) : Int) - (c : Int) - ((dgt m i : Nat) : Int) := by rw [w64 (by omega) (by omega)]; omega
        have hnn' : (0 : Int) ≤ ((m.length - 1 - i : Nat) : Int) := by omega
        have h1 := hmc.2 h
        simp -implicitDefEqProofs only [go_sem, simprocAttr, wa_cond, axC_t, axC_f, h1, s0, s1, s5, s6, s7, aLen, a2', hnn', hb1', aConv, a3', a4']
      · have h1 : ¬ ((i + 1 : Nat) : Int) ≤ (m.length : Int) := fun hh => h (hmc.1 hh)
        rw [dgt_zero h]
        simp -implicitDefEqProofs only [go_sem, simprocAttr, wa_cond, axC_t, axC_f, h1, s0, s1, s5, s6, s7, Int.sub_zero]
    clear s0 s1 s5 s6 s7
    rintro s T ⟨s0, s1, s5, s7, s8, rfl⟩
    have a5 : IntKind.i64.wrap ((l.length : Int) - ((i + 1 : Nat) : Int)) = ((o.length - 1 - i : Nat) : Int) := by rw [w64 (by omega) (by omega)]; omega
    have a8 : IntKind.i64.wrap (((i + 1 : Nat) : Int) + 1) = ((i + 1 + 1 : Nat) : Int) := by rw [w64 (by omega) (by omega)]; rfl
    have hi2 : (0 : Int) ≤ ((o.length - 1 - i : Nat) : Int) ∧ ((o.length - 1 - i : Nat) : Int) < (l.length : Int) := by omega
    obtain ⟨d, c', hd, hc', hdc, hcase⟩ : ∃ d c' : Nat, d < 256 ∧ c' ≤ 1 ∧ d + dgt m i + c = dgt l i + 256 * c' ∧ ((((dgt l i : Nat) : Int) - (c : Int) - ((dgt m i : Nat) : Int) < 0 ∧ c' = 1 ∧ ((dgt l i : Nat) : Int) - (c : Int) - ((dgt m i : Nat) : Int) + 256 = (d : Int)) ∨ (¬ ((dgt l i : Nat) : Int) - (c : Int) - ((dgt m i : Nat) : Int) < 0 ∧ c' = 0 ∧ ((dgt l i : Nat) : Int) - (c : Int) - ((dgt m i : Nat) : Int) = (d : Int))) := by
      by_cases h : ((dgt l i : Nat) : Int) - (c : Int) - ((dgt m i : Nat) : Int) < 0
      · exact ⟨dgt l i + 256 - c - dgt m i, 1, by omega, by omega, by omega, .inl ⟨h, rfl, by omega⟩⟩
      · exact ⟨dgt l i - c - dgt m i, 0, by omega, by omega, by omega, .inr ⟨h, rfl, by omega⟩⟩
    have hst := sub_step8 hinv hdc
    rw [← lowB_succ, ← lowB_succ] at hst
    have a6 := low_u8 d
    have hw := u8_wr (L := []) (l := o) (k := o.length - 1 - i) (b := UInt8.ofNat d) (by omega)
    have hset := lowB_set (o := o) (k := i) (by omega) (UInt8.ofNat d)
    have hby : (UInt8.ofNat d).toNat = d := by simp; omega
    rw [hby] at hset
    have fin : lowB (o.set (o.length - 1 - i) (UInt8.ofNat d)) (i + 1) + lowB m (i + 1) = lowB l (i + 1) + 256 ^ (i + 1) * c' := by rw [hset, Nat.pow_succ]; exact hst
    generalize ((dgt l i : Nat) : Int) - (c : Int) - ((dgt m i : Nat) : Int) = z at *
    rcases hcase with ⟨h1, rfl, h2⟩ | ⟨h1, rfl, h2⟩
    · have a9 : IntKind.i64.wrap (z + 256) = (d : Int) := by rw [w64 (by omega) (by omega)]; omega
      simp -implicitDefEqProofs only [go_sem, simprocAttr, wa_cond, axC_t, axC_f, s0, s1, s5, s7, s8, h1, a9, a5, aLen, aConv, a6, aIndexAddr, hi2, Nat.mul_one, hw, a8]
      exact ⟨i + 1, ⟨o.set (o.length - 1 - i) (UInt8.ofNat d), 1, rfl, rfl, by omega, by omega, by simpa using ho, fin, rfl⟩, by omega⟩
    · subst h2
      simp -implicitDefEqProofs only [go_sem, simprocAttr, wa_cond, axC_t, axC_f, s0, s1, s5, s7, s8, h1, a5, aLen, aConv, a6, aIndexAddr, hi2, Nat.mul_one, hw, a8]
      exact ⟨i + 1, ⟨o.set (o.length - 1 - i) (UInt8.ofNat d), 0, rfl, rfl, by omega, by omega, by simpa using ho, fin, rfl⟩, by omega⟩
  · have hin : i = l.length := by omega
    subst hin
    have hvo := valB_lt o
    rw [lowB_all (by omega), lowB_all (by omega), lowB_all (by omega)] at hinv
    rw [ho] at hvo
    have hc0 : c = 0 := by
      rcases Nat.eq_zero_or_pos c with h | h
      · exact h
      · have : c = 1 := by omega
        subst this
        omega
    subst hc0
    have hinv : valB o = valB l - valB m := by omega
    have hrd := u8_rd (L := []) (l := o) (k := 0) (n := l.length) (by omega)
    rw [List.drop_zero] at hrd
    have o1 := fun H => trimR H o
    rw [digB_strip, hinv] at o1
    unfold bs at o1
    simp -implicitDefEqProofs only [go_sem, simprocAttr, s5, aConv, hrd, bytesOf_u8s]
    refine kv (o1 _) ?_
    simp -implicitDefEqProofs only [go_sem, simprocAttr, res224]
    first | exact .app _ _ | exact ⟨.app _ _, rfl⟩
end Go.Proofs.YthhmkaikopdmjaaGreat
namespace Go.Proofs.YthhmkaikopdmjaaGreat
open Go Go.Fw
theorem ltlen {n k : Nat} (h : (digB k).length ≤ (digB n).length ∨ k ≤ n) : (digB k).length ≤ (digB n).length := by
  rcases h with h | h
  · exact h
  · refine Classical.byContradiction fun hc => ?_
    have := digB_len_lt (n := n) (k := k) (by omega)
    omega
theorem bool_eqt {t : TypeId} (p q : Bool) (ht : t = 4) : aBin tt .eql t (.bool p) (.bool q) = some (.bool (p == q)) := by subst ht; rfl
theorem build106 : aBuild tt 106 [] = some (.agg #[.bool false, .string (bs [])]) := rfl
theorem addRI (H : Heap) {g g' : Bool} {m m' : List UInt8} (hm : m.length ≤ 1000000) (hm' : m'.length ≤ 1000000) :
    Sim Tryz.prog 162 #[iV g m, iV g' m'] H (mkI (ival g m + ival g' m')) H := by
  refine flat_ex (flat_mkI _) ?_
  have o1 := fun H => canonR H g m
  have o2 := fun H => canonR H g' m'
  have l1 : (digB (ival g m).natAbs).length ≤ 1000000 := by rw [ival_abs, ← digB_strip]; exact Nat.le_trans (dropZ_len m) hm
  have l2 : (digB (ival g' m').natAbs).length ≤ 1000000 := by rw [ival_abs, ← digB_strip]; exact Nat.le_trans (dropZ_len m') hm'
  generalize ival g m = x at *
  generalize ival g' m' = y at *
  have v1 := valB_dig x.natAbs
  have v2 := valB_dig y.natAbs
  unfold mkI iV at o1 o2
  unfold iV
  refine sxA tok mixed Tryz.func162 ?_
  simp -implicitDefEqProofs only [go_sem, simprocAttr]
  refine ax_quiet (by kernel_rfl) ?_
  simp -implicitDefEqProofs only [go_sem, simprocAttr]
  refine kv (o1 _) ?_
  simp -implicitDefEqProofs only [go_sem, simprocAttr]
  refine kv (o2 _) ?_
  simp -implicitDefEqProofs only [go_sem, simprocAttr]
  by_cases hs : (digB x.natAbs).length < 8 ∧ (digB y.natAbs).length < 8
  · obtain ⟨h1, h2⟩ := hs
    have p1 := valB_lt (digB x.natAbs)
    have p2 := valB_lt (digB y.natAbs)
    have q1 := pow256_le (i := (digB x.natAbs).length) (by omega)
    have q2 := pow256_le (i := (digB y.natAbs).length) (by omega)
    have o3 := fun H => valueR H (decide (x < 0)) (m := digB x.natAbs) (by omega)
    have o4 := fun H => valueR H (decide (y < 0)) (m := digB y.natAbs) (by omega)
    rw [ival_mk] at o3 o4
    have o5 := fun H => ofR H (z := x + y) (by omega) (by omega)
    have e1 : ((digB x.natAbs).length : Int) < 8 := by omega
    have e2 : ((digB y.natAbs).length : Int) < 8 := by omega
    have a1 : IntKind.i64.wrap (x + y) = x + y := by rw [w64 (by omega) (by omega)]
    generalize digB x.natAbs = l at *
    generalize digB y.natAbs = l' at *
    unfold iV at o3 o4
    unfold mkI iV at o5 ⊢
    simp -implicitDefEqProofs only [go_sem, simprocAttr, wa_cond, axC_t, axC_f, aLen, e1, e2]
    refine ax_quiet (by kernel_rfl) ?_
    simp -implicitDefEqProofs only [go_sem, simprocAttr]
    refine kv (o3 _) ?_
    simp -implicitDefEqProofs only [go_sem, simprocAttr]
    refine kv (o4 _) ?_
    simp -implicitDefEqProofs only [go_sem, simprocAttr, a1]
    refine kv (o5 _) ?_
    simp -implicitDefEqProofs only [go_sem, simprocAttr, res162]
    first | exact .app _ _ | exact ⟨.app _ _, rfl⟩
  have hdig : ∀ z : Int, z.natAbs = x.natAbs + y.natAbs → mkI z = .agg #[.bool (decide (z < 0)), .string (bs (digB (x.natAbs + y.natAbs)))] := fun z h => by unfold mkI iV; rw [h]
  have o6 := fun H => addMagR H (l := digB x.natAbs) (m := digB y.natAbs) l1 l2
  have o7 := fun H => compareMagR H x.natAbs y.natAbs
  rw [v1, v2] at o6
  have o8 : ∀ _ : y.natAbs ≤ x.natAbs, ∀ H, Sim Tryz.prog 224 #[.string (bs (digB x.natAbs)), .string (bs (digB y.natAbs))] H (.string (bs (digB (x.natAbs - y.natAbs)))) H := fun h H => by
    have := subMagR H (l := digB x.natAbs) (m := digB y.natAbs) l1 (ltlen (.inr h)) (by rw [v1, v2]; exact h)
    rwa [v1, v2] at this
  have o9 : ∀ _ : x.natAbs ≤ y.natAbs, ∀ H, Sim Tryz.prog 224 #[.string (bs (digB y.natAbs)), .string (bs (digB x.natAbs))] H (.string (bs (digB (y.natAbs - x.natAbs)))) H := fun h H => by
    have := subMagR H (l := digB y.natAbs) (m := digB x.natAbs) l2 (ltlen (.inr h)) (by rw [v1, v2]; exact h)
    rwa [v1, v2] at this
  have hbig : (¬ ((digB x.natAbs).length : Int) < 8 ∧ ¬ ((digB x.natAbs).length : Int) < 8) ∨ (((digB x.natAbs).length : Int) < 8 ∧ ¬ ((digB y.natAbs).length : Int) < 8) := by omega
  have hmain : ∀ z : Int, mkI z = .agg #[.bool (decide (z < 0)), .string (bs (digB z.natAbs))] := fun z => rfl
  rw [hmain (x + y)]
  clear hs v1 v2 l1 l2 o1 o2
  by_cases hsg : decide (x < 0) = decide (y < 0)
  · have e3 : (x + y).natAbs = x.natAbs + y.natAbs := by
      by_cases h : x < 0
      · have : y < 0 := by simpa [h] using hsg.symm
        omega
      · have : ¬ y < 0 := by simpa [h] using hsg.symm
        omega
    have e4 : decide (x + y < 0) = decide (x < 0) := by
      by_cases h : x < 0
      · have h2 : y < 0 := by simpa [h] using hsg.symm
        simp [h]; omega
      · have h2 : ¬ y < 0 := by simpa [h] using hsg.symm
        simp [h]; omega
    have e5 : (decide (x < 0) == decide (y < 0)) = true := by rw [hsg]; simp
    rw [e3, e4]
    generalize decide (x < 0) = sx at *
    generalize decide (y < 0) = sy at *
    generalize digB x.natAbs = l at *
    generalize digB y.natAbs = l' at *
    rcases hbig with ⟨h1, h2⟩ | ⟨h1, h2⟩
    all_goals
      simp -implicitDefEqProofs only [go_sem, simprocAttr, wa_cond, axC_t, axC_f, aLen, h1, h2, bool_eqt, e5]
      refine ax_quiet (by kernel_rfl) ?_
      simp -implicitDefEqProofs only [go_sem, simprocAttr]
      refine kv (o6 _) ?_
      simp -implicitDefEqProofs only [go_sem, simprocAttr, res162]
      first | exact .app _ _ | exact ⟨.app _ _, rfl⟩
  have e5 : (decide (x < 0) == decide (y < 0)) = false := by
    cases h : decide (x < 0) <;> cases h' : decide (y < 0) <;> simp_all
  rcases Nat.lt_trichotomy x.natAbs y.natAbs with hc | hc | hc
  · have o8 := o9 (by omega)
    have e3 : (x + y).natAbs = y.natAbs - x.natAbs := by
      by_cases h : x < 0
      · have : ¬ y < 0 := by simpa [h] using hsg
        omega
      · have : y < 0 := by simpa [h] using hsg
        omega
    have e4 : decide (x + y < 0) = decide (y < 0) := by
      by_cases h : x < 0
      · have h2 : ¬ y < 0 := by simpa [h] using hsg
        simp [h2]; omega
      · have h2 : y < 0 := by simpa [h] using hsg
        simp [h2]; omega
    have e6 : sgn ((x.natAbs : Int) - (y.natAbs : Int)) = -1 := by unfold sgn; rw [if_pos (by omega)]
    rw [e3, e4]
    rw [e6] at o7
    generalize decide (x < 0) = sx at *
    generalize decide (y < 0) = sy at *
    generalize digB x.natAbs = l at *
    generalize digB y.natAbs = l' at *
    rcases hbig with ⟨h1, h2⟩ | ⟨h1, h2⟩
    all_goals
      simp -implicitDefEqProofs only [go_sem, simprocAttr, wa_cond, axC_t, axC_f, aLen, h1, h2, bool_eqt, e5]
      refine kv (o7 _) ?_
      simp -implicitDefEqProofs only [go_sem, simprocAttr, wa_cond, axC_t, axC_f]
      refine ax_quiet (by kernel_rfl) ?_
      simp -implicitDefEqProofs only [go_sem, simprocAttr]
      refine kv (o8 _) ?_
      simp -implicitDefEqProofs only [go_sem, simprocAttr, res162]
      first | exact .app _ _ | exact ⟨.app _ _, rfl⟩
  · have e3 : x + y = 0 := by
      by_cases h : x < 0
      · have : ¬ y < 0 := by simpa [h] using hsg
        omega
      · have : y < 0 := by simpa [h] using hsg
        omega
    have e6 : sgn ((x.natAbs : Int) - (y.natAbs : Int)) = 0 := by unfold sgn; rw [if_neg (by omega), if_neg (by omega)]
    rw [e3, show Int.natAbs 0 = 0 from rfl, digB_zero]
    rw [e6] at o7
    generalize decide (x < 0) = sx at *
    generalize decide (y < 0) = sy at *
    generalize digB x.natAbs = l at *
    generalize digB y.natAbs = l' at *
    rcases hbig with ⟨h1, h2⟩ | ⟨h1, h2⟩
    all_goals
      simp -implicitDefEqProofs only [go_sem, simprocAttr, wa_cond, axC_t, axC_f, aLen, h1, h2, bool_eqt, e5]
      refine kv (o7 _) ?_
      simp -implicitDefEqProofs only [go_sem, simprocAttr, wa_cond, axC_t, axC_f, build106, res162]
      first | exact .app _ _ | exact ⟨.app _ _, rfl⟩
  · have o8 := o8 (by omega)
    have e3 : (x + y).natAbs = x.natAbs - y.natAbs := by
      by_cases h : x < 0
      · have : ¬ y < 0 := by simpa [h] using hsg
        omega
      · have : y < 0 := by simpa [h] using hsg
        omega
    have e4 : decide (x + y < 0) = decide (x < 0) := by
      by_cases h : x < 0
      · have h2 : ¬ y < 0 := by simpa [h] using hsg
        simp [h]; omega
      · have h2 : y < 0 := by simpa [h] using hsg
        simp [h]; omega
    have e6 : sgn ((x.natAbs : Int) - (y.natAbs : Int)) = 1 := by unfold sgn; rw [if_neg (by omega), if_pos (by omega)]
    rw [e3, e4]
    rw [e6] at o7
    generalize decide (x < 0) = sx at *
    generalize decide (y < 0) = sy at *
    generalize digB x.natAbs = l at *
    generalize digB y.natAbs = l' at *
    rcases hbig with ⟨h1, h2⟩ | ⟨h1, h2⟩
    all_goals
      simp -implicitDefEqProofs only [go_sem, simprocAttr, wa_cond, axC_t, axC_f, aLen, h1, h2, bool_eqt, e5]
      refine kv (o7 _) ?_
      simp -implicitDefEqProofs only [go_sem, simprocAttr, wa_cond, axC_t, axC_f]
      refine ax_quiet (by kernel_rfl) ?_
      simp -implicitDefEqProofs only [go_sem, simprocAttr]
      refine kv (o8 _) ?_
      simp -implicitDefEqProofs only [go_sem, simprocAttr, res162]
      first | exact .app _ _ | exact ⟨.app _ _, rfl⟩
end Go.Proofs.YthhmkaikopdmjaaGreat
namespace Go.Proofs.YthhmkaikopdmjaaGreat
open Go Go.Fw
theorem canon_len {g : Bool} {m : List UInt8} {k : Nat} (h : m.length ≤ k) : (digB (ival g m).natAbs).length ≤ k := by rw [ival_abs, ← digB_strip]; exact Nat.le_trans (dropZ_len m) h
theorem subRI (H : Heap) {g g' : Bool} {m m' : List UInt8} (hm : m.length ≤ 1000000) (hm' : m'.length ≤ 1000000) :
    Sim Tryz.prog 228 #[iV g m, iV g' m'] H (mkI (ival g m - ival g' m')) H := by
  refine flat_ex (flat_mkI _) ?_
  have o1 := fun H => negR H g' m'
  have l1 : (digB (-(ival g' m')).natAbs).length ≤ 1000000 := by rw [Int.natAbs_neg]; exact canon_len hm'
  have o2 := fun H => addRI H (g := g) (g' := decide (-(ival g' m') < 0)) (m := m) (m' := digB (-(ival g' m')).natAbs) hm l1
  rw [ival_mk, ← Int.sub_eq_add_neg] at o2
  generalize hz : ival g m - ival g' m' = z at *
  unfold mkI iV at *
  refine sxA tok mixed Tryz.func228 ?_
  simp -implicitDefEqProofs only [go_sem, simprocAttr]
  refine ax_quiet (by kernel_rfl) ?_
  simp -implicitDefEqProofs only [go_sem, simprocAttr]
  refine kv (o1 _) ?_
  simp -implicitDefEqProofs only [go_sem, simprocAttr]
  refine kv (o2 _) ?_
  simp -implicitDefEqProofs only [go_sem, simprocAttr, res228]
  first | exact .app _ _ | exact ⟨.app _ _, rfl⟩
theorem bool_neq {t : TypeId} (p q : Bool) (ht : t = 4) : aBin tt .neq t (.bool p) (.bool q) = some (.bool !(p == q)) := by subst ht; rfl
theorem compareRI (H : Heap) (g g' : Bool) (m m' : List UInt8) :
    Sim Tryz.prog 167 #[iV g m, iV g' m'] H (.int .i64 (sgn (ival g m - ival g' m'))) H := by
  refine flat_ex rfl ?_
  have o1 := fun H => canonR H g m
  have o2 := fun H => canonR H g' m'
  generalize ival g m = x at *
  generalize ival g' m' = y at *
  have o3 := fun H => compareMagR H x.natAbs y.natAbs
  have o4 := fun H => compareMagR H y.natAbs x.natAbs
  unfold mkI iV at o1 o2
  unfold iV
  refine sxA tok mixed Tryz.func167 ?_
  simp -implicitDefEqProofs only [go_sem, simprocAttr]
  refine ax_quiet (by kernel_rfl) ?_
  simp -implicitDefEqProofs only [go_sem, simprocAttr]
  refine kv (o1 _) ?_
  simp -implicitDefEqProofs only [go_sem, simprocAttr]
  refine kv (o2 _) ?_
  by_cases hx : x < 0
  · by_cases hy : y < 0
    · have e : sgn ((y.natAbs : Int) - (x.natAbs : Int)) = sgn (x - y) := by congr 1; omega
      rw [e] at o4
      simp -implicitDefEqProofs only [go_sem, simprocAttr, wa_cond, axC_t, axC_f, hx, hy, bool_neq, show (true == true) = true from rfl]
      refine kv (o4 _) ?_
      simp -implicitDefEqProofs only [go_sem, simprocAttr, res167]
      first | exact .app _ _ | exact ⟨.app _ _, rfl⟩
    · have e : sgn (x - y) = -1 := by unfold sgn; rw [if_pos (by omega)]
      rw [e]
      simp -implicitDefEqProofs only [go_sem, simprocAttr, wa_cond, axC_t, axC_f, hx, hy, bool_neq, res167, show (true == false) = false from rfl]
      first | exact .app _ _ | exact ⟨.app _ _, rfl⟩
  · by_cases hy : y < 0
    · have e : sgn (x - y) = 1 := by unfold sgn; rw [if_neg (by omega), if_pos (by omega)]
      rw [e]
      simp -implicitDefEqProofs only [go_sem, simprocAttr, wa_cond, axC_t, axC_f, hx, hy, bool_neq, res167, show (false == true) = false from rfl]
      first | exact .app _ _ | exact ⟨.app _ _, rfl⟩
    · have e : sgn ((x.natAbs : Int) - (y.natAbs : Int)) = sgn (x - y) := by congr 1; omega
      rw [e] at o3
      simp -implicitDefEqProofs only [go_sem, simprocAttr, wa_cond, axC_t, axC_f, hx, hy, bool_neq, show (false == false) = true from rfl]
      refine kv (o3 _) ?_
      simp -implicitDefEqProofs only [go_sem, simprocAttr, res167]
      first | exact .app _ _ | exact ⟨.app _ _, rfl⟩
end Go.Proofs.YthhmkaikopdmjaaGreat
namespace Go.Proofs.YthhmkaikopdmjaaGreat
open Go Go.Fw
def i8s (l : List UInt8) : List Value := l.map fun b => Value.int .i64 (b.toNat : Nat)
theorem i8s_length (l : List UInt8) : (i8s l).length = l.length := by simp [i8s]
theorem i8s_set (l : List UInt8) (k : Nat) (b : UInt8) : (i8s l).set k (.int .i64 (b.toNat : Nat)) = i8s (l.set k b) := by simp [i8s, List.map_set]
theorem i8_wr {l : List UInt8} {L : Heap} {k : Nat} {b : UInt8} (h : k < l.length) : wr (⟨i8s l, 1, true⟩ :: L) 0 k [.int .i64 (b.toNat : Nat)] = some (⟨i8s (l.set k b), 1, true⟩ :: L) := by
  rw [wr_eq]
  simp only [List.getElem?_cons_zero, List.set_cons_zero]
  rw [if_pos (by simp [i8s_length, allC, isCell]; omega), splice_one _ _ _ (by rw [i8s_length]; exact h), i8s_set]
theorem i8_rd1 {l : List UInt8} {L : Heap} {k : Nat} (h : k < l.length) : rd (⟨i8s l, 1, true⟩ :: L) 0 k 1 = some [.int .i64 (l[k].toNat : Nat)] := by
  unfold rd
  simp only [List.getElem?_cons_zero]
  rw [if_pos (by simp [i8s_length]; omega)]
  congr 1
  apply List.ext_getElem?
  intro j
  simp only [List.getElem?_take, List.getElem?_drop, i8s, List.getElem?_map]
  cases j with
  | zero => simp [List.getElem?_eq_getElem h]
  | succ j => simp
theorem make_i64 (H : Heap) (n : Nat) (h : n ≤ 2000000) : aMakeSlice tt H 229 (.int .i64 (n : Nat)) (.int .i64 (n : Nat)) = some (.slice (some ⟨H.length, 0, none⟩) n n, H ++ [⟨i8s (List.replicate n 0), 1, true⟩]) := by
  unfold aMakeSlice
  simp only [tt229, tt3]
  rw [if_pos (by omega)]
  by_cases h0 : n = 0
  · subst h0
    simp [zerosL, i8s]
  · simp only [Int.toNat_natCast, Nat.mul_one, if_neg h0, cells_int]
    rw [zerosL_one]
    simp [i8s]
theorem valB_set : ∀ (l : List UInt8) (j : Nat) (b : UInt8) (h : j < l.length), valB (l.set j b) + 256 ^ (l.length - 1 - j) * l[j].toNat = valB l + 256 ^ (l.length - 1 - j) * b.toNat := by
  intro l
  induction l with
  | nil => intro j b h; simp at h
  | cons x l ih =>
    intro j b h
    cases j with
    | zero =>
      simp only [List.set_cons_zero, List.getElem_cons_zero, List.length_cons, Nat.add_sub_cancel, Nat.sub_zero]
      rw [valB_cons, valB_cons, Nat.mul_comm (256 ^ l.length), Nat.mul_comm (256 ^ l.length)]
      omega
    | succ j =>
      have hj : j < l.length := by simpa using h
      have := ih j b hj
      simp only [List.set_cons_succ, List.getElem_cons_succ, List.length_cons]
      rw [valB_cons, valB_cons, List.length_set]
      have e : l.length + 1 - 1 - (j + 1) = l.length - 1 - j := by omega
      rw [e]
      omega
theorem valB_setw {o : List UInt8} {w : Nat} (h : w < o.length) (b : UInt8) : valB (o.set (o.length - 1 - w) b) + 256 ^ w * dgt o w = valB o + 256 ^ w * b.toNat := by
  have := valB_set o (o.length - 1 - w) b (by omega)
  have e : o.length - 1 - (o.length - 1 - w) = w := by omega
  rw [e] at this
  unfold dgt
  rw [dif_pos h]
  exact this
theorem dgt_setw {o : List UInt8} {w w' : Nat} (h : w < o.length) (hne : w ≠ w') (b : UInt8) : dgt (o.set (o.length - 1 - w) b) w' = dgt o w' := by
  unfold dgt
  by_cases h' : w' < o.length
  · simp [h', List.getElem_set, show ¬ (o.length - 1 - w = o.length - 1 - w') by omega]
  · simp [h']
theorem dgt_top {o : List UInt8} {w : Nat} (h : valB o < 256 ^ w) : dgt o w = 0 := by
  have h1 : lowB o (w + 1) ≤ valB o := by
    unfold lowB
    have := valB_from (o.take (o.length - (w + 1))) 0
    have e : valB o = valB (o.take (o.length - (w + 1))) * 256 ^ (o.drop (o.length - (w + 1))).length + valB (o.drop (o.length - (w + 1))) := by
      conv => lhs; rw [← List.take_append_drop (o.length - (w + 1)) o]
      unfold valB
      rw [List.foldl_append]
      exact valB_from _ _
    omega
  rw [lowB_succ] at h1
  rcases Nat.eq_zero_or_pos (dgt o w) with hz | hz
  · exact hz
  · have : 256 ^ w * 1 ≤ 256 ^ w * dgt o w := Nat.mul_le_mul_left _ hz
    omega
theorem mul_in {V V' P c d x y lw vb pw : Nat} (hP : P = pw) (h : V + P * c = vb + lw) (hs : V' + P * d = V + P * ((c + (d + x * y)) % 256)) : V' + P * 256 * ((c + (d + x * y)) / 256) = vb + (lw + P * (x * y)) := by
  have e := Nat.mod_add_div (c + (d + x * y)) 256
  have e2 : P * ((c + (d + x * y)) % 256) + P * 256 * ((c + (d + x * y)) / 256) = P * (c + (d + x * y)) := by
    rw [Nat.mul_assoc, ← Nat.mul_add, e]
  rw [Nat.mul_add, Nat.mul_add] at e2
  omega
end Go.Proofs.YthhmkaikopdmjaaGreat
namespace Go.Proofs.YthhmkaikopdmjaaGreat
open Go Go.Fw
theorem and_255 {a : Nat} (ha : a < 1000000) : andI .i64 (a : Int) 255 = ((a % 256 : Nat) : Int) := by
  have h255 : (255 : Int) = ((255 : Nat) : Int) := rfl
  unfold andI
  rw [h255, show IntKind.i64.bits = 64 from rfl, and_nat (by omega) (by omega), show (255 : Nat) = 2 ^ 8 - 1 from rfl, Nat.and_two_pow_sub_one_eq_mod]
  exact w64 (by omega) (by omega)
theorem valB_rep (n : Nat) : valB (List.replicate n 0) = 0 := by
  induction n with
  | zero => rfl
  | succ n ih => rw [List.replicate_succ, valB_cons, ih]; simp
theorem mulMagR (H : Heap) {l m : List UInt8} (hl : l.length ≤ 1000000) (hm : m.length ≤ 1000000) :
    Sim Tryz.prog 231 #[.string (bs l), .string (bs m)] H (.string (bs (digB (valB l * valB m)))) H := by
  refine flat_ex rfl ?_
  have a0 : IntKind.i64.wrap ((l.length : Int) + (m.length : Int)) = ((l.length + m.length : Nat) : Int) := by rw [addc, w64n (by omega)]
  have a1 : IntKind.i64.wrap ((l.length : Int) - 1) = (l.length : Int) - 1 - ((0 : Nat) : Int) := by rw [w64 (by omega) (by omega)]; omega
  have aL : aLen tt [229] (.slice (some ⟨H.length, 0, none⟩) (l.length + m.length) (l.length + m.length)) = some (.int .i64 ((l.length + m.length : Nat) : Int)) := rfl
  refine sxA tok mixed Tryz.func231 ?_
  simp -implicitDefEqProofs only [go_sem, simprocAttr, -Int.reducePow, -Nat.reducePow, aLen, a0, a1, make_i64 H (l.length + m.length) (by omega)]
  refine ax_midl (fun s T => ∃ o : List UInt8, s 5 = .slice (some ⟨H.length, 0, none⟩) (l.length + m.length) (l.length + m.length) ∧ o.length = l.length + m.length ∧ valB o = valB l * valB m ∧ T = H ++ [⟨i8s o, 1, true⟩]) ?_ ?_
  · refine ax_loopx (fun (p : Nat) s T => ∃ o : List UInt8, s 0 = .string (bs l) ∧ s 1 = .string (bs m) ∧ s 5 = .slice (some ⟨H.length, 0, none⟩) (l.length + m.length) (l.length + m.length) ∧ s 6 = .int .i64 ((l.length : Int) - 1 - (p : Nat)) ∧ p ≤ l.length ∧
      o.length = l.length + m.length ∧ valB o = lowB l p * valB m ∧ T = H ++ [⟨i8s o, 1, true⟩]) (fun p => l.length - p) 0 ?_ ?_
    · refine ⟨List.replicate (l.length + m.length) 0, ?_⟩
      simp -implicitDefEqProofs only [go_sem, simprocAttr, -Int.reducePow, -Nat.reducePow]
      exact ⟨by simp, by rw [valB_rep, lowB_zero, Nat.zero_mul]⟩
    rintro p s T ⟨o, s0, s1, s5, s6, hp, ho, hv, rfl⟩
    simp -implicitDefEqProofs only [go_sem, simprocAttr, -Int.reducePow, -Nat.reducePow, s6]
    refine ax_cond2 ?_
    simp only [ev_tmp, ev_const, ev_func, upd_at, put_some, put_none, bndB_bool, Nat.reduceEqDiff, if_true, if_false, ↓reduceIte, reduceCtorEq]
    refine ⟨fun hc0 => have hlt := of_decide_eq_true hc0; ?_, fun hc0 => have hlt := of_decide_eq_false hc0; ?_⟩
    · have hpl : p < l.length := by omega
      obtain ⟨b, hb1, hb2⟩ := dgt_at hpl
      have hx := dgt_lt l p
      have hlow : lowB l p < 256 ^ p := by
        unfold lowB
        have := valB_lt (l.drop (l.length - p))
        have e : (l.drop (l.length - p)).length = p := by simp; omega
        rwa [e] at this
      have hvm := valB_lt m
      have htop : dgt o (p + m.length) = 0 := by
        refine dgt_top ?_
        rw [hv, Nat.pow_add]
        exact Nat.mul_lt_mul'' hlow hvm
      have a2 : IntKind.i64.wrap ((m.length : Int) - 1) = (m.length : Int) - 1 - ((0 : Nat) : Int) := by rw [w64 (by omega) (by omega)]; omega
      simp -implicitDefEqProofs only [go_sem, simprocAttr, -Int.reducePow, -Nat.reducePow, s1, aLen, a2]
      refine ax_midl (fun s T => ∃ (o : List UInt8) (c : Nat), s 0 = .string (bs l) ∧ s 1 = .string (bs m) ∧ s 5 = .slice (some ⟨H.length, 0, none⟩) (l.length + m.length) (l.length + m.length) ∧ s 6 = .int .i64 ((l.length : Int) - 1 - (p : Nat)) ∧ s 7 = .int .i64 (c : Nat) ∧
        o.length = l.length + m.length ∧ c ≤ 255 ∧ dgt o (p + m.length) = 0 ∧ valB o + 256 ^ (p + m.length) * c = lowB l p * valB m + 256 ^ p * dgt l p * valB m ∧ T = H ++ [⟨i8s o, 1, true⟩]) ?_ ?_
      · refine ax_loopx (fun (q : Nat) s T => ∃ (o : List UInt8) (c : Nat), s 0 = .string (bs l) ∧ s 1 = .string (bs m) ∧ s 5 = .slice (some ⟨H.length, 0, none⟩) (l.length + m.length) (l.length + m.length) ∧ s 6 = .int .i64 ((l.length : Int) - 1 - (p : Nat)) ∧ s 7 = .int .i64 (c : Nat) ∧
          s 8 = .int .i64 ((m.length : Int) - 1 - (q : Nat)) ∧ q ≤ m.length ∧ o.length = l.length + m.length ∧ c ≤ 255 ∧ dgt o (p + m.length) = 0 ∧ valB o + 256 ^ (p + q) * c = lowB l p * valB m + 256 ^ p * dgt l p * lowB m q ∧ T = H ++ [⟨i8s o, 1, true⟩]) (fun q => m.length - q) 0 ?_ ?_
        · refine ⟨o, 0, ?_⟩
          simp -implicitDefEqProofs only [go_sem, simprocAttr, -Int.reducePow, -Nat.reducePow, s0, s1, s5, s6]
          exact ⟨ho, htop, by rw [lowB_zero, Nat.mul_zero, hv]; rfl⟩
        clear s0 s1 s5 s6 ho hv htop
        clear o
        rintro q s T ⟨o, c, s0, s1, s5, s6, s7, s8, hq, ho, hc, htop, hv, rfl⟩
        simp -implicitDefEqProofs only [go_sem, simprocAttr, -Int.reducePow, -Nat.reducePow, s8]
        refine ax_cond2 ?_
        simp only [ev_tmp, ev_const, ev_func, upd_at, put_some, put_none, bndB_bool, Nat.reduceEqDiff, if_true, if_false, ↓reduceIte, reduceCtorEq]
        refine ⟨fun hc0 => have hlq := of_decide_eq_true hc0; ?_, fun hc0 => have hlq := of_decide_eq_false hc0; ?_⟩
        · have hql : q < m.length := by omega
          obtain ⟨b', hb1', hb2'⟩ := dgt_at hql
          have hy := dgt_lt m q
          have hd := dgt_lt o (p + q)
          have ei : (l.length : Int) - 1 - (p : Nat) = ((l.length - 1 - p : Nat) : Int) := by omega
          have ek : (m.length : Int) - 1 - (q : Nat) = ((m.length - 1 - q : Nat) : Int) := by omega
          have a3 : IntKind.i64.wrap (((l.length - 1 - p : Nat) : Int) + ((m.length - 1 - q : Nat) : Int)) = ((l.length - 1 - p + (m.length - 1 - q) : Nat) : Int) := by rw [addc, w64n (by omega)]
          have a4 : IntKind.i64.wrap (((l.length - 1 - p + (m.length - 1 - q) : Nat) : Int) + 1) = ((o.length - 1 - (p + q) : Nat) : Int) := by rw [w64 (by omega) (by omega)]; omega
          have a5 : IntKind.i64.wrap ((b.toNat : Nat) : Int) = ((dgt l p : Nat) : Int) := by rw [hb2]; exact w64n (by omega)
          have a6 : IntKind.i64.wrap ((b'.toNat : Nat) : Int) = ((dgt m q : Nat) : Int) := by rw [hb2']; exact w64n (by omega)
          have hxy : dgt l p * dgt m q ≤ 255 * 255 := Nat.mul_le_mul (by omega) (by omega)
          have a7 : IntKind.i64.wrap (((dgt l p : Nat) : Int) * ((dgt m q : Nat) : Int)) = ((dgt l p * dgt m q : Nat) : Int) := by
            rw [show ((dgt l p : Nat) : Int) * ((dgt m q : Nat) : Int) = ((dgt l p * dgt m q : Nat) : Int) by simp, w64n (by omega)]
          have a8 : IntKind.i64.wrap (((dgt o (p + q) : Nat) : Int) + ((dgt l p * dgt m q : Nat) : Int)) = ((dgt o (p + q) + dgt l p * dgt m q : Nat) : Int) := by rw [addc, w64n (by omega)]
          have a9 : IntKind.i64.wrap ((c : Int) + ((dgt o (p + q) + dgt l p * dgt m q : Nat) : Int)) = ((c + (dgt o (p + q) + dgt l p * dgt m q) : Nat) : Int) := by rw [addc, w64n (by omega)]
          have a10 := and_255 (a := c + (dgt o (p + q) + dgt l p * dgt m q)) (by omega)
          have a11 := fdiv_pow (c + (dgt o (p + q) + dgt l p * dgt m q)) 8
          have a12 : IntKind.i64.wrap (((m.length - 1 - q : Nat) : Int) - 1) = (m.length : Int) - 1 - ((q + 1 : Nat) : Int) := by rw [w64 (by omega) (by omega)]; omega
          have hd8 : ¬ ((8 : Int) < 0) := by omega
          have hw1 : p + q < o.length := by omega
          have hrd := i8_rd1 (l := o) (L := []) (k := o.length - 1 - (p + q)) (by omega)
          have hdd : ((o[o.length - 1 - (p + q)]'(by omega)).toNat) = dgt o (p + q) := by unfold dgt; rw [dif_pos hw1]
          rw [hdd] at hrd
          have hset := valB_setw hw1 (UInt8.ofNat ((c + (dgt o (p + q) + dgt l p * dgt m q)) % 256))
          have hby : (UInt8.ofNat ((c + (dgt o (p + q) + dgt l p * dgt m q)) % 256)).toNat = (c + (dgt o (p + q) + dgt l p * dgt m q)) % 256 := by simp
          have hwr := i8_wr (l := o) (L := []) (k := o.length - 1 - (p + q)) (b := UInt8.ofNat ((c + (dgt o (p + q) + dgt l p * dgt m q)) % 256)) (by omega)
          rw [hby] at hset hwr
          have hst := mul_in rfl hv hset
          have htop2 := dgt_setw (w' := p + m.length) hw1 (by omega) (UInt8.ofNat ((c + (dgt o (p + q) + dgt l p * dgt m q)) % 256))
          rw [htop] at htop2
          have hfin : 256 ^ p * dgt l p * lowB m (q + 1) = 256 ^ p * dgt l p * lowB m q + 256 ^ (p + q) * (dgt l p * dgt m q) := by
            rw [lowB_succ, Nat.mul_add, Nat.pow_add]
            congr 1
            simp only [Nat.mul_assoc, Nat.mul_left_comm]
          have hin1 : (0 : Int) ≤ ((o.length - 1 - (p + q) : Nat) : Int) ∧ ((o.length - 1 - (p + q) : Nat) : Int) < ((l.length + m.length : Nat) : Int) := by omega
          have hnn1 : (0 : Int) ≤ ((l.length - 1 - p : Nat) : Int) := by omega
          have hnn2 : (0 : Int) ≤ ((m.length - 1 - q : Nat) : Int) := by omega
          rw [ei] at s6
          rw [ek] at s8
          simp -implicitDefEqProofs only [go_sem, simprocAttr, -Int.reducePow, -Nat.reducePow]
          refine ax_quiet (by kernel_rfl) ?_
          simp -implicitDefEqProofs only [go_sem, simprocAttr, -Int.reducePow, -Nat.reducePow, s0, s1, s5, s6, s7, s8, a3, a4, aIndexAddr, hin1, Nat.mul_one, hrd, hnn1, hnn2, hb1, hb1', aConv, a5, a6, a7, a8, a9, a10, hwr, a11, hd8, show min 8 64 = 8 from rfl, a12]
          refine ⟨q + 1, ⟨o.set (o.length - 1 - (p + q)) (UInt8.ofNat ((c + (dgt o (p + q) + dgt l p * dgt m q)) % 256)), (c + (dgt o (p + q) + dgt l p * dgt m q)) / 2 ^ 8, ?_⟩, by omega⟩
          refine ⟨by rw [ei], rfl, rfl, by omega, by simpa using ho, by omega, htop2, ?_, rfl⟩
          rw [hfin, ← hst, ← Nat.add_assoc p q 1, Nat.pow_succ]
        · have : q = m.length := by omega
          subst this
          rw [lowB_all (Nat.le_refl _)] at hv
          simp -implicitDefEqProofs only [go_sem, simprocAttr, -Int.reducePow, -Nat.reducePow, s0, s1, s5, s6, s7]
          exact ⟨o, c, rfl, ho, hc, htop, hv, rfl⟩
      clear s0 s1 s5 s6 ho hv htop
      clear o
      rintro s T ⟨o, c, s0, s1, s5, s6, s7, ho, hc, htop, hv, rfl⟩
      have ei : (l.length : Int) - 1 - (p : Nat) = ((o.length - 1 - (p + m.length) : Nat) : Int) := by omega
      have hw1 : p + m.length < o.length := by omega
      have hrd := i8_rd1 (l := o) (L := []) (k := o.length - 1 - (p + m.length)) (by omega)
      have hdd : ((o[o.length - 1 - (p + m.length)]'(by omega)).toNat) = 0 := by unfold dgt at htop; rw [dif_pos hw1] at htop; exact htop
      rw [hdd] at hrd
      have hset := valB_setw hw1 (UInt8.ofNat c)
      have hby : (UInt8.ofNat c).toNat = c := by simp; omega
      have hwr := i8_wr (l := o) (L := []) (k := o.length - 1 - (p + m.length)) (b := UInt8.ofNat c) (by omega)
      rw [hby] at hset hwr
      rw [htop, Nat.mul_zero, Nat.add_zero, hv] at hset
      have hin1 : (0 : Int) ≤ ((o.length - 1 - (p + m.length) : Nat) : Int) ∧ ((o.length - 1 - (p + m.length) : Nat) : Int) < ((l.length + m.length : Nat) : Int) := by omega
      have a3 : IntKind.i64.wrap (((0 : Nat) : Int) + (c : Int)) = (c : Int) := by rw [w64 (by omega) (by omega)]; omega
      have a4 : IntKind.i64.wrap (((o.length - 1 - (p + m.length) : Nat) : Int) - 1) = (l.length : Int) - 1 - ((p + 1 : Nat) : Int) := by rw [w64 (by omega) (by omega)]; omega
      rw [ei] at s6
      rw [cast0] at hrd a3
      simp -implicitDefEqProofs only [go_sem, simprocAttr, -Int.reducePow, -Nat.reducePow, s0, s1, s5, s6, s7, aIndexAddr, hin1, Nat.mul_one, hrd, a3, hwr, a4]
      refine ⟨p + 1, ⟨o.set (o.length - 1 - (p + m.length)) (UInt8.ofNat c), rfl, by omega, by simpa using ho, ?_, rfl⟩, by omega⟩
      rw [hset, lowB_succ, Nat.add_mul]
    · have : p = l.length := by omega
      subst this
      rw [lowB_all (Nat.le_refl _)] at hv
      simp -implicitDefEqProofs only [go_sem, simprocAttr, -Int.reducePow, -Nat.reducePow, s5]
      exact ⟨o, ho, hv, rfl⟩
  rintro s T ⟨o, s5, ho, hv, rfl⟩
  rw [← ho] at s5 aL
  have mk := fun L : Heap => make_u8 (H ++ [⟨i8s o, 1, true⟩]) o.length (by omega)
  have mk := mk []
  simp only [List.append_assoc, List.cons_append, List.nil_append, List.length_append, List.length_cons, List.length_nil, Nat.zero_add] at mk
  simp -implicitDefEqProofs only [go_sem, simprocAttr, -Int.reducePow, -Nat.reducePow, s5, aL, mk]
  refine ax_midl (fun s T => ∃ t : List UInt8, s 9 = .slice (some ⟨H.length + 1, 0, none⟩) o.length o.length ∧ t = o ∧ T = H ++ [⟨i8s o, 1, true⟩, ⟨u8s t, 1, true⟩]) ?_ ?_
  · refine ax_loopx (fun (i : Nat) s T => ∃ t : List UInt8, s 5 = .slice (some ⟨H.length, 0, none⟩) o.length o.length ∧ s 9 = .slice (some ⟨H.length + 1, 0, none⟩) o.length o.length ∧ s 10 = .int .i64 (i : Nat) ∧ i ≤ o.length ∧ t.length = o.length ∧ t.take i = o.take i ∧ T = H ++ [⟨i8s o, 1, true⟩, ⟨u8s t, 1, true⟩]) (fun i => o.length - i) 0 ?_ ?_
    · refine ⟨List.replicate o.length 0, ?_⟩
      simp -implicitDefEqProofs only [go_sem, simprocAttr, -Int.reducePow, -Nat.reducePow]
      exact ⟨s5, by simp⟩
    rintro i s T ⟨t, s5, s9, s10, hi, ht, htk, rfl⟩
    simp -implicitDefEqProofs only [go_sem, simprocAttr, -Int.reducePow, -Nat.reducePow, s5, s10, aL]
    refine ax_cond2 ?_
    simp only [ev_tmp, ev_const, ev_func, upd_at, put_some, put_none, bndB_bool, Nat.reduceEqDiff, if_true, if_false, ↓reduceIte, reduceCtorEq]
    refine ⟨fun hc0 => have hlt := of_decide_eq_true hc0; ?_, fun hc0 => have hlt := of_decide_eq_false hc0; ?_⟩
    · have hio : i < o.length := by omega
      have hrd := i8_rd1 (l := o) (L := [⟨u8s t, 1, true⟩]) (k := i) hio
      have a2 : IntKind.u8.wrap ((o[i].toNat : Nat) : Int) = ((o[i].toNat : Nat) : Int) := wu8 (by omega) (by have := UInt8.toNat_lt o[i]; omega)
      have a3 : IntKind.i64.wrap ((i : Int) + 1) = ((i + 1 : Nat) : Int) := by rw [w64 (by omega) (by omega)]; rfl
      have hi2 : (0 : Int) ≤ (i : Int) ∧ (i : Int) < (o.length : Int) := by omega
      have hwr := u8_wr (l := t) (L := []) (k := i) (b := o[i]) (by omega)
      have htake : (t.set i o[i]).take (i + 1) = o.take (i + 1) := by
        rw [List.take_add_one, List.take_add_one, List.getElem?_set_self (by omega), List.getElem?_eq_getElem hio, List.take_set_of_le (Nat.le_refl _), htk]
      have htl : (t.set i o[i]).length = o.length := by simpa using ht
      generalize t.set i o[i] = t2 at *
      generalize o[i] = x at *
      simp -implicitDefEqProofs only [go_sem, simprocAttr, -Int.reducePow, -Nat.reducePow, s5, s9, s10, aL, aIndexAddr, hi2, Nat.mul_one, hrd, aConv, a2, hwr, a3]
      exact ⟨i + 1, ⟨t2, rfl, by omega, htl, htake, rfl⟩, by omega⟩
    · have : i = o.length := by omega
      subst this
      have : t = o := by rw [List.take_of_length_le (by omega), List.take_length] at htk; exact htk
      subst this
      simp -implicitDefEqProofs only [go_sem, simprocAttr, -Int.reducePow, -Nat.reducePow, s9]
      exact ⟨t, rfl, rfl⟩
  rintro s T ⟨t, s9, rfl, rfl⟩
  have hrd := u8_rd (L := []) (l := t) (k := 0) (n := t.length) (by omega)
  rw [List.drop_zero] at hrd
  have o1 := fun H => trimR H t
  rw [digB_strip, hv] at o1
  unfold bs at o1
  simp -implicitDefEqProofs only [go_sem, simprocAttr, -Int.reducePow, -Nat.reducePow, s9, aConv, hrd, bytesOf_u8s]
  refine kv (o1 _) ?_
  simp -implicitDefEqProofs only [go_sem, simprocAttr, -Int.reducePow, -Nat.reducePow, res231]
  first | exact .app _ _ | exact ⟨.app _ _, rfl⟩
end Go.Proofs.YthhmkaikopdmjaaGreat
namespace Go.Proofs.YthhmkaikopdmjaaGreat
open Go Go.Fw
theorem mulRI (H : Heap) {g g' : Bool} {m m' : List UInt8} (hm : m.length ≤ 1000000) (hm' : m'.length ≤ 1000000) :
    Sim Tryz.prog 171 #[iV g m, iV g' m'] H (mkI (ival g m * ival g' m')) H := by
  refine flat_ex (flat_mkI _) ?_
  have o1 := fun H => canonR H g m
  have o2 := fun H => canonR H g' m'
  have l1 : (digB (ival g m).natAbs).length ≤ 1000000 := canon_len hm
  have l2 : (digB (ival g' m').natAbs).length ≤ 1000000 := canon_len hm'
  generalize ival g m = x at *
  generalize ival g' m' = y at *
  have v1 := valB_dig x.natAbs
  have v2 := valB_dig y.natAbs
  have n1 : bs (digB x.natAbs) = bs [] ↔ x = 0 := by rw [bs_inj, digB_nil_iff]; omega
  have n2 : bs (digB y.natAbs) = bs [] ↔ y = 0 := by rw [bs_inj, digB_nil_iff]; omega
  unfold mkI iV at o1 o2
  unfold iV
  by_cases hx : x = 0
  · subst hx
    rw [Int.zero_mul]
    unfold mkI iV
    rw [show Int.natAbs 0 = 0 from rfl, digB_zero] at *
    refine sxA tok mixed Tryz.func171 ?_
    simp -implicitDefEqProofs only [go_sem, simprocAttr]
    refine ax_quiet (by kernel_rfl) ?_
    simp -implicitDefEqProofs only [go_sem, simprocAttr]
    refine kv (o1 _) ?_
    simp -implicitDefEqProofs only [go_sem, simprocAttr]
    refine kv (o2 _) ?_
    simp -implicitDefEqProofs only [go_sem, simprocAttr, wa_cond, axC_t, axC_f, build106, res171]
    first | exact .app _ _ | exact ⟨.app _ _, rfl⟩
  by_cases hy : y = 0
  · subst hy
    rw [Int.mul_zero]
    have n1 : ¬ bs (digB x.natAbs) = bs [] := fun h => hx (n1.1 h)
    unfold mkI iV
    rw [show Int.natAbs 0 = 0 from rfl, digB_zero] at *
    refine sxA tok mixed Tryz.func171 ?_
    simp -implicitDefEqProofs only [go_sem, simprocAttr]
    refine ax_quiet (by kernel_rfl) ?_
    simp -implicitDefEqProofs only [go_sem, simprocAttr]
    refine kv (o1 _) ?_
    simp -implicitDefEqProofs only [go_sem, simprocAttr]
    refine kv (o2 _) ?_
    simp -implicitDefEqProofs only [go_sem, simprocAttr, wa_cond, axC_t, axC_f, n1, build106, res171]
    first | exact .app _ _ | exact ⟨.app _ _, rfl⟩
  have n1 : ¬ bs (digB x.natAbs) = bs [] := fun h => hx (n1.1 h)
  have n2 : ¬ bs (digB y.natAbs) = bs [] := fun h => hy (n2.1 h)
  have a0 : IntKind.i64.wrap (((digB x.natAbs).length : Int) + ((digB y.natAbs).length : Int)) = (((digB x.natAbs).length + (digB y.natAbs).length : Nat) : Int) := by rw [addc, w64n (by omega)]
  by_cases hs : (digB x.natAbs).length + (digB y.natAbs).length < 8
  · have p1 := valB_lt (digB x.natAbs)
    have p2 := valB_lt (digB y.natAbs)
    have q1 : x.natAbs * y.natAbs < 256 ^ ((digB x.natAbs).length + (digB y.natAbs).length) := by
      rw [v1] at p1
      rw [v2] at p2
      rw [Nat.pow_add]; exact Nat.mul_lt_mul'' p1 p2
    have q2 := pow256_le (i := (digB x.natAbs).length + (digB y.natAbs).length) (by omega)
    have hab : (x * y).natAbs = x.natAbs * y.natAbs := Int.natAbs_mul x y
    have o3 := fun H => valueR H (decide (x < 0)) (m := digB x.natAbs) (by omega)
    have o4 := fun H => valueR H (decide (y < 0)) (m := digB y.natAbs) (by omega)
    rw [ival_mk] at o3 o4
    have hz : (x * y).natAbs < 72057594037927936 := by omega
    have o5 := fun H => ofR H (z := x * y) (by omega) (by omega)
    have e1 : (((digB x.natAbs).length + (digB y.natAbs).length : Nat) : Int) < 8 := by omega
    have a1 : IntKind.i64.wrap (x * y) = x * y := by rw [w64 (by omega) (by omega)]
    clear hab hz q1
    generalize digB x.natAbs = l at *
    generalize digB y.natAbs = l' at *
    unfold iV at o3 o4
    unfold mkI iV at o5 ⊢
    refine sxA tok mixed Tryz.func171 ?_
    simp -implicitDefEqProofs only [go_sem, simprocAttr]
    refine ax_quiet (by kernel_rfl) ?_
    simp -implicitDefEqProofs only [go_sem, simprocAttr]
    refine kv (o1 _) ?_
    simp -implicitDefEqProofs only [go_sem, simprocAttr]
    refine kv (o2 _) ?_
    simp -implicitDefEqProofs only [go_sem, simprocAttr, wa_cond, axC_t, axC_f, n1, n2, aLen, a0, e1]
    refine ax_quiet (by kernel_rfl) ?_
    simp -implicitDefEqProofs only [go_sem, simprocAttr]
    refine kv (o3 _) ?_
    simp -implicitDefEqProofs only [go_sem, simprocAttr]
    refine kv (o4 _) ?_
    simp -implicitDefEqProofs only [go_sem, simprocAttr, a1]
    refine kv (o5 _) ?_
    simp -implicitDefEqProofs only [go_sem, simprocAttr, res171]
    first | exact .app _ _ | exact ⟨.app _ _, rfl⟩
  have o6 := fun H => mulMagR H (l := digB x.natAbs) (m := digB y.natAbs) l1 l2
  rw [v1, v2] at o6
  have e1 : ¬ (((digB x.natAbs).length + (digB y.natAbs).length : Nat) : Int) < 8 := by omega
  have e4 : (!(decide (x < 0) == decide (y < 0))) = decide (x * y < 0) := by
    by_cases h : x < 0
    · by_cases h' : y < 0
      · have := Int.mul_pos_of_neg_of_neg h h'
        simp [h, h']; omega
      · have := Int.mul_neg_of_neg_of_pos h (show 0 < y by omega)
        simp [h, h', this]
    · by_cases h' : y < 0
      · have := Int.mul_neg_of_pos_of_neg (show 0 < x by omega) h'
        simp [h, h', this]
      · have := Int.mul_pos (show 0 < x by omega) (show 0 < y by omega)
        simp [h, h']; omega
  unfold mkI iV
  rw [Int.natAbs_mul, ← e4]
  generalize decide (x < 0) = sx at *
  generalize decide (y < 0) = sy at *
  generalize digB x.natAbs = l at *
  generalize digB y.natAbs = l' at *
  refine sxA tok mixed Tryz.func171 ?_
  simp -implicitDefEqProofs only [go_sem, simprocAttr]
  refine ax_quiet (by kernel_rfl) ?_
  simp -implicitDefEqProofs only [go_sem, simprocAttr]
  refine kv (o1 _) ?_
  simp -implicitDefEqProofs only [go_sem, simprocAttr]
  refine kv (o2 _) ?_
  simp -implicitDefEqProofs only [go_sem, simprocAttr, wa_cond, axC_t, axC_f, n1, n2, aLen, a0, e1]
  refine ax_quiet (by kernel_rfl) ?_
  simp -implicitDefEqProofs only [go_sem, simprocAttr, bool_neq]
  refine kv (o6 _) ?_
  simp -implicitDefEqProofs only [go_sem, simprocAttr, res171]
  first | exact .app _ _ | exact ⟨.app _ _, rfl⟩
end Go.Proofs.YthhmkaikopdmjaaGreat
