/- sorting: heaps; sorting: by a heap; sorting: breaking patterns; sorting: almost sorted rows; sorting: the part of equal ones; sorting: the two parts; sorting: the whole; hull: sorting of points, Compact, distinct; hull: distinct, flat, check; hull.chain; hull.flat, hull.hull; hull.Of; swept.arc, swept.Arc; ring.edges: neighbours of a row, for a loop that may be left; ring.Area; swept.Excess; law46 turned; ring.Same; ring.first; ring: canonical, simplify (where nothing is left out); the arc is the hull; flat or not: turning changes nothing; turning: points, corners, sides. Conditions: none. -/
import Derived.Test.YthhmkaikopdmjaaGreatMe
set_option linter.unusedSimpArgs false
set_option linter.unusedVariables false
set_option maxRecDepth 8000
namespace Go.Proofs.YthhmkaikopdmjaaGreat
open Go Go.Fw
def HpBut (z : RR → RR → Int) (L : List RR) (first lo hi r : Nat) : Prop := ∀ i c, lo ≤ i → i ≠ r → (c = 2 * i + 1 ∨ c = 2 * i + 2) → c < hi → ∀ (h1 : first + i < L.length) (h2 : first + c < L.length), Lq z L[first + c] L[first + i]
def HpUp (z : RR → RR → Int) (L : List RR) (first lo hi r : Nat) : Prop := ∀ i c, lo ≤ i → (r = 2 * i + 1 ∨ r = 2 * i + 2) → (c = 2 * r + 1 ∨ c = 2 * r + 2) → c < hi → ∀ (h1 : first + i < L.length) (h2 : first + c < L.length), Lq z L[first + c] L[first + i]
def Hp (z : RR → RR → Int) (L : List RR) (first lo hi : Nat) : Prop := ∀ i c, lo ≤ i → (c = 2 * i + 1 ∨ c = 2 * i + 2) → c < hi → ∀ (h1 : first + i < L.length) (h2 : first + c < L.length), Lq z L[first + c] L[first + i]
theorem Lq.refl {g : FuncId} {z : RR → RR → Int} {ok : RR → Prop} (hg : Cmp g z ok) {a : RR} (ha : ok a) : Lq z a a := fun h => hg.asy a a ha ha h h
theorem Lq.of_lt {g : FuncId} {z : RR → RR → Int} {ok : RR → Prop} (hg : Cmp g z ok) {a b : RR} (ha : ok a) (hb : ok b) (h : z a b < 0) : Lq z a b := hg.asy a b ha hb h
theorem siftG {g : FuncId} {z : RR → RR → Int} {ok : RR → Prop} (hg : Cmp g z ok) (T0 : Heap) {b : Nat} {L0 : List RR} {c lo hi first : Nat} (hown : OwnR T0 b L0) (hok : ∀ r ∈ L0, ok r) (hhi : first + hi ≤ L0.length) (hlo : lo ≤ 1000000) (hlen : L0.length ≤ 1000000) (hh : HpBut z L0 first lo hi lo) :
    ∃ L, Sim Tryz.prog 285 #[.slice (some ⟨b, 0, none⟩) L0.length c, .int .i64 (lo : Nat), .int .i64 (hi : Nat), .int .i64 (first : Nat), .func (.func g) #[] #[]] T0 (.tuple #[]) (putR T0 b L) ∧ Within L0 L (first + lo) (first + hi) ∧ Hp z L first lo hi := by
  suffices hx : ∃ w H', Sim Tryz.prog 285 #[.slice (some ⟨b, 0, none⟩) L0.length c, .int .i64 (lo : Nat), .int .i64 (hi : Nat), .int .i64 (first : Nat), .func (.func g) #[] #[]] T0 w H' ∧ w = .tuple #[] ∧ ∃ L, H' = putR T0 b L ∧ Within L0 L (first + lo) (first + hi) ∧ Hp z L first lo hi by
    obtain ⟨w, H', h1, rfl, L, rfl, h2⟩ := hx
    exact ⟨L, h1, h2⟩
  have hb := hown.lt
  have hself := putR_self hown
  refine sxA tok mixed Tryz.func285 ?_
  simp -implicitDefEqProofs only [go_sem, simprocAttr]
  refine ax_loopx (fun (r : Nat) s T => s 0 = .slice (some ⟨b, 0, none⟩) L0.length c ∧ s 2 = .int .i64 (hi : Nat) ∧ s 3 = .int .i64 (first : Nat) ∧ s 4 = .func (.func g) #[] #[] ∧ s 10 = .int .i64 (r : Nat) ∧ lo ≤ r ∧ (r < hi ∨ r = lo) ∧
    ∃ L, T = putR T0 b L ∧ Within L0 L (first + lo) (first + hi) ∧ HpBut z L first lo hi r ∧ HpUp z L first lo hi r) (fun r => hi - r) lo ?_ ?_
  · simp -implicitDefEqProofs only [go_sem, simprocAttr]
    refine ⟨.inr trivial, L0, hself.symm, .refl _ _ _, hh, ?_⟩
    intro i c h1 h2 h3 h4
    omega
  clear hh hself
  rintro r s T ⟨s0, s2, s3, s4, s10, hr1, hr2, L, rfl, hw, hbut, hup⟩
  have hLl := hw.len
  have hoL := hw.oks hok
  have m1 : IntKind.i64.wrap (2 * (r : Int)) = ((2 * r : Nat) : Int) := by rw [w64 (by omega) (by omega)]; omega
  have m2 : IntKind.i64.wrap (((2 * r : Nat) : Int) + 1) = ((2 * r + 1 : Nat) : Int) := by rw [w64 (by omega) (by omega)]; rfl
  by_cases hend : hi ≤ 2 * r + 1
  · have g1 : (hi : Int) ≤ ((2 * r + 1 : Nat) : Int) := by omega
    simp -implicitDefEqProofs only [go_sem, simprocAttr, wa_cond, axC_t, axC_f, s2, s10, m1, m2, g1]
    refine ⟨[], rfl, rfl, L, rfl, hw, ?_⟩
    intro i c h1 h2 h3 h4 h5
    by_cases hir : i = r
    · omega
    · exact hbut i c h1 hir h2 h3 h4 h5
  have g1 : ¬ (hi : Int) ≤ ((2 * r + 1 : Nat) : Int) := by omega
  have hR : first + r < L.length := by omega
  have hC : first + (2 * r + 1) < L.length := by omega
  have ho := putR_own T0 L hb
  have m3 : IntKind.i64.wrap (((2 * r + 1 : Nat) : Int) + 1) = ((2 * r + 2 : Nat) : Int) := by rw [w64 (by omega) (by omega)]; rfl
  have m4 : IntKind.i64.wrap ((first : Int) + ((2 * r + 1 : Nat) : Int)) = ((first + (2 * r + 1) : Nat) : Int) := by rw [w64 (by omega) (by omega)]; omega
  have m5 : IntKind.i64.wrap (((first + (2 * r + 1) : Nat) : Int) + 1) = ((first + (2 * r + 2) : Nat) : Int) := by rw [w64 (by omega) (by omega)]; omega
  have hCok := hoL _ (List.getElem_mem hC)
  simp -implicitDefEqProofs only [go_sem, simprocAttr, s2, s10, m1, m2, g1]
  refine ax_cond2 ?_
  simp only [ev_tmp, ev_const, ev_func, upd_at, put_some, put_none, bndB_bool, Nat.reduceEqDiff, if_true, if_false, ↓reduceIte, reduceCtorEq]
  refine ⟨fun hc => hc.elim, fun _ => ?_⟩
  simp -implicitDefEqProofs only [go_sem, simprocAttr]
  apply shareK (M := fun s T => s 0 = .slice (some ⟨b, 0, none⟩) L0.length c ∧ s 2 = .int .i64 (hi : Nat) ∧ s 3 = .int .i64 (first : Nat) ∧ s 4 = .func (.func g) #[] #[] ∧ s 10 = .int .i64 (r : Nat) ∧ T = putR T0 b L ∧
    ∃ K, s 11 = .int .i64 (K : Nat) ∧ (K = 2 * r + 1 ∨ K = 2 * r + 2) ∧ K < hi ∧ ∃ hK : first + K < L.length, ∀ c, (c = 2 * r + 1 ∨ c = 2 * r + 2) → c < hi → ∀ h : first + c < L.length, Lq z L[first + c] L[first + K])
  · intro hrest
    by_cases h2 : 2 * r + 2 < hi
    · have hC2 : first + (2 * r + 2) < L.length := by omega
      have hC2ok := hoL _ (List.getElem_mem hC2)
      have r1 := (ho.at (c := 0) (.inl rfl)).rdR (j := first + (2 * r + 1)) hC
      have r2 := (ho.at (c := 0) (.inl rfl)).rdR (j := first + (2 * r + 2)) hC2
      have hcm := fun H => hg.call _ _ hCok hC2ok H
      have d1 : ((2 * r + 2 : Nat) : Int) < (hi : Int) := by omega
      have d2 : (0 : Int) ≤ ((first + (2 * r + 1) : Nat) : Int) := by omega
      have d3 : ((first + (2 * r + 1) : Nat) : Int) < (L0.length : Int) := by omega
      have d4 : (0 : Int) ≤ ((first + (2 * r + 2) : Nat) : Int) := by omega
      have d5 : ((first + (2 * r + 2) : Nat) : Int) < (L0.length : Int) := by omega
      by_cases hlt : z L[first + (2 * r + 1)] L[first + (2 * r + 2)] < 0
      · have hmax : ∀ c, (c = 2 * r + 1 ∨ c = 2 * r + 2) → c < hi → ∀ h : first + c < L.length, Lq z L[first + c] L[first + (2 * r + 2)] := fun c hc _ h => by
          rcases hc with rfl | rfl
          · exact Lq.of_lt hg hCok hC2ok hlt
          · exact Lq.refl hg hC2ok
        generalize L[first + (2 * r + 2)] = y at hcm hlt r2
        generalize L[first + (2 * r + 1)] = x at hcm hlt r1
        unfold RR.cells at r1 r2
        unfold RR.val rV at hcm
        simp only [Nat.zero_add] at r1 r2
        refine ax_quiet (by kernel_rfl) ?_
        simp -implicitDefEqProofs only [go_sem, simprocAttr, s0, s2, s3, s4, m3, d1, m4, m5, aIndexAddr, d2, d3, d4, d5, r1, r2]
        refine wl_callO _ (by simp -implicitDefEqProofs only [go_sem, simprocAttr, s4]) _ (by simp -implicitDefEqProofs only [go_sem, simprocAttr]) (hcm _) ?_
        simp -implicitDefEqProofs only [go_sem, simprocAttr, hlt]
        refine ax_mid _ ?_ hrest
        simp -implicitDefEqProofs only [go_sem, simprocAttr, wa_cond, axC_t, axC_f, s0, s2, s3, s4, s10, m3]
        exact ⟨2 * r + 2, rfl, .inr rfl, h2, hC2, hmax⟩
      · have hmax : ∀ c, (c = 2 * r + 1 ∨ c = 2 * r + 2) → c < hi → ∀ h : first + c < L.length, Lq z L[first + c] L[first + (2 * r + 1)] := fun c hc _ h => by
          rcases hc with rfl | rfl
          · exact Lq.refl hg hCok
          · exact hlt
        generalize L[first + (2 * r + 2)] = y at hcm hlt r2
        generalize L[first + (2 * r + 1)] = x at hcm hlt r1
        unfold RR.cells at r1 r2
        unfold RR.val rV at hcm
        simp only [Nat.zero_add] at r1 r2
        refine ax_quiet (by kernel_rfl) ?_
        simp -implicitDefEqProofs only [go_sem, simprocAttr, s0, s2, s3, s4, m3, d1, m4, m5, aIndexAddr, d2, d3, d4, d5, r1, r2]
        refine wl_callO _ (by simp -implicitDefEqProofs only [go_sem, simprocAttr, s4]) _ (by simp -implicitDefEqProofs only [go_sem, simprocAttr]) (hcm _) ?_
        simp -implicitDefEqProofs only [go_sem, simprocAttr, hlt]
        refine ax_mid _ ?_ hrest
        simp -implicitDefEqProofs only [go_sem, simprocAttr, wa_cond, axC_t, axC_f, s0, s2, s3, s4, s10]
        exact ⟨2 * r + 1, rfl, .inl rfl, by omega, hC, hmax⟩
    · have d1 : ¬ ((2 * r + 2 : Nat) : Int) < (hi : Int) := by omega
      have hmax : ∀ c, (c = 2 * r + 1 ∨ c = 2 * r + 2) → c < hi → ∀ h : first + c < L.length, Lq z L[first + c] L[first + (2 * r + 1)] := fun c hc hch h => by
        rcases hc with rfl | rfl
        · exact Lq.refl hg hCok
        · omega
      refine ax_quiet (by kernel_rfl) ?_
      simp -implicitDefEqProofs only [go_sem, simprocAttr, s2, m3, d1]
      refine ax_mid _ ?_ hrest
      simp -implicitDefEqProofs only [go_sem, simprocAttr, wa_cond, axC_t, axC_f, s0, s2, s3, s4, s10]
      exact ⟨2 * r + 1, rfl, .inl rfl, by omega, hC, hmax⟩
  clear s0 s2 s3 s4 s10
  rintro s T ⟨s0, s2, s3, s4, s10, rfl, K, s11, hKc, hKh, hK, hmax⟩
  have r1 := (ho.at (c := 0) (.inl rfl)).rdR (j := first + r) hR
  have r2 := (ho.at (c := 0) (.inl rfl)).rdR (j := first + K) hK
  have hRok := hoL _ (List.getElem_mem hR)
  have hKok := hoL _ (List.getElem_mem hK)
  have hcm := fun H => hg.call _ _ hRok hKok H
  have n1 : IntKind.i64.wrap ((first : Int) + (r : Int)) = ((first + r : Nat) : Int) := by rw [addc, w64n (by omega)]
  have n2 : IntKind.i64.wrap ((first : Int) + (K : Int)) = ((first + K : Nat) : Int) := by rw [addc, w64n (by omega)]
  have d2 : (0 : Int) ≤ ((first + r : Nat) : Int) := by omega
  have d3 : ((first + r : Nat) : Int) < (L0.length : Int) := by omega
  have d4 : (0 : Int) ≤ ((first + K : Nat) : Int) := by omega
  have d5 : ((first + K : Nat) : Int) < (L0.length : Int) := by omega
  by_cases hlt : z L[first + r] L[first + K] < 0
  · have hhL2 := sw_at L (first + r) (first + K) hR hK
    have hww := hw.trans (.sw L (first + r) (first + K) hR hK (by omega) (by omega))
    have hl2 := sw_len L (first + r) (first + K) hR hK
    have hfin1 : HpBut z (sw L (first + r) (first + K) hR hK) first lo hi K := by
      intro i c h1 h2 h3 h4 h5 h6
      have g5 : first + i < L.length := by rw [hl2] at h5; exact h5
      have g6 : first + c < L.length := by rw [hl2] at h6; exact h6
      rw [hhL2 _ g5, hhL2 _ g6]
      by_cases hir : i = r
      · subst hir
        rw [if_neg (show ¬ first + i = first + K by omega), if_pos rfl]
        by_cases hcK : c = K
        · subst hcK; rw [if_pos rfl]; exact Lq.of_lt hg hRok hKok hlt
        · rw [if_neg (by omega), if_neg (by omega)]; exact hmax c h3 h4 g6
      · rw [if_neg (show ¬ first + i = first + K by omega), if_neg (show ¬ first + i = first + r by omega), if_neg (show ¬ first + c = first + K by omega)]
        by_cases hcr : c = r
        · subst hcr
          rw [if_pos rfl]
          exact hup i K h1 h3 hKc hKh g5 hK
        · rw [if_neg (by omega)]
          exact hbut i c h1 hir h3 h4 g5 g6
    have hfin2 : HpUp z (sw L (first + r) (first + K) hR hK) first lo hi K := by
      intro i c h1 h2 h3 h4 h5 h6
      have g5 : first + i < L.length := by rw [hl2] at h5; exact h5
      have g6 : first + c < L.length := by rw [hl2] at h6; exact h6
      have hir : i = r := by omega
      subst hir
      rw [hhL2 _ g5, hhL2 _ g6, if_neg (show ¬ first + i = first + K by omega), if_pos rfl, if_neg (by omega), if_neg (by omega)]
      exact hbut K c (by omega) (by omega) h3 h4 hK g6
    have w1 := ho.wr (j := first + r) hR L[first + K]
    have w2 := (putR_own T0 (L.set (first + r) L[first + K]) hb).wr (j := first + K) (by simp; omega) L[first + r]
    rw [putR_put] at w1 w2
    have hsw : (L.set (first + r) L[first + K]).set (first + K) L[first + r] = sw L (first + r) (first + K) hR hK := rfl
    rw [hsw] at w2
    clear hhL2 hmax hbut hup hl2
    generalize sw L (first + r) (first + K) hR hK = L2 at *
    generalize L.set (first + r) L[first + K] = L1 at *
    generalize L[first + K] = y at *
    generalize L[first + r] = x at *
    unfold RR.cells at r1 r2 w1 w2
    unfold RR.val rV at hcm
    simp only [Nat.zero_add] at r1 r2
    simp -implicitDefEqProofs only [go_sem, simprocAttr]
    refine ax_quiet (by kernel_rfl) ?_
    simp -implicitDefEqProofs only [go_sem, simprocAttr, s0, s3, s4, s10, s11, n1, n2, aIndexAddr, d2, d3, d4, d5, r1, r2]
    refine wl_callO _ (by simp -implicitDefEqProofs only [go_sem, simprocAttr, s4]) _ (by simp -implicitDefEqProofs only [go_sem, simprocAttr]) (hcm _) ?_
    simp -implicitDefEqProofs only [go_sem, simprocAttr, wa_cond, axC_t, axC_f, hlt]
    refine ax_loud (by kernel_rfl) ?_
    simp -implicitDefEqProofs only [go_sem, simprocAttr, s0, s2, s3, s4, s10, s11, n1, n2, aIndexAddr, d2, d3, d4, d5, r1, r2, w1, w2]
    exact ⟨K, ⟨rfl, by omega, .inl hKh, L2, rfl, hww, hfin1, hfin2⟩, by omega⟩
  · have hfin : Hp z L first lo hi := by
      intro i c h1 h2 h3 h4 h5
      by_cases hir : i = r
      · subst hir
        exact hg.tr _ _ _ (hoL _ (List.getElem_mem h5)) hKok hRok (hmax c h2 h3 h5) hlt
      · exact hbut i c h1 hir h2 h3 h4 h5
    clear hmax hbut hup
    generalize L[first + K] = y at *
    generalize L[first + r] = x at *
    unfold RR.cells at r1 r2
    unfold RR.val rV at hcm
    simp only [Nat.zero_add] at r1 r2
    simp -implicitDefEqProofs only [go_sem, simprocAttr]
    refine ax_quiet (by kernel_rfl) ?_
    simp -implicitDefEqProofs only [go_sem, simprocAttr, s0, s3, s4, s10, s11, n1, n2, aIndexAddr, d2, d3, d4, d5, r1, r2]
    refine wl_callO _ (by simp -implicitDefEqProofs only [go_sem, simprocAttr, s4]) _ (by simp -implicitDefEqProofs only [go_sem, simprocAttr]) (hcm _) ?_
    simp -implicitDefEqProofs only [go_sem, simprocAttr, wa_cond, axC_t, axC_f, hlt]
    first | exact ⟨[], rfl, rfl, L, rfl, hw, hfin⟩ | exact ⟨rfl, L, rfl, hw, hfin⟩
end Go.Proofs.YthhmkaikopdmjaaGreat
namespace Go.Proofs.YthhmkaikopdmjaaGreat
open Go Go.Fw
theorem Hp.max {g : FuncId} {z : RR → RR → Int} {ok : RR → Prop} (hg : Cmp g z ok) {L : List RR} {first n : Nat} (hok : ∀ r ∈ L, ok r) (h : Hp z L first 0 n) : ∀ t, t < n → ∀ (h1 : first + t < L.length) (h0 : first < L.length), Lq z L[first + t] L[first] := by
  intro t
  induction t using Nat.strongRecOn with
  | ind t ih =>
    intro ht h1 h0
    by_cases t0 : t = 0
    · subst t0; exact Lq.refl hg (hok _ (List.getElem_mem h0))
    · have e : t = 2 * ((t - 1) / 2) + 1 ∨ t = 2 * ((t - 1) / 2) + 2 := by omega
      have hp : first + (t - 1) / 2 < L.length := by omega
      have s1 := h ((t - 1) / 2) t (Nat.zero_le _) e ht hp h1
      have s2 := ih ((t - 1) / 2) (by omega) (by omega) hp h0
      exact hg.tr _ _ _ (hok _ (List.getElem_mem h1)) (hok _ (List.getElem_mem hp)) (hok _ (List.getElem_mem h0)) s1 s2
theorem heapG {g : FuncId} {z : RR → RR → Int} {ok : RR → Prop} (hg : Cmp g z ok) (T0 : Heap) {b : Nat} {L0 : List RR} {c lo hi : Nat} (hown : OwnR T0 b L0) (hok : ∀ r ∈ L0, ok r) (hlo : lo < hi) (hhi : hi ≤ L0.length) (hlen : L0.length ≤ 1000000) :
    ∃ L, Sim Tryz.prog 278 #[.slice (some ⟨b, 0, none⟩) L0.length c, .int .i64 (lo : Nat), .int .i64 (hi : Nat), .func (.func g) #[] #[]] T0 (.tuple #[]) (putR T0 b L) ∧ Within L0 L lo hi ∧ SrtTo (Lq z) L lo hi := by
  suffices hx : ∃ w H', Sim Tryz.prog 278 #[.slice (some ⟨b, 0, none⟩) L0.length c, .int .i64 (lo : Nat), .int .i64 (hi : Nat), .func (.func g) #[] #[]] T0 w H' ∧ w = .tuple #[] ∧ ∃ L, H' = putR T0 b L ∧ Within L0 L lo hi ∧ SrtTo (Lq z) L lo hi by
    obtain ⟨w, H', h1, rfl, L, rfl, h2⟩ := hx
    exact ⟨L, h1, h2⟩
  have hb := hown.lt
  have hself := putR_self hown
  obtain ⟨n, hn⟩ : ∃ n, n = hi - lo := ⟨_, rfl⟩
  have a0 : IntKind.i64.wrap ((hi : Int) - (lo : Int)) = (n : Int) := by rw [w64 (by omega) (by omega)]; omega
  have a1 : IntKind.i64.wrap ((n : Int) - 1) = ((n - 1 : Nat) : Int) := by rw [w64 (by omega) (by omega)]; omega
  have a2 : IntKind.i64.wrap (((n - 1 : Nat) : Int).tdiv 2) = (((n - 1) / 2 + 1 : Nat) : Int) - 1 := by rw [show (2 : Int) = ((2 : Nat) : Int) from rfl, tdiv_nat, w64n (by omega)]; omega
  have a3 : ((n - 1 : Nat) : Int) = ((n : Nat) : Int) - 1 := by omega
  refine sxA tok mixed Tryz.func278 ?_
  simp -implicitDefEqProofs only [go_sem, simprocAttr, a0, a1, a2]
  refine ax_midl (fun s T => s 0 = .slice (some ⟨b, 0, none⟩) L0.length c ∧ s 3 = .func (.func g) #[] #[] ∧ s 8 = .int .i64 (lo : Nat) ∧ s 9 = .int .i64 ((0 : Nat) : Int) ∧ s 10 = .int .i64 (n : Nat) ∧ ∃ L, T = putR T0 b L ∧ Within L0 L lo hi ∧ Hp z L lo 0 n) ?_ ?_
  · refine ax_loopx (fun (q : Nat) s T => s 0 = .slice (some ⟨b, 0, none⟩) L0.length c ∧ s 3 = .func (.func g) #[] #[] ∧ s 8 = .int .i64 (lo : Nat) ∧ s 9 = .int .i64 ((0 : Nat) : Int) ∧ s 10 = .int .i64 (n : Nat) ∧ s 11 = .int .i64 ((q : Int) - 1) ∧ q ≤ n ∧ ∃ L, T = putR T0 b L ∧ Within L0 L lo hi ∧ Hp z L lo q n) (fun q => q) ((n - 1) / 2 + 1) ?_ ?_
    · simp -implicitDefEqProofs only [go_sem, simprocAttr]
      refine ⟨by omega, L0, hself.symm, .refl _ _ _, ?_⟩
      intro i c h1 h2 h3
      omega
    rintro q s T ⟨s0, s3, s8, s9, s10, s11, hq, L, rfl, hw, hh⟩
    cases q with
    | zero =>
      have e : ¬ (0 : Int) ≤ ((0 : Nat) : Int) - 1 := by decide
      simp -implicitDefEqProofs only [go_sem, simprocAttr, wa_cond, axC_t, axC_f, s0, s3, s8, s9, s10, s11, e]
      exact ⟨L, rfl, hw, hh⟩
    | succ i =>
      have e0 : ((i + 1 : Nat) : Int) - 1 = (i : Int) := by omega
      rw [e0] at s11
      have e1 : (0 : Int) ≤ (i : Int) := by omega
      have hLl := hw.len
      obtain ⟨L2, o, hw2, hh2⟩ := siftG hg (putR T0 b L) (c := c) (lo := i) (hi := n) (first := lo) (putR_own T0 L hb) (hw.oks hok) (by omega) (by omega) (by omega) (fun i' c' h1 h2 h3 h4 h5 h6 => hh i' c' (by omega) h3 h4 h5 h6)
      rw [putR_put, hLl] at o
      have m1 : IntKind.i64.wrap ((i : Int) - 1) = (i : Int) - 1 := w64 (by omega) (by omega)
      have hww := hw.trans (hw2.mono (show lo ≤ lo + i by omega) (show lo + n ≤ hi by omega))
      simp -implicitDefEqProofs only [go_sem, simprocAttr, wa_cond, axC_t, axC_f, s0, s3, s8, s9, s10, s11, e1]
      refine kl o ?_
      simp -implicitDefEqProofs only [go_sem, simprocAttr, s0, s3, s8, s9, s10, s11, m1]
      exact ⟨i, ⟨rfl, by omega, L2, rfl, hww, hh2⟩, by omega⟩
  rintro s T ⟨s0, s3, s8, s9, s10, L, rfl, hw, hh⟩
  simp -implicitDefEqProofs only [go_sem, simprocAttr, s10, a1]
  refine ax_loopx (fun (q : Nat) s T => s 0 = .slice (some ⟨b, 0, none⟩) L0.length c ∧ s 3 = .func (.func g) #[] #[] ∧ s 8 = .int .i64 (lo : Nat) ∧ s 9 = .int .i64 ((0 : Nat) : Int) ∧ s 12 = .int .i64 ((q : Int) - 1) ∧ q ≤ n ∧ ∃ L, T = putR T0 b L ∧ Within L0 L lo hi ∧ Hp z L lo 0 q ∧ Outs (Lq z) L lo hi lo (lo + q)) (fun q => q) n ?_ ?_
  · simp -implicitDefEqProofs only [go_sem, simprocAttr, s0, s3, s8, s9, a3]
    refine ⟨L, rfl, hw, hh, ?_⟩
    rw [show lo + n = hi by omega]
    exact .start _ _ _
  clear s0 s3 s8 s9 s10 hw hh
  clear L
  rintro q s T ⟨s0, s3, s8, s9, s12, hq, L, rfl, hw, hh, hout⟩
  cases q with
  | zero =>
    have e : ¬ (0 : Int) ≤ ((0 : Nat) : Int) - 1 := by decide
    simp -implicitDefEqProofs only [go_sem, simprocAttr, wa_cond, axC_t, axC_f, s12, e]
    refine ⟨[], rfl, rfl, L, rfl, hw, ?_⟩
    exact fun p q h0 h1 h2 hp hq => hout p q h0 h1 h2 (by omega) hp hq
  | succ i =>
    have e0 : ((i + 1 : Nat) : Int) - 1 = (i : Int) := by omega
    rw [e0] at s12
    have e1 : (0 : Int) ≤ (i : Int) := by omega
    have hLl := hw.len
    have hoL := hw.oks hok
    have hI : lo < L.length := by omega
    have hJ : lo + i < L.length := by omega
    have hmax := hh.max hg hoL
    have ho := putR_own T0 L hb
    have r1 := (ho.at (c := 0) (.inl rfl)).rdR (j := lo) hI
    have r2 := (ho.at (c := 0) (.inl rfl)).rdR (j := lo + i) hJ
    have hat := sw_at L lo (lo + i) hI hJ
    have hl2 := sw_len L lo (lo + i) hI hJ
    have hw1 := Within.sw L (a := lo) (b := hi) lo (lo + i) hI hJ (by omega) (by omega)
    have hbut : HpBut z (sw L lo (lo + i) hI hJ) lo 0 i 0 := by
      intro i' c' h1 h2 h3 h4 h5 h6
      have g5 : lo + i' < L.length := by rw [hl2] at h5; exact h5
      have g6 : lo + c' < L.length := by rw [hl2] at h6; exact h6
      rw [hat _ g5, hat _ g6, if_neg (by omega), if_neg (by omega), if_neg (by omega), if_neg (by omega)]
      exact hh i' c' (by omega) h3 (by omega) g5 g6
    have hout1 : Outs (Lq z) (sw L lo (lo + i) hI hJ) lo hi lo (lo + i) := by
      intro p q h0 h1 h2 h3 hp hq
      have gp : p < L.length := by rw [hl2] at hp; exact hp
      have gq : q < L.length := by rw [hl2] at hq; exact hq
      rw [hat _ gp, hat _ gq]
      by_cases hqi : q = lo + i
      · rw [if_pos hqi, if_neg (by omega)]
        by_cases hpl : p = lo
        · rw [if_pos hpl]; exact hmax i (by omega) hJ hI
        · rw [if_neg hpl]
          have := hmax (p - lo) (by omega) (by omega) hI
          simp only [show lo + (p - lo) = p by omega] at this
          exact this
      · rw [if_neg hqi, if_neg (show ¬ q = lo by omega)]
        by_cases hpi : p = lo + i
        · rw [if_pos hpi]; exact hout lo q (Nat.le_refl _) (by omega) h2 (by omega) hI gq
        · rw [if_neg hpi]
          by_cases hpl : p = lo
          · rw [if_pos hpl]; exact hout (lo + i) q (by omega) (by omega) h2 (by omega) hJ gq
          · rw [if_neg hpl]; exact hout p q h0 h1 h2 (by omega) gp gq
    obtain ⟨L2, o, hw2, hh2⟩ := siftG hg (putR T0 b (sw L lo (lo + i) hI hJ)) (c := c) (lo := 0) (hi := i) (first := lo) (putR_own T0 _ hb) (hw1.oks hoL) (by rw [hl2]; omega) (by omega) (by rw [hl2]; omega) hbut
    rw [putR_put, hl2, hLl] at o
    have hww := hw.trans (hw1.trans (hw2.mono (show lo ≤ lo + 0 by omega) (show lo + i ≤ hi by omega)))
    have hout2 := hout1.within hw2 (Nat.le_refl _) (by omega) (by omega) (Nat.le_refl _) (by omega) (by rw [hl2]; omega)
    have w1 := ho.wr (j := lo) hI L[lo + i]
    have w2 := (putR_own T0 (L.set lo L[lo + i]) hb).wr (j := lo + i) (by simp; omega) L[lo]
    rw [putR_put] at w1 w2
    have hsw : (L.set lo L[lo + i]).set (lo + i) L[lo] = sw L lo (lo + i) hI hJ := rfl
    rw [hsw] at w2
    have n1 : IntKind.i64.wrap ((lo : Int) + (i : Int)) = ((lo + i : Nat) : Int) := by rw [addc, w64n (by omega)]
    have d2 : (0 : Int) ≤ (lo : Int) := by omega
    have d3 : (lo : Int) < (L0.length : Int) := by omega
    have d4 : (0 : Int) ≤ ((lo + i : Nat) : Int) := by omega
    have d5 : ((lo + i : Nat) : Int) < (L0.length : Int) := by omega
    have m1 : IntKind.i64.wrap ((i : Int) - 1) = (i : Int) - 1 := w64 (by omega) (by omega)
    clear hat hl2 hw1 hw2 hbut hout1 hmax hh hout
    generalize sw L lo (lo + i) hI hJ = L1 at *
    generalize L.set lo L[lo + i] = L1' at *
    generalize L[lo + i] = y at *
    generalize L[lo] = x at *
    unfold RR.cells at r1 r2 w1 w2
    simp only [Nat.zero_add] at r1 r2
    simp -implicitDefEqProofs only [go_sem, simprocAttr, wa_cond, axC_t, axC_f, s12, e1]
    refine ax_loud (by kernel_rfl) ?_
    simp -implicitDefEqProofs only [go_sem, simprocAttr, s0, s3, s8, s9, s12, n1, aIndexAddr, d2, d3, d4, d5, r1, r2, w1, w2]
    refine kl o ?_
    simp -implicitDefEqProofs only [go_sem, simprocAttr, s0, s3, s8, s9, s12, m1]
    exact ⟨i, ⟨rfl, by omega, L2, rfl, hww, hh2, hout2⟩, by omega⟩
end Go.Proofs.YthhmkaikopdmjaaGreat
namespace Go.Proofs.YthhmkaikopdmjaaGreat
open Go Go.Fw
def rnd (T : Heap) (p : Nat) (n : Int) : Heap := T.set p ⟨[.int .u64 n], 1, true⟩
theorem rnd_at {T : Heap} {p : Nat} (h : p < T.length) (n : Int) : (rnd T p n)[p]? = some ⟨[.int .u64 n], 1, true⟩ := by unfold rnd; rw [List.getElem?_set_self h]
theorem rnd_rd {T : Heap} {p : Nat} (h : p < T.length) (n : Int) : rd (rnd T p n) p 0 1 = some [.int .u64 n] := rd_cell (rnd_at h n)
theorem rnd_wr {T : Heap} {p : Nat} (h : p < T.length) (n m : Int) : wr (rnd T p n) p 0 [.int .u64 m] = some (rnd T p m) := by
  have := wr_cell (v := .int .u64 m) (rnd_at h n) rfl
  rw [this]; simp [rnd]
theorem nextS (T : Heap) {p : Nat} (hp : p < T.length) (n : Int) : ∃ r, Sim Tryz.prog 238 #[.pointer (some ⟨p, 0, none⟩)] (rnd T p n) (.int .u64 r) (rnd T p r) := by
  suffices hx : ∃ w H', Sim Tryz.prog 238 #[.pointer (some ⟨p, 0, none⟩)] (rnd T p n) w H' ∧ ∃ r, w = .int .u64 r ∧ H' = rnd T p r by
    obtain ⟨w, H', h1, r, rfl, rfl⟩ := hx
    exact ⟨r, h1⟩
  have hr := rnd_rd hp
  have hw := rnd_wr hp
  refine sxA tok mixed Tryz.func238 ?_
  simp -implicitDefEqProofs only [go_sem, simprocAttr]
  refine ax_loud (by kernel_rfl) ?_
  simp -implicitDefEqProofs only [go_sem, simprocAttr, hr, hw]
  refine ax_loud (by kernel_rfl) ?_
  simp -implicitDefEqProofs only [go_sem, simprocAttr, hr, hw]
  refine ax_loud (by kernel_rfl) ?_
  simp -implicitDefEqProofs only [go_sem, simprocAttr, hr, hw, res238]
  exact ⟨_, rfl, rfl⟩
theorem powS (H : Heap) {x : Nat} (h0 : 0 < x) (hx : x < 256) : ∃ m : Nat, Sim Tryz.prog 237 #[.int .i64 (x : Nat)] H (.int .u64 (m : Nat)) H ∧ x < m ∧ m ≤ 2 * x := by
  have hb := bitLen_bounds h0
  have hl := bitLen_le h0 (show x < 2 ^ 8 by omega)
  have o := len_sim H hx
  refine ⟨2 ^ bitLen x, ?_, hb.2.1, ?_⟩
  · have c1 : IntKind.u64.wrap (x : Int) = (x : Int) := wu64n (by omega)
    have hp : (2 : Nat) ^ bitLen x ≤ 2 ^ 8 := Nat.pow_le_pow_right (by decide) hl
    have c2 : IntKind.u64.wrap (1 * 2 ^ min (bitLen x) 64) = ((2 ^ bitLen x : Nat) : Int) := by
      rw [Nat.min_eq_left (by omega), Int.one_mul, show (2 : Int) = ((2 : Nat) : Int) from rfl, ← Int.natCast_pow, wu64n (by omega)]
    have c3 : ¬ (bitLen x : Int) < 0 := by omega
    refine soA tok mixed Tryz.func237 ?_
    simp -implicitDefEqProofs only [go_sem, simprocAttr, aConv, c1]
    refine kv o ?_
    simp -implicitDefEqProofs only [go_sem, simprocAttr, c2, c3, res237]
  · have := hb.1
    have e : 2 ^ bitLen x = 2 * 2 ^ (bitLen x - 1) := by
      conv => lhs; rw [show bitLen x = (bitLen x - 1) + 1 by omega, Nat.pow_succ]
      omega
    omega
theorem breakG (T0 : Heap) {f : Value} {b : Nat} {L0 : List RR} {c lo hi : Nat} (hown : OwnR T0 b L0) (hlo : lo + 12 < hi) (hhi : hi ≤ L0.length) (hlen : L0.length ≤ 255) :
    ∃ L, Sim Tryz.prog 279 #[.slice (some ⟨b, 0, none⟩) L0.length c, .int .i64 (lo : Nat), .int .i64 (hi : Nat), f] T0 (.tuple #[]) (putR T0 b L) ∧ Within L0 L lo hi := by
  suffices hx : ∃ w H', Sim Tryz.prog 279 #[.slice (some ⟨b, 0, none⟩) L0.length c, .int .i64 (lo : Nat), .int .i64 (hi : Nat), f] T0 w H' ∧ w = .tuple #[] ∧ ∃ L G, H' = putR T0 b L ++ G ∧ Within L0 L lo hi by
    obtain ⟨w, H', h1, rfl, L, G, rfl, h2⟩ := hx
    exact ⟨L, Sim.flat h1 (putR_calm T0 b L) rfl, h2⟩
  have hb := hown.lt
  have hself := putR_self hown
  obtain ⟨l, hl⟩ : ∃ l, l = hi - lo := ⟨_, rfl⟩
  have a0 : IntKind.i64.wrap ((hi : Int) - (lo : Int)) = (l : Int) := by rw [w64 (by omega) (by omega)]; omega
  have c8 : (8 : Int) ≤ (l : Int) := by omega
  have a1 : IntKind.i64.wrap ((l : Int).tdiv 4) = ((l / 4 : Nat) : Int) := by rw [show (4 : Int) = ((4 : Nat) : Int) from rfl, tdiv_nat, w64n (by omega)]
  have a3 : IntKind.i64.wrap (((l / 4 : Nat) : Int) * 2) = ((l / 4 * 2 : Nat) : Int) := by rw [w64 (by omega) (by omega)]; omega
  have a6 : IntKind.i64.wrap ((lo : Int) + ((l / 4 * 2 : Nat) : Int)) = ((lo + l / 4 * 2 : Nat) : Int) := by rw [w64 (by omega) (by omega)]; omega
  have a7 : IntKind.i64.wrap (((lo + l / 4 * 2 : Nat) : Int) - 1) = ((lo + l / 4 * 2 - 1 : Nat) : Int) := by rw [w64 (by omega) (by omega)]; omega
  have a8 : IntKind.i64.wrap (((lo + l / 4 * 2 : Nat) : Int) + 1) = ((lo + l / 4 * 2 + 1 : Nat) : Int) := by rw [w64 (by omega) (by omega)]; omega
  obtain ⟨m, om, hm1, hm2⟩ := powS (T0 ++ [⟨[.int .u64 (IntKind.u64.wrap (l : Int))], 1, true⟩]) (x := l) (by omega) (by omega)
  refine sxA tok mixed Tryz.func279 ?_
  simp -implicitDefEqProofs only [go_sem, simprocAttr, a0, c8]
  refine ax_cond2 ?_
  simp only [ev_tmp, ev_const, ev_func, upd_at, put_some, put_none, bndB_bool, Nat.reduceEqDiff, if_true, if_false, ↓reduceIte, reduceCtorEq]
  refine ⟨fun _ => ?_, fun hc => hc.elim⟩
  simp -implicitDefEqProofs only [go_sem, simprocAttr, a0, c8, aConv]
  refine kl om ?_
  simp -implicitDefEqProofs only [go_sem, simprocAttr, a0, a1, a3, a6, a7]
  have hini : ∃ n, T0 ++ [(⟨[.int .u64 (IntKind.u64.wrap (l : Int))], 1, true⟩ : Blk)] = rnd (putR (T0 ++ [(⟨[.int .u64 (IntKind.u64.wrap (l : Int))], 1, true⟩ : Blk)]) b L0) T0.length n := by
    refine ⟨IntKind.u64.wrap (l : Int), ?_⟩
    rw [putR_self (Own.app hown _)]
    unfold rnd
    rw [List.set_append_right _ _ (Nat.le_refl _)]
    simp
  have hfin : ∀ L n, ∃ G, rnd (putR (T0 ++ [(⟨[.int .u64 (IntKind.u64.wrap (l : Int))], 1, true⟩ : Blk)]) b L) T0.length n = putR T0 b L ++ G := by
    intro L n
    unfold rnd putR
    rw [List.set_append_left _ _ hb, List.set_append_right _ _ (by simp)]
    exact ⟨_, rfl⟩
  have hb1 : b < (T0 ++ [(⟨[.int .u64 (IntKind.u64.wrap (l : Int))], 1, true⟩ : Blk)]).length := by simp; omega
  have hp1 : T0.length < (T0 ++ [(⟨[.int .u64 (IntKind.u64.wrap (l : Int))], 1, true⟩ : Blk)]).length := by simp
  clear om
  generalize T0 ++ [(⟨[.int .u64 (IntKind.u64.wrap (l : Int))], 1, true⟩ : Blk)] = T1 at *
  obtain ⟨p, hp⟩ : ∃ p, p = T0.length := ⟨_, rfl⟩
  rw [← hp] at hini hfin hp1 ⊢
  have hbp : b ≠ p := by omega
  have hcomm : ∀ n L, putR (rnd T1 p n) b L = rnd (putR T1 b L) p n := by
    intro n L
    unfold rnd putR
    exact List.set_comm _ _ (Ne.symm hbp)
  obtain ⟨n0, hini⟩ := hini
  refine ax_loopx (fun (i : Nat) s T => s 0 = .slice (some ⟨b, 0, none⟩) L0.length c ∧ s 1 = .int .i64 (lo : Nat) ∧ s 8 = .int .i64 (l : Nat) ∧ s 9 = .pointer (some ⟨p, 0, none⟩) ∧ s 10 = .int .u64 (m : Nat) ∧ s 11 = .int .i64 (i : Nat) ∧ lo ≤ i ∧ i ≤ lo + l / 4 * 2 + 2 ∧
    ∃ L n, T = rnd (putR T1 b L) p n ∧ Within L0 L lo hi) (fun i => lo + l / 4 * 2 + 3 - i) (lo + l / 4 * 2 - 1) ?_ ?_
  · simp -implicitDefEqProofs only [go_sem, simprocAttr]
    exact ⟨by omega, by omega, L0, n0, hini, .refl _ _ _⟩
  rintro i s T ⟨s0, s1, s8, s9, s10, s11, hi1, hi2, L, n, rfl, hw⟩
  by_cases hend : i ≤ lo + l / 4 * 2 + 1
  · have g1 : (i : Int) ≤ ((lo + l / 4 * 2 + 1 : Nat) : Int) := by omega
    have hLl := hw.len
    have hp2 : p < (putR T1 b L).length := by rw [putR_len]; omega
    obtain ⟨r, o⟩ := nextS (putR T1 b L) hp2 n
    have m1 : IntKind.u64.wrap ((m : Int) - 1) = ((m - 1 : Nat) : Int) := by rw [wu64 (by omega) (by omega)]; omega
    obtain ⟨q, hq, hqm⟩ := andI_le (x := r) (m := m - 1) (by omega)
    have m2 : IntKind.i64.wrap (q : Int) = (q : Int) := w64n (by omega)
    have m3 : IntKind.i64.wrap ((i : Int) + 1) = ((i + 1 : Nat) : Int) := by rw [w64 (by omega) (by omega)]; rfl
    simp -implicitDefEqProofs only [go_sem, simprocAttr, wa_cond, axC_t, axC_f, s0, s1, s8, s9, s10, s11, a1, a3, a6, a8, g1]
    refine wl_callF _ (by simp -implicitDefEqProofs only [go_sem, simprocAttr, s9]) o (fun h => by cases h) ?_
    simp -implicitDefEqProofs only [go_sem, simprocAttr, s0, s1, s8, s9, s10, s11, m1, hq, aConv, m2]
    apply shareK (M := fun s T => s 0 = .slice (some ⟨b, 0, none⟩) L0.length c ∧ s 1 = .int .i64 (lo : Nat) ∧ s 8 = .int .i64 (l : Nat) ∧ s 9 = .pointer (some ⟨p, 0, none⟩) ∧ s 10 = .int .u64 (m : Nat) ∧ s 11 = .int .i64 (i : Nat) ∧ T = rnd (putR T1 b L) p r ∧ ∃ k : Nat, s 12 = .int .i64 (k : Nat) ∧ k < l)
    · intro hrest
      by_cases hql : l ≤ q
      · have g2 : (l : Int) ≤ (q : Int) := by omega
        have m4 : IntKind.i64.wrap ((q : Int) - (l : Int)) = ((q - l : Nat) : Int) := by rw [w64 (by omega) (by omega)]; omega
        simp -implicitDefEqProofs only [go_sem, simprocAttr, g2]
        refine ax_mid _ ?_ hrest
        simp -implicitDefEqProofs only [go_sem, simprocAttr, wa_cond, axC_t, axC_f, s0, s1, s8, s9, s10, s11, m4]
        exact ⟨q - l, rfl, by omega⟩
      · have g2 : ¬ (l : Int) ≤ (q : Int) := by omega
        simp -implicitDefEqProofs only [go_sem, simprocAttr, g2]
        refine ax_mid _ ?_ hrest
        simp -implicitDefEqProofs only [go_sem, simprocAttr, wa_cond, axC_t, axC_f, s0, s1, s8, s9, s10, s11]
        exact ⟨q, rfl, by omega⟩
    clear s0 s1 s8 s9 s10 s11 o
    rintro s T ⟨s0, s1, s8, s9, s10, s11, rfl, k, s12, hk⟩
    have hI : i < L.length := by omega
    have hJ : lo + k < L.length := by omega
    obtain ⟨x, y, L1, L2, hx, hy, hL2, r1, r2, w1, w2⟩ := swF (rnd T1 p r) (b := b) (i := i) (j := lo + k) (L := L) (by simp [rnd]; omega) hI hJ
    simp only [hcomm] at r1 r2 w1 w2
    have hww := hw.trans (.sw L i (lo + k) hI hJ (by omega) (by omega))
    rw [← hL2] at hww
    have m5 : IntKind.i64.wrap ((lo : Int) + (k : Int)) = ((lo + k : Nat) : Int) := by rw [w64 (by omega) (by omega)]; omega
    have d2 : (0 : Int) ≤ (i : Int) := by omega
    have d3 : (i : Int) < (L0.length : Int) := by omega
    have d4 : (0 : Int) ≤ ((lo + k : Nat) : Int) := by omega
    have d5 : ((lo + k : Nat) : Int) < (L0.length : Int) := by omega
    refine ax_loud (by kernel_rfl) ?_
    simp -implicitDefEqProofs only [go_sem, simprocAttr, s0, s1, s8, s9, s10, s11, s12, m5, aIndexAddr, d2, d3, d4, d5, r1, r2, w1, w2, m3]
    exact ⟨i + 1, ⟨rfl, by omega, by omega, L2, r, rfl, hww⟩, by omega⟩
  · have g1 : ¬ (i : Int) ≤ ((lo + l / 4 * 2 + 1 : Nat) : Int) := by omega
    simp -implicitDefEqProofs only [go_sem, simprocAttr, wa_cond, axC_t, axC_f, s0, s1, s8, s9, s10, s11, a1, a3, a6, a8, g1]
    obtain ⟨G, hG⟩ := hfin L n
    exact ⟨[], rfl, rfl, L, G, hG, hw⟩
end Go.Proofs.YthhmkaikopdmjaaGreat
namespace Go.Proofs.YthhmkaikopdmjaaGreat
open Go Go.Fw
theorem Srt.more {g : FuncId} {z : RR → RR → Int} {ok : RR → Prop} (hg : Cmp g z ok) {L : List RR} {lo i : Nat} (hok : ∀ r ∈ L, ok r) (h : SrtTo (Lq z) L lo i) (hi : lo < i) (hl : i < L.length) (hle : Lq z (L[i - 1]'(by omega)) L[i]) : SrtTo (Lq z) L lo (i + 1) := by
  intro p q h0 h1 h2 hp hq
  by_cases hqi : q = i
  · subst hqi
    by_cases hp1 : p = q - 1
    · subst hp1; exact hle
    · exact hg.tr _ _ _ (hok _ (List.getElem_mem hp)) (hok _ (List.getElem_mem (by omega))) (hok _ (List.getElem_mem hq)) (h p (q - 1) h0 (by omega) (by omega) hp (by omega)) hle
  · exact h p q h0 h1 (by omega) hp hq
theorem Srt.keep {z : RR → RR → Int} {L0 L : List RR} {lo i a b : Nat} (h : SrtTo (Lq z) L0 lo i) (hw : Within L0 L a b) (ha : i ≤ a) : SrtTo (Lq z) L lo i := by
  intro p q h0 h1 h2 hp hq
  rw [hw.at hp (.inl (by omega)), hw.at hq (.inl (by omega))]
  exact h p q h0 h1 h2 _ _
theorem partialG {g : FuncId} {z : RR → RR → Int} {ok : RR → Prop} (hg : Cmp g z ok) (T0 : Heap) {b : Nat} {L0 : List RR} {c lo hi : Nat} (hown : OwnR T0 b L0) (hok : ∀ r ∈ L0, ok r) (hlo : lo + 12 < hi) (hhi : hi ≤ L0.length) (hlen : L0.length ≤ 1000000) (hlb : Lb (Lq z) L0 lo hi) :
    ∃ L t, Sim Tryz.prog 282 #[.slice (some ⟨b, 0, none⟩) L0.length c, .int .i64 (lo : Nat), .int .i64 (hi : Nat), .func (.func g) #[] #[]] T0 (.bool t) (putR T0 b L) ∧ Within L0 L lo hi ∧ (t = true → SrtTo (Lq z) L lo hi) := by
  suffices hx : ∃ w H', Sim Tryz.prog 282 #[.slice (some ⟨b, 0, none⟩) L0.length c, .int .i64 (lo : Nat), .int .i64 (hi : Nat), .func (.func g) #[] #[]] T0 w H' ∧ ∃ t, w = .bool t ∧ ∃ L, H' = putR T0 b L ∧ Within L0 L lo hi ∧ (t = true → SrtTo (Lq z) L lo hi) by
    obtain ⟨w, H', h1, t, rfl, L, rfl, h2⟩ := hx
    exact ⟨L, t, h1, h2⟩
  have hb := hown.lt
  have a1 : IntKind.i64.wrap ((lo : Int) + 1) = ((lo + 1 : Nat) : Int) := by rw [w64 (by omega) (by omega)]; rfl
  have a0 : IntKind.i64.wrap ((hi : Int) - (lo : Int)) = ((hi - lo : Nat) : Int) := by rw [w64 (by omega) (by omega)]; omega
  have hself := putR_self hown
  refine sxA tok mixed Tryz.func282 ?_
  simp -implicitDefEqProofs only [go_sem, simprocAttr, a1]
  refine ax_midl (fun s T => True ∧ ∃ L, T = putR T0 b L ∧ Within L0 L lo hi) ?_ ?_
  · refine ax_loopx (fun (k : Nat) s T => s 0 = .slice (some ⟨b, 0, none⟩) L0.length c ∧ s 1 = .int .i64 (lo : Nat) ∧ s 2 = .int .i64 (hi : Nat) ∧ s 3 = .func (.func g) #[] #[] ∧ s 10 = .int .i64 (k : Nat) ∧ k ≤ 5 ∧ ∃ i L, s 9 = .int .i64 (i : Nat) ∧ lo < i ∧ i ≤ hi ∧ T = putR T0 b L ∧ Within L0 L lo hi ∧ SrtTo (Lq z) L lo i) (fun k => 5 - k) 0 ?_ ?_
    · simp -implicitDefEqProofs only [go_sem, simprocAttr]
      exact ⟨lo + 1, L0, rfl, by omega, by omega, hself.symm, .refl _ _ _, .one _ (by omega)⟩
    rintro k s T ⟨s0, s1, s2, s3, s10, hk, i0, L, s9, hi1, hi2, rfl, hw, hs⟩
    by_cases hk5 : k = 5
    · subst hk5
      have g1 : ¬ (((5 : Nat) : Int) < 5) := by decide
      simp -implicitDefEqProofs only [go_sem, simprocAttr, wa_cond, axC_t, axC_f, s0, s1, s2, s3, s9, s10, g1]
      exact ⟨L, rfl, hw⟩
    have g1 : (k : Int) < 5 := by omega
    simp -implicitDefEqProofs only [go_sem, simprocAttr, wa_cond, axC_t, axC_f, s0, s1, s2, s3, s9, s10, g1]
    refine ax_midl (fun s T => s 0 = .slice (some ⟨b, 0, none⟩) L0.length c ∧ s 1 = .int .i64 (lo : Nat) ∧ s 2 = .int .i64 (hi : Nat) ∧ s 3 = .func (.func g) #[] #[] ∧ s 10 = .int .i64 (k : Nat) ∧ T = putR T0 b L ∧ ∃ i : Nat, s 9 = .int .i64 (i : Nat) ∧ lo < i ∧ i ≤ hi ∧ SrtTo (Lq z) L lo i) ?_ ?_
    · refine ax_loopx (fun (i : Nat) s T => s 0 = .slice (some ⟨b, 0, none⟩) L0.length c ∧ s 1 = .int .i64 (lo : Nat) ∧ s 2 = .int .i64 (hi : Nat) ∧ s 3 = .func (.func g) #[] #[] ∧ s 10 = .int .i64 (k : Nat) ∧ s 9 = .int .i64 (i : Nat) ∧ lo < i ∧ i ≤ hi ∧ T = putR T0 b L ∧ SrtTo (Lq z) L lo i) (fun i => hi - i) i0 ?_ ?_
      · simp -implicitDefEqProofs only [go_sem, simprocAttr, s0, s1, s2, s3, s9, s10]
        exact ⟨hi1, hi2, hs⟩
      clear s0 s1 s2 s3 s9 s10 hs hi1 hi2
      rintro i s T ⟨s0, s1, s2, s3, s10, s9, hi1, hi2, rfl, hs⟩
      have hLl := hw.len
      have hoL := hw.oks hok
      simp -implicitDefEqProofs only [go_sem, simprocAttr]
      refine ax_quiet (by kernel_rfl) ?_
      by_cases hih : i < hi
      · have hI : i < L.length := by omega
        have hJ : i - 1 < L.length := by omega
        obtain ⟨x, hx, r1⟩ := rdF T0 hb hI
        obtain ⟨y, hy, r2⟩ := rdF T0 hb hJ
        have hcm := fun H => hg.call x y (hx ▸ hoL _ (List.getElem_mem hI)) (hy ▸ hoL _ (List.getElem_mem hJ)) H
        unfold RR.val rV at hcm
        have g1 : (i : Int) < (hi : Int) := by omega
        have m1 : IntKind.i64.wrap ((i : Int) - 1) = ((i - 1 : Nat) : Int) := by rw [w64 (by omega) (by omega)]; omega
        have m2 : IntKind.i64.wrap ((i : Int) + 1) = ((i + 1 : Nat) : Int) := by rw [w64 (by omega) (by omega)]; rfl
        have d2 : (0 : Int) ≤ (i : Int) := by omega
        have d3 : (i : Int) < (L0.length : Int) := by omega
        have d4 : (0 : Int) ≤ ((i - 1 : Nat) : Int) := by omega
        have d5 : ((i - 1 : Nat) : Int) < (L0.length : Int) := by omega
        simp -implicitDefEqProofs only [go_sem, simprocAttr, s0, s1, s2, s3, s9, aIndexAddr, g1, d2, d3, d4, d5, m1, r1, r2]
        refine wl_callO _ (by simp -implicitDefEqProofs only [go_sem, simprocAttr, s3]) _ (by simp -implicitDefEqProofs only [go_sem, simprocAttr]) (hcm _) ?_
        by_cases hc : z x y < 0
        · simp -implicitDefEqProofs only [go_sem, simprocAttr, wa_cond, axC_t, axC_f, hc, s0, s1, s2, s3, s9, s10]
          exact ⟨i, rfl, hi1, hi2, hs⟩
        · simp -implicitDefEqProofs only [go_sem, simprocAttr, wa_cond, axC_t, axC_f, hc, s0, s1, s2, s3, s9, s10, m2]
          exact ⟨i + 1, ⟨rfl, by omega, by omega, Srt.more hg hoL hs hi1 hI (by unfold Lq; rw [← hx, ← hy]; exact hc)⟩, by omega⟩
      · have g1 : ¬ (i : Int) < (hi : Int) := by omega
        simp -implicitDefEqProofs only [go_sem, simprocAttr, wa_cond, axC_t, axC_f, s0, s1, s2, s3, s9, s10, g1]
        exact ⟨i, rfl, hi1, hi2, hs⟩
    clear s0 s1 s2 s3 s9 s10 hs hi1 hi2
    rintro s T ⟨s0, s1, s2, s3, s10, rfl, i, s9, hi1, hi2, hs⟩
    have hLl := hw.len
    have hoL := hw.oks hok
    by_cases hih : i = hi
    · subst hih
      simp -implicitDefEqProofs only [go_sem, simprocAttr, wa_cond, axC_t, axC_f, s0, s1, s2, s3, s9, s10, res282]
      exact ⟨true, rfl, L, rfl, hw, fun _ => hs⟩
    have g2 : ¬ (i : Int) = (hi : Int) := by omega
    by_cases h50 : hi - lo < 50
    · have g3 : ((hi - lo : Nat) : Int) < 50 := by omega
      simp -implicitDefEqProofs only [go_sem, simprocAttr, wa_cond, axC_t, axC_f, s0, s1, s2, s3, s9, s10, g2, a0, g3, res282]
      exact ⟨false, rfl, L, rfl, hw, fun h => by cases h⟩
    have g3 : ¬ ((hi - lo : Nat) : Int) < 50 := by omega
    have hI : i < L.length := by omega
    have hJ : i - 1 < L.length := by omega
    obtain ⟨x, y, L1, L2, hx, hy, hL2, r1, r2, w1, w2⟩ := swF T0 hb hI hJ
    have m1 : IntKind.i64.wrap ((i : Int) - 1) = ((i - 1 : Nat) : Int) := by rw [w64 (by omega) (by omega)]; omega
    have m2 : IntKind.i64.wrap ((i : Int) + 1) = ((i + 1 : Nat) : Int) := by rw [w64 (by omega) (by omega)]; rfl
    have m3 : IntKind.i64.wrap ((i : Int) - (lo : Int)) = ((i - lo : Nat) : Int) := by rw [w64 (by omega) (by omega)]; omega
    have m4 : IntKind.i64.wrap ((hi : Int) - (i : Int)) = ((hi - i : Nat) : Int) := by rw [w64 (by omega) (by omega)]; omega
    have m5 : IntKind.i64.wrap ((k : Int) + 1) = ((k + 1 : Nat) : Int) := by rw [w64 (by omega) (by omega)]; rfl
    have d2 : (0 : Int) ≤ (i : Int) := by omega
    have d3 : (i : Int) < (L0.length : Int) := by omega
    have d4 : (0 : Int) ≤ ((i - 1 : Nat) : Int) := by omega
    have d5 : ((i - 1 : Nat) : Int) < (L0.length : Int) := by omega
    have hw2 : Within L L2 (i - 1) hi := by rw [hL2]; exact .sw L i (i - 1) hI hJ (by omega) (by omega)
    have hs2 : SrtTo (Lq z) L2 lo (i - 1) := Srt.keep (fun p q h0 h1 h2 => hs p q h0 h1 (by omega)) hw2 (Nat.le_refl _)
    have hww2 := hw.trans (hw2.mono (show lo ≤ i - 1 by omega) (Nat.le_refl _))
    simp -implicitDefEqProofs only [go_sem, simprocAttr, wa_cond, axC_t, axC_f, s0, s1, s2, s3, s9, s10, g2, a0, g3]
    refine ax_loud (by kernel_rfl) ?_
    simp -implicitDefEqProofs only [go_sem, simprocAttr, s0, s1, s2, s3, s9, s10, m1, aIndexAddr, d2, d3, d4, d5, r1, r2, w1, w2, m3]
    apply shareK (M := fun s T => s 0 = .slice (some ⟨b, 0, none⟩) L0.length c ∧ s 1 = .int .i64 (lo : Nat) ∧ s 2 = .int .i64 (hi : Nat) ∧ s 3 = .func (.func g) #[] #[] ∧ s 10 = .int .i64 (k : Nat) ∧ s 9 = .int .i64 (i : Nat) ∧ ∃ L, T = putR T0 b L ∧ Within L0 L lo hi ∧ SrtTo (Lq z) L lo i)
    · intro hrest
      by_cases h2 : 2 ≤ i - lo
      · have g4 : (2 : Int) ≤ ((i - lo : Nat) : Int) := by omega
        simp -implicitDefEqProofs only [go_sem, simprocAttr, g4]
        refine ax_mid _ ?_ hrest
        simp -implicitDefEqProofs only [go_sem, simprocAttr, wa_cond, axC_t, axC_f, s0, s1, s2, s3, s9, s10, m1]
        refine ax_loopx (fun (j : Nat) s T => s 0 = .slice (some ⟨b, 0, none⟩) L0.length c ∧ s 1 = .int .i64 (lo : Nat) ∧ s 2 = .int .i64 (hi : Nat) ∧ s 3 = .func (.func g) #[] #[] ∧ s 10 = .int .i64 (k : Nat) ∧ s 9 = .int .i64 (i : Nat) ∧ s 11 = .int .i64 (j : Nat) ∧ lo ≤ j ∧ j ≤ i - 1 ∧ ∃ L, T = putR T0 b L ∧ Within L0 L lo hi ∧ InsI (Lq z) L lo (i - 1) j) (fun j => j) (i - 1) ?_ ?_
        · simp -implicitDefEqProofs only [go_sem, simprocAttr, s0, s1, s2, s3, s9, s10]
          exact ⟨by omega, L2, rfl, hww2, hs2.ins⟩
        clear s0 s1 s2 s3 s9 s10 hs2 hww2 hw2 hL2 w1 w2 r1 r2 hs hw hrest
        clear L1 L2
        rintro j s T ⟨s0, s1, s2, s3, s10, s9, s11, hj1, hj2, L, rfl, hw, hs⟩
        have hLl := hw.len
        have hoL := hw.oks hok
        have fin0 : ∀ hj : j = lo, SrtTo (Lq z) L lo i := fun hj => by
          have := (hj ▸ hs).zero
          rw [show i - 1 + 1 = i by omega] at this
          exact this
        by_cases hj0 : j = 0
        · subst hj0
          have g5 : ¬ (1 : Int) ≤ ((0 : Nat) : Int) := by decide
          simp -implicitDefEqProofs only [go_sem, simprocAttr, wa_cond, axC_t, axC_f, s0, s1, s2, s3, s9, s10, s11, g5]
          exact ⟨L, rfl, hw, fin0 (by omega)⟩
        obtain ⟨j, rfl⟩ : ∃ j', j = j' + 1 := ⟨j - 1, by omega⟩
        have g5 : (1 : Int) ≤ ((j + 1 : Nat) : Int) := by omega
        have hI : j + 1 < L.length := by omega
        have hJ : j < L.length := by omega
        obtain ⟨x, y, L1, L2, hx, hy, hL2, r1, r2, w1, w2⟩ := swF T0 hb hI hJ
        have hcm := fun H => hg.call x y (hx ▸ hoL _ (List.getElem_mem hI)) (hy ▸ hoL _ (List.getElem_mem hJ)) H
        unfold RR.val rV at hcm
        have m1 : IntKind.i64.wrap (((j + 1 : Nat) : Int) - 1) = (j : Int) := by rw [w64 (by omega) (by omega)]; omega
        have d2 : (0 : Int) ≤ ((j + 1 : Nat) : Int) := by omega
        have d3 : ((j + 1 : Nat) : Int) < (L0.length : Int) := by omega
        have d4 : (0 : Int) ≤ (j : Int) := by omega
        have d5 : (j : Int) < (L0.length : Int) := by omega
        simp -implicitDefEqProofs only [go_sem, simprocAttr, wa_cond, axC_t, axC_f, s0, s1, s2, s3, s9, s10, s11, g5]
        refine ax_quiet (by kernel_rfl) ?_
        simp -implicitDefEqProofs only [go_sem, simprocAttr, s0, s1, s2, s3, s9, s10, s11, aIndexAddr, m1, d2, d3, d4, d5, r1, r2]
        refine wl_callO _ (by simp -implicitDefEqProofs only [go_sem, simprocAttr, s3]) _ (by simp -implicitDefEqProofs only [go_sem, simprocAttr]) (hcm _) ?_
        by_cases hc : z x y < 0
        · have hjl : lo ≤ j := by
            by_cases e : j + 1 = lo
            · refine absurd hc ?_
              have := (hlb.within hw (Nat.le_refl _) (Nat.le_refl _) (by omega) (by omega)) j (j + 1) (by omega) (by omega) (by omega) hJ hI
              unfold Lq at this
              rw [← hx, ← hy] at this
              exact this
            · omega
          have hst := hs.step hjl hI (by omega) (by unfold Lq; rw [← hx, ← hy]; exact hg.asy _ _ (hx ▸ hoL _ (List.getElem_mem hI)) (hy ▸ hoL _ (List.getElem_mem hJ)) hc)
          have hww := hw.trans (.swp L j hI hjl (by omega))
          have e2 : swp L j hI = L2 := hL2.symm
          rw [e2] at hst hww
          simp -implicitDefEqProofs only [go_sem, simprocAttr, wa_cond, axC_t, axC_f, hc, s0, s1, s2, s3, s9, s10, s11]
          refine ax_loud (by kernel_rfl) ?_
          simp -implicitDefEqProofs only [go_sem, simprocAttr, s0, s1, s2, s3, s9, s10, s11, aIndexAddr, m1, d2, d3, d4, d5, r1, r2, w1, w2]
          exact ⟨j, ⟨rfl, hjl, by omega, L2, rfl, hww, hst⟩, by omega⟩
        · have hfin : SrtTo (Lq z) L lo i := by
            by_cases e : j + 1 = lo
            · exact fin0 e
            · have := InsI.stop2 hg.tr hoL hs (by omega) hj2 hI (by simp only [Nat.add_sub_cancel]; rw [← hx, ← hy]; exact hc)
              rw [show i - 1 + 1 = i by omega] at this
              exact this
          simp -implicitDefEqProofs only [go_sem, simprocAttr, wa_cond, axC_t, axC_f, hc, s0, s1, s2, s3, s9, s10, s11]
          exact ⟨L, rfl, hw, hfin⟩
      · have g4 : ¬ (2 : Int) ≤ ((i - lo : Nat) : Int) := by omega
        simp -implicitDefEqProofs only [go_sem, simprocAttr, g4]
        refine ax_mid _ ?_ hrest
        simp -implicitDefEqProofs only [go_sem, simprocAttr, wa_cond, axC_t, axC_f, s0, s1, s2, s3, s9, s10]
        exact ⟨L2, rfl, hww2, .one _ (by omega)⟩
    clear s0 s1 s2 s3 s9 s10 hs2 hww2 hw2 hL2 w1 w2 r1 r2 hs hw hx hy hoL hLl hI hJ
    clear L1 L2 x y L
    rintro s T ⟨s0, s1, s2, s3, s10, s9, L, rfl, hw, hs⟩
    have hLl := hw.len
    have hoL := hw.oks hok
    simp -implicitDefEqProofs only [go_sem, simprocAttr, s0, s1, s2, s3, s9, s10, m4]
    apply shareK (M := fun s T => s 0 = .slice (some ⟨b, 0, none⟩) L0.length c ∧ s 1 = .int .i64 (lo : Nat) ∧ s 2 = .int .i64 (hi : Nat) ∧ s 3 = .func (.func g) #[] #[] ∧ s 10 = .int .i64 (k : Nat) ∧ s 9 = .int .i64 (i : Nat) ∧ ∃ L, T = putR T0 b L ∧ Within L0 L lo hi ∧ SrtTo (Lq z) L lo i)
    · intro hrest
      by_cases h2 : 2 ≤ hi - i
      · have g4 : (2 : Int) ≤ ((hi - i : Nat) : Int) := by omega
        simp -implicitDefEqProofs only [go_sem, simprocAttr, g4]
        refine ax_midb _ ?_ hrest
        simp -implicitDefEqProofs only [go_sem, simprocAttr, wa_cond, axC_t, axC_f, s0, s1, s2, s3, s9, s10, m2]
        refine ax_loopx (fun (j : Nat) s T => s 0 = .slice (some ⟨b, 0, none⟩) L0.length c ∧ s 1 = .int .i64 (lo : Nat) ∧ s 2 = .int .i64 (hi : Nat) ∧ s 3 = .func (.func g) #[] #[] ∧ s 10 = .int .i64 (k : Nat) ∧ s 9 = .int .i64 (i : Nat) ∧ s 12 = .int .i64 (j : Nat) ∧ i < j ∧ ∃ L', T = putR T0 b L' ∧ Within L L' i hi) (fun j => hi - j) (i + 1) ?_ ?_
        · simp -implicitDefEqProofs only [go_sem, simprocAttr, s0, s1, s2, s3, s9, s10]
          exact ⟨by omega, L, rfl, .refl _ _ _⟩
        clear s0 s1 s2 s3 s9 s10 hrest
        rintro j s T ⟨s0, s1, s2, s3, s10, s9, s12, hj1, L', rfl, hw'⟩
        have hfin : ∃ L'', putR T0 b L' = putR T0 b L'' ∧ Within L0 L'' lo hi ∧ SrtTo (Lq z) L'' lo i :=
          ⟨L', rfl, hw.trans (hw'.mono (by omega) (Nat.le_refl _)), Srt.keep hs hw' (Nat.le_refl _)⟩
        have hLl' := hw'.len
        have hoL' := hw'.oks hoL
        by_cases hjh : j < hi
        · have g5 : (j : Int) < (hi : Int) := by omega
          have hI : j < L'.length := by omega
          have hJ : j - 1 < L'.length := by omega
          obtain ⟨x, y, L1, L2, hx, hy, hL2, r1, r2, w1, w2⟩ := swF T0 hb hI hJ
          have hcm := fun H => hg.call x y (hx ▸ hoL' _ (List.getElem_mem hI)) (hy ▸ hoL' _ (List.getElem_mem hJ)) H
          unfold RR.val rV at hcm
          have hww : Within L L2 i hi := by rw [hL2]; exact hw'.trans (.sw L' j (j - 1) hI hJ (by omega) (by omega))
          have m1 : IntKind.i64.wrap ((j : Int) - 1) = ((j - 1 : Nat) : Int) := by rw [w64 (by omega) (by omega)]; omega
          have m2 : IntKind.i64.wrap ((j : Int) + 1) = ((j + 1 : Nat) : Int) := by rw [w64 (by omega) (by omega)]; rfl
          have d2 : (0 : Int) ≤ (j : Int) := by omega
          have d3 : (j : Int) < (L0.length : Int) := by omega
          have d4 : (0 : Int) ≤ ((j - 1 : Nat) : Int) := by omega
          have d5 : ((j - 1 : Nat) : Int) < (L0.length : Int) := by omega
          simp -implicitDefEqProofs only [go_sem, simprocAttr, wa_cond, axC_t, axC_f, s0, s1, s2, s3, s9, s10, s12, g5]
          refine ax_quiet (by kernel_rfl) ?_
          simp -implicitDefEqProofs only [go_sem, simprocAttr, s0, s1, s2, s3, s9, s10, s12, aIndexAddr, m1, d2, d3, d4, d5, r1, r2]
          refine wl_callO _ (by simp -implicitDefEqProofs only [go_sem, simprocAttr, s3]) _ (by simp -implicitDefEqProofs only [go_sem, simprocAttr]) (hcm _) ?_
          by_cases hc : z x y < 0
          · simp -implicitDefEqProofs only [go_sem, simprocAttr, wa_cond, axC_t, axC_f, hc, s0, s1, s2, s3, s9, s10, s12]
            refine ax_loud (by kernel_rfl) ?_
            simp -implicitDefEqProofs only [go_sem, simprocAttr, s0, s1, s2, s3, s9, s10, s12, aIndexAddr, m1, m2, d2, d3, d4, d5, r1, r2, w1, w2]
            exact ⟨j + 1, ⟨rfl, by omega, L2, rfl, hww⟩, by omega⟩
          · simp -implicitDefEqProofs only [go_sem, simprocAttr, wa_cond, axC_t, axC_f, hc, s0, s1, s2, s3, s9, s10, s12]
            exact hfin
        · have g5 : ¬ (j : Int) < (hi : Int) := by omega
          simp -implicitDefEqProofs only [go_sem, simprocAttr, wa_cond, axC_t, axC_f, s0, s1, s2, s3, s9, s10, s12, g5]
          exact hfin
      · have g4 : ¬ (2 : Int) ≤ ((hi - i : Nat) : Int) := by omega
        simp -implicitDefEqProofs only [go_sem, simprocAttr, g4]
        refine ax_midb _ ?_ hrest
        simp -implicitDefEqProofs only [go_sem, simprocAttr, wa_cond, axC_t, axC_f, s0, s1, s2, s3, s9, s10]
        exact ⟨L, rfl, hw, hs⟩
    clear s0 s1 s2 s3 s9 s10
    rintro s T ⟨s0, s1, s2, s3, s10, s9, L, rfl, hw, hs⟩
    simp -implicitDefEqProofs only [go_sem, simprocAttr, s0, s1, s2, s3, s9, s10, m5]
    exact ⟨k + 1, ⟨rfl, by omega, i, L, rfl, hi1, hi2, rfl, hw, hs⟩, by omega⟩
  rintro s T ⟨_, L, rfl, hw⟩
  simp -implicitDefEqProofs only [go_sem, simprocAttr, res282]
  exact ⟨false, rfl, L, rfl, hw, fun h => by cases h⟩
end Go.Proofs.YthhmkaikopdmjaaGreat
namespace Go.Proofs.YthhmkaikopdmjaaGreat
open Go Go.Fw
structure Part (A : RR → Prop) (L1 L : List RR) (lo hi i j : Nat) : Prop where
  within : Within L1 L (lo + 1) hi
  i1 : lo < i
  i2 : i ≤ hi
  hj : j < hi
  j1 : lo ≤ j
  ij : i ≤ j + 2
  front : ∀ p, lo < p → p < i → ∀ h : p < L.length, A L[p]
  back : ∀ p, j < p → p < hi → ∀ h : p < L.length, ¬ A L[p]
theorem Part.pv {A : RR → Prop} {L1 L : List RR} {lo hi i j : Nat} (h : Part A L1 L lo hi i j) (hY : lo < L.length) : L[lo] = L1[lo]'(by have := h.within.len; omega) := h.within.at hY (.inl (by omega))
theorem Part.start (A : RR → Prop) (L : List RR) {lo hi : Nat} (h : lo + 1 < hi) : Part A L L lo hi (lo + 1) (hi - 1) := ⟨.refl _ _ _, by omega, by omega, by omega, by omega, by omega, fun p _ _ => by omega, fun p _ _ => by omega⟩
theorem Part.up {A : RR → Prop} {L1 L : List RR} {lo hi i j : Nat} (h : Part A L1 L lo hi i j) (hij : i ≤ j) (hI : i < L.length) (ha : A L[i]) : Part A L1 L lo hi (i + 1) j := by
  have := h.hj
  refine ⟨h.within, by have := h.i1; omega, by omega, h.hj, h.j1, by omega, fun p h1 h2 hp => ?_, h.back⟩
  by_cases e : p = i
  · subst e; exact ha
  · exact h.front p h1 (by omega) hp
theorem Part.down {A : RR → Prop} {L1 L : List RR} {lo hi i j : Nat} (h : Part A L1 L lo hi i j) (hij : i ≤ j) (hj : j < L.length) (ha : ¬ A L[j]) : Part A L1 L lo hi i (j - 1) := by
  have := h.hj
  have := h.i1
  refine ⟨h.within, h.i1, h.i2, by omega, by omega, by omega, h.front, fun p h1 h2 hp => ?_⟩
  by_cases e : p = j
  · subst e; exact ha
  · exact h.back p (by omega) h2 hp
theorem Part.sw {A : RR → Prop} {L1 L : List RR} {lo hi i j : Nat} (h : Part A L1 L lo hi i j) (hij : i ≤ j) (hI : i < L.length) (hJ : j < L.length) (ha : ¬ A L[i]) (hb : A L[j]) : Part A L1 (Fw.sw L i j hI hJ) lo hi (i + 1) (j - 1) := by
  have h1 := h.hj
  have h2 := h.i1
  have hne : i ≠ j := fun e => by subst e; exact ha hb
  refine ⟨h.within.trans (.sw L i j hI hJ (by omega) (by omega)), by omega, by omega, by omega, by omega, by omega, fun p g1 g2 hp => ?_, fun p g1 g2 hp => ?_⟩
  · have gp : p < L.length := by rw [sw_len] at hp; exact hp
    rw [sw_at L i j hI hJ p gp]
    grind [h.front p]
  · have gp : p < L.length := by rw [sw_len] at hp; exact hp
    rw [sw_at L i j hI hJ p gp]
    grind [h.back p]
theorem equalG {g : FuncId} {z : RR → RR → Int} {ok : RR → Prop} (hg : Cmp g z ok) (T0 : Heap) {b : Nat} {L0 : List RR} {c lo hi p : Nat} (hown : OwnR T0 b L0) (hok : ∀ r ∈ L0, ok r) (hlo : lo + 12 < hi) (hhi : hi ≤ L0.length) (hlen : L0.length ≤ 1000000) (hp1 : lo ≤ p) (hp2 : p < hi) :
    ∃ L m, Sim Tryz.prog 283 #[.slice (some ⟨b, 0, none⟩) L0.length c, .int .i64 (lo : Nat), .int .i64 (hi : Nat), .int .i64 (p : Nat), .func (.func g) #[] #[]] T0 (.int .i64 ((m : Nat) : Int)) (putR T0 b L) ∧ Within L0 L lo hi ∧ lo < m ∧ m ≤ hi ∧ ∃ (h : lo < L.length) (hp : p < L0.length), L[lo] = L0[p] ∧ ∀ q, lo ≤ q → q < m → ∀ hq : q < L.length, Lq z L[q] L[lo] := by
  suffices hx : ∃ w H', Sim Tryz.prog 283 #[.slice (some ⟨b, 0, none⟩) L0.length c, .int .i64 (lo : Nat), .int .i64 (hi : Nat), .int .i64 (p : Nat), .func (.func g) #[] #[]] T0 w H' ∧ ∃ m : Nat, w = .int .i64 (m : Nat) ∧ ∃ L, H' = putR T0 b L ∧ Within L0 L lo hi ∧ lo < m ∧ m ≤ hi ∧ ∃ (h : lo < L.length) (hp : p < L0.length), L[lo] = L0[p] ∧ ∀ q, lo ≤ q → q < m → ∀ hq : q < L.length, Lq z L[q] L[lo] by
    obtain ⟨w, H', h1, m, rfl, L, rfl, h2⟩ := hx
    exact ⟨L, m, h1, h2⟩
  have hb := hown.lt
  have hself := putR_self hown
  have a1 : IntKind.i64.wrap ((lo : Int) + 1) = ((lo + 1 : Nat) : Int) := by rw [w64 (by omega) (by omega)]; rfl
  have a2 : IntKind.i64.wrap ((hi : Int) - 1) = ((hi - 1 : Nat) : Int) := by rw [w64 (by omega) (by omega)]; omega
  have hI : lo < L0.length := by omega
  have hJ : p < L0.length := by omega
  obtain ⟨x, y, L1', L1, hx, hy, hL1, r1, r2, w1, w2⟩ := swF T0 hb hI hJ
  rw [hself] at r1 r2 w1
  have hw1 : Within L0 L1 lo hi := by rw [hL1]; exact .sw L0 lo p hI hJ (by omega) (by omega)
  have hl1 := hw1.len
  have hI1 : lo < L1.length := by omega
  have hpv : L1[lo] = L0[p] := by
    have := sw_at L0 lo p hI hJ lo hI
    simp only [hL1, this]
    by_cases e : lo = p
    · subst e; simp
    · simp [e]
  have d2 : (0 : Int) ≤ (lo : Int) := by omega
  have d3 : (lo : Int) < (L0.length : Int) := by omega
  have d4 : (0 : Int) ≤ (p : Int) := by omega
  have d5 : (p : Int) < (L0.length : Int) := by omega
  refine sxA tok mixed Tryz.func283 ?_
  simp -implicitDefEqProofs only [go_sem, simprocAttr]
  refine ax_loud (by kernel_rfl) ?_
  simp -implicitDefEqProofs only [go_sem, simprocAttr, aIndexAddr, d2, d3, d4, d5, r1, r2, w1, w2, a1, a2]
  clear r1 r2 w1 w2 hx hy
  have hoL1 := hw1.oks hok
  clear hself
  obtain ⟨pv, hpve⟩ : ∃ pv, pv = L1[lo] := ⟨_, rfl⟩
  obtain ⟨A, hAe⟩ : ∃ A : RR → Prop, A = fun x => ¬ z pv x < 0 := ⟨_, rfl⟩
  have hA : ∀ x, A x = (¬ z pv x < 0) := fun x => by rw [hAe]
  clear hAe
  refine ax_midl (fun s T => ∃ (i : Nat) (L : List RR), s 11 = .int .i64 (i : Nat) ∧ T = putR T0 b L ∧ Within L1 L (lo + 1) hi ∧ lo < i ∧ i ≤ hi ∧ ∀ q, lo < q → q < i → ∀ hq : q < L.length, A L[q]) ?_ ?_
  · refine ax_loopx (fun (x : Nat × Nat) s T => s 0 = .slice (some ⟨b, 0, none⟩) L0.length c ∧ s 1 = .int .i64 (lo : Nat) ∧ s 2 = .int .i64 (hi : Nat) ∧ s 4 = .func (.func g) #[] #[] ∧ s 11 = .int .i64 (x.1 : Nat) ∧ s 12 = .int .i64 (x.2 : Nat) ∧ ∃ L, T = putR T0 b L ∧ Part A L1 L lo hi x.1 x.2) (fun x => x.2 + 2 - x.1) (lo + 1, hi - 1) ?_ ?_
    · simp -implicitDefEqProofs only [go_sem, simprocAttr]
      exact ⟨L1, rfl, Part.start A L1 (by omega)⟩
    rintro ⟨i0, j0⟩ s T ⟨s0, s1, s2, s4, si, sj, L, rfl, hP0⟩
    simp only at si sj hP0
    have hLl : L.length = L0.length := by rw [hP0.within.len, hl1]
    have hoL := hP0.within.oks hoL1
    simp -implicitDefEqProofs only [go_sem, simprocAttr]
    obtain ⟨q0, hq0'⟩ : ∃ q0, q0 = j0 + 2 - i0 := ⟨_, rfl⟩
    have hq0 : j0 + 2 - i0 ≤ q0 := by omega
    refine ax_midl (fun s T => s 0 = .slice (some ⟨b, 0, none⟩) L0.length c ∧ s 1 = .int .i64 (lo : Nat) ∧ s 2 = .int .i64 (hi : Nat) ∧ s 4 = .func (.func g) #[] #[] ∧ T = putR T0 b L ∧ ∃ i j : Nat, s 11 = .int .i64 (i : Nat) ∧ s 12 = .int .i64 (j : Nat) ∧ Part A L1 L lo hi i j ∧ j + 2 - i ≤ q0 ∧ (i ≤ j → ∀ h : i < L.length, ¬ A L[i])) ?_ ?_
    · refine ax_loopx (fun (x : Nat × Nat) s T => s 0 = .slice (some ⟨b, 0, none⟩) L0.length c ∧ s 1 = .int .i64 (lo : Nat) ∧ s 2 = .int .i64 (hi : Nat) ∧ s 4 = .func (.func g) #[] #[] ∧ T = putR T0 b L ∧ s 11 = .int .i64 (x.1 : Nat) ∧ s 12 = .int .i64 (x.2 : Nat) ∧ Part A L1 L lo hi x.1 x.2 ∧ x.2 + 2 - x.1 ≤ q0) (fun x => x.2 + 2 - x.1) (i0, j0) ?_ ?_
      · simp -implicitDefEqProofs only [go_sem, simprocAttr, s0, s1, s2, s4, si, sj]
        exact ⟨hP0, hq0⟩
      clear s0 s1 s2 s4 si sj
      rintro ⟨i, j⟩ s T ⟨s0, s1, s2, s4, rfl, si, sj, hP, hq⟩
      simp only at si sj hP hq
      simp -implicitDefEqProofs only [go_sem, simprocAttr]
      refine ax_quiet (by kernel_rfl) ?_
      by_cases hij : i ≤ j
      · have hi1 := hP.i1
        have hX : i < L.length := by have := hP.hj; omega
        have hY : lo < L.length := by omega
        obtain ⟨x, hx, r1⟩ := rdF T0 hb hX
        obtain ⟨y, hy, r2⟩ := rdF T0 hb hY
        have hpy : pv = y := by rw [hpve, hy]; exact (hP.pv hY).symm
        have hcm := fun H => hg.call y x (hy ▸ hoL _ (List.getElem_mem hY)) (hx ▸ hoL _ (List.getElem_mem hX)) H
        unfold RR.val rV at hcm
        have g1 : (i : Int) ≤ (j : Int) := by omega
        have m1 : IntKind.i64.wrap ((i : Int) + 1) = ((i + 1 : Nat) : Int) := by rw [w64 (by omega) (by omega)]; rfl
        have d2 : (0 : Int) ≤ (i : Int) := by omega
        have d3 : (i : Int) < (L0.length : Int) := by omega
        have d4 : (0 : Int) ≤ (lo : Int) := by omega
        have d5 : (lo : Int) < (L0.length : Int) := by omega
        simp -implicitDefEqProofs only [go_sem, simprocAttr, s0, s1, s2, s4, si, sj, aIndexAddr, g1, d2, d3, d4, d5, r1, r2]
        refine wl_callO _ (by simp -implicitDefEqProofs only [go_sem, simprocAttr, s4]) _ (by simp -implicitDefEqProofs only [go_sem, simprocAttr]) (hcm _) ?_
        by_cases hc : z y x < 0
        · simp -implicitDefEqProofs only [go_sem, simprocAttr, wa_cond, axC_t, axC_f, hc, s0, s1, s2, s4, si, sj]
          exact ⟨i, j, rfl, rfl, hP, hq, fun _ h => (by rw [hA, ← hx, hpy]; exact fun h => h hc)⟩
        · simp -implicitDefEqProofs only [go_sem, simprocAttr, wa_cond, axC_t, axC_f, hc, s0, s1, s2, s4, si, sj, m1]
          exact ⟨(i + 1, j), ⟨rfl, rfl, hP.up hij hX (by rw [hA, ← hx, hpy]; exact hc), by simp only; omega⟩, by simp only; omega⟩
      · have g1 : ¬ (i : Int) ≤ (j : Int) := by omega
        simp -implicitDefEqProofs only [go_sem, simprocAttr, wa_cond, axC_t, axC_f, s0, s1, s2, s4, si, sj, g1]
        exact ⟨i, j, rfl, rfl, hP, hq, fun h => absurd h hij⟩
    clear s0 s1 s2 s4 si sj
    rintro s T ⟨s0, s1, s2, s4, rfl, i, j, si, sj, hP, hq, hup⟩
    obtain ⟨i0, j0, rfl, rfl⟩ : ∃ i0' j0', i = i0' ∧ j = j0' := ⟨i, j, rfl, rfl⟩
    clear hP0 hq0
    have hP0 := hP
    have hq0 := hq
    have hup0 := hup
    clear hP hq hup
    refine ax_midl (fun s T => s 0 = .slice (some ⟨b, 0, none⟩) L0.length c ∧ s 1 = .int .i64 (lo : Nat) ∧ s 2 = .int .i64 (hi : Nat) ∧ s 4 = .func (.func g) #[] #[] ∧ T = putR T0 b L ∧ ∃ i j : Nat, s 11 = .int .i64 (i : Nat) ∧ s 12 = .int .i64 (j : Nat) ∧ Part A L1 L lo hi i j ∧ j + 2 - i ≤ q0 ∧ (i ≤ j → ∀ h : i < L.length, ¬ A L[i]) ∧ (i ≤ j → ∀ h : j < L.length, A L[j])) ?_ ?_
    · refine ax_loopx (fun (x : Nat × Nat) s T => s 0 = .slice (some ⟨b, 0, none⟩) L0.length c ∧ s 1 = .int .i64 (lo : Nat) ∧ s 2 = .int .i64 (hi : Nat) ∧ s 4 = .func (.func g) #[] #[] ∧ T = putR T0 b L ∧ s 11 = .int .i64 (x.1 : Nat) ∧ s 12 = .int .i64 (x.2 : Nat) ∧ Part A L1 L lo hi x.1 x.2 ∧ x.2 + 2 - x.1 ≤ q0 ∧ (x.1 ≤ x.2 → ∀ h : x.1 < L.length, ¬ A L[x.1])) (fun x => x.2 + 2 - x.1) (i, j) ?_ ?_
      · simp -implicitDefEqProofs only [go_sem, simprocAttr, s0, s1, s2, s4, si, sj]
        exact ⟨hP0, hq0, hup0⟩
      clear s0 s1 s2 s4 si sj
      rintro ⟨i, j⟩ s T ⟨s0, s1, s2, s4, rfl, si, sj, hP, hq, hup⟩
      simp only at si sj hP hq hup
      simp -implicitDefEqProofs only [go_sem, simprocAttr]
      refine ax_quiet (by kernel_rfl) ?_
      by_cases hij : i ≤ j
      · have hi1 := hP.i1
        have hX : j < L.length := by have := hP.hj; omega
        have hY : lo < L.length := by omega
        obtain ⟨x, hx, r1⟩ := rdF T0 hb hX
        obtain ⟨y, hy, r2⟩ := rdF T0 hb hY
        have hpy : pv = y := by rw [hpve, hy]; exact (hP.pv hY).symm
        have hcm := fun H => hg.call y x (hy ▸ hoL _ (List.getElem_mem hY)) (hx ▸ hoL _ (List.getElem_mem hX)) H
        unfold RR.val rV at hcm
        have g1 : (i : Int) ≤ (j : Int) := by omega
        have m1 : IntKind.i64.wrap ((j : Int) - 1) = ((j - 1 : Nat) : Int) := by rw [w64 (by omega) (by omega)]; have := hP.i1; omega
        have d2 : (0 : Int) ≤ (j : Int) := by omega
        have d3 : (j : Int) < (L0.length : Int) := by omega
        have d4 : (0 : Int) ≤ (lo : Int) := by omega
        have d5 : (lo : Int) < (L0.length : Int) := by omega
        simp -implicitDefEqProofs only [go_sem, simprocAttr, s0, s1, s2, s4, si, sj, aIndexAddr, g1, d2, d3, d4, d5, r1, r2]
        refine wl_callO _ (by simp -implicitDefEqProofs only [go_sem, simprocAttr, s4]) _ (by simp -implicitDefEqProofs only [go_sem, simprocAttr]) (hcm _) ?_
        by_cases hc : z y x < 0
        · simp -implicitDefEqProofs only [go_sem, simprocAttr, wa_cond, axC_t, axC_f, hc, s0, s1, s2, s4, si, sj, m1]
          exact ⟨(i, j - 1), ⟨rfl, rfl, hP.down hij hX (by rw [hA, ← hx, hpy]; exact fun h => h hc), by simp only; omega, fun h h' => hup hij h'⟩, by simp only; omega⟩
        · simp -implicitDefEqProofs only [go_sem, simprocAttr, wa_cond, axC_t, axC_f, hc, s0, s1, s2, s4, si, sj]
          exact ⟨i, j, rfl, rfl, hP, hq, hup, fun _ h => (by rw [hA, ← hx, hpy]; exact hc)⟩
      · have g1 : ¬ (i : Int) ≤ (j : Int) := by omega
        simp -implicitDefEqProofs only [go_sem, simprocAttr, wa_cond, axC_t, axC_f, s0, s1, s2, s4, si, sj, g1]
        exact ⟨i, j, rfl, rfl, hP, hq, hup, fun h => absurd h hij⟩
    clear s0 s1 s2 s4 si sj
    rintro s T ⟨s0, s1, s2, s4, rfl, i, j, si, sj, hP, hq, hup, hdn⟩
    by_cases hij : i ≤ j
    · have hI : i < L.length := by have := hP.hj; omega
      have hJ : j < L.length := by have := hP.hj; omega
      obtain ⟨x, y, L1', L2, hx, hy, hL2, r1, r2, w1, w2⟩ := swF T0 hb hI hJ
      have hP2 := hP.sw hij hI hJ (hup hij hI) (hdn hij hJ)
      rw [← hL2] at hP2
      have h11 := hP.i1
      have g1 : ¬ (j : Int) < (i : Int) := by omega
      have m1 : IntKind.i64.wrap ((i : Int) + 1) = ((i + 1 : Nat) : Int) := by rw [w64 (by omega) (by omega)]; rfl
      have m2 : IntKind.i64.wrap ((j : Int) - 1) = ((j - 1 : Nat) : Int) := by rw [w64 (by omega) (by omega)]; omega
      have d2 : (0 : Int) ≤ (i : Int) := by omega
      have d3 : (i : Int) < (L0.length : Int) := by omega
      have d4 : (0 : Int) ≤ (j : Int) := by omega
      have d5 : (j : Int) < (L0.length : Int) := by omega
      simp -implicitDefEqProofs only [go_sem, simprocAttr, wa_cond, axC_t, axC_f, s0, s1, s2, s4, si, sj, g1]
      refine ax_loud (by kernel_rfl) ?_
      simp -implicitDefEqProofs only [go_sem, simprocAttr, s0, s1, s2, s4, si, sj, aIndexAddr, d2, d3, d4, d5, r1, r2, w1, w2, m1, m2]
      exact ⟨(i + 1, j - 1), ⟨rfl, rfl, L2, rfl, hP2⟩, by simp only; omega⟩
    · have g1 : (j : Int) < (i : Int) := by omega
      simp -implicitDefEqProofs only [go_sem, simprocAttr, wa_cond, axC_t, axC_f, s0, s1, s2, s4, si, sj, g1]
      exact ⟨i, L, rfl, rfl, hP.within, hP.i1, hP.i2, hP.front⟩
  rintro s T ⟨i, L, si, rfl, hw, h1, h2, h3⟩
  simp -implicitDefEqProofs only [go_sem, simprocAttr, si, res283]
  have hll := hw.len
  have hY : lo < L.length := by omega
  have e1 : L[lo] = L1[lo] := hw.at hY (.inl (by omega))
  refine ⟨i, rfl, L, rfl, hw1.trans (hw.mono (by omega) (Nat.le_refl _)), h1, h2, hY, by omega, by rw [e1, hpv], fun q g1 g2 hq => ?_⟩
  by_cases e : q = lo
  · subst e; exact Lq.refl hg ((hw.oks hoL1) _ (List.getElem_mem hq))
  · have := h3 q (by omega) g2 hq
    rw [hA, hpve, ← e1] at this
    exact this
end Go.Proofs.YthhmkaikopdmjaaGreat
namespace Go.Proofs.YthhmkaikopdmjaaGreat
open Go Go.Fw
theorem Part.fin {g : FuncId} {z : RR → RR → Int} {ok : RR → Prop} (hg : Cmp g z ok) {pv : RR} {L1 L : List RR} {lo hi i j : Nat} (h : Part (fun x => z x pv < 0) L1 L lo hi i j) (hok : ∀ r ∈ L, ok r) (hji : j < i) (hI : lo < L.length) (hJ : j < L.length) (hpv : L[lo] = pv) :
    ∀ p q, lo ≤ p → p ≤ j → j ≤ q → q < hi → p < q → ∀ (h1 : p < (Fw.sw L j lo hJ hI).length) (h2 : q < (Fw.sw L j lo hJ hI).length), Lq z (Fw.sw L j lo hJ hI)[p] (Fw.sw L j lo hJ hI)[q] := by
  intro p q g0 g1 g2 g3 g4 h1 h2
  have gp : p < L.length := by rw [sw_len] at h1; exact h1
  have gq : q < L.length := by rw [sw_len] at h2; exact h2
  have hj1 := h.j1
  have okpv : ok pv := hpv ▸ hok _ (List.getElem_mem hI)
  have key : ∀ r, lo ≤ r → r < hi → ∀ hr : r < L.length, ∃ x, ok x ∧ (Fw.sw L j lo hJ hI)[r]'(by rw [sw_len]; exact hr) = x ∧ (r < j → z x pv < 0) ∧ (r = j → x = pv) ∧ (j < r → ¬ z x pv < 0) := by
    intro r a1 a2 hr
    rw [sw_at L j lo hJ hI r hr]
    by_cases e1 : r = lo
    · rw [if_pos e1]
      refine ⟨_, hok _ (List.getElem_mem hJ), rfl, fun a3 => h.front j (by omega) hji hJ, fun a3 => ?_, fun a3 => by omega⟩
      have : j = lo := by omega
      subst this; exact hpv
    · rw [if_neg e1]
      by_cases e2 : r = j
      · rw [if_pos e2]
        exact ⟨_, hok _ (List.getElem_mem hI), rfl, fun a3 => by omega, fun _ => hpv, fun a3 => by omega⟩
      · rw [if_neg e2]
        exact ⟨_, hok _ (List.getElem_mem hr), rfl, fun a3 => h.front r (by omega) (by omega) hr, fun a3 => absurd a3 e2, fun a3 => h.back r a3 a2 hr⟩
  obtain ⟨x, ox, ex, x1, x2, x3⟩ := key p g0 (by omega) gp
  obtain ⟨y, oy, ey, y1, y2, y3⟩ := key q (by omega) g3 gq
  rw [ex, ey]
  by_cases e1 : p = j
  · rw [x2 e1]; exact y3 (by omega)
  · have hx := hg.asy _ _ ox okpv (x1 (by omega))
    by_cases e2 : q = j
    · rw [y2 e2]; exact hx
    · exact hg.tr _ _ _ ox okpv oy hx (y3 (by omega))
theorem partG {g : FuncId} {z : RR → RR → Int} {ok : RR → Prop} (hg : Cmp g z ok) (T0 : Heap) {b : Nat} {L0 : List RR} {c lo hi p : Nat} (hown : OwnR T0 b L0) (hok : ∀ r ∈ L0, ok r) (hlo : lo + 12 < hi) (hhi : hi ≤ L0.length) (hlen : L0.length ≤ 1000000) (hp1 : lo ≤ p) (hp2 : p < hi) :
    ∃ L m t, Sim Tryz.prog 284 #[.slice (some ⟨b, 0, none⟩) L0.length c, .int .i64 (lo : Nat), .int .i64 (hi : Nat), .int .i64 (p : Nat), .func (.func g) #[] #[]] T0 (.tuple #[.int .i64 ((m : Nat) : Int), .bool t]) (putR T0 b L) ∧ Within L0 L lo hi ∧ lo ≤ m ∧ m < hi ∧ ∀ p q, lo ≤ p → p ≤ m → m ≤ q → q < hi → p < q → ∀ (h1 : p < L.length) (h2 : q < L.length), Lq z L[p] L[q] := by
  suffices hx : ∃ w H', Sim Tryz.prog 284 #[.slice (some ⟨b, 0, none⟩) L0.length c, .int .i64 (lo : Nat), .int .i64 (hi : Nat), .int .i64 (p : Nat), .func (.func g) #[] #[]] T0 w H' ∧ ∃ (m : Nat) (t : Bool), w = .tuple #[.int .i64 (m : Nat), .bool t] ∧ ∃ L, H' = putR T0 b L ∧ Within L0 L lo hi ∧ lo ≤ m ∧ m < hi ∧ ∀ p q, lo ≤ p → p ≤ m → m ≤ q → q < hi → p < q → ∀ (h1 : p < L.length) (h2 : q < L.length), Lq z L[p] L[q] by
    obtain ⟨w, H', h1, m, t, rfl, L, rfl, h2⟩ := hx
    exact ⟨L, m, t, h1, h2⟩
  have hb := hown.lt
  have hself := putR_self hown
  have a1 : IntKind.i64.wrap ((lo : Int) + 1) = ((lo + 1 : Nat) : Int) := by rw [w64 (by omega) (by omega)]; rfl
  have a2 : IntKind.i64.wrap ((hi : Int) - 1) = ((hi - 1 : Nat) : Int) := by rw [w64 (by omega) (by omega)]; omega
  have hI : lo < L0.length := by omega
  have hJ : p < L0.length := by omega
  obtain ⟨x, y, L1', L1, hx, hy, hL1, r1, r2, w1, w2⟩ := swF T0 hb hI hJ
  rw [hself] at r1 r2 w1
  have hw1 : Within L0 L1 lo hi := by rw [hL1]; exact .sw L0 lo p hI hJ (by omega) (by omega)
  have hl1 := hw1.len
  have hI1 : lo < L1.length := by omega
  have e2 : (0 : Int) ≤ (lo : Int) := by omega
  have e3 : (lo : Int) < (L0.length : Int) := by omega
  have d4 : (0 : Int) ≤ (p : Int) := by omega
  have d5 : (p : Int) < (L0.length : Int) := by omega
  refine sxA tok mixed Tryz.func284 ?_
  simp -implicitDefEqProofs only [go_sem, simprocAttr]
  refine ax_loud (by kernel_rfl) ?_
  simp -implicitDefEqProofs only [go_sem, simprocAttr, aIndexAddr, e2, e3, d4, d5, r1, r2, w1, w2, a1, a2]
  clear r1 r2 w1 w2 hx hy d4 d5
  have hoL1 := hw1.oks hok
  clear hself
  obtain ⟨pv, hpve⟩ : ∃ pv, pv = L1[lo] := ⟨_, rfl⟩
  obtain ⟨A, hAe⟩ : ∃ A : RR → Prop, A = fun x => z x pv < 0 := ⟨_, rfl⟩
  have hA : ∀ x, A x = (z x pv < 0) := fun x => by rw [hAe]
  have fin : ∀ (i j : Nat) (L : List RR), Part A L1 L lo hi i j → j < i → ∃ (x y : RR) (L' L2 : List RR),
      rd (putR T0 b L) b (j * 6) 6 = some [.bool x.g, .string (bs x.n), .string (bs x.d), .bool x.g', .string (bs x.n'), .string (bs x.d')] ∧
      rd (putR T0 b L) b (lo * 6) 6 = some [.bool y.g, .string (bs y.n), .string (bs y.d), .bool y.g', .string (bs y.n'), .string (bs y.d')] ∧
      wr (putR T0 b L) b (j * 6) [.bool y.g, .string (bs y.n), .string (bs y.d), .bool y.g', .string (bs y.n'), .string (bs y.d')] = some (putR T0 b L') ∧
      wr (putR T0 b L') b (lo * 6) [.bool x.g, .string (bs x.n), .string (bs x.d), .bool x.g', .string (bs x.n'), .string (bs x.d')] = some (putR T0 b L2) ∧
      Within L0 L2 lo hi ∧ lo ≤ j ∧ j < hi ∧ ∀ p q, lo ≤ p → p ≤ j → j ≤ q → q < hi → p < q → ∀ (h1 : p < L2.length) (h2 : q < L2.length), Lq z L2[p] L2[q] := by
    intro i j L hP hji
    have hll := hP.within.len
    have hhj := hP.hj
    have hY : lo < L.length := by omega
    have hX : j < L.length := by omega
    obtain ⟨x, y, L', L2, hx, hy, hL2, r1, r2, w1, w2⟩ := swF T0 hb hX hY
    subst hAe
    refine ⟨x, y, L', L2, r1, r2, w1, w2, ?_, hP.j1, hP.hj, ?_⟩
    · rw [hL2]
      exact (hw1.trans (hP.within.mono (by omega) (Nat.le_refl _))).trans (.sw L j lo hX hY (by have := hP.j1; omega) (by omega))
    · subst hL2
      exact hP.fin hg (hP.within.oks hoL1) hji hY hX (by rw [hpve]; exact hP.pv hY)
  clear hAe
  obtain ⟨L, hLe⟩ : ∃ L, L = L1 := ⟨_, rfl⟩
  have hP0 : Part A L1 L lo hi (lo + 1) (hi - 1) := by rw [hLe]; exact Part.start A L1 (by omega)
  rw [← hLe]
  clear hLe
  obtain ⟨q0, hq0'⟩ : ∃ q0, q0 = hi - 1 + 2 - (lo + 1) := ⟨_, rfl⟩
  have hq0 : hi - 1 + 2 - (lo + 1) ≤ q0 := by omega
  have hLl : L.length = L0.length := by rw [hP0.within.len, hl1]
  have hoL := hP0.within.oks hoL1
  refine ax_midl (fun s T => s 0 = .slice (some ⟨b, 0, none⟩) L0.length c ∧ s 1 = .int .i64 (lo : Nat) ∧ s 2 = .int .i64 (hi : Nat) ∧ s 4 = .func (.func g) #[] #[] ∧ T = putR T0 b L ∧ ∃ i j : Nat, s 12 = .int .i64 (i : Nat) ∧ s 13 = .int .i64 (j : Nat) ∧ Part A L1 L lo hi i j ∧ j + 2 - i ≤ q0 ∧ (i ≤ j → ∀ h : i < L.length, ¬ A L[i])) ?_ ?_
  · refine ax_loopx (fun (x : Nat × Nat) s T => s 0 = .slice (some ⟨b, 0, none⟩) L0.length c ∧ s 1 = .int .i64 (lo : Nat) ∧ s 2 = .int .i64 (hi : Nat) ∧ s 4 = .func (.func g) #[] #[] ∧ T = putR T0 b L ∧ s 12 = .int .i64 (x.1 : Nat) ∧ s 13 = .int .i64 (x.2 : Nat) ∧ Part A L1 L lo hi x.1 x.2 ∧ x.2 + 2 - x.1 ≤ q0) (fun x => x.2 + 2 - x.1) (lo + 1, hi - 1) ?_ ?_
    · simp -implicitDefEqProofs only [go_sem, simprocAttr]
      exact ⟨hP0, by omega⟩
    rintro ⟨i, j⟩ s T ⟨s0, s1, s2, s4, rfl, si, sj, hP, hq⟩
    simp only at si sj hP hq
    simp -implicitDefEqProofs only [go_sem, simprocAttr]
    refine ax_quiet (by kernel_rfl) ?_
    by_cases hij : i ≤ j
    · have hi1 := hP.i1
      have hX : i < L.length := by have := hP.hj; omega
      have hY : lo < L.length := by omega
      obtain ⟨x, hx, r1⟩ := rdF T0 hb hX
      obtain ⟨y, hy, r2⟩ := rdF T0 hb hY
      have hpy : pv = y := by rw [hpve, hy]; exact (hP.pv hY).symm
      have hcm := fun H => hg.call x y (hx ▸ hoL _ (List.getElem_mem hX)) (hy ▸ hoL _ (List.getElem_mem hY)) H
      unfold RR.val rV at hcm
      have g1 : (i : Int) ≤ (j : Int) := by omega
      have m1 : IntKind.i64.wrap ((i : Int) + 1) = ((i + 1 : Nat) : Int) := by rw [w64 (by omega) (by omega)]; rfl
      have d2 : (0 : Int) ≤ (i : Int) := by omega
      have d3 : (i : Int) < (L0.length : Int) := by omega
      have d4 : (0 : Int) ≤ (lo : Int) := by omega
      have d5 : (lo : Int) < (L0.length : Int) := by omega
      simp -implicitDefEqProofs only [go_sem, simprocAttr, s0, s1, s2, s4, si, sj, aIndexAddr, g1, d2, d3, d4, d5, r1, r2]
      refine wl_callO _ (by simp -implicitDefEqProofs only [go_sem, simprocAttr, s4]) _ (by simp -implicitDefEqProofs only [go_sem, simprocAttr]) (hcm _) ?_
      by_cases hc : z x y < 0
      · simp -implicitDefEqProofs only [go_sem, simprocAttr, wa_cond, axC_t, axC_f, hc, s0, s1, s2, s4, si, sj, m1]
        exact ⟨(i + 1, j), ⟨rfl, rfl, hP.up hij hX (by rw [hA, ← hx, hpy]; exact hc), by simp only; omega⟩, by simp only; omega⟩
      · simp -implicitDefEqProofs only [go_sem, simprocAttr, wa_cond, axC_t, axC_f, hc, s0, s1, s2, s4, si, sj]
        exact ⟨i, j, rfl, rfl, hP, hq, fun _ h => (by rw [hA, ← hx, hpy]; exact hc)⟩
    · have g1 : ¬ (i : Int) ≤ (j : Int) := by omega
      simp -implicitDefEqProofs only [go_sem, simprocAttr, wa_cond, axC_t, axC_f, s0, s1, s2, s4, si, sj, g1]
      exact ⟨i, j, rfl, rfl, hP, hq, fun h => absurd h hij⟩
  rintro s T ⟨s0, s1, s2, s4, rfl, i, j, si, sj, hP, hq, hup⟩
  clear hP0 hq0
  have hP0 := hP
  have hq0 := hq
  have hup0 := hup
  clear hP hq hup
  refine ax_midl (fun s T => s 0 = .slice (some ⟨b, 0, none⟩) L0.length c ∧ s 1 = .int .i64 (lo : Nat) ∧ s 2 = .int .i64 (hi : Nat) ∧ s 4 = .func (.func g) #[] #[] ∧ T = putR T0 b L ∧ ∃ i j : Nat, s 12 = .int .i64 (i : Nat) ∧ s 13 = .int .i64 (j : Nat) ∧ Part A L1 L lo hi i j ∧ j + 2 - i ≤ q0 ∧ (i ≤ j → ∀ h : i < L.length, ¬ A L[i]) ∧ (i ≤ j → ∀ h : j < L.length, A L[j])) ?_ ?_
  · refine ax_loopx (fun (x : Nat × Nat) s T => s 0 = .slice (some ⟨b, 0, none⟩) L0.length c ∧ s 1 = .int .i64 (lo : Nat) ∧ s 2 = .int .i64 (hi : Nat) ∧ s 4 = .func (.func g) #[] #[] ∧ T = putR T0 b L ∧ s 12 = .int .i64 (x.1 : Nat) ∧ s 13 = .int .i64 (x.2 : Nat) ∧ Part A L1 L lo hi x.1 x.2 ∧ x.2 + 2 - x.1 ≤ q0 ∧ (x.1 ≤ x.2 → ∀ h : x.1 < L.length, ¬ A L[x.1])) (fun x => x.2 + 2 - x.1) (i, j) ?_ ?_
    · simp -implicitDefEqProofs only [go_sem, simprocAttr, s0, s1, s2, s4, si, sj]
      exact ⟨hP0, hq0, hup0⟩
    clear s0 s1 s2 s4 si sj
    rintro ⟨i, j⟩ s T ⟨s0, s1, s2, s4, rfl, si, sj, hP, hq, hup⟩
    simp only at si sj hP hq hup
    simp -implicitDefEqProofs only [go_sem, simprocAttr]
    refine ax_quiet (by kernel_rfl) ?_
    by_cases hij : i ≤ j
    · have hi1 := hP.i1
      have hX : j < L.length := by have := hP.hj; omega
      have hY : lo < L.length := by omega
      obtain ⟨x, hx, r1⟩ := rdF T0 hb hX
      obtain ⟨y, hy, r2⟩ := rdF T0 hb hY
      have hpy : pv = y := by rw [hpve, hy]; exact (hP.pv hY).symm
      have hcm := fun H => hg.call x y (hx ▸ hoL _ (List.getElem_mem hX)) (hy ▸ hoL _ (List.getElem_mem hY)) H
      unfold RR.val rV at hcm
      have g1 : (i : Int) ≤ (j : Int) := by omega
      have m1 : IntKind.i64.wrap ((j : Int) - 1) = ((j - 1 : Nat) : Int) := by rw [w64 (by omega) (by omega)]; have := hP.i1; omega
      have d2 : (0 : Int) ≤ (j : Int) := by omega
      have d3 : (j : Int) < (L0.length : Int) := by omega
      have d4 : (0 : Int) ≤ (lo : Int) := by omega
      have d5 : (lo : Int) < (L0.length : Int) := by omega
      simp -implicitDefEqProofs only [go_sem, simprocAttr, s0, s1, s2, s4, si, sj, aIndexAddr, g1, d2, d3, d4, d5, r1, r2]
      refine wl_callO _ (by simp -implicitDefEqProofs only [go_sem, simprocAttr, s4]) _ (by simp -implicitDefEqProofs only [go_sem, simprocAttr]) (hcm _) ?_
      by_cases hc : z x y < 0
      · simp -implicitDefEqProofs only [go_sem, simprocAttr, wa_cond, axC_t, axC_f, hc, s0, s1, s2, s4, si, sj]
        exact ⟨i, j, rfl, rfl, hP, hq, hup, fun _ h => (by rw [hA, ← hx, hpy]; exact hc)⟩
      · simp -implicitDefEqProofs only [go_sem, simprocAttr, wa_cond, axC_t, axC_f, hc, s0, s1, s2, s4, si, sj, m1]
        exact ⟨(i, j - 1), ⟨rfl, rfl, hP.down hij hX (by rw [hA, ← hx, hpy]; exact hc), by simp only; omega, fun h h' => hup hij h'⟩, by simp only; omega⟩
    · have g1 : ¬ (i : Int) ≤ (j : Int) := by omega
      simp -implicitDefEqProofs only [go_sem, simprocAttr, wa_cond, axC_t, axC_f, s0, s1, s2, s4, si, sj, g1]
      exact ⟨i, j, rfl, rfl, hP, hq, hup, fun h => absurd h hij⟩
  clear s0 s1 s2 s4 si sj
  rintro s T ⟨s0, s1, s2, s4, rfl, i, j, si, sj, hP, hq, hup, hdn⟩
  by_cases hji : j < i
  · obtain ⟨x, y, L', L2, r1, r2, w1, w2, f1, f2, f3, f4⟩ := fin i j L hP (by omega)
    have d2 : (0 : Int) ≤ (j : Int) := by omega
    have d3 : (j : Int) < (L0.length : Int) := by omega
    have g1 : (j : Int) < (i : Int) := by omega
    simp -implicitDefEqProofs only [go_sem, simprocAttr, wa_cond, axC_t, axC_f, s0, s1, s2, s4, si, sj, g1]
    refine ax_loud (by kernel_rfl) ?_
    simp -implicitDefEqProofs only [go_sem, simprocAttr, s0, s1, s2, s4, si, sj, aIndexAddr, d2, d3, e2, e3, r1, r2, w1, w2, res284]
    exact ⟨j, true, rfl, L2, rfl, f1, f2, f3, f4⟩
  have hij : i ≤ j := by omega
  have hI : i < L.length := by have := hP.hj; omega
  have hJ : j < L.length := by have := hP.hj; omega
  obtain ⟨x, y, L1', L2, hx, hy, hL2, r1, r2, w1, w2⟩ := swF T0 hb hI hJ
  have hP2 := hP.sw hij hI hJ (hup hij hI) (hdn hij hJ)
  rw [← hL2] at hP2
  have h11 := hP.i1
  have g1 : ¬ (j : Int) < (i : Int) := by omega
  have m1 : IntKind.i64.wrap ((i : Int) + 1) = ((i + 1 : Nat) : Int) := by rw [w64 (by omega) (by omega)]; rfl
  have m2 : IntKind.i64.wrap ((j : Int) - 1) = ((j - 1 : Nat) : Int) := by rw [w64 (by omega) (by omega)]; omega
  have d2 : (0 : Int) ≤ (i : Int) := by omega
  have d3 : (i : Int) < (L0.length : Int) := by omega
  have d4 : (0 : Int) ≤ (j : Int) := by omega
  have d5 : (j : Int) < (L0.length : Int) := by omega
  simp -implicitDefEqProofs only [go_sem, simprocAttr, wa_cond, axC_t, axC_f, s0, s1, s2, s4, si, sj, g1]
  refine ax_loud (by kernel_rfl) ?_
  simp -implicitDefEqProofs only [go_sem, simprocAttr, s0, s1, s2, s4, si, sj, aIndexAddr, d2, d3, d4, d5, r1, r2, w1, w2, m1, m2]
  clear hP0 hq0 hup0 r1 r2 w1 w2 d2 d3 d4 d5 m1 m2 hx hy hL2 g1 hji hup hdn hij
  refine ax_midl (fun s T => s 0 = .slice (some ⟨b, 0, none⟩) L0.length c ∧ s 1 = .int .i64 (lo : Nat) ∧ s 2 = .int .i64 (hi : Nat) ∧ s 4 = .func (.func g) #[] #[] ∧ ∃ (i j : Nat) (L : List RR), s 12 = .int .i64 (i : Nat) ∧ s 13 = .int .i64 (j : Nat) ∧ T = putR T0 b L ∧ Part A L1 L lo hi i j ∧ j < i) ?_ ?_
  · refine ax_loopx (fun (x : Nat × Nat) s T => s 0 = .slice (some ⟨b, 0, none⟩) L0.length c ∧ s 1 = .int .i64 (lo : Nat) ∧ s 2 = .int .i64 (hi : Nat) ∧ s 4 = .func (.func g) #[] #[] ∧ s 12 = .int .i64 (x.1 : Nat) ∧ s 13 = .int .i64 (x.2 : Nat) ∧ ∃ L, T = putR T0 b L ∧ Part A L1 L lo hi x.1 x.2) (fun x => x.2 + 2 - x.1) (i + 1, j - 1) ?_ ?_
    · simp -implicitDefEqProofs only [go_sem, simprocAttr, s0, s1, s2, s4]
      exact ⟨L2, rfl, hP2⟩
    clear s0 s1 s2 s4 si sj hP2 hI hJ hoL hLl hP hq h11 hq0'
    clear L1' L2 L i j x y q0
    rintro ⟨i0, j0⟩ s T ⟨s0, s1, s2, s4, si, sj, L, rfl, hP0⟩
    simp only at si sj hP0
    have hLl : L.length = L0.length := by rw [hP0.within.len, hl1]
    have hoL := hP0.within.oks hoL1
    simp -implicitDefEqProofs only [go_sem, simprocAttr]
    obtain ⟨q0, hq0'⟩ : ∃ q0, q0 = j0 + 2 - i0 := ⟨_, rfl⟩
    have hq0 : j0 + 2 - i0 ≤ q0 := by omega
    refine ax_midl (fun s T => s 0 = .slice (some ⟨b, 0, none⟩) L0.length c ∧ s 1 = .int .i64 (lo : Nat) ∧ s 2 = .int .i64 (hi : Nat) ∧ s 4 = .func (.func g) #[] #[] ∧ T = putR T0 b L ∧ ∃ i j : Nat, s 12 = .int .i64 (i : Nat) ∧ s 13 = .int .i64 (j : Nat) ∧ Part A L1 L lo hi i j ∧ j + 2 - i ≤ q0 ∧ (i ≤ j → ∀ h : i < L.length, ¬ A L[i])) ?_ ?_
    · refine ax_loopx (fun (x : Nat × Nat) s T => s 0 = .slice (some ⟨b, 0, none⟩) L0.length c ∧ s 1 = .int .i64 (lo : Nat) ∧ s 2 = .int .i64 (hi : Nat) ∧ s 4 = .func (.func g) #[] #[] ∧ T = putR T0 b L ∧ s 12 = .int .i64 (x.1 : Nat) ∧ s 13 = .int .i64 (x.2 : Nat) ∧ Part A L1 L lo hi x.1 x.2 ∧ x.2 + 2 - x.1 ≤ q0) (fun x => x.2 + 2 - x.1) (i0, j0) ?_ ?_
      · simp -implicitDefEqProofs only [go_sem, simprocAttr, s0, s1, s2, s4, si, sj]
        exact ⟨hP0, hq0⟩
      clear s0 s1 s2 s4 si sj
      rintro ⟨i, j⟩ s T ⟨s0, s1, s2, s4, rfl, si, sj, hP, hq⟩
      simp only at si sj hP hq
      simp -implicitDefEqProofs only [go_sem, simprocAttr]
      refine ax_quiet (by kernel_rfl) ?_
      by_cases hij : i ≤ j
      · have hi1 := hP.i1
        have hX : i < L.length := by have := hP.hj; omega
        have hY : lo < L.length := by omega
        obtain ⟨x, hx, r1⟩ := rdF T0 hb hX
        obtain ⟨y, hy, r2⟩ := rdF T0 hb hY
        have hpy : pv = y := by rw [hpve, hy]; exact (hP.pv hY).symm
        have hcm := fun H => hg.call x y (hx ▸ hoL _ (List.getElem_mem hX)) (hy ▸ hoL _ (List.getElem_mem hY)) H
        unfold RR.val rV at hcm
        have g1 : (i : Int) ≤ (j : Int) := by omega
        have m1 : IntKind.i64.wrap ((i : Int) + 1) = ((i + 1 : Nat) : Int) := by rw [w64 (by omega) (by omega)]; rfl
        have d2 : (0 : Int) ≤ (i : Int) := by omega
        have d3 : (i : Int) < (L0.length : Int) := by omega
        have d4 : (0 : Int) ≤ (lo : Int) := by omega
        have d5 : (lo : Int) < (L0.length : Int) := by omega
        simp -implicitDefEqProofs only [go_sem, simprocAttr, s0, s1, s2, s4, si, sj, aIndexAddr, g1, d2, d3, d4, d5, r1, r2]
        refine wl_callO _ (by simp -implicitDefEqProofs only [go_sem, simprocAttr, s4]) _ (by simp -implicitDefEqProofs only [go_sem, simprocAttr]) (hcm _) ?_
        by_cases hc : z x y < 0
        · simp -implicitDefEqProofs only [go_sem, simprocAttr, wa_cond, axC_t, axC_f, hc, s0, s1, s2, s4, si, sj, m1]
          exact ⟨(i + 1, j), ⟨rfl, rfl, hP.up hij hX (by rw [hA, ← hx, hpy]; exact hc), by simp only; omega⟩, by simp only; omega⟩
        · simp -implicitDefEqProofs only [go_sem, simprocAttr, wa_cond, axC_t, axC_f, hc, s0, s1, s2, s4, si, sj]
          exact ⟨i, j, rfl, rfl, hP, hq, fun _ h => (by rw [hA, ← hx, hpy]; exact hc)⟩
      · have g1 : ¬ (i : Int) ≤ (j : Int) := by omega
        simp -implicitDefEqProofs only [go_sem, simprocAttr, wa_cond, axC_t, axC_f, s0, s1, s2, s4, si, sj, g1]
        exact ⟨i, j, rfl, rfl, hP, hq, fun h => absurd h hij⟩
    clear s0 s1 s2 s4 si sj
    rintro s T ⟨s0, s1, s2, s4, rfl, i, j, si, sj, hP, hq, hup⟩
    clear hP0 hq0
    have hP0 := hP
    have hq0 := hq
    have hup0 := hup
    clear hP hq hup
    refine ax_midl (fun s T => s 0 = .slice (some ⟨b, 0, none⟩) L0.length c ∧ s 1 = .int .i64 (lo : Nat) ∧ s 2 = .int .i64 (hi : Nat) ∧ s 4 = .func (.func g) #[] #[] ∧ T = putR T0 b L ∧ ∃ i j : Nat, s 12 = .int .i64 (i : Nat) ∧ s 13 = .int .i64 (j : Nat) ∧ Part A L1 L lo hi i j ∧ j + 2 - i ≤ q0 ∧ (i ≤ j → ∀ h : i < L.length, ¬ A L[i]) ∧ (i ≤ j → ∀ h : j < L.length, A L[j])) ?_ ?_
    · refine ax_loopx (fun (x : Nat × Nat) s T => s 0 = .slice (some ⟨b, 0, none⟩) L0.length c ∧ s 1 = .int .i64 (lo : Nat) ∧ s 2 = .int .i64 (hi : Nat) ∧ s 4 = .func (.func g) #[] #[] ∧ T = putR T0 b L ∧ s 12 = .int .i64 (x.1 : Nat) ∧ s 13 = .int .i64 (x.2 : Nat) ∧ Part A L1 L lo hi x.1 x.2 ∧ x.2 + 2 - x.1 ≤ q0 ∧ (x.1 ≤ x.2 → ∀ h : x.1 < L.length, ¬ A L[x.1])) (fun x => x.2 + 2 - x.1) (i, j) ?_ ?_
      · simp -implicitDefEqProofs only [go_sem, simprocAttr, s0, s1, s2, s4, si, sj]
        exact ⟨hP0, hq0, hup0⟩
      clear s0 s1 s2 s4 si sj
      rintro ⟨i, j⟩ s T ⟨s0, s1, s2, s4, rfl, si, sj, hP, hq, hup⟩
      simp only at si sj hP hq hup
      simp -implicitDefEqProofs only [go_sem, simprocAttr]
      refine ax_quiet (by kernel_rfl) ?_
      by_cases hij : i ≤ j
      · have hi1 := hP.i1
        have hX : j < L.length := by have := hP.hj; omega
        have hY : lo < L.length := by omega
        obtain ⟨x, hx, r1⟩ := rdF T0 hb hX
        obtain ⟨y, hy, r2⟩ := rdF T0 hb hY
        have hpy : pv = y := by rw [hpve, hy]; exact (hP.pv hY).symm
        have hcm := fun H => hg.call x y (hx ▸ hoL _ (List.getElem_mem hX)) (hy ▸ hoL _ (List.getElem_mem hY)) H
        unfold RR.val rV at hcm
        have g1 : (i : Int) ≤ (j : Int) := by omega
        have m1 : IntKind.i64.wrap ((j : Int) - 1) = ((j - 1 : Nat) : Int) := by rw [w64 (by omega) (by omega)]; have := hP.i1; omega
        have d2 : (0 : Int) ≤ (j : Int) := by omega
        have d3 : (j : Int) < (L0.length : Int) := by omega
        have d4 : (0 : Int) ≤ (lo : Int) := by omega
        have d5 : (lo : Int) < (L0.length : Int) := by omega
        simp -implicitDefEqProofs only [go_sem, simprocAttr, s0, s1, s2, s4, si, sj, aIndexAddr, g1, d2, d3, d4, d5, r1, r2]
        refine wl_callO _ (by simp -implicitDefEqProofs only [go_sem, simprocAttr, s4]) _ (by simp -implicitDefEqProofs only [go_sem, simprocAttr]) (hcm _) ?_
        by_cases hc : z x y < 0
        · simp -implicitDefEqProofs only [go_sem, simprocAttr, wa_cond, axC_t, axC_f, hc, s0, s1, s2, s4, si, sj]
          exact ⟨i, j, rfl, rfl, hP, hq, hup, fun _ h => (by rw [hA, ← hx, hpy]; exact hc)⟩
        · simp -implicitDefEqProofs only [go_sem, simprocAttr, wa_cond, axC_t, axC_f, hc, s0, s1, s2, s4, si, sj, m1]
          exact ⟨(i, j - 1), ⟨rfl, rfl, hP.down hij hX (by rw [hA, ← hx, hpy]; exact hc), by simp only; omega, fun h h' => hup hij h'⟩, by simp only; omega⟩
      · have g1 : ¬ (i : Int) ≤ (j : Int) := by omega
        simp -implicitDefEqProofs only [go_sem, simprocAttr, wa_cond, axC_t, axC_f, s0, s1, s2, s4, si, sj, g1]
        exact ⟨i, j, rfl, rfl, hP, hq, hup, fun h => absurd h hij⟩
    clear s0 s1 s2 s4 si sj
    rintro s T ⟨s0, s1, s2, s4, rfl, i, j, si, sj, hP, hq, hup, hdn⟩
    by_cases hij : i ≤ j
    · have hI : i < L.length := by have := hP.hj; omega
      have hJ : j < L.length := by have := hP.hj; omega
      obtain ⟨x, y, L1', L2, hx, hy, hL2, r1, r2, w1, w2⟩ := swF T0 hb hI hJ
      have hP2 := hP.sw hij hI hJ (hup hij hI) (hdn hij hJ)
      rw [← hL2] at hP2
      have h11 := hP.i1
      have g1 : ¬ (j : Int) < (i : Int) := by omega
      have m1 : IntKind.i64.wrap ((i : Int) + 1) = ((i + 1 : Nat) : Int) := by rw [w64 (by omega) (by omega)]; rfl
      have m2 : IntKind.i64.wrap ((j : Int) - 1) = ((j - 1 : Nat) : Int) := by rw [w64 (by omega) (by omega)]; omega
      have d2 : (0 : Int) ≤ (i : Int) := by omega
      have d3 : (i : Int) < (L0.length : Int) := by omega
      have d4 : (0 : Int) ≤ (j : Int) := by omega
      have d5 : (j : Int) < (L0.length : Int) := by omega
      simp -implicitDefEqProofs only [go_sem, simprocAttr, wa_cond, axC_t, axC_f, s0, s1, s2, s4, si, sj, g1]
      refine ax_loud (by kernel_rfl) ?_
      simp -implicitDefEqProofs only [go_sem, simprocAttr, s0, s1, s2, s4, si, sj, aIndexAddr, d2, d3, d4, d5, r1, r2, w1, w2, m1, m2]
      exact ⟨(i + 1, j - 1), ⟨rfl, rfl, L2, rfl, hP2⟩, by simp only; omega⟩
    · have g1 : (j : Int) < (i : Int) := by omega
      simp -implicitDefEqProofs only [go_sem, simprocAttr, wa_cond, axC_t, axC_f, s0, s1, s2, s4, si, sj, g1]
      exact ⟨i, j, L, rfl, rfl, rfl, hP, by omega⟩
  clear s0 s1 s2 s4 si sj hP2 hI hJ hoL hLl hP hq h11 hq0'
  clear L1' L2 L i j x y q0
  rintro s T ⟨s0, s1, s2, s4, i, j, L, si, sj, rfl, hP, hji⟩
  have hhj := hP.hj
  obtain ⟨x, y, L', L2, r1, r2, w1, w2, f1, f2, f3, f4⟩ := fin i j L hP (by omega)
  have d2 : (0 : Int) ≤ (j : Int) := by omega
  have d3 : (j : Int) < (L0.length : Int) := by omega
  simp -implicitDefEqProofs only [go_sem, simprocAttr]
  refine ax_loud (by kernel_rfl) ?_
  simp -implicitDefEqProofs only [go_sem, simprocAttr, s0, s1, s2, s4, si, sj, aIndexAddr, d2, d3, e2, e3, r1, r2, w1, w2, res284]
  exact ⟨j, false, rfl, L2, rfl, f1, f2, f3, f4⟩
end Go.Proofs.YthhmkaikopdmjaaGreat
set_option maxHeartbeats 400000
namespace Go.Proofs.YthhmkaikopdmjaaGreat
open Go Go.Fw
def PQ (z : RR → RR → Int) (L : List RR) (lo m hi : Nat) : Prop := ∀ p q, lo ≤ p → p ≤ m → m ≤ q → q < hi → p < q → ∀ (h1 : p < L.length) (h2 : q < L.length), Lq z L[p] L[q]
theorem PQ.left {z : RR → RR → Int} {L L' : List RR} {lo m hi : Nat} (h : PQ z L lo m hi) (hw : Within L L' lo m) (hm : m < hi) (hl : hi ≤ L.length) : PQ z L' lo m hi := by
  intro p q g0 g1 g2 g3 g4 h1 h2
  rw [hw.at h2 (.inr (by omega))]
  by_cases e : p = m
  · rw [hw.at h1 (.inr (by omega))]
    exact h p q g0 g1 g2 g3 g4 _ _
  · obtain ⟨p', a1, a2, a3, a4⟩ := hw.from (by omega) g0 (by omega) h1
    rw [a4]
    exact h p' q a1 (by omega) g2 g3 (by omega) _ _
theorem PQ.right {z : RR → RR → Int} {L L' : List RR} {lo m hi : Nat} (h : PQ z L lo m hi) (hw : Within L L' (m + 1) hi) (hl : hi ≤ L.length) : PQ z L' lo m hi := by
  intro p q g0 g1 g2 g3 g4 h1 h2
  rw [hw.at h1 (.inl (by omega))]
  by_cases e : q = m
  · rw [hw.at h2 (.inl (by omega))]
    exact h p q g0 g1 g2 g3 g4 _ _
  · obtain ⟨q', a1, a2, a3, a4⟩ := hw.from hl (by omega) g3 h2
    rw [a4]
    exact h p q' g0 g1 (by omega) a2 (by omega) _ _
theorem pdqG {g : FuncId} {z : RR → RR → Int} {ok : RR → Prop} (hg : Cmp g z ok) {b : Nat} {c : Nat} (n : Nat) : ∀ (T0 : Heap) (L0 : List RR) (lo hi : Nat) (lim : Int), hi - lo ≤ n → OwnR T0 b L0 → (∀ r ∈ L0, ok r) → lo ≤ hi → hi ≤ L0.length → L0.length ≤ 255 → Lb (Lq z) L0 lo hi →
    ∃ L, Sim Tryz.prog 273 #[.slice (some ⟨b, 0, none⟩) L0.length c, .int .i64 (lo : Nat), .int .i64 (hi : Nat), .int .i64 lim, .func (.func g) #[] #[]] T0 (.tuple #[]) (putR T0 b L) ∧ Within L0 L lo hi ∧ SrtTo (Lq z) L lo hi := by
  induction n using Nat.strongRecOn
  rename_i n ih
  intro T0 L0 lo hi lim hn hown hok hlo hhi hlen hlb
  suffices hx : ∃ w H', Sim Tryz.prog 273 #[.slice (some ⟨b, 0, none⟩) L0.length c, .int .i64 (lo : Nat), .int .i64 (hi : Nat), .int .i64 lim, .func (.func g) #[] #[]] T0 w H' ∧ w = .tuple #[] ∧ ∃ L, H' = putR T0 b L ∧ Within L0 L lo hi ∧ SrtTo (Lq z) L lo hi by
    obtain ⟨w, H', h1, rfl, L, rfl, h2⟩ := hx
    exact ⟨L, h1, h2⟩
  have hb := hown.lt
  have hself := putR_self hown
  refine sxA tok mixed Tryz.func273 ?_
  simp -implicitDefEqProofs only [go_sem, simprocAttr]
  refine ax_loopx (fun (x : Nat × Nat) s T => s 0 = .slice (some ⟨b, 0, none⟩) L0.length c ∧ s 1 = .int .i64 (x.1 : Nat) ∧ s 2 = .int .i64 (x.2 : Nat) ∧ s 4 = .func (.func g) #[] #[] ∧ lo ≤ x.1 ∧ x.1 ≤ x.2 ∧ x.2 ≤ hi ∧ ∃ lim wb wp L, s 3 = .int .i64 lim ∧ s 10 = .bool wb ∧ s 11 = .bool wp ∧ T = putR T0 b L ∧ Within L0 L lo hi ∧ Outs (Lq z) L lo hi x.1 x.2) (fun x => x.2 - x.1) (lo, hi) ?_ ?_
  · simp -implicitDefEqProofs only [go_sem, simprocAttr]
    exact ⟨hlo, lim, true, true, L0, rfl, rfl, rfl, hself.symm, .refl _ _ _, .start _ _ _⟩
  clear hself
  rintro ⟨a, e⟩ s T ⟨s0, s1, s2, s4, ha, hae, he, lim1, wb, wp, L, s3, s10, s11, rfl, hw, hout⟩
  simp only at s1 s2 ha hae he hout
  have hLl := hw.len
  have hoL := hw.oks hok
  have ho := putR_own T0 L hb
  have hlbL := (hlb.within hw (Nat.le_refl _) (Nat.le_refl _) hlo hhi).sub hout ha he hae
  have m0 : IntKind.i64.wrap ((e : Int) - (a : Int)) = ((e - a : Nat) : Int) := by rw [w64 (by omega) (by omega)]; omega
  by_cases h12 : e - a ≤ 12
  · have g1 : ((e - a : Nat) : Int) ≤ 12 := by omega
    obtain ⟨L2, o, hw2, hs2⟩ := insertionG hg (putR T0 b L) (c := c) (lo := a) (hi := e) ho hoL hae (by omega) (by omega)
    rw [putR_put, hLl] at o
    simp -implicitDefEqProofs only [go_sem, simprocAttr, wa_cond, axC_t, axC_f, s0, s1, s2, s3, s4, m0, g1]
    refine kl o ?_
    simp -implicitDefEqProofs only [go_sem, simprocAttr]
    exact ⟨rfl, L2, rfl, hw.trans (hw2.mono ha he), (hout.within hw2 ha he (Nat.le_refl _) (Nat.le_refl _) hae (by omega)).srt hs2⟩
  have g1 : ¬ ((e - a : Nat) : Int) ≤ 12 := by omega
  by_cases hl0 : lim1 = 0
  · obtain ⟨L2, o, hw2, hs2⟩ := heapG hg (putR T0 b L) (c := c) (lo := a) (hi := e) ho hoL (by omega) (by omega) (by omega)
    rw [putR_put, hLl] at o
    simp -implicitDefEqProofs only [go_sem, simprocAttr, wa_cond, axC_t, axC_f, s0, s1, s2, s3, s4, m0, g1, hl0]
    refine kl o ?_
    simp -implicitDefEqProofs only [go_sem, simprocAttr]
    exact ⟨rfl, L2, rfl, hw.trans (hw2.mono ha he), (hout.within hw2 ha he (Nat.le_refl _) (Nat.le_refl _) hae (by omega)).srt hs2⟩
  simp -implicitDefEqProofs only [go_sem, simprocAttr, s0, s1, s2, s3, s4, s10, s11, m0, g1]
  refine ax_cond2 ?_
  simp only [ev_tmp, ev_const, ev_func, upd_at, put_some, put_none, bndB_bool, Nat.reduceEqDiff, if_true, if_false, ↓reduceIte, reduceCtorEq]
  refine ⟨fun hc => hc.elim, fun _ => ?_⟩
  simp -implicitDefEqProofs only [go_sem, simprocAttr, s0, s1, s2, s3, s4, s10, s11, hl0]
  refine ax_cond2 ?_
  simp only [ev_tmp, ev_const, ev_func, upd_at, put_some, put_none, bndB_bool, Nat.reduceEqDiff, if_true, if_false, ↓reduceIte, reduceCtorEq]
  refine ⟨fun hc => hc.elim, fun _ => ?_⟩
  simp -implicitDefEqProofs only [go_sem, simprocAttr, s0, s1, s2, s3, s4, s10, s11]
  apply shareK (M := fun s T => s 0 = .slice (some ⟨b, 0, none⟩) L0.length c ∧ s 1 = .int .i64 (a : Nat) ∧ s 2 = .int .i64 (e : Nat) ∧ s 4 = .func (.func g) #[] #[] ∧ s 12 = .int .i64 ((e - a : Nat) : Int) ∧ ∃ lim wb wp L, s 3 = .int .i64 lim ∧ s 10 = .bool wb ∧ s 11 = .bool wp ∧ T = putR T0 b L ∧ Within L0 L lo hi ∧ Outs (Lq z) L lo hi a e)
  · intro hrest
    cases wb with
    | true =>
      refine ax_mid _ ?_ hrest
      simp -implicitDefEqProofs only [go_sem, simprocAttr, wa_cond, axC_t, axC_f, s0, s1, s2, s3, s4, s10, s11]
      exact ⟨lim1, true, wp, L, rfl, rfl, rfl, rfl, hw, hout⟩
    | false =>
      obtain ⟨L2, o, hw2⟩ := breakG (putR T0 b L) (f := .func (.func g) #[] #[]) (c := c) (lo := a) (hi := e) ho (by omega) (by omega) (by omega)
      rw [putR_put, hLl] at o
      refine ax_mid _ ?_ hrest
      simp -implicitDefEqProofs only [go_sem, simprocAttr, wa_cond, axC_t, axC_f, s0, s1, s2, s3, s4, s10, s11]
      refine kl o ?_
      simp -implicitDefEqProofs only [go_sem, simprocAttr, s0, s1, s2, s3, s4, s10, s11]
      exact ⟨_, false, wp, L2, rfl, rfl, rfl, rfl, hw.trans (hw2.mono ha he), hout.within hw2 ha he (Nat.le_refl _) (Nat.le_refl _) hae (by omega)⟩
  clear s0 s1 s2 s3 s4
  rintro s T ⟨s0, s1, s2, s4, s12, lim1, wb, wp, L, s3, s10, s11, rfl, hw, hout⟩
  have hLl := hw.len
  have hoL := hw.oks hok
  have ho := putR_own T0 L hb
  obtain ⟨p, h, op, hp1, hp2⟩ := pivotG hg (putR T0 b L) (c := c) (lo := a) (hi := e) ho hoL (by omega) (by omega) (by omega)
  rw [hLl] at op
  simp -implicitDefEqProofs only [go_sem, simprocAttr, s0, s1, s2, s3, s4, s10, s11]
  refine kl op ?_
  simp -implicitDefEqProofs only [go_sem, simprocAttr, s0, s1, s2, s3, s4, s10, s11]
  apply shareK (M := fun s T => s 0 = .slice (some ⟨b, 0, none⟩) L0.length c ∧ s 1 = .int .i64 (a : Nat) ∧ s 2 = .int .i64 (e : Nat) ∧ s 4 = .func (.func g) #[] #[] ∧ s 12 = .int .i64 ((e - a : Nat) : Int) ∧ s 3 = .int .i64 lim1 ∧ s 10 = .bool wb ∧ s 11 = .bool wp ∧ ∃ (p : Nat) (h : Int) (L : List RR), s 13 = .int .i64 (p : Nat) ∧ s 14 = .int .i64 h ∧ a ≤ p ∧ p < e ∧ T = putR T0 b L ∧ Within L0 L lo hi ∧ Outs (Lq z) L lo hi a e)
  · intro hrest
    by_cases hh : h = 2
    · obtain ⟨L2, o, hw2⟩ := reverseG (putR T0 b L) (f := .func (.func g) #[] #[]) (c := c) (lo := a) (hi := e) ho (by omega) (by omega) (by omega)
      rw [putR_put, hLl] at o
      have m1 : IntKind.i64.wrap ((e : Int) - 1) = ((e - 1 : Nat) : Int) := by rw [w64 (by omega) (by omega)]; omega
      have m2 : IntKind.i64.wrap ((p : Int) - (a : Int)) = ((p - a : Nat) : Int) := by rw [w64 (by omega) (by omega)]; omega
      have m3 : IntKind.i64.wrap (((e - 1 : Nat) : Int) - ((p - a : Nat) : Int)) = ((e - 1 - (p - a) : Nat) : Int) := by rw [w64 (by omega) (by omega)]; omega
      simp -implicitDefEqProofs only [go_sem, simprocAttr, hh]
      refine ax_mid _ ?_ hrest
      simp -implicitDefEqProofs only [go_sem, simprocAttr, wa_cond, axC_t, axC_f, s0, s1, s2, s3, s4, s10, s11, s12]
      refine kl o ?_
      simp -implicitDefEqProofs only [go_sem, simprocAttr, s0, s1, s2, s3, s4, s10, s11, s12, m1, m2, m3]
      exact ⟨_, 1, L2, rfl, rfl, by omega, by omega, rfl, hw.trans (hw2.mono ha he), hout.within hw2 ha he (Nat.le_refl _) (Nat.le_refl _) hae (by omega)⟩
    · simp -implicitDefEqProofs only [go_sem, simprocAttr, hh]
      refine ax_mid _ ?_ hrest
      simp -implicitDefEqProofs only [go_sem, simprocAttr, wa_cond, axC_t, axC_f, s0, s1, s2, s3, s4, s10, s11, s12]
      exact ⟨p, h, L, rfl, rfl, hp1, hp2, rfl, hw, hout⟩
  clear s0 s1 s2 s3 s4 s10 s11 s12 op
  rintro s T ⟨s0, s1, s2, s4, s12, s3, s10, s11, p, h, L, s13, s14, hp1, hp2, rfl, hw, hout⟩
  have hLl := hw.len
  have hoL := hw.oks hok
  have ho := putR_own T0 L hb
  have hlbL := (hlb.within hw (Nat.le_refl _) (Nat.le_refl _) hlo hhi).sub hout ha he hae
  simp -implicitDefEqProofs only [go_sem, simprocAttr, s0, s1, s2, s3, s4, s10, s11]
  apply shareK (M := fun s T => s 0 = .slice (some ⟨b, 0, none⟩) L0.length c ∧ s 1 = .int .i64 (a : Nat) ∧ s 2 = .int .i64 (e : Nat) ∧ s 4 = .func (.func g) #[] #[] ∧ s 12 = .int .i64 ((e - a : Nat) : Int) ∧ s 3 = .int .i64 lim1 ∧ s 10 = .bool wb ∧ s 11 = .bool wp ∧ s 13 = .int .i64 (p : Nat) ∧ ∃ (L : List RR), T = putR T0 b L ∧ Within L0 L lo hi ∧ Outs (Lq z) L lo hi a e)
  · intro hrest
    have idle : Within L0 L lo hi ∧ Outs (Lq z) L lo hi a e := ⟨hw, hout⟩
    cases wb with
    | false =>
      simp -implicitDefEqProofs only [go_sem, simprocAttr, s11]
      refine ax_mid _ ?_ hrest
      simp -implicitDefEqProofs only [go_sem, simprocAttr, wa_cond, axC_t, axC_f, s0, s1, s2, s3, s4, s10, s11, s12, s13]
      exact ⟨L, rfl, idle⟩
    | true =>
      cases wp with
      | false =>
        simp -implicitDefEqProofs only [go_sem, simprocAttr, s11]
        refine ax_mid _ ?_ hrest
        simp -implicitDefEqProofs only [go_sem, simprocAttr, wa_cond, axC_t, axC_f, s0, s1, s2, s3, s4, s10, s11, s12, s13]
        exact ⟨L, rfl, idle⟩
      | true =>
        by_cases hh : h = 1
        · obtain ⟨L2, t, o, hw2, hs2⟩ := partialG hg (putR T0 b L) (c := c) (lo := a) (hi := e) ho hoL (by omega) (by omega) (by omega) hlbL
          rw [putR_put, hLl] at o
          have hww := hw.trans (hw2.mono ha he)
          have hout2 := hout.within hw2 ha he (Nat.le_refl _) (Nat.le_refl _) hae (by omega)
          simp -implicitDefEqProofs only [go_sem, simprocAttr, s11, s14, hh]
          refine ax_mid _ ?_ hrest
          simp -implicitDefEqProofs only [go_sem, simprocAttr, wa_cond, axC_t, axC_f, s0, s1, s2, s3, s4, s10, s11, s12, s13]
          refine kl o ?_
          cases t with
          | true =>
            simp -implicitDefEqProofs only [go_sem, simprocAttr, wa_cond, axC_t, axC_f, s0, s1, s2, s3, s4, s10, s11, s12, s13]
            exact ⟨rfl, L2, rfl, hww, hout2.srt (hs2 rfl)⟩
          | false =>
            simp -implicitDefEqProofs only [go_sem, simprocAttr, wa_cond, axC_t, axC_f, s0, s1, s2, s3, s4, s10, s11, s12, s13]
            exact ⟨L2, rfl, hww, hout2⟩
        · simp -implicitDefEqProofs only [go_sem, simprocAttr, s11, s14, hh]
          refine ax_mid _ ?_ hrest
          simp -implicitDefEqProofs only [go_sem, simprocAttr, wa_cond, axC_t, axC_f, s0, s1, s2, s3, s4, s10, s11, s12, s13]
          exact ⟨L, rfl, idle⟩
  clear s0 s1 s2 s3 s4 s10 s11 s12 s13 s14
  rintro s T ⟨s0, s1, s2, s4, s12, s3, s10, s11, s13, L, rfl, hw, hout⟩
  have hLl := hw.len
  have hoL := hw.oks hok
  have ho := putR_own T0 L hb
  have hlbL := (hlb.within hw (Nat.le_refl _) (Nat.le_refl _) hlo hhi).sub hout ha he hae
  have hP : p < L.length := by omega
  simp -implicitDefEqProofs only [go_sem, simprocAttr]
  refine ax_quiet (by kernel_rfl) ?_
  apply shareK (M := fun s T => s 0 = .slice (some ⟨b, 0, none⟩) L0.length c ∧ s 1 = .int .i64 (a : Nat) ∧ s 2 = .int .i64 (e : Nat) ∧ s 4 = .func (.func g) #[] #[] ∧ s 12 = .int .i64 ((e - a : Nat) : Int) ∧ s 3 = .int .i64 lim1 ∧ s 10 = .bool wb ∧ s 11 = .bool wp ∧ s 13 = .int .i64 (p : Nat) ∧ T = putR T0 b L)
  · intro hrest
    by_cases ha0 : a = 0
    · have g2 : ¬ (0 : Int) < (a : Int) := by omega
      simp -implicitDefEqProofs only [go_sem, simprocAttr, s0, s1, s2, s3, s4, s10, s11, s12, s13, g2]
      refine ax_mid _ ?_ hrest
      simp -implicitDefEqProofs only [go_sem, simprocAttr, wa_cond, axC_t, axC_f, s0, s1, s2, s3, s4, s10, s11, s12, s13]
    have g2 : (0 : Int) < (a : Int) := by omega
    have hI : a - 1 < L.length := by omega
    obtain ⟨x, hx, r1⟩ := rdF T0 hb hI
    obtain ⟨y, hy, r2⟩ := rdF T0 hb hP
    have hcm := fun H => hg.call x y (hx ▸ hoL _ (List.getElem_mem hI)) (hy ▸ hoL _ (List.getElem_mem hP)) H
    unfold RR.val rV at hcm
    have m1 : IntKind.i64.wrap ((a : Int) - 1) = ((a - 1 : Nat) : Int) := by rw [w64 (by omega) (by omega)]; omega
    have d2 : (0 : Int) ≤ ((a - 1 : Nat) : Int) := by omega
    have d3 : ((a - 1 : Nat) : Int) < (L0.length : Int) := by omega
    have d4 : (0 : Int) ≤ (p : Int) := by omega
    have d5 : (p : Int) < (L0.length : Int) := by omega
    simp -implicitDefEqProofs only [go_sem, simprocAttr, s0, s1, s2, s3, s4, s10, s11, s12, s13, g2, aIndexAddr, m1, d2, d3, d4, d5, r1, r2]
    refine wl_callO _ (by simp -implicitDefEqProofs only [go_sem, simprocAttr, s4]) _ (by simp -implicitDefEqProofs only [go_sem, simprocAttr]) (hcm _) ?_
    by_cases hc : z x y < 0
    · simp -implicitDefEqProofs only [go_sem, simprocAttr, hc]
      refine ax_mid _ ?_ hrest
      simp -implicitDefEqProofs only [go_sem, simprocAttr, wa_cond, axC_t, axC_f, s0, s1, s2, s3, s4, s10, s11, s12, s13]
    · obtain ⟨L2, m, o, hw2, hm1, hm2, hY, hP', hpv, hle⟩ := equalG hg (putR T0 b L) (c := c) (lo := a) (hi := e) (p := p) ho hoL (by omega) (by omega) (by omega) hp1 hp2
      rw [putR_put, hLl] at o
      have hww := hw.trans (hw2.mono ha he)
      have hout2 := hout.within hw2 ha he (Nat.le_refl _) (Nat.le_refl _) hae (by omega)
      have hl2 := hw2.len
      have hoL2 := hw2.oks hoL
      have hlb2 := (hlb.within hww (Nat.le_refl _) (Nat.le_refl _) hlo hhi).sub hout2 ha he hae
      have e1 : L2[a - 1]'(by omega) = x := by rw [hw2.at (by omega) (.inl (by omega)), ← hx]
      have e2 : L2[a] = y := by rw [hpv, ← hy]
      have hout3 : Outs (Lq z) L2 lo hi m e := hout2.equal (by omega) (fun p' q' g0 g1 g3 g4 h1 h2 => by
        have k1 := hle p' g0 g1 h1
        have k2 : Lq z L2[a] (L2[a - 1]'(by omega)) := by unfold Lq; rw [e1, e2]; exact hc
        have k3 := hlb2 (a - 1) q' (by omega) (by omega) g4 (by omega) h2
        have q1 := hg.tr _ _ _ (hoL2 _ (List.getElem_mem h1)) (hoL2 _ (List.getElem_mem hY)) (hoL2 _ (List.getElem_mem (show a - 1 < L2.length by omega))) k1 k2
        exact hg.tr _ _ _ (hoL2 _ (List.getElem_mem h1)) (hoL2 _ (List.getElem_mem (show a - 1 < L2.length by omega))) (hoL2 _ (List.getElem_mem h2)) q1 k3)
      simp -implicitDefEqProofs only [go_sem, simprocAttr, hc]
      refine ax_mid _ ?_ hrest
      simp -implicitDefEqProofs only [go_sem, simprocAttr, wa_cond, axC_t, axC_f, s0, s1, s2, s3, s4, s10, s11, s12, s13]
      refine kl o ?_
      simp -implicitDefEqProofs only [go_sem, simprocAttr, s0, s1, s2, s3, s4, s10, s11, s12, s13]
      exact ⟨(m, e), ⟨rfl, rfl, by omega, by omega, he, lim1, wb, wp, L2, rfl, rfl, rfl, rfl, hww, hout3⟩, by simp only; omega⟩
  clear s0 s1 s2 s3 s4 s10 s11 s12 s13
  rintro s T ⟨s0, s1, s2, s4, s12, s3, s10, s11, s13, rfl⟩
  obtain ⟨L2, m, t, o, hw2, hm1, hm2, hpq⟩ := partG hg (putR T0 b L) (c := c) (lo := a) (hi := e) (p := p) ho hoL (by omega) (by omega) (by omega) hp1 hp2
  rw [putR_put, hLl] at o
  have hpq : PQ z L2 a m e := hpq
  have hww := hw.trans (hw2.mono ha he)
  have hout2 := hout.within hw2 ha he (Nat.le_refl _) (Nat.le_refl _) hae (by omega)
  have hl2 := hw2.len
  have hoL2 := hw2.oks hoL
  have hlb2 := (hlb.within hww (Nat.le_refl _) (Nat.le_refl _) hlo hhi).sub hout2 ha he hae
  have m1 : IntKind.i64.wrap ((m : Int) - (a : Int)) = ((m - a : Nat) : Int) := by rw [w64 (by omega) (by omega)]; omega
  have m2 : IntKind.i64.wrap ((e : Int) - (m : Int)) = ((e - m : Nat) : Int) := by rw [w64 (by omega) (by omega)]; omega
  have m3 : IntKind.i64.wrap ((m : Int) + 1) = ((m + 1 : Nat) : Int) := by rw [w64 (by omega) (by omega)]; rfl
  simp -implicitDefEqProofs only [go_sem, simprocAttr, s0, s1, s2, s3, s4, s10, s11, s12, s13]
  refine kl o ?_
  by_cases hlt : m - a < e - m
  · have g2 : ((m - a : Nat) : Int) < ((e - m : Nat) : Int) := by omega
    have hlb3 : Lb (Lq z) L2 a m := fun p' q' h0 h1 h2 h3 h4 => hlb2 p' q' h0 h1 (by omega) h3 h4
    obtain ⟨L3, o3, hw3, hs3⟩ := ih (m - a) (by omega) (putR T0 b L2) L2 a m lim1 (Nat.le_refl _) (putR_own T0 L2 hb) hoL2 hm1 (by omega) (by omega) hlb3
    rw [putR_put, hl2, hLl] at o3
    have hww3 := hww.trans (hw3.mono (show lo ≤ a by omega) (show m ≤ hi by omega))
    have hout3 := (hout2.within hw3 ha he (Nat.le_refl _) (by omega) hm1 (by omega)).left hs3 hm2 (hpq.left hw3 hm2 (by omega))
    simp -implicitDefEqProofs only [go_sem, simprocAttr, wa_cond, axC_t, axC_f, s0, s1, s2, s3, s4, s10, s11, s12, s13, m1, m2, g2]
    refine wl_callF _ (by simp -implicitDefEqProofs only [go_sem, simprocAttr, s3, s4]) o3 (fun h => by cases h) ?_
    simp -implicitDefEqProofs only [go_sem, simprocAttr, s0, s1, s2, s3, s4, s10, s11, s12, s13, m3]
    exact ⟨(m + 1, e), ⟨rfl, rfl, by omega, by simp only; omega, he, lim1, _, t, L3, rfl, rfl, rfl, rfl, hww3, hout3⟩, by simp only; omega⟩
  · have g2 : ¬ ((m - a : Nat) : Int) < ((e - m : Nat) : Int) := by omega
    have hlb3 : Lb (Lq z) L2 (m + 1) e := fun p' q' h0 h1 h2 h3 h4 => by
      by_cases k : p' < a
      · exact hlb2 p' q' k (by omega) h2 h3 h4
      · exact hpq p' q' (by omega) (by omega) (by omega) h2 (by omega) h3 h4
    obtain ⟨L3, o3, hw3, hs3⟩ := ih (e - (m + 1)) (by omega) (putR T0 b L2) L2 (m + 1) e lim1 (Nat.le_refl _) (putR_own T0 L2 hb) hoL2 (by omega) (by omega) (by omega) hlb3
    rw [putR_put, hl2, hLl] at o3
    have hww3 := hww.trans (hw3.mono (show lo ≤ m + 1 by omega) he)
    have hout3 := (hout2.within hw3 ha he (by omega) (Nat.le_refl _) (by omega) (by omega)).right hs3 hm1 (hpq.right hw3 (by omega))
    simp -implicitDefEqProofs only [go_sem, simprocAttr, wa_cond, axC_t, axC_f, s0, s1, s2, s3, s4, s10, s11, s12, s13, m1, m2, m3, g2]
    refine wl_callF _ (by simp -implicitDefEqProofs only [go_sem, simprocAttr, s3, s4]) o3 (fun h => by cases h) ?_
    simp -implicitDefEqProofs only [go_sem, simprocAttr, s0, s1, s2, s3, s4, s10, s11, s12, s13, m3]
    exact ⟨(a, m), ⟨rfl, rfl, ha, hm1, by omega, lim1, _, t, L3, rfl, rfl, rfl, rfl, hww3, hout3⟩, by simp only; omega⟩
end Go.Proofs.YthhmkaikopdmjaaGreat
namespace Go.Proofs.YthhmkaikopdmjaaGreat
open Go Go.Fw
theorem cmpOkP {k : Nat} (hk : k ≤ 1100000) : Cmp 136 (fun a b => pcmp a.rot b.rot) (fun r => r.le k) := by
  refine ⟨fun a b ha hb H => compareP H ha hb hk, fun a b c ha hb hc h1 h2 h3 => ?_, fun a b ha hb h1 h2 => ?_⟩
  · rw [pcmp_neg] at *
    unfold Rot.plt at *
    grind
  · rw [pcmp_neg] at *
    unfold Rot.plt at *
    grind
theorem sortP (T0 : Heap) {b : Nat} {L0 : List RR} {k c : Nat} (hown : OwnR T0 b L0) (hle : ∀ r ∈ L0, r.le k) (hk : k ≤ 1100000) (h255 : L0.length ≤ 255) :
    ∃ L, Sim Tryz.prog 257 #[.slice (some ⟨b, 0, none⟩) L0.length c, .func (.func 136) #[] #[]] T0 (.tuple #[]) (putR T0 b L) ∧ L.Perm L0 ∧ L.Pairwise (fun a b => ¬ b.rot.plt a.rot) := by
  obtain ⟨L, o1, hw, hs⟩ := pdqG (cmpOkP hk) (c := c) L0.length T0 L0 0 L0.length (bitLen L0.length : Nat) (by omega) hown hle (Nat.zero_le _) (Nat.le_refl _) h255 (fun p q h0 => absurd h0 (by omega))
  refine ⟨L, ?_, hw.perm, ?_⟩
  · have e1 : aLen tt [52] (.slice (some ⟨b, 0, none⟩) L0.length c) = some (.int .i64 (L0.length : Nat)) := rfl
    have o2 := fun H => len_sim H (x := L0.length) (by omega)
    have c1 : IntKind.u64.wrap (L0.length : Int) = (L0.length : Int) := wu64n (by omega)
    refine soA tok mixed Tryz.func257 ?_
    simp -implicitDefEqProofs only [go_sem, simprocAttr, e1, aConv, c1]
    refine kv (o2 _) ?_
    simp -implicitDefEqProofs only [go_sem, simprocAttr]
    refine kl o1 ?_
    simp -implicitDefEqProofs only [go_sem, simprocAttr]
    first | rfl | exact ⟨[], rfl, rfl, rfl⟩
  · have hs : SrtTo (Lq fun a b => pcmp a.rot b.rot) L 0 L.length := by rw [hw.len]; exact hs
    rw [List.pairwise_iff_getElem]
    intro p q hp hq hpq
    have := hs p q (Nat.zero_le _) hpq hq hp hq
    unfold Lq at this
    rw [pcmp_neg] at this
    exact this
def kpL (l : List RR) : Nat → List RR
  | 0 => []
  | i + 1 => kpL l i ++ (if i = 0 ∨ l.getD i rr0 ≠ l.getD (i - 1) rr0 then [l.getD i rr0] else [])
theorem kpL_len (l : List RR) (i : Nat) : (kpL l i).length ≤ i := by
  induction i with
  | zero => simp [kpL]
  | succ i ih => unfold kpL; rw [List.length_append]; split <;> simp <;> omega
theorem kpL_same {l : List RR} {i : Nat} (h0 : i ≠ 0) (h : l.getD i rr0 = l.getD (i - 1) rr0) : kpL l (i + 1) = kpL l i := by
  conv => lhs; unfold kpL
  rw [if_neg (fun h' => h'.elim h0 (fun h'' => h'' h)), List.append_nil]
theorem kpL_new {l : List RR} {i : Nat} (h : i = 0 ∨ l.getD i rr0 ≠ l.getD (i - 1) rr0) : kpL l (i + 1) = kpL l i ++ [l.getD i rr0] := by
  conv => lhs; unfold kpL
  rw [if_pos h]
theorem zeros_rows (m : Nat) : zerosL rr0.cells (m * 6) = rowF (List.replicate m rr0) := by
  induction m with
  | zero => rfl
  | succ m ih =>
    rw [List.replicate_succ', rowF_app, ← ih, Nat.add_mul, Nat.one_mul]
    unfold zerosL
    rw [List.range_add, List.map_append]
    congr 1
    have e : ∀ j, (m * 6 + j) % rr0.cells.length = j % 6 := fun j => by
      have : rr0.cells.length = 6 := rfl
      rw [this]; omega
    rw [List.map_map]
    simp only [Function.comp_def, e]
    rfl
theorem clear_rows (T : Heap) {b n : Nat} {R : List RR} (hb : b < T.length) (hn : n ≤ R.length) : wr (putR T b R) b (n * 6) (zerosL rr0.cells ((R.length - n) * 6)) = some (putR T b (R.take n ++ List.replicate (R.length - n) rr0)) := by
  have hB : (putR T b R)[b]? = some ⟨rowF R, 6, true⟩ := by unfold putR; rw [List.getElem?_set_self hb]; rfl
  have hl : (rowF (List.replicate (R.length - n) rr0)).length = (R.length - n) * 6 := by rw [rowF_len, List.length_replicate]
  rw [zeros_rows, wr_at hB rfl (by simp only [hl, rowF_len]; omega) (rowF_ok _)]
  unfold putR
  rw [List.set_set]
  congr 3
  show splice (rowF R) (n * 6) _ = rowF _
  unfold splice
  rw [rowF_take R n hn, List.drop_of_length_le (by rw [hl, rowF_len]; omega), List.append_nil, rowF_app]
theorem compactP (T0 : Heap) {b : Nat} {l : List RR} (hown : OwnR T0 b l) (hl : l.length ≤ 1000) :
    ∃ w H', Sim Tryz.prog 258 #[.slice (some ⟨b, 0, none⟩) l.length 0] T0 w H' ∧ w = .slice (some ⟨b, 0, none⟩) (kpL l l.length).length 0 ∧ ∃ M, H' = putR T0 b (kpL l l.length ++ M) := by
  have hb := Own.lt hown
  have e1 : ∀ i n, aLen tt [52] (.slice (some ⟨b, i, none⟩) n 0) = some (.int .i64 (n : Nat)) := fun _ _ => rfl
  have hself := putR_self hown
  refine sxA tok mixed Tryz.func258 ?_
  by_cases h2 : l.length < 2
  · have h2' : (l.length : Int) < 2 := by omega
    simp -implicitDefEqProofs only [go_sem, simprocAttr, wa_cond, axC_t, axC_f, e1, h2', res258]
    have hk : kpL l l.length = l := by
      match l, h2 with
      | [], _ => rfl
      | [x], _ => simp [kpL]
    rw [hk]
    exact ⟨rfl, [], by rw [List.append_nil, hself]⟩
  have h2' : ¬ (l.length : Int) < 2 := by omega
  simp -implicitDefEqProofs only [go_sem, simprocAttr, wa_cond, axC_t, axC_f, e1, h2']
  refine ax_loopx (fun (i : Nat) s T => s 0 = .slice (some ⟨b, 0, none⟩) l.length 0 ∧ s 3 = .int .i64 (i : Nat) ∧ 1 ≤ i ∧ i ≤ l.length ∧ kpL l i = l.take i ∧ T = T0) (fun i => l.length - i) 1 ?_ ?_
  · have hk1 : kpL l 1 = l.take 1 := by
      have : l ≠ [] := by rintro rfl; simp at h2
      obtain ⟨x, l', rfl⟩ := List.exists_cons_of_ne_nil this
      simp [kpL]
    simp -implicitDefEqProofs only [go_sem, simprocAttr, hk1]
    omega
  rintro i s T ⟨s0, s3, hi1, hi, hkp, rfl⟩
  simp -implicitDefEqProofs only [go_sem, simprocAttr, s0, s3, e1]
  refine ax_cond2 ?_
  simp only [ev_tmp, ev_const, ev_func, upd_at, put_some, put_none, bndB_bool, Nat.reduceEqDiff, if_true, if_false, ↓reduceIte, reduceCtorEq]
  refine ⟨fun hc0 => have hlt := of_decide_eq_true hc0; ?_, fun hc0 => have hlt := of_decide_eq_false hc0; ?_⟩
  · have hil : i < l.length := by omega
    have r1 := (Own.at hown (c := 0) (.inl rfl)).rdR hil
    have r2 := (Own.at hown (c := 0) (.inl rfl)).rdR (j := i - 1) (by omega)
    have g1 := getD_eq hil
    have g2 := getD_eq (l := l) (i := i - 1) (by omega)
    have hnn : (0 : Int) ≤ (i : Int) := by omega
    have hlt2 : (i : Int) < (l.length : Int) := by omega
    have hnn' : (0 : Int) ≤ ((i - 1 : Nat) : Int) := by omega
    have hlt2' : ((i - 1 : Nat) : Int) < (l.length : Int) := by omega
    have m0 : IntKind.i64.wrap ((i : Int) - 1) = ((i - 1 : Nat) : Int) := by rw [w64 (by omega) (by omega)]; omega
    have m1 : IntKind.i64.wrap ((i : Int) + 1) = ((i + 1 : Nat) : Int) := by rw [w64 (by omega) (by omega)]; rfl
    have hq := eq90 l[i] (l[i - 1]'(by omega))
    have htk := List.take_append_getElem hil
    generalize l[i - 1]'(by omega) = y at *
    generalize hx : l[i] = x at *
    unfold RR.cells at r1 r2
    simp only [Nat.zero_add] at r1 r2
    simp -implicitDefEqProofs only [go_sem, simprocAttr]
    refine ax_quiet (by kernel_rfl) ?_
    simp -implicitDefEqProofs only [go_sem, simprocAttr, s0, s3, aIndexAddr, hnn, hlt2, hnn', hlt2', m0, r1, r2, hq]
    by_cases hxy : x = y
    case neg =>
      rw [decide_eq_false hxy]
      simp -implicitDefEqProofs only [go_sem, simprocAttr, wa_cond, axC_t, axC_f, s0, s3, m1]
      refine ⟨i + 1, ⟨rfl, by omega, by omega, ?_⟩, by omega⟩
      rw [kpL_new (.inr (by rw [g1, g2]; exact hxy)), hkp, g1, htk]
    rw [decide_eq_true hxy]
    simp -implicitDefEqProofs only [go_sem, simprocAttr, wa_cond, axC_t, axC_f, s0, s3]
    have sl4 : aSlice tt T 52 (.slice (some ⟨b, 0, none⟩) l.length 0) (some (.int .i64 (i : Nat))) none none = some (.slice (some ⟨b, i * 6, none⟩) (l.length - i) 0) := by
      have := aSlice_at (tt := tt) (H := T) (t := 52) (s := 6) (b := b) (i := 0) (n := l.length) (c := 0) (l := i) (h := l.length) (lo := some (.int .i64 (i : Nat))) (hi := none) tt52 rfl ⟨_, Own.blk hown, rfl⟩ (by decide) (.inl rfl) (by simp [bnd]) rfl (by omega) (Nat.le_refl _)
      rw [this, Nat.zero_add, Nat.zero_sub]
    simp -implicitDefEqProofs only [go_sem, simprocAttr, wa_cond, axC_t, axC_f, s0, s3, sl4]
    have hdup : kpL l (i + 1) = kpL l i := kpL_same (by omega) (by rw [g1, g2]; exact hxy)
    have hkl : (kpL l i).length = i := by rw [hkp, List.length_take]; omega
    refine ax_loopx (fun (p : Nat) s T' => ∃ R : List RR, s 0 = .slice (some ⟨b, 0, none⟩) l.length 0 ∧ s 4 = .slice (some ⟨b, i * 6, none⟩) (l.length - i) 0 ∧ s 3 = .int .i64 ((kpL l p).length : Nat) ∧ s 5 = .int .i64 ((p - i : Nat) : Int) ∧ i + 1 ≤ p ∧ p ≤ l.length ∧
      R.length = l.length ∧ R.take (kpL l p).length = kpL l p ∧ (kpL l p).length + 1 ≤ p ∧ R.drop (p - 1) = l.drop (p - 1) ∧ T' = putR T b R) (fun p => l.length - p) (i + 1) ?_ ?_
    · simp -implicitDefEqProofs only [go_sem, simprocAttr]
      refine ⟨l, s0, ?_, ?_, ?_, ?_, ?_, ?_, ?_⟩
      · rw [hdup, hkl]; exact s3
      · rw [show i + 1 - i = 1 by omega]; rfl
      · omega
      · rfl
      · rw [hdup, hkl, hkp]
      · rw [hdup, hkl]; exact Nat.le_refl _
      · exact ⟨rfl, hself.symm⟩
    rintro p s T' ⟨R, t0, t4, t3, t5, hp1, hp, hRl, hRt, hkp1, hRd, rfl⟩
    simp -implicitDefEqProofs only [go_sem, simprocAttr, t4, t5, e1]
    have hkl2 := kpL_len l p
    refine ax_cond2 ?_
    simp only [ev_tmp, ev_const, ev_func, upd_at, put_some, put_none, bndB_bool, Nat.reduceEqDiff, if_true, if_false, ↓reduceIte, reduceCtorEq]
    refine ⟨fun hc0 => have hlt3 := of_decide_eq_true hc0; ?_, fun hc0 => have hlt3 := of_decide_eq_false hc0; ?_⟩
    · have hpl : p < l.length := by omega
      have hoR := putR_own T R hb
      have q1 := (hoR.at (c := 0) (.inl rfl)).rdR (j := p) (by omega)
      have q2 := (hoR.at (c := 0) (.inl rfl)).rdR (j := p - 1) (by omega)
      have f1 : R[p]'(by omega) = l[p] := by
        have h := congrArg (fun z => z[1]?) hRd
        simp only [List.getElem?_drop] at h
        rw [show p - 1 + 1 = p by omega, List.getElem?_eq_getElem (by omega), List.getElem?_eq_getElem hpl] at h
        injection h
      have f2 : R[p - 1]'(by omega) = l[p - 1]'(by omega) := by
        have h := congrArg (fun z => z[0]?) hRd
        simp only [List.getElem?_drop, Nat.add_zero] at h
        rw [List.getElem?_eq_getElem (by omega), List.getElem?_eq_getElem (by omega)] at h
        injection h
      have f3 := getD_eq hpl
      have f4 := getD_eq (l := l) (i := p - 1) (by omega)
      rw [f1] at q1
      rw [f2] at q2
      have hqq := eq90 l[p] (l[p - 1]'(by omega))
      have hqn := neq90 l[p] (l[p - 1]'(by omega))
      have hw := OwnR.wr hoR (j := (kpL l p).length) (by omega) l[p]
      rw [putR_put] at hw
      generalize l[p - 1]'(by omega) = y2 at *
      generalize hx2 : l[p] = x2 at *
      have hRd' : R.drop p = l.drop p := by
        have := congrArg (List.drop 1) hRd
        rw [List.drop_drop, List.drop_drop, show p - 1 + 1 = p by omega] at this
        exact this
      have hnn3 : (0 : Int) ≤ ((p - i : Nat) : Int) := by omega
      have hnn4 : (0 : Int) ≤ ((p - 1 - i : Nat) : Int) := by omega
      have hlt4 : ((p - 1 - i : Nat) : Int) < ((l.length - i : Nat) : Int) := by omega
      have m2 : IntKind.i64.wrap (((p - i : Nat) : Int) - 1) = ((p - 1 - i : Nat) : Int) := by rw [w64 (by omega) (by omega)]; omega
      have m3 : IntKind.i64.wrap (((p - i : Nat) : Int) + 1) = ((p + 1 - i : Nat) : Int) := by rw [w64 (by omega) (by omega)]; omega
      have m4 : IntKind.i64.wrap (((kpL l p).length : Int) + 1) = (((kpL l p).length + 1 : Nat) : Int) := by rw [w64 (by omega) (by omega)]; omega
      have a1 : i * 6 + (p - i) * 6 = p * 6 := by omega
      have a2 : i * 6 + (p - 1 - i) * 6 = (p - 1) * 6 := by omega
      have hnk : (0 : Int) ≤ ((kpL l p).length : Int) := by omega
      have hlk : ((kpL l p).length : Int) < (l.length : Int) := by omega
      unfold RR.cells at q1 q2 hw
      simp only [Nat.zero_add] at q1 q2
      simp -implicitDefEqProofs only [go_sem, simprocAttr]
      refine ax_quiet (by kernel_rfl) ?_
      simp -implicitDefEqProofs only [go_sem, simprocAttr, t0, t3, t4, t5, aIndexAddr, hnn3, hlt3, hnn4, hlt4, m2, a1, a2, q1, q2, hqn]
      by_cases hxy2 : x2 = y2
      · rw [decide_eq_false (by simpa using hxy2)]
        simp -implicitDefEqProofs only [go_sem, simprocAttr, wa_cond, axC_t, axC_f, t0, t3, t4, t5, m3]
        have hd2 : kpL l (p + 1) = kpL l p := kpL_same (by omega) (by rw [f3, f4]; exact hxy2)
        refine ⟨p + 1, ⟨R, ?_⟩, by omega⟩
        rw [hd2]
        ((repeat' apply And.intro) <;> first | rfl | assumption | omega)
      · rw [decide_eq_true hxy2]
        simp -implicitDefEqProofs only [go_sem, simprocAttr, wa_cond, axC_t, axC_f, t0, t3, t4, t5, m3, m4, aIndexAddr, hnn3, hlt3, hnk, hlk, a1, q1, hw]
        have hd2 : kpL l (p + 1) = kpL l p ++ [x2] := by rw [kpL_new (.inr (by rw [f3, f4]; exact hxy2)), f3]
        have hd3 : (kpL l p ++ [x2]).length = (kpL l p).length + 1 := by simp
        have hd4 : (R.set (kpL l p).length x2).take ((kpL l p).length + 1) = kpL l p ++ [x2] := by
          rw [List.take_add_one, List.take_set_of_le (Nat.le_refl _), hRt, List.getElem?_set_self (by omega)]
          rfl
        have hd5 : (R.set (kpL l p).length x2).drop p = l.drop p := by rw [List.drop_set_of_lt (by omega)]; exact hRd'
        have hd6 : (R.set (kpL l p).length x2).length = l.length := by rw [List.length_set]; exact hRl
        refine ⟨p + 1, ⟨R.set (kpL l p).length x2, ?_⟩, by omega⟩
        rw [hd2, hd3]
        ((repeat' apply And.intro) <;> first | rfl | assumption | omega)
    · have : p = l.length := by omega
      subst this
      have hn : (kpL l l.length).length ≤ R.length := by omega
      have hoR := putR_own T R hb
      have hcl := clear_rows T hb hn
      rw [hRt, hRl] at hcl
      have c1 : aClear tt (putR T b R) [52] (.slice (some ⟨b, (kpL l l.length).length * 6, none⟩) (l.length - (kpL l l.length).length) 0) = some (.tuple #[], putR T b (kpL l l.length ++ List.replicate (l.length - (kpL l l.length).length) rr0)) :=
        aClear_at tt52 tt90 (by omega) rfl hcl
      have sl5 : ∀ R', aSlice tt (putR T b R') 52 (.slice (some ⟨b, 0, none⟩) l.length 0) (some (.int .i64 ((kpL l l.length).length : Nat))) none none = some (.slice (some ⟨b, (kpL l l.length).length * 6, none⟩) (l.length - (kpL l l.length).length) 0) := by
        intro R'
        have := aSlice_at (tt := tt) (H := putR T b R') (t := 52) (s := 6) (b := b) (i := 0) (n := l.length) (c := 0) (l := (kpL l l.length).length) (h := l.length) (lo := some (.int .i64 ((kpL l l.length).length : Nat))) (hi := none) tt52 rfl ⟨_, Own.blk (putR_own T R' hb), rfl⟩ (by decide) (.inl rfl) (by simp [bnd]) rfl (by omega) (Nat.le_refl _)
        rw [this, Nat.zero_add, Nat.zero_sub]
      have sl6 : ∀ R', aSlice tt (putR T b R') 52 (.slice (some ⟨b, 0, none⟩) l.length 0) none (some (.int .i64 ((kpL l l.length).length : Nat))) none = some (.slice (some ⟨b, 0, none⟩) (kpL l l.length).length 0) := by
        intro R'
        have := aSlice_at (tt := tt) (H := putR T b R') (t := 52) (s := 6) (b := b) (i := 0) (n := l.length) (c := 0) (l := 0) (h := (kpL l l.length).length) (lo := none) (hi := some (.int .i64 ((kpL l l.length).length : Nat))) tt52 rfl ⟨_, Own.blk (putR_own T R' hb), rfl⟩ (by decide) (.inl rfl) rfl (by simp [bnd]) (Nat.zero_le _) (by omega)
        rw [this]
        simp
      simp -implicitDefEqProofs only [go_sem, simprocAttr, wa_cond, axC_t, axC_f, t0, t3, sl5, sl6, wl_clear, c1, res258]
      exact ⟨_, rfl⟩
  · have : i = l.length := by omega
    subst this
    rw [List.take_length] at hkp
    rw [hkp]
    simp -implicitDefEqProofs only [go_sem, simprocAttr, s0, res258]
    exact ⟨[], by rw [List.append_nil, hself]⟩
end Go.Proofs.YthhmkaikopdmjaaGreat
namespace Go.Proofs.YthhmkaikopdmjaaGreat
open Go Go.Fw
theorem can_eq {a b : RR} (ha : a.can = true) (hb : b.can = true) (h : a.rot = b.rot) : a = b := by
  rw [can_iff.1 ha, can_iff.1 hb, h]
theorem kp_strict {S : List RR} (hs : S.Pairwise (fun a b => ¬ b.rot.plt a.rot)) (hc : ∀ r ∈ S, r.can = true) : ∀ i, i ≤ S.length → (∀ r, r ∈ kpL S i ↔ r ∈ S.take i) ∧ (kpL S i).Pairwise (fun a b => a.rot.plt b.rot) := by
  intro i
  induction i with
  | zero => intro _; simp [kpL]
  | succ i ih =>
    intro hi
    obtain ⟨h1, h2⟩ := ih (by omega)
    have hil : i < S.length := by omega
    have htk := List.take_append_getElem hil
    have hg := getD_eq hil
    by_cases hd : i = 0 ∨ S.getD i rr0 ≠ S.getD (i - 1) rr0
    · rw [kpL_new hd, hg]
      constructor
      · intro r
        rw [← htk, List.mem_append, List.mem_append, h1]
      · rw [List.pairwise_append]
        refine ⟨h2, by simp, fun a ha b hb => ?_⟩
        simp only [List.mem_singleton] at hb
        subst hb
        have ha' := (h1 a).1 ha
        obtain ⟨j, hj, rfl⟩ := List.mem_take_iff_getElem.1 ha'
        have hj' : j < i := by omega
        rcases hd with h0 | hd
        · omega
        rw [hg, getD_eq (show i - 1 < S.length by omega)] at hd
        have p1 := List.pairwise_iff_getElem.1 hs (i - 1) i (by omega) hil (by omega)
        have p2 : ¬ (S[i - 1]'(by omega)).rot.plt (S[j]'(by omega)).rot := by
          by_cases e : j = i - 1
          · subst e; exact plt_irrefl _
          · exact List.pairwise_iff_getElem.1 hs j (i - 1) (by omega) (by omega) (by omega)
        rcases plt_cases (S[j]'(by omega)).rot S[i].rot with h | h | h
        · exact h
        · exfalso
          rw [h] at p2
          rcases plt_cases (S[i - 1]'(by omega)).rot S[i].rot with q | q | q
          · exact p2 q
          · exact hd (can_eq (hc _ (List.getElem_mem _)) (hc _ (List.getElem_mem _)) q.symm)
          · exact p1 q
        · exfalso
          rcases plt_cases (S[i - 1]'(by omega)).rot S[i].rot with q | q | q
          · exact p2 (plt_trans q h)
          · rw [q] at p2; exact p2 h
          · exact p1 q
    · have hi0 : i ≠ 0 := fun h => hd (.inl h)
      have he : S.getD i rr0 = S.getD (i - 1) rr0 := Classical.byContradiction fun h => hd (.inr h)
      rw [kpL_same hi0 he]
      refine ⟨fun r => ?_, h2⟩
      rw [h1, ← htk, List.mem_append, List.mem_singleton]
      constructor
      · exact .inl
      · rintro (h | h)
        · exact h
        · rw [h, ← hg, he, getD_eq (show i - 1 < S.length by omega)]
          rw [List.mem_take_iff_getElem]
          exact ⟨i - 1, by omega, rfl⟩
structure Dist (l D : List RR) : Prop where
  mem : ∀ r, r ∈ D ↔ r ∈ l
  ord : D.Pairwise (fun a b => a.rot.plt b.rot)
theorem distinctP (H : Heap) {v : Value} {l : List RR} {k : Nat} (hv : RL H v l) (h0 : l ≠ []) (hle : ∀ r ∈ l, r.le k) (hk : k ≤ 1100000) (h255 : l.length ≤ 255) (hc : ∀ r ∈ l, r.can = true) :
    ∃ w H', Sim Tryz.prog 211 #[v] H w H' ∧ Ext H H' ∧ ∃ b D, H.length ≤ b ∧ w = .slice (some ⟨b, 0, none⟩) D.length 0 ∧ Top H' b D ∧ Dist l D := by
  obtain ⟨b, i0, c, rfl, hA⟩ := hv.at h0
  obtain ⟨w1, T1, o1, hE1, b1, hb1, rfl, hown1⟩ := cloneP H hA h0 (by omega)
  obtain ⟨S, o2, hperm, hsort⟩ := sortP T1 (c := 0) hown1 hle hk h255
  have hSl := hperm.length_eq
  have hbl := Own.lt hown1
  obtain ⟨w3, T3, o3, rfl, M, rfl⟩ := compactP (putR T1 b1 S) (putR_own T1 S hbl) (by omega)
  have hst := kp_strict hsort (fun r hr => hc r (hperm.mem_iff.1 hr)) S.length (Nat.le_refl _)
  rw [hSl] at o3
  refine sxA tok mixed Tryz.func211 ?_
  simp -implicitDefEqProofs only [go_sem, simprocAttr]
  refine kl o1 ?_
  simp -implicitDefEqProofs only [go_sem, simprocAttr]
  refine kl o2 ?_
  simp -implicitDefEqProofs only [go_sem, simprocAttr]
  refine kl o3 ?_
  simp -implicitDefEqProofs only [go_sem, simprocAttr, res211]
  rw [putR_put]
  refine ⟨hE1.set hb1 _, b1, kpL S S.length, hb1, ?_, ⟨M, by rw [hSl]; exact putR_own T1 _ hbl⟩, ⟨fun r => ?_, hst.2⟩⟩
  · rw [hSl]
  · rw [hst.1, List.take_length]; exact hperm.mem_iff
theorem flat1P (H : Heap) {ba bb : Nat} {a b p : RR} {k : Nat} (ha : H[ba]? = some ⟨a.cells, 1, true⟩) (hb : H[bb]? = some ⟨b.cells, 1, true⟩) (la : a.le k) (lb : b.le k) (lp : p.le k) (hk : k ≤ 100000) :
    Sim Tryz.prog 259 #[p.val, .pointer (some ⟨ba, 0, none⟩), .pointer (some ⟨bb, 0, none⟩)] H (.bool (decide (¬ cmpQ (ori a.rot b.rot p.rot) 0 = 0))) H := by
  refine flat_ex rfl ?_
  have r1 : ∀ G, rd (H ++ G) ba 0 6 = some [.bool a.g, .string (bs a.n), .string (bs a.d), .bool a.g', .string (bs a.n'), .string (bs a.d')] := fun G => rd_more (by unfold rd; rw [ha]; rfl) G
  have r2 : ∀ G, rd (H ++ G) bb 0 6 = some [.bool b.g, .string (bs b.n), .string (bs b.d), .bool b.g', .string (bs b.n'), .string (bs b.d')] := fun G => rd_more (by unfold rd; rw [hb]; rfl) G
  have o1 := fun H => orientP H la lb lp (by omega)
  generalize cmpQ (ori a.rot b.rot p.rot) 0 = z at *
  unfold RR.val rV at *
  refine sxA tok mixed Tryz.func259 ?_
  simp -implicitDefEqProofs only [go_sem, simprocAttr, UU, r1, r2]
  refine kw (o1 _) ?_
  simp -implicitDefEqProofs only [go_sem, simprocAttr, UU, res259]
  first | exact .app _ _ | exact ⟨.app _ _, rfl⟩ | exact .refl _ | exact ⟨.refl _, rfl⟩
def flatB (D : List RR) : Bool := decide (D.length < 3) || !(D.any fun p => decide (¬ cmpQ (ori (D.getD 0 rr0).rot (D.getD (D.length - 1) rr0).rot p.rot) 0 = 0))
theorem hcheck1 (H : Heap) {r : RR} {k : Nat} (hr : r.le k) (hk : k ≤ 100000) : Sim Tryz.prog 210 #[r.val] H (.bool (!r.can)) H := by
  refine flat_ex rfl ?_
  have o1 := fun H => vcheckP H hr hk
  generalize r.can = z at *
  unfold RR.val rV at *
  cases z
  all_goals
    refine sxA tok mixed Tryz.func210 ?_
    simp -implicitDefEqProofs only [go_sem, simprocAttr, UU]
    refine kv (o1 _) ?_
    simp -implicitDefEqProofs only [go_sem, simprocAttr, UU, Bool.not_true, Bool.not_false]
    simp -implicitDefEqProofs only [go_sem, simprocAttr, UU, res210]
    first | exact .app _ _ | exact ⟨.app _ _, rfl⟩ | exact .refl _ | exact ⟨.refl _, rfl⟩
theorem hcheckP (H : Heap) {v : Value} {l : List RR} {k : Nat} (hv : RL H v l) (hle : ∀ r ∈ l, r.le k) (hk : k ≤ 100000) (hl : l.length ≤ 1000) (hc : ∀ r ∈ l, r.can = true) : Sim Tryz.prog 154 #[v] H (.int .i64 0) H := by
  have e1 := hv.len (tt := tt) tt52
  have o1 := containsFuncP H (g := 210) (cap := #[]) (p := fun r => !r.can) hv (by omega) (fun x hx => hcheck1 _ (hle x hx) hk)
  have e : (l.any fun r => !r.can) = false := by
    rw [← Bool.not_eq_true, List.any_eq_true]
    rintro ⟨x, hx, h⟩
    rw [hc x hx] at h; cases h
  rw [e] at o1
  have h1 : ¬ (1000 : Int) < (l.length : Int) := by omega
  refine soA tok mixed Tryz.func154 ?_
  simp -implicitDefEqProofs only [go_sem, simprocAttr, wa_cond, axC_t, axC_f, e1, h1]
  refine kv o1 ?_
  simp -implicitDefEqProofs only [go_sem, simprocAttr, wa_cond, axC_t, axC_f, res154]
end Go.Proofs.YthhmkaikopdmjaaGreat
namespace Go.Proofs.YthhmkaikopdmjaaGreat
open Go Go.Fw
def popP (p : RR) : List RR → List RR
  | q1 :: q0 :: l => if ori q0.rot q1.rot p.rot ≤ 0 then popP p (q0 :: l) else q1 :: q0 :: l
  | l => l
def chainP : List RR → List RR → List RR
  | C, [] => C
  | C, p :: S => chainP (p :: popP p C) S
theorem popP_map (p : RR) : ∀ C : List RR, (popP p C).map RR.rot = popC p.rot (C.map RR.rot) := by
  intro C
  induction C with
  | nil => rfl
  | cons q1 C ih =>
    cases C with
    | nil => rfl
    | cons q0 l =>
      simp only [List.map_cons, popP, popC]
      split
      · exact ih
      · rfl
theorem chainP_map : ∀ (S C : List RR), (chainP C S).map RR.rot = chainC (C.map RR.rot) (S.map RR.rot) := by
  intro S
  induction S with
  | nil => intro C; rfl
  | cons p S ih =>
    intro C
    simp only [List.map_cons, chainP, chainC]
    rw [ih, List.map_cons, popP_map]
theorem popP_sub (p : RR) : ∀ C : List RR, ∀ r ∈ popP p C, r ∈ C := by
  intro C
  induction C with
  | nil => intro r h; exact h
  | cons q1 C ih =>
    cases C with
    | nil => intro r h; exact h
    | cons q0 l =>
      intro r h
      unfold popP at h
      split at h
      · exact List.mem_cons_of_mem _ (ih r h)
      · exact h
theorem popP_len (p : RR) : ∀ C : List RR, (popP p C).length ≤ C.length := by
  intro C
  induction C with
  | nil => exact Nat.le_refl _
  | cons q1 C ih =>
    cases C with
    | nil => exact Nat.le_refl _
    | cons q0 l =>
      unfold popP
      split
      · exact Nat.le_succ_of_le ih
      · exact Nat.le_refl _
theorem chainP_snoc : ∀ (S C : List RR) (p : RR), chainP C (S ++ [p]) = p :: popP p (chainP C S) := by
  intro S
  induction S with
  | nil => intro C p; rfl
  | cons q S ih => intro C p; simp only [List.cons_append, chainP]; exact ih _ p
theorem chainP_sub : ∀ (S C : List RR), ∀ r ∈ chainP C S, r ∈ C ∨ r ∈ S := by
  intro S
  induction S with
  | nil => intro C r h; exact .inl h
  | cons p S ih =>
    intro C r h
    rcases ih _ r h with h | h
    · rcases List.mem_cons.1 h with rfl | h
      · exact .inr (List.mem_cons_self ..)
      · exact .inl (popP_sub p C r h)
    · exact .inr (List.mem_cons_of_mem _ h)
theorem chainP_len : ∀ (S C : List RR), (chainP C S).length ≤ C.length + S.length := by
  intro S
  induction S with
  | nil => intro C; simp [chainP]
  | cons p S ih =>
    intro C
    have h1 := ih (p :: popP p C)
    have h2 := popP_len p C
    simp only [chainP, List.length_cons] at *
    omega
theorem cmp_le {x : Rat} : cmpQ x 0 ≤ 0 ↔ x ≤ 0 := by
  unfold cmpQ
  split
  · rename_i h; constructor <;> intro _ <;> grind
  · split
    · constructor <;> intro _ <;> grind
    · constructor <;> intro _ <;> grind
def ChInv (H : Heap) (ps : List RR) (i : Nat) (T : Heap) : Prop := ∃ x, T[H.length]? = some ⟨[x], 1, true⟩ ∧ Stk T (H.length + 1) x (chainP [] (ps.take i)).reverse ∧ Ext H T
theorem chainS (H : Heap) {g : FuncId} {cap : Array Value} {ps : List RR} {Keep : Heap → Prop} {k : Nat} (hI : Itr g cap ps Keep) (hK : ∀ T, Ext H T → Keep T) (h0 : ps ≠ []) (hl : ps.length ≤ 1000) (hle : ∀ r ∈ ps, r.le k) (hk : k ≤ 100000) :
    ∃ w H', Sim Tryz.prog 213 #[.func (.func g) #[] cap] H w H' ∧ Ext H H' ∧ ∃ b', H.length ≤ b' ∧ w = .slice (some ⟨b', 0, none⟩) ((chainP [] ps).reverse.dropLast).length 0 ∧ Top H' b' (chainP [] ps).reverse.dropLast := by
  refine sim_exR tok mixed Tryz.func213 ?_
  simp -implicitDefEqProofs only [go_sem, simprocAttr, wr_seq, wr_block, wr_region, wr_scope, wr_label, wr_skip, wr_exit, wr_ret, wr_cond, axCR_t, axCR_f]
  refine axR_range (ChInv H ps ps.length) (by simp -implicitDefEqProofs only [go_sem, simprocAttr]; rfl) ?_ ?_
  · have hp := fun (Y : Array Value → Heap → Heap → Prop) => hI Y (ChInv H ps) (H ++ [⟨[.slice none 0 0], 1, true⟩]) ⟨.slice none 0 0, by simp, .inl ⟨rfl, by simp [chainP]⟩, .app _ _⟩ (by
        rintro i T ⟨x, g1, g2, g3⟩
        exact hK T g3) (by
        rintro i T G ⟨x, g1, g2, g3⟩
        have := (List.getElem?_eq_some_iff.1 g1).1
        exact ⟨x, by rw [List.getElem?_append_left this]; exact g1, g2.app G, g3.trans (.app _ _)⟩)
    suffices hx : ∃ H', SimY Tryz.prog g (YR tt Tryz.prog _ _ _ _) cap (H ++ [⟨[.slice none 0 0], 1, true⟩]) H' ∧ ChInv H ps ps.length H' by
      obtain ⟨H', x1, x2⟩ := hx
      exact ⟨H', SimR.of_simY x1, x2⟩
    refine hp _ ?_
    rintro i T hi ⟨x, g1, g2, g3⟩
    have htk := List.take_append_getElem (l := ps) (i := i) hi
    have hlp := hle _ (List.getElem_mem hi)
    have hC0 := chainP_len (ps.take i) []
    have hsub := chainP_sub (ps.take i) []
    have hleC : ∀ r ∈ chainP [] (ps.take i), r.le k := fun r hr => (hsub r hr).elim (fun h => by cases h) (fun h => hle r (List.mem_of_mem_take h))
    rw [List.length_take] at hC0
    generalize hp0 : ps[i] = p at *
    refine yr_ex rfl ?_
    unfold ChInv
    rw [← htk, chainP_snoc]
    generalize hC : chainP [] (ps.take i) = C at *
    have hlx : aLen tt [52] x = some (.int .i64 (C.length : Nat)) := by have := g2.rl.len (tt := tt) tt52; rw [List.length_reverse] at this; exact this
    obtain ⟨T1, hT1⟩ : ∃ T1, T1 = T ++ [(⟨p.cells, 1, true⟩ : Blk)] := ⟨_, rfl⟩
    have hpl := (List.getElem?_eq_some_iff.1 g1).1
    have k1 : T1[H.length]? = some ⟨[x], 1, true⟩ := by rw [hT1, List.getElem?_append_left hpl]; exact g1
    have k2 : Stk T1 (H.length + 1) x C.reverse := by rw [hT1]; exact g2.app _
    have k3 : Ext H T1 := by rw [hT1]; exact g3.trans (.app _ _)
    have k4 : T1[T.length]? = some ⟨p.cells, 1, true⟩ := by rw [hT1]; simp
    have k5 : T1.length = T.length + 1 := by rw [hT1]; simp
    have rx := rd_cell k1
    unfold RR.cells at hT1
    unfold RR.val rV
    simp -implicitDefEqProofs only [go_sem, simprocAttr, putPs_one]
    rw [← hT1]
    simp -implicitDefEqProofs only [go_sem, simprocAttr, rx, hlx]
    clear hT1 rx hlx g1 g2 g3 hsub hC
    refine ax_loopx (fun (C' : List RR) s T' => ∃ x', s 3 = .pointer (some ⟨H.length, 0, none⟩) ∧ s 4 = .pointer (some ⟨T.length, 0, none⟩) ∧ s 5 = .int .i64 (C'.length : Nat) ∧ T'[H.length]? = some ⟨[x'], 1, true⟩ ∧ Stk T' (H.length + 1) x' C'.reverse ∧ Ext H T' ∧ T'[T.length]? = some ⟨p.cells, 1, true⟩ ∧ T'.length = T.length + 1 ∧
      popP p C' = popP p C ∧ (∀ r ∈ C', r.le k) ∧ C'.length ≤ 1000) (fun C' => C'.length) C ?_ ?_
    · simp -implicitDefEqProofs only [go_sem, simprocAttr]
      exact ⟨x, k1, k2, k3, k4, k5, hleC, by simp at hC0; omega⟩
    clear k1 k2 k3 k4 k5
    rintro C' s T' ⟨x', s3, s4, s5, k1, k2, k3, k4, k5, k6, k7, k8⟩
    have rx := rd_cell k1
    have rp : rd T' T.length 0 6 = some [.bool p.g, .string (bs p.n), .string (bs p.d), .bool p.g', .string (bs p.n'), .string (bs p.d')] := by unfold rd; rw [k4]; rfl
    have fin : popP p C' = C' → ∃ T4 T5, aBuildSlice tt T' 52 1 [(0, .agg #[.bool p.g, .string (bs p.n), .string (bs p.d), .bool p.g', .string (bs p.n'), .string (bs p.d')])] = some (.slice (some ⟨T'.length, 0, none⟩) 1 1, T' ++ [⟨p.cells, 6, true⟩]) ∧
        aAppend tt (T' ++ [⟨p.cells, 6, true⟩]) [52, 52] x' (.slice (some ⟨T'.length, 0, none⟩) 1 1) = some (.slice (some ⟨T'.length + 1, 0, none⟩) (C'.length + 1) 0, T4) ∧
        wr T4 H.length 0 [.slice (some ⟨T'.length + 1, 0, none⟩) (C'.length + 1) 0] = some T5 ∧ ∃ x, T5[H.length]? = some ⟨[x], 1, true⟩ ∧ Stk T5 (H.length + 1) x (p :: popP p C).reverse ∧ Ext H T5 := by
      intro hpop
      obtain ⟨T4, p1, p2, p3, p4, p5⟩ := k2.push p (by rw [List.length_reverse]; omega)
      rw [List.length_reverse] at p1
      have hpl' := (List.getElem?_eq_some_iff.1 k1).1
      have hxne : ∀ n c, x' ≠ .slice (some ⟨H.length, 0, none⟩) n c := by
        rintro n c rfl
        rcases k2 with ⟨h, _⟩ | ⟨b', h, e, _⟩
        · cases h
        · injection e with e _ _
          injection e with e
          injection e with e
          omega
      have q1 : T4[H.length]? = some ⟨[x'], 1, true⟩ := by rw [p4 _ hpl' hxne]; exact k1
      refine ⟨T4, _, row1P' T' p, p1, wr_cell q1 rfl, _, List.getElem?_set_self (List.getElem?_eq_some_iff.1 q1).1, ?_, (p5 H (by omega) k3).set (Nat.le_refl _) _⟩
      refine .inr ⟨T'.length + 1, by have := k3.len; omega, ?_, ?_⟩
      · rw [← k6, hpop]; simp
      · rw [← k6, hpop, List.reverse_cons]
        exact OwnR.top (Own.other p2 (by omega) _)
    match C', k2, k6, k7, s5, k8, fin with
    | [], k2, k6, k7, s5, k8, fin =>
      obtain ⟨T4, T5, f1, f2, f3, f4⟩ := fin rfl
      have d1 : ¬ (1 : Int) < (([] : List RR).length : Int) := by simp
      simp only [RR.cells, List.length_cons, List.length_nil, Nat.zero_add, Nat.reduceAdd] at f1 f2 f3
      simp -implicitDefEqProofs only [go_sem, simprocAttr]
      refine ax_quiet (by kernel_rfl) ?_
      simp -implicitDefEqProofs only [go_sem, simprocAttr, wa_cond, axC_t, axC_f, s3, s4, s5, d1, rx, rp, f1, f2, f3]
      exact f4
    | [q], k2, k6, k7, s5, k8, fin =>
      obtain ⟨T4, T5, f1, f2, f3, f4⟩ := fin rfl
      have d1 : ¬ (1 : Int) < (([q] : List RR).length : Int) := by simp
      simp only [RR.cells, List.length_cons, List.length_nil, Nat.zero_add, Nat.reduceAdd] at f1 f2 f3
      simp -implicitDefEqProofs only [go_sem, simprocAttr]
      refine ax_quiet (by kernel_rfl) ?_
      simp -implicitDefEqProofs only [go_sem, simprocAttr, wa_cond, axC_t, axC_f, s3, s4, s5, d1, rx, rp, f1, f2, f3]
      exact f4
    | q1 :: q0 :: l, k2, k6, k7, s5, k8, fin =>
      have d1 : (1 : Int) < ((q1 :: q0 :: l).length : Int) := by simp; omega
      rcases k2 with ⟨_, h⟩ | ⟨b', hb', rfl, htop⟩
      · simp at h
      have e0 : (q1 :: q0 :: l).reverse = l.reverse ++ [q0, q1] := by simp
      have hat := htop.at
      rw [e0] at hat
      have r1 := hat.rdR (j := l.length) (by simp)
      have r2 := hat.rdR (j := l.length + 1) (by simp)
      rw [List.getElem_append_right (by simp)] at r1 r2
      simp only [List.length_reverse, Nat.sub_self, List.getElem_cons_zero, Nat.add_sub_cancel_left, List.getElem_cons_succ, Nat.zero_add] at r1 r2
      have o1 := fun H => orientP H (k7 q0 (by simp)) (k7 q1 (by simp)) hlp (by omega)
      have hL : (q1 :: q0 :: l).reverse.length = l.length + 2 := by simp
      have hL' : (q1 :: q0 :: l).length = l.length + 2 := by simp
      have hl8 : l.length ≤ 1000 := by rw [hL'] at k8; omega
      rw [hL] at k1 rx
      rw [hL'] at s5 d1
      rw [hL] at fin
      rw [hL'] at fin
      have m1 : IntKind.i64.wrap (((l.length + 2 : Nat) : Int) - 1) = ((l.length + 1 : Nat) : Int) := by rw [w64 (by omega) (by omega)]; omega
      have m2 : IntKind.i64.wrap (((l.length + 2 : Nat) : Int) - 2) = ((l.length : Nat) : Int) := by rw [w64 (by omega) (by omega)]; omega
      have n1 : (0 : Int) ≤ ((l.length + 1 : Nat) : Int) := by omega
      have n2 : (0 : Int) ≤ ((l.length : Nat) : Int) := by omega
      have n3 : ((l.length + 1 : Nat) : Int) < ((l.length + 2 : Nat) : Int) := by omega
      have n4 : ((l.length : Nat) : Int) < ((l.length + 2 : Nat) : Int) := by omega
      have hzz := cmp_le (x := ori q0.rot q1.rot p.rot)
      have hpop : popP p (q1 :: q0 :: l) = if ori q0.rot q1.rot p.rot ≤ 0 then popP p (q0 :: l) else q1 :: q0 :: l := rfl
      generalize ori q0.rot q1.rot p.rot = oz at *
      generalize cmpQ oz 0 = z at *
      unfold RR.cells at r1 r2
      unfold RR.val rV at o1
      simp -implicitDefEqProofs only [go_sem, simprocAttr]
      refine ax_quiet (by kernel_rfl) ?_
      simp -implicitDefEqProofs only [go_sem, simprocAttr, s3, s4, s5, d1, rx, rp, m1, m2, n1, n2, n3, n4, aIndexAddr, r1, r2]
      refine kv (o1 _) ?_
      by_cases hz : z ≤ 0
      · rw [if_pos (hzz.1 hz)] at hpop
        have sl : aSlice tt T' 52 (.slice (some ⟨b', 0, none⟩) (l.length + 2) 0) none (some (.int .i64 ((l.length + 1 : Nat) : Int))) none = some (.slice (some ⟨b', 0, none⟩) (l.length + 1) 0) := by
          obtain ⟨B, hB1, hB2, _⟩ := hat.blk
          have := aSlice_at (tt := tt) (H := T') (t := 52) (s := 6) (b := b') (i := 0) (n := l.length + 2) (c := 0) (l := 0) (h := l.length + 1) (lo := none) (hi := some (.int .i64 ((l.length + 1 : Nat) : Int))) tt52 rfl ⟨B, hB1, hB2⟩ (by decide) (.inl rfl) rfl (by simp [bnd]; omega) (by omega) (by omega)
          rw [this]
          simp
        have hw := wr_cell k1 (v := .slice (some ⟨b', 0, none⟩) (l.length + 1) 0) rfl
        have hpl' := (List.getElem?_eq_some_iff.1 k1).1
        have j1 : (T'.set H.length ⟨[.slice (some ⟨b', 0, none⟩) (l.length + 1) 0], 1, true⟩)[H.length]? = some ⟨[.slice (some ⟨b', 0, none⟩) (l.length + 1) 0], 1, true⟩ := List.getElem?_set_self hpl'
        have j2 : Stk (T'.set H.length ⟨[.slice (some ⟨b', 0, none⟩) (l.length + 1) 0], 1, true⟩) (H.length + 1) (.slice (some ⟨b', 0, none⟩) (l.length + 1) 0) (q0 :: l).reverse := by
          refine .inr ⟨b', hb', by simp, ?_⟩
          have : Top T' b' (q0 :: l).reverse := by
            rw [show (q1 :: q0 :: l).reverse = (q0 :: l).reverse ++ [q1] by simp] at htop
            exact htop.cut
          exact this.other (by omega) _
        have j3 := k3.set (Nat.le_refl _) ⟨[.slice (some ⟨b', 0, none⟩) (l.length + 1) 0], 1, true⟩
        have j4 : (T'.set H.length ⟨[.slice (some ⟨b', 0, none⟩) (l.length + 1) 0], 1, true⟩)[T.length]? = some ⟨p.cells, 1, true⟩ := by rw [List.getElem?_set_ne (by omega)]; exact k4
        have j5 : (T'.set H.length ⟨[.slice (some ⟨b', 0, none⟩) (l.length + 1) 0], 1, true⟩).length = T.length + 1 := by rw [List.length_set]; exact k5
        have j6 := rd_cell j1
        have e5 : aLen tt [52] (.slice (some ⟨b', 0, none⟩) (l.length + 1) 0) = some (.int .i64 ((l.length + 1 : Nat) : Int)) := rfl
        generalize T'.set H.length ⟨[.slice (some ⟨b', 0, none⟩) (l.length + 1) 0], 1, true⟩ = T6 at *
        simp -implicitDefEqProofs only [go_sem, simprocAttr, wa_cond, axC_t, axC_f, hz, s3, s4, s5, rx, m1, sl, hw, j6, e5]
        refine ⟨q0 :: l, ⟨_, rfl, j1, j2, j3, j4, j5, ?_, ?_, ?_⟩, ?_⟩
        · rw [← hpop]; exact k6
        · exact fun r hr => k7 r (List.mem_cons_of_mem _ hr)
        · simp; omega
        · simp
      · rw [if_neg (fun h => hz (hzz.2 h))] at hpop
        obtain ⟨T4, T5, f1, f2, f3, f4⟩ := fin hpop
        simp only [RR.cells] at f1 f2
        simp -implicitDefEqProofs only [go_sem, simprocAttr, wa_cond, axC_t, axC_f, hz, s3, s4, s5, rx, rp, f1, f2, f3]
        exact f4
  · rintro T ⟨x, g1, g2, g3⟩
    rw [List.take_length] at g2
    have hne : chainP [] ps ≠ [] := by
      obtain ⟨ps', q, rfl⟩ : ∃ ps' q, ps = ps' ++ [q] := ⟨ps.dropLast, ps.getLast h0, (List.dropLast_concat_getLast h0).symm⟩
      rw [chainP_snoc]
      exact List.cons_ne_nil _ _
    have hcl := chainP_len ps []
    generalize chainP [] ps = C at *
    obtain ⟨q, C', rfl⟩ := List.exists_cons_of_ne_nil hne
    have hC'l : C'.length ≤ 1000 := by simp at hcl; omega
    rcases g2 with ⟨_, h⟩ | ⟨b', hb', rfl, htop⟩
    · simp at h
    have hL : (q :: C').reverse.length = C'.length + 1 := by simp
    rw [hL] at g1
    have rx := rd_cell g1
    have e5 : aLen tt [52] (.slice (some ⟨b', 0, none⟩) (C'.length + 1) 0) = some (.int .i64 ((C'.length + 1 : Nat) : Int)) := rfl
    have m1 : IntKind.i64.wrap (((C'.length + 1 : Nat) : Int) - 1) = ((C'.length : Nat) : Int) := by rw [w64 (by omega) (by omega)]; omega
    have sl : aSlice tt T 52 (.slice (some ⟨b', 0, none⟩) (C'.length + 1) 0) none (some (.int .i64 ((C'.length : Nat) : Int))) none = some (.slice (some ⟨b', 0, none⟩) C'.length 0) := by
      obtain ⟨B, hB1, hB2, _⟩ := htop.at.blk
      have := aSlice_at (tt := tt) (H := T) (t := 52) (s := 6) (b := b') (i := 0) (n := C'.length + 1) (c := 0) (l := 0) (h := C'.length) (lo := none) (hi := some (.int .i64 ((C'.length : Nat) : Int))) tt52 rfl ⟨B, hB1, hB2⟩ (by decide) (.inl rfl) rfl (by simp [bnd]) (by omega) (by omega)
      rw [this]
      simp
    have hd : (q :: C').reverse.dropLast = C'.reverse := by simp
    rw [hd]
    simp -implicitDefEqProofs only [go_sem, simprocAttr, wr_seq, wr_block, wr_region, wr_scope, wr_label, wr_skip, wr_exit, wr_ret, wr_cond, axCR_t, axCR_f, rx, e5, m1, sl, res213]
    refine ⟨g3, b', by omega, by simp, ?_⟩
    rw [List.reverse_cons] at htop
    exact htop.cut
end Go.Proofs.YthhmkaikopdmjaaGreat
namespace Go.Proofs.YthhmkaikopdmjaaGreat
open Go Go.Fw
theorem flatP (H : Heap) {v : Value} {D : List RR} {k : Nat} (hv : RL H v D) (hle : ∀ r ∈ D, r.le k) (hk : k ≤ 100000) (hl : D.length ≤ 100000) : Sim Tryz.prog 212 #[v] H (.bool (flatB D)) H := by
  refine flat_ex rfl ?_
  have e1 := hv.len (tt := tt) tt52
  unfold flatB
  by_cases h3 : D.length < 3
  · have h3' : (D.length : Int) < 3 := by omega
    rw [decide_eq_true h3]
    refine sxA tok mixed Tryz.func212 ?_
    simp -implicitDefEqProofs only [go_sem, simprocAttr, wa_cond, axC_t, axC_f, e1, h3', res212, Bool.true_or]
    exact .refl _
  have h3' : ¬ (D.length : Int) < 3 := by omega
  rw [decide_eq_false h3, Bool.false_or]
  have h0 : D ≠ [] := by rintro rfl; simp at h3
  obtain ⟨b, i0, c, rfl, hA⟩ := hv.at h0
  have r1 := hA.rdR (j := 0) (by omega)
  have r2 := hA.rdR (j := D.length - 1) (by omega)
  rw [getD_eq (show 0 < D.length by omega), getD_eq (show D.length - 1 < D.length by omega)]
  have l1 := hle _ (List.getElem_mem (show 0 < D.length by omega))
  have l2 := hle _ (List.getElem_mem (show D.length - 1 < D.length by omega))
  generalize D[0]'(by omega) = x at *
  generalize D[D.length - 1]'(by omega) = y at *
  have o1 := containsFuncP (H ++ [⟨x.cells, 1, true⟩, ⟨y.cells, 1, true⟩]) (g := 259) (cap := #[.pointer (some ⟨H.length, 0, none⟩), .pointer (some ⟨H.length + 1, 0, none⟩)]) (p := fun p => decide (¬ cmpQ (ori x.rot y.rot p.rot) 0 = 0)) (El.app hv _) (by omega)
    (fun p hp => flat1P _ (by simp) (by simp) l1 l2 (hle p hp) hk)
  generalize (D.any fun p => decide (¬ cmpQ (ori x.rot y.rot p.rot) 0 = 0)) = z at *
  have m0 : IntKind.i64.wrap ((D.length : Int) - 1) = ((D.length - 1 : Nat) : Int) := by rw [w64 (by omega) (by omega)]; omega
  have hnn : (0 : Int) ≤ ((D.length - 1 : Nat) : Int) := by omega
  have hlt : ((D.length - 1 : Nat) : Int) < (D.length : Int) := by omega
  have hlt0 : (0 : Int) < (D.length : Int) := by omega
  unfold RR.cells at r1 r2 o1
  simp only [Nat.zero_mul, Nat.add_zero] at r1
  refine sxA tok mixed Tryz.func212 ?_
  simp -implicitDefEqProofs only [go_sem, simprocAttr, wa_cond, axC_t, axC_f, e1, h3']
  refine ax_loud (by kernel_rfl) ?_
  simp -implicitDefEqProofs only [go_sem, simprocAttr, wa_cond, axC_t, axC_f, e1, m0, aIndexAddr, hnn, hlt, hlt0, Nat.zero_mul, r1, r2]
  refine kv o1 ?_
  simp -implicitDefEqProofs only [go_sem, simprocAttr, res212]
  exact .app _ _
theorem Top.ext {T T' : Heap} {b : Nat} {C : List RR} (h : Top T b C) (e : Ext T T') : Top T' b C := by
  obtain ⟨G, rfl⟩ := e
  exact h.app G
def hullL (D : List RR) : List RR := (chainP [] D).reverse.dropLast ++ (chainP [] D.reverse).reverse.dropLast
theorem popP_ne (p : RR) : ∀ C : List RR, C ≠ [] → popP p C ≠ [] := by
  intro C
  induction C with
  | nil => intro h; exact absurd rfl h
  | cons q1 C ih =>
    cases C with
    | nil => intro h; exact h
    | cons q0 l =>
      intro _
      unfold popP
      split
      · exact ih (by simp)
      · simp
theorem chainP_two {S : List RR} (h : 2 ≤ S.length) : 2 ≤ (chainP [] S).length := by
  have h0 : S ≠ [] := by rintro rfl; simp at h
  have e := List.dropLast_concat_getLast h0
  have h1 : S.dropLast ≠ [] := by
    intro h'
    have : S.dropLast.length = 0 := by rw [h']; rfl
    rw [List.length_dropLast] at this; omega
  have e1 := List.dropLast_concat_getLast h1
  rw [← e, chainP_snoc, ← e1, chainP_snoc]
  have := popP_ne (S.getLast h0) (S.dropLast.getLast h1 :: popP (S.dropLast.getLast h1) (chainP [] S.dropLast.dropLast)) (by simp)
  have := List.length_pos_iff.2 this
  simp only [List.length_cons]; omega
def HullRes (H H' : Heap) (l : List RR) (w : Value) : Prop :=
  ∃ D, Dist l D ∧ ((flatB D = true ∧ w = .tuple #[.slice none 0 0, .int .i64 12]) ∨ (flatB D = false ∧ 64 < (hullL D).length ∧ w = .tuple #[.slice none 0 0, .int .i64 4]) ∨
    (flatB D = false ∧ (hullL D).length ≤ 64 ∧ ∃ b', H.length ≤ b' ∧ w = .tuple #[.slice (some ⟨b', 0, none⟩) (hullL D).length 0, .int .i64 0] ∧ Top H' b' (hullL D)))
theorem hullP (H : Heap) {v : Value} {l : List RR} {k : Nat} (hv : RL H v l) (h0 : l ≠ []) (hle : ∀ r ∈ l, r.le k) (hk : k ≤ 100000) (h255 : l.length ≤ 255) (hc : ∀ r ∈ l, r.can = true) :
    ∃ w H', Sim Tryz.prog 155 #[v] H w H' ∧ Ext H H' ∧ HullRes H H' l w := by
  obtain ⟨w1, T1, o1, hE1, b1, D, hb1, rfl, htop1, hd⟩ := distinctP H hv h0 hle (by omega) h255 hc
  have hleD : ∀ r ∈ D, r.le k := fun r hr => hle r ((hd.mem r).1 hr)
  have hDl : D.length ≤ 255 := by
    have hnd : D.Nodup := hd.ord.imp (fun h e => by rw [e] at h; exact plt_irrefl _ h)
    have := hnd.length_le_of_subset (fun r hr => (hd.mem r).1 hr)
    omega
  have o2 := flatP T1 htop1.rl hleD hk (by omega)
  by_cases hf : flatB D = true
  · rw [hf] at o2
    refine sxA tok mixed Tryz.func155 ?_
    simp -implicitDefEqProofs only [go_sem, simprocAttr]
    refine kl o1 ?_
    simp -implicitDefEqProofs only [go_sem, simprocAttr]
    refine kv o2 ?_
    simp -implicitDefEqProofs only [go_sem, simprocAttr, wa_cond, axC_t, axC_f, res155]
    exact ⟨hE1, D, hd, .inl ⟨hf, rfl⟩⟩
  rw [Bool.not_eq_true] at hf
  rw [hf] at o2
  have hD3 : 3 ≤ D.length := by
    unfold flatB at hf
    rw [Bool.or_eq_false_iff, decide_eq_false_iff_not] at hf
    omega
  have hD0 : D ≠ [] := by rintro rfl; simp at hD3
  have o3 := forwardsS T1 (some ⟨b1, 0, none⟩) D.length 0
  obtain ⟨w4, T4, o4, hE4, b4, hb4, rfl, htop4⟩ := chainS (T1 ++ [⟨[.slice (some ⟨b1, 0, none⟩) D.length 0], 1, true⟩]) (ps := D) (Keep := KeepL T1.length (.slice (some ⟨b1, 0, none⟩) D.length 0) D) (valuesI hD0 (by omega)) (fun T hT => ⟨hT.get (by simp), (htop1.app _).rl.ext hT⟩) hD0 (by omega) hleD hk
  have o5 := backwardsS T4 (some ⟨b1, 0, none⟩) D.length 0
  have hE14 : Ext T1 T4 := (Ext.app _ _).trans hE4
  obtain ⟨w6, T6, o6, hE6, b6, hb6, rfl, htop6⟩ := chainS (T4 ++ [⟨[.slice (some ⟨b1, 0, none⟩) D.length 0], 1, true⟩]) (ps := D.reverse) (Keep := KeepL T4.length (.slice (some ⟨b1, 0, none⟩) D.length 0) D) (backwardsI hD0 (by omega)) (fun T hT => ⟨hT.get (by simp), ((htop1.ext hE14).app _).rl.ext hT⟩) (by simpa using hD0) (by rw [List.length_reverse]; omega) (fun r hr => hleD r (by simpa using hr)) hk
  have hR2 := chainP_two (S := D.reverse) (by rw [List.length_reverse]; omega)
  have hl1 := chainP_len D []
  have hl2 := chainP_len D.reverse []
  rw [List.length_reverse] at hl2
  simp only [List.length_nil, Nat.zero_add] at hl1 hl2
  have hR2' : (chainP [] D.reverse).reverse.dropLast ≠ [] := by
    intro h
    have : (chainP [] D.reverse).reverse.dropLast.length = 0 := by rw [h]; rfl
    rw [List.length_dropLast, List.length_reverse] at this; omega
  have htop46 : Top T6 b4 (chainP [] D).reverse.dropLast := (htop4.app _).ext hE6
  have happ := append_T htop46 htop6.at hR2' (by simp only [List.length_dropLast, List.length_reverse]; omega)
  have hnew := OwnR.new (T6.set b4 deadBlk) ((chainP [] D).reverse.dropLast ++ (chainP [] D.reverse).reverse.dropLast)
  rw [List.length_set] at hnew
  have hH6 : Ext H T6 := hE1.trans (hE14.trans ((Ext.app _ _).trans hE6))
  have hb4' : H.length ≤ b4 := by have := hE1.len; simp at hb4; omega
  have hfin : Ext H (T6.set b4 deadBlk ++ [⟨(((chainP [] D).reverse.dropLast ++ (chainP [] D.reverse).reverse.dropLast).map RR.cells).flatten, 6, true⟩]) := (hH6.set hb4' _).trans (.app _ _)
  have hT6 : H.length ≤ T6.length := hH6.len
  have hsum : (chainP [] D).reverse.dropLast.length + (chainP [] D.reverse).reverse.dropLast.length = (hullL D).length := by unfold hullL; rw [List.length_append]
  have hhl : (hullL D).length ≤ 1000 := by rw [← hsum]; simp only [List.length_dropLast, List.length_reverse]; omega
  rw [hsum] at happ
  have hfold : (chainP [] D).reverse.dropLast ++ (chainP [] D.reverse).reverse.dropLast = hullL D := rfl
  rw [hfold] at happ hnew hfin
  generalize T6.set b4 deadBlk ++ [(⟨((hullL D).map RR.cells).flatten, 6, true⟩ : Blk)] = T7 at *
  have e5 : aLen tt [52] (.slice (some ⟨T6.length, 0, none⟩) (hullL D).length 0) = some (.int .i64 ((hullL D).length : Nat)) := rfl
  generalize hL : hullL D = L at *
  refine sxA tok mixed Tryz.func155 ?_
  simp -implicitDefEqProofs only [go_sem, simprocAttr]
  refine kl o1 ?_
  simp -implicitDefEqProofs only [go_sem, simprocAttr]
  refine kv o2 ?_
  simp -implicitDefEqProofs only [go_sem, simprocAttr, wa_cond, axC_t, axC_f]
  refine kl o3 ?_
  simp -implicitDefEqProofs only [go_sem, simprocAttr]
  refine kl o4 ?_
  simp -implicitDefEqProofs only [go_sem, simprocAttr]
  refine kl o5 ?_
  simp -implicitDefEqProofs only [go_sem, simprocAttr]
  refine kl o6 ?_
  by_cases h64 : 64 < L.length
  · have h64' : (64 : Int) < (L.length : Int) := by omega
    simp -implicitDefEqProofs only [go_sem, simprocAttr, wa_cond, axC_t, axC_f, happ, e5, h64', res155]
    exact ⟨hfin, D, hd, .inr (.inl ⟨hf, by rw [hL]; exact h64, rfl⟩)⟩
  · have h64' : ¬ (64 : Int) < (L.length : Int) := by omega
    simp -implicitDefEqProofs only [go_sem, simprocAttr, wa_cond, axC_t, axC_f, happ, e5, h64', res155]
    exact ⟨hfin, D, hd, .inr (.inr ⟨hf, by rw [hL]; omega, T6.length, hT6, by rw [hL], by rw [hL]; exact OwnR.top hnew⟩)⟩
end Go.Proofs.YthhmkaikopdmjaaGreat
namespace Go.Proofs.YthhmkaikopdmjaaGreat
open Go Go.Fw
theorem OfP (H : Heap) {v : Value} {l : List RR} {k : Nat} (hv : RL H v l) (h0 : l ≠ []) (hle : ∀ r ∈ l, r.le k) (hk : k ≤ 100000) (h255 : l.length ≤ 255) (hc : ∀ r ∈ l, r.can = true) :
    ∃ w H', Sim Tryz.prog 94 #[v] H w H' ∧ Ext H H' ∧ HullRes H H' l w := by
  have o1 := hcheckP H hv hle hk (by omega) hc
  obtain ⟨w2, T2, o2, hE2, hres⟩ := hullP H hv h0 hle hk h255 hc
  obtain ⟨x, z, rfl⟩ : ∃ x z, w2 = .tuple #[x, z] := by
    obtain ⟨D, _, (⟨_, h⟩ | ⟨_, _, h⟩ | ⟨_, _, b', _, h, _⟩)⟩ := hres
    · exact ⟨_, _, h⟩
    · exact ⟨_, _, h⟩
    · exact ⟨_, _, h⟩
  refine sxA tok mixed Tryz.func94 ?_
  simp -implicitDefEqProofs only [go_sem, simprocAttr]
  refine kv o1 ?_
  simp -implicitDefEqProofs only [go_sem, simprocAttr, wa_cond, axC_t, axC_f]
  refine kl o2 ?_
  simp -implicitDefEqProofs only [go_sem, simprocAttr, res94]
  exact ⟨hE2, hres⟩
def ArcRes (H H' : Heap) (l : List RR) (w : Value) : Prop :=
  ∃ D, Dist l D ∧ (((flatB D = true ∨ 64 < (hullL D).length) ∧ w = .tuple #[.slice none 0 0, .int .i64 4]) ∨
    (flatB D = false ∧ (hullL D).length ≤ 64 ∧ ∃ b', H.length ≤ b' ∧ w = .tuple #[.slice (some ⟨b', 0, none⟩) (hullL D).length 0, .int .i64 0] ∧ Top H' b' (hullL D)))
theorem can_of (r : Rot) : (RR.of r).can = true := can_iff.2 (by rw [RR.of_rot])
theorem corn_sz {a b p : Rot} {k : Nat} (ha : a.Sz k) (hb : b.Sz k) (hp : p.Sz k) (hk : k ≤ 211) : (corn a b p).Sz 2560 := by
  have z4 : (a.thn p).Sz (4 * k + 5) := (ha.thn hp).mono (by omega)
  have z5 : (b.thn p).Sz (4 * k + 5) := (hb.thn hp).mono (by omega)
  have zd : (a.back.thn b).Sz (4 * k + 5) := (ha.back.thn hb).mono (by omega)
  have one : Fw.Sz (1 : Rat) 2 := sz_one (by decide)
  have za := one.add zd.c
  unfold corn
  constructor
  · exact ((z4.c.add z5.c).div za (by omega)).mono (by omega)
  · exact ((z4.s.add z5.s).div za (by omega)).mono (by omega)
theorem swept_le {a b : RR} {l : List RR} {k : Nat} (ha : a.le k) (hb : b.le k) (hl : ∀ r ∈ l, r.le k) (hk : k ≤ 210) : ∀ r ∈ sweptL a.rot b.rot l, r.le 2567 ∧ r.can = true := by
  intro r hr
  unfold sweptL at hr
  rw [List.mem_flatMap] at hr
  obtain ⟨p, hp, hr⟩ := hr
  have hp' := hl p hp
  simp only [List.mem_cons, List.not_mem_nil, or_false] at hr
  rcases hr with rfl | rfl | rfl
  · exact ⟨(ha.sz.thn hp'.sz).le.mono (by omega), can_of _⟩
  · exact ⟨(hb.sz.thn hp'.sz).le.mono (by omega), can_of _⟩
  · exact ⟨(corn_sz ha.sz hb.sz hp'.sz (by omega)).le, can_of _⟩
theorem collectP (H : Heap) {v : Value} {l : List RR} {a b : RR} {k b0 b1 b2 : Nat} (h1 : l ≠ []) (hl : l.length ≤ 1000)
    (la : a.le k) (lb : b.le k) (lp : ∀ p ∈ l, p.le k) (hk : k ≤ 2000) (ea : a.err = 0) (eb : b.err = 0) (hh : (a.rot.back.thn b.rot).half ≠ 1)
    (hK : KeepL b0 v l H) (hb1 : H[b1]? = some ⟨a.cells, 1, true⟩) (hb2 : H[b2]? = some ⟨b.cells, 1, true⟩) :
    ∃ w H', Sim Tryz.prog 139 #[.func (.func 203) #[] #[.pointer (some ⟨b0, 0, none⟩), .pointer (some ⟨b1, 0, none⟩), .pointer (some ⟨b2, 0, none⟩)]] H w H' ∧ Ext H H' ∧
      ∃ b', H.length ≤ b' ∧ w = .slice (some ⟨b', 0, none⟩) (3 * l.length) 0 ∧ Top H' b' (sweptL a.rot b.rot l) := by
  obtain ⟨w1, T1, o1, hE1, b', hb', rfl, ht⟩ := appendSeqP H h1 hl la lb lp hk ea eb hh hK hb1 hb2
  refine sxA tok mixed Tryz.func139 ?_
  simp -implicitDefEqProofs only [go_sem, simprocAttr]
  refine kl o1 ?_
  simp -implicitDefEqProofs only [go_sem, simprocAttr, res139]
  exact ⟨hE1, b', hb', by simp, ht⟩
theorem half_of_turn {a b : Rot} (h : turnB a b = true) : (a.back.thn b).half ≠ 1 := by
  unfold turnB at h
  simp only [Bool.and_eq_true, decide_eq_true_eq] at h
  obtain ⟨h1, h2⟩ := h
  have c1 : 0 < (a.back.thn b).c := by
    unfold cmpQ at h1
    split at h1
    · omega
    · split at h1
      · omega
      · grind
  have c2 : 0 ≤ (a.back.thn b).s := by
    unfold cmpQ at h2
    split at h2
    · omega
    · grind
  intro hh
  unfold Rot.half at hh
  split at hh
  · cases hh
  · split at hh
    · grind
    · split at hh
      · grind
      · cases hh
theorem arcP (H : Heap) {v : Value} {l : List RR} {a b : RR} {k : Nat} (hv : RL H v l) (h1 : l ≠ []) (hl : l.length ≤ 80)
    (la : a.le k) (lb : b.le k) (lp : ∀ p ∈ l, p.le k) (hk : k ≤ 210) (ea : a.err = 0) (eb : b.err = 0) (hh : (a.rot.back.thn b.rot).half ≠ 1) :
    ∃ w H', Sim Tryz.prog 82 #[v, a.val, b.val] H w H' ∧ Ext H H' ∧ ArcRes H H' (sweptL a.rot b.rot l) w := by
  obtain ⟨x0, cp, rfl⟩ := RL.slice hv
  have o1 := fun G => pointsS (H ++ G) (v := .slice x0 l.length cp) (a := a) (b := b) ⟨_, _, _, rfl⟩
  have hsl := sweptL_len a.rot b.rot l
  have hsle := swept_le la lb lp hk
  obtain ⟨H0, hH0⟩ : ∃ H0, H0 = H ++ [(⟨a.cells, 1, true⟩ : Blk), ⟨b.cells, 1, true⟩] := ⟨_, rfl⟩
  have hE0 : Ext H H0 := by rw [hH0]; exact .app _ _
  have o1' := o1 [(⟨a.cells, 1, true⟩ : Blk), ⟨b.cells, 1, true⟩]
  rw [← hH0] at o1'
  obtain ⟨H1, hH1⟩ : ∃ H1, H1 = H0 ++ [(⟨[.slice x0 l.length cp], 1, true⟩ : Blk), ⟨a.cells, 1, true⟩, ⟨b.cells, 1, true⟩] := ⟨_, rfl⟩
  have hE1 : Ext H0 H1 := by rw [hH1]; exact .app _ _
  obtain ⟨w2, T2, o2, hE2, b', hb', rfl, ht2⟩ := collectP H1 (v := .slice x0 l.length cp) (b0 := H0.length) (b1 := H0.length + 1) (b2 := H0.length + 2) h1 (by omega) la lb lp (by omega) ea eb hh
    ⟨by rw [hH1]; simp, by rw [hH1]; exact ((hv.ext hE0).ext (.app _ _))⟩ (by rw [hH1]; simp) (by rw [hH1]; simp)
  rw [← hH1] at o1'
  have hne : sweptL a.rot b.rot l ≠ [] := by
    intro h
    rw [h] at hsl
    have := List.length_pos_iff.2 h1
    simp at hsl; omega
  have htr := ht2.rl
  rw [hsl] at htr
  generalize sweptL a.rot b.rot l = S at *
  obtain ⟨w3, T3, o3, hE3, hres⟩ := OfP T2 htr hne (fun r hr => (hsle r hr).1) (by omega) (by omega) (fun r hr => (hsle r hr).2)
  have hEa : Ext H T3 := hE0.trans (hE1.trans (hE2.trans hE3))
  unfold RR.cells at hH0
  unfold RR.val rV at o1' ⊢
  obtain ⟨D, hd, hres⟩ := hres
  rcases hres with ⟨hf, rfl⟩ | ⟨hf, h64, rfl⟩ | ⟨hf, h64, b3, hb3, rfl, htop⟩
  · refine sxA tok mixed Tryz.func82 ?_
    simp -implicitDefEqProofs only [go_sem, simprocAttr]
    rw [← hH0]
    refine kl o1' ?_
    simp -implicitDefEqProofs only [go_sem, simprocAttr]
    refine kl o2 ?_
    simp -implicitDefEqProofs only [go_sem, simprocAttr]
    refine kl o3 ?_
    simp -implicitDefEqProofs only [go_sem, simprocAttr, wa_cond, axC_t, axC_f, res82]
    exact ⟨hEa, D, hd, .inl ⟨.inl hf, rfl⟩⟩
  · refine sxA tok mixed Tryz.func82 ?_
    simp -implicitDefEqProofs only [go_sem, simprocAttr]
    rw [← hH0]
    refine kl o1' ?_
    simp -implicitDefEqProofs only [go_sem, simprocAttr]
    refine kl o2 ?_
    simp -implicitDefEqProofs only [go_sem, simprocAttr]
    refine kl o3 ?_
    simp -implicitDefEqProofs only [go_sem, simprocAttr, wa_cond, axC_t, axC_f, res82]
    exact ⟨hEa, D, hd, .inl ⟨.inr h64, rfl⟩⟩
  · have e5 : aLen tt [52] (.slice (some ⟨b3, 0, none⟩) (hullL D).length 0) = some (.int .i64 ((hullL D).length : Nat)) := rfl
    have h64' : ¬ (64 : Int) < ((hullL D).length : Int) := by omega
    have hb3' : H.length ≤ b3 := by have := (hE0.trans (hE1.trans hE2)).len; omega
    have hres2 : ArcRes H T3 S (.tuple #[.slice (some ⟨b3, 0, none⟩) (hullL D).length 0, .int .i64 0]) := ⟨D, hd, .inr ⟨hf, h64, b3, hb3', rfl, htop⟩⟩
    generalize (hullL D).length = nn at *
    refine sxA tok mixed Tryz.func82 ?_
    simp -implicitDefEqProofs only [go_sem, simprocAttr]
    rw [← hH0]
    refine kl o1' ?_
    simp -implicitDefEqProofs only [go_sem, simprocAttr]
    refine kl o2 ?_
    simp -implicitDefEqProofs only [go_sem, simprocAttr]
    refine kl o3 ?_
    simp -implicitDefEqProofs only [go_sem, simprocAttr, wa_cond, axC_t, axC_f, e5, h64', res82]
    exact ⟨hEa, hres2⟩
def arcE (a b : RR) (l : List RR) : Int := chkT (decide (chkC l = 0)) a b
theorem arcE_zero {a b : RR} {l : List RR} (h : arcE a b l = 0) : chkC l = 0 ∧ a.err = 0 ∧ b.err = 0 ∧ turnB a.rot b.rot = true := by
  unfold arcE chkT at h
  split at h
  · cases h
  · rename_i h'
    split at h
    · rename_i ht
      simp only [decide_eq_false_iff_not, ne_eq, not_or, Classical.not_not] at h'
      exact ⟨h'.1, h'.2.1, h'.2.2, ht⟩
    · cases h
def ArcOut (H H' : Heap) (e : Int) (S : List RR) (w : Value) : Prop := (e ≠ 0 ∧ w = .tuple #[.slice none 0 0, .int .i64 e]) ∨ (e = 0 ∧ ArcRes H H' S w)
theorem ArcP (H : Heap) {v : Value} {l : List RR} {a b : RR} {k : Nat} (hv : RL H v l) (hl : l.length ≤ 80) (la : a.le k) (lb : b.le k) (lp : ∀ p ∈ l, p.le k) (hk : k ≤ 210) :
    ∃ w H', Sim Tryz.prog 36 #[v, a.val, b.val] H w H' ∧ Ext H H' ∧ ArcOut H H' (arcE a b l) (sweptL a.rot b.rot l) w := by
  have o1 := fun G => CheckP (H ++ G) (El.app hv G) lp (by omega) (by omega)
  have o2 := fun H => sweptCheck H (s := decide (chkC l = 0)) la lb (by omega)
  have hfold : chkT (decide (chkC l = 0)) a b = arcE a b l := rfl
  rw [hfold] at o2
  have hz := arcE_zero (a := a) (b := b) (l := l)
  have e0 : decide (chkC l = 0) = decide (chkC l = 0) := rfl
  by_cases hE : arcE a b l = 0
  case neg =>
    generalize arcE a b l = z at *
    generalize chkC l = zc at *
    unfold RR.val rV at o2 ⊢
    refine sxA tok mixed Tryz.func36 ?_
    simp -implicitDefEqProofs only [go_sem, simprocAttr]
    refine ax_quiet (by kernel_rfl) ?_
    simp -implicitDefEqProofs only [go_sem, simprocAttr]
    refine kv (o1 _) ?_
    simp -implicitDefEqProofs only [go_sem, simprocAttr]
    refine kv (o2 _) ?_
    simp -implicitDefEqProofs only [go_sem, simprocAttr, wa_cond, axC_t, axC_f, hE, res36]
    exact ⟨.app _ _, .inl ⟨hE, rfl⟩⟩
  obtain ⟨hchk, ea, eb, ht⟩ := hz hE
  have h1 : l ≠ [] := by
    rintro rfl
    unfold chkC at hchk
    simp at hchk
  obtain ⟨w3, T3, o3, hE3, hres⟩ := arcP (H ++ [(⟨a.cells, 1, true⟩ : Blk), ⟨b.cells, 1, true⟩]) (hv.ext (.app _ _)) h1 hl la lb lp hk ea eb (half_of_turn ht)
  have hres2 : ArcRes H T3 (sweptL a.rot b.rot l) w3 := by
    obtain ⟨D, hd, h | ⟨hf, h64, b3, hb3, hw, htop⟩⟩ := hres
    · exact ⟨D, hd, .inl h⟩
    · exact ⟨D, hd, .inr ⟨hf, h64, b3, by simp at hb3; omega, hw, htop⟩⟩
  obtain ⟨x, z, rfl⟩ : ∃ x z, w3 = .tuple #[x, z] := by
    obtain ⟨D, hd, ⟨_, h⟩ | ⟨hf, h64, b3, hb3, hw, htop⟩⟩ := hres2
    · exact ⟨_, _, h⟩
    · exact ⟨_, _, hw⟩
  rw [hE] at o2
  generalize sweptL a.rot b.rot l = S at *
  unfold RR.cells at o3 hE3
  rw [hE]
  generalize chkC l = zc at *
  unfold RR.val rV at o2 o3 ⊢
  refine sxA tok mixed Tryz.func36 ?_
  simp -implicitDefEqProofs only [go_sem, simprocAttr]
  refine ax_quiet (by kernel_rfl) ?_
  simp -implicitDefEqProofs only [go_sem, simprocAttr]
  refine kv (o1 _) ?_
  simp -implicitDefEqProofs only [go_sem, simprocAttr]
  refine kv (o2 _) ?_
  simp -implicitDefEqProofs only [go_sem, simprocAttr, wa_cond, axC_t, axC_f]
  refine kl o3 ?_
  simp -implicitDefEqProofs only [go_sem, simprocAttr, res36]
  exact ⟨(Ext.app _ _).trans hE3, .inr ⟨rfl, hres2⟩⟩
end Go.Proofs.YthhmkaikopdmjaaGreat
namespace Go.Proofs.YthhmkaikopdmjaaGreat
open Go Go.Fw
theorem redgesS (H : Heap) (x : Option Addr) (n c : Nat) : Sim Tryz.prog 150 #[.slice x n c] H (.func (.func 209) #[] #[.pointer (some ⟨H.length, 0, none⟩)]) (H ++ [⟨[.slice x n c], 1, true⟩]) := by
  refine soA tok mixed Tryz.func150 ?_
  simp -implicitDefEqProofs only [go_sem, simprocAttr, res150]
theorem redgesY {Y Z : Array Value → Heap → Heap → Prop} {l : List RR} {v : Value} {b0 : Nat} {H : Heap} {R : Heap → Prop} (j : Nat) (hj : j ≤ l.length) (Inv : Nat → Heap → Prop) (h1 : l ≠ []) (hl : l.length ≤ 100000) (h0 : Inv 0 H)
    (hbox : ∀ i T, Inv i T → T[b0]? = some ⟨[v], 1, true⟩ ∧ RL T v l) (happ : ∀ i T B, Inv i T → Inv i (T ++ [B]))
    (hY : ∀ i T, ∀ hi : i < l.length, i < j → Inv i T → ∃ T', Y #[l[i].val, (l[nextR l i]'(nextR_lt h1 i)).val] T T' ∧ Inv (i + 1) T')
    (hZ : ∀ T, ∀ hi : j < l.length, Inv j T → ∃ T', Z #[l[j].val, (l[nextR l j]'(nextR_lt h1 j)).val] T T' ∧ T.length < T'.length ∧ R T')
    (hR : ∀ T, j = l.length → Inv j T → R T) {bb : Bool} (hbb : bb = decide (j = l.length)) :
    ∃ H1, SimR Tryz.prog 209 Y Z #[.pointer (some ⟨b0, 0, none⟩)] H bb H1 ∧ R H1 := by
  subst hbb
  obtain ⟨G, g0, g1, g2⟩ := chain_ex (Inv := Inv) (n := j) (H := H) (Y := fun i T T' => ∀ hi : i < l.length, Y #[l[i].val, (l[nextR l i]'(nextR_lt h1 i)).val] T T') (fun i => ⟨(l.getD i ⟨false, [], [], false, [], []⟩).cells, 1, true⟩) h0 happ
    (fun i T hi h => by obtain ⟨T', a, b⟩ := hY i T (by omega) hi h; exact ⟨T', fun _ => a, b⟩)
  obtain ⟨H1, hH1, hRH⟩ : ∃ H1, (if hi : j < l.length then Z #[l[j].val, (l[nextR l j]'(nextR_lt h1 j)).val] (G j ++ [(⟨l[j].cells, 1, true⟩ : Blk)]) H1 ∧ (G j ++ [(⟨l[j].cells, 1, true⟩ : Blk)]).length < H1.length else H1 = G j) ∧ R H1 := by
    by_cases hi : j < l.length
    · obtain ⟨T', a, b, c⟩ := hZ _ hi (happ j _ (⟨l[j].cells, 1, true⟩ : Blk) (g1 j (Nat.le_refl _)))
      exact ⟨T', by rw [dif_pos hi]; exact ⟨a, b⟩, c⟩
    · exact ⟨G j, by rw [dif_neg hi], hR _ (by omega) (g1 j (Nat.le_refl _))⟩
  refine ⟨H1, ?_, hRH⟩
  refine simR_of_ax tok mixed Tryz.func209 ?_
  intro y
  have hb := hbox 0 H h0
  obtain ⟨b, i0, c, rfl, hA0⟩ := hb.2.at h1
  have box : ∀ i, i ≤ j → ∀ B, rd (G i ++ B) b0 0 1 = some [.slice (some ⟨b, i0, none⟩) l.length c] := by
    intro i hi B
    refine rd_more ?_ B
    have := (hbox i _ (g1 i hi)).1
    unfold rd
    rw [this]; rfl
  have box0 := fun i hi => by simpa using box i hi []
  have hrow : ∀ i, i ≤ j → ElAt 6 (G i) b i0 c (l.map RR.cells) := by
    intro i hi
    obtain ⟨b', i', c', e, h⟩ := ((hbox i _ (g1 i hi)).2).at h1
    injection e with e1 e2 e3
    injection e1 with e1
    injection e1 with e4 e5
    subst e4 e5 e3
    exact h
  have e1 : aLen tt [52] (.slice (some ⟨b, i0, none⟩) l.length c) = some (.int .i64 (l.length : Nat)) := rfl
  rw [← g0]
  have bx0 := box0 0 (by omega)
  have eini : (#[Value.func (Fn.yield y) #[] #[]] ++ #[Value.pointer (some ⟨b0, 0, none⟩)] : Array Value) = #[.func (.yield y) #[] #[], .pointer (some ⟨b0, 0, none⟩)] := rfl
  rw [eini]
  simp -implicitDefEqProofs only [wy_seq, wy_block, wy_skip, wy_exit, wy_ret, wy_cond, axCY_t, axCY_f, ythn_t, ythn_f, ythn_ret, ythn_exit, yblk]
  refine wy_open ?_
  simp -implicitDefEqProofs only [go_sem, simprocAttr, wy_seq, wy_block, wy_skip, wy_exit, wy_ret, wy_cond, axCY_t, axCY_f, ythn_t, ythn_f, ythn_ret, ythn_exit, yblk, bx0, e1]
  refine axY_loopx (fun (i : Nat) s T => s 0 = .func (.yield y) #[] #[] ∧ s 1 = .pointer (some ⟨b0, 0, none⟩) ∧ s 5 = .slice (some ⟨b, i0, none⟩) l.length c ∧ s 6 = .int .i64 (l.length : Nat) ∧ s 7 = .int .i64 (i : Nat) ∧ i ≤ j ∧ T = G i) (fun i => l.length - i) 0 ?_ ?_
  · simp -implicitDefEqProofs only [go_sem, simprocAttr]
  rintro i s T ⟨s0, s1, s5, s6, s7, hi, rfl⟩
  by_cases hil : i < l.length
  case neg =>
    have : i = l.length := by omega
    subst this
    have : j = l.length := by omega
    subst this
    rw [dif_neg (by omega)] at hH1
    subst hH1
    have hlt : ¬ ((l.length : Nat) : Int) < (l.length : Nat) := by omega
    refine axY_of_ax _ ?_
    simp -implicitDefEqProofs only [go_sem, simprocAttr, wa_cond, axC_t, axC_f, s6, s7, hlt, yblk, ythn_exit, retY_normal]
    exact ⟨[], rfl⟩
  have hr := (hrow i hi).rdR hil
  have hjn := nextR_lt h1 i
  have hr2 := fun B => rd_more ((hrow i hi).rdR hjn) B
  have hgd : l.getD i ⟨false, [], [], false, [], []⟩ = l[i] := by simp [List.getD, List.getElem?_eq_getElem hil]
  have bxi := box0 i hi
  have bxi2 := box i hi
  have m1 : IntKind.i64.wrap ((i : Int) + 1) = ((i + 1 : Nat) : Int) := by rw [w64 (by omega) (by omega)]; rfl
  have m2 : Int.tmod ((i + 1 : Nat) : Int) (l.length : Int) = ((nextR l i : Nat) : Int) := by rw [tmod_nat]; rfl
  have m3 : ¬ (l.length : Int) = 0 := by omega
  have hnn : (0 : Int) ≤ (i : Int) := by omega
  have hlt2 : (i : Int) < (l.length : Int) := by omega
  have hnn2 : (0 : Int) ≤ (nextR l i : Int) := by omega
  have hlt3 : (nextR l i : Int) < (l.length : Int) := by omega
  by_cases hij : i < j
  · have hy := g2 i hij hil
    rw [hgd] at hy
    clear hH1
    generalize l[nextR l i] = z at hr2 hy
    generalize l[i] = x at hr hy
    generalize nextR l i = j' at m2 hnn2 hlt3 hr2
    unfold RR.cells at hr hr2 hy
    refine axY_of_ax _ ?_
    simp -implicitDefEqProofs only [go_sem, simprocAttr, wa_cond, axC_t, axC_f, s0, s1, s5, s6, s7, hlt2, aIndexAddr, hnn, hr]
    refine ax_loud (by kernel_rfl) ?_
    simp -implicitDefEqProofs only [go_sem, simprocAttr, s0, s1, s5, s7, aIndexAddr, hnn, hlt2, hnn2, hlt3, hr2, bxi, bxi2, e1, m1, m2, m3]
    unfold RR.val rV at hy
    refine wl_yield y _ (by simp -implicitDefEqProofs only [go_sem, simprocAttr, s0]) (by simp -implicitDefEqProofs only [go_sem, simprocAttr]) ⟨rfl, rfl, hy⟩ ?_
    simp -implicitDefEqProofs only [go_sem, simprocAttr, wa_cond, axC_t, axC_f, s0, s1, s5, s6, s7, m1, ythn_t]
    exact ⟨i + 1, ⟨rfl, by omega, rfl⟩, by omega⟩
  · have : i = j := by omega
    subst this
    rw [dif_pos hil] at hH1
    obtain ⟨hz, hlen⟩ := hH1
    rw [decide_eq_false (by omega)]
    generalize l[nextR l i] = z at hr2 hz
    generalize l[i] = x at hr hz hlen
    generalize nextR l i = j' at m2 hnn2 hlt3 hr2
    have hlen' : (G i).length + 1 < H1.length := by simpa using hlen
    unfold RR.cells at hr hr2 hz hlen
    simp -implicitDefEqProofs only [wy_seq, wy_block, wy_skip, wy_exit, wy_ret, wy_cond, axCY_t, axCY_f, ythn_t, ythn_f, ythn_ret, ythn_exit, yblk]
    refine wy_open ?_
    simp -implicitDefEqProofs only [go_sem, simprocAttr, wy_seq, wy_block, wy_skip, wy_exit, wy_ret, wy_cond, axCY_t, axCY_f, ythn_t, ythn_f, ythn_ret, ythn_exit, yblk, s6, s7, hlt2]
    refine wy_open ?_
    simp -implicitDefEqProofs only [go_sem, simprocAttr, wy_seq, wy_block, wy_skip, wy_exit, wy_ret, wy_cond, axCY_t, axCY_f, ythn_t, ythn_f, ythn_ret, ythn_exit, yblk, s0, s1, s5, s6, s7, aIndexAddr, hnn, hlt2, hr]
    refine wy_shut (by kernel_rfl) (ax_loud (by kernel_rfl) ?_)
    simp -implicitDefEqProofs only [go_sem, simprocAttr, s0, s1, s5, s7, aIndexAddr, hnn, hlt2, hnn2, hlt3, hr2, bxi, bxi2, e1, m1, m2, m3]
    unfold RR.val rV at hz
    refine wl_yield y _ (by simp -implicitDefEqProofs only [go_sem, simprocAttr, s0]) (by simp -implicitDefEqProofs only [go_sem, simprocAttr]) ⟨rfl, by simp, .inr ⟨rfl, hz, hlen'⟩⟩ ?_
    simp -implicitDefEqProofs only [go_sem, simprocAttr, wa_cond, axC_t, axC_f, wy_seq, wy_block, wy_skip, wy_exit, wy_ret, wy_cond, axCY_t, axCY_f, ythn_t, ythn_f, ythn_ret, ythn_exit, yblk, retY_ret]
    exact ⟨hlen', [], rfl⟩
end Go.Proofs.YthhmkaikopdmjaaGreat
namespace Go.Proofs.YthhmkaikopdmjaaGreat
open Go Go.Fw
def qC (q : Rat) : List Value := [.bool (decide (q.num < 0)), .string (bs (digB q.num.natAbs)), .string (bs (denB q.den))]
theorem smR_sz {f : Nat → Rat} {c : Nat} (h : ∀ i, Fw.Sz (f i) c) : ∀ n, Fw.Sz (smR f n) (n * (c + 1) + 2) := by
  intro n
  induction n with
  | zero => exact (show Fw.Sz (0 : Rat) 2 from ⟨by decide, by decide⟩).mono (by omega)
  | succ n ih =>
    unfold smR
    exact (ih.add (h n)).mono (by rw [Nat.add_mul]; omega)
def crs (l : List RR) (i : Nat) : Rat := (cy (l.map RR.rot) i).cross (cy (l.map RR.rot) (i + 1))
theorem crs_at {l : List RR} {i : Nat} (hi : i < l.length) : crs l i = l[i].rot.cross (l[nextR l i]'(nextR_lt (fun h => by rw [h] at hi; simp at hi) i)).rot := by
  have h0 : l ≠ [] := by rintro rfl; simp at hi
  unfold crs
  have e1 : cy (l.map RR.rot) i = l[i].rot := by rw [cy_lt (by simpa using hi), List.getElem_map]
  have e2 : cy (l.map RR.rot) (i + 1) = (l[nextR l i]'(nextR_lt h0 i)).rot := by
    rw [← cy_mod, cy_lt (by rw [List.length_map]; exact Nat.mod_lt _ (List.length_pos_iff.2 h0)), List.getElem_map]
    simp only [List.length_map]
    rfl
  rw [e1, e2]
theorem crs_sz {l : List RR} {k : Nat} (h0 : l ≠ []) (hl : ∀ r ∈ l, r.le k) (i : Nat) : Fw.Sz (crs l i) (4 * k + 5) := by
  have hm : ∀ j, (cy (l.map RR.rot) j).Sz (k + 1) := fun j => by
    have := cy_mem (H := l.map RR.rot) (by simpa using h0) j
    obtain ⟨r, hr, e⟩ := List.mem_map.1 this
    rw [← e]; exact (hl r hr).sz
  unfold crs Rot.cross
  exact (((hm i).c.mul (hm (i + 1)).s).sub ((hm i).s.mul (hm (i + 1)).c)).mono (by omega)
def ArInv (H : Heap) (v : Value) (l : List RR) (i : Nat) (T : Heap) : Prop := T[H.length]? = some ⟨qC 0, 1, true⟩ ∧ T[H.length + 1]? = some ⟨qC (smR (crs l) i), 1, true⟩ ∧ T[H.length + 2]? = some ⟨[v], 1, true⟩ ∧ Ext H T
theorem qC_zero : qC 0 = [.bool false, .string (bs []), .string (bs [])] := by
  have h := mkQ_zero
  unfold mkQ at h
  obtain ⟨h1, h2, h3⟩ := qV_inj.1 h
  unfold qC
  rw [h1, h2, h3]
theorem AreaP (H : Heap) {v : Value} {l : List RR} {k : Nat} (hv : RL H v l) (h0 : l ≠ []) (hl : l.length ≤ 64) (hle : ∀ r ∈ l, r.le k) (hk : k ≤ 3700) : Sim Tryz.prog 89 #[v] H (mkQ (areaR (l.map RR.rot) / 2)) H := by
  refine flat_ex rfl ?_
  obtain ⟨b, i0, c, rfl, hA⟩ := hv.at h0
  have oe := redgesS (H ++ [(⟨qC 0, 1, true⟩ : Blk), ⟨qC 0, 1, true⟩]) (some ⟨b, i0, none⟩) l.length c
  rw [qC_zero] at oe
  simp only [List.length_append, List.length_cons, List.length_nil, Nat.reduceAdd, Nat.zero_add, List.append_assoc, List.cons_append, List.nil_append, bs_nil] at oe
  have hsz := smR_sz (crs_sz h0 hle)
  have harea : areaR (l.map RR.rot) = smR (crs l) l.length := by
    unfold areaR
    rw [List.length_map]
    rfl
  refine sim_exR tok mixed Tryz.func89 ?_
  simp -implicitDefEqProofs only [go_sem, simprocAttr, wr_seq, wr_block, wr_region, wr_scope, wr_label, wr_skip, wr_exit, wr_ret, wr_cond, axCR_t, axCR_f]
  refine kl oe ?_
  simp -implicitDefEqProofs only [go_sem, simprocAttr, wr_seq, wr_block, wr_region, wr_scope, wr_label, wr_skip, wr_exit, wr_ret, wr_cond, axCR_t, axCR_f]
  refine axR_range (ArInv H (.slice (some ⟨b, i0, none⟩) l.length c) l l.length) (by simp -implicitDefEqProofs only [go_sem, simprocAttr]; rfl) ?_ ?_
  · refine redgesY (v := .slice (some ⟨b, i0, none⟩) l.length c) l.length (Nat.le_refl _) (ArInv H (.slice (some ⟨b, i0, none⟩) l.length c) l) h0 (by omega) ?_ ?_ ?_ ?_ (fun T hi => absurd hi (by omega)) (fun T _ h => h) (by rw [decide_eq_true rfl])
    · exact ⟨by rw [qC_zero]; simp, by show _ = some (⟨qC 0, 1, true⟩ : Blk); rw [qC_zero]; simp, by simp, .app _ _⟩
    · rintro i T ⟨g1, g2, g3, g4⟩
      exact ⟨g3, hv.ext g4⟩
    · rintro i T B ⟨g1, g2, g3, g4⟩
      have l3 := (List.getElem?_eq_some_iff.1 g3).1
      exact ⟨by rw [List.getElem?_append_left (by omega)]; exact g1, by rw [List.getElem?_append_left (by omega)]; exact g2, by rw [List.getElem?_append_left l3]; exact g3, g4.trans (.app _ _)⟩
    · rintro i T hi _ ⟨g1, g2, g3, g4⟩
      refine yr_ex rfl ?_
      have hj := nextR_lt h0 i
      have lx := hle _ (List.getElem_mem hi)
      have ly := hle _ (List.getElem_mem hj)
      have o1 := fun H => crossP H lx ly (by omega)
      have hcr := crs_at hi
      have hcz := crs_sz h0 hle i
      rw [← hcr] at o1
      have hn1 : (i + 1) * (4 * k + 5 + 1) ≤ 64 * (4 * k + 5 + 1) := Nat.mul_le_mul_right _ (by omega)
      have hn0 : i * (4 * k + 5 + 1) ≤ 64 * (4 * k + 5 + 1) := Nat.mul_le_mul_right _ (by omega)
      have o2 := fun H => addQ H (hsz i).qv hcz.qv (by omega) (by omega)
      have hss : smR (crs l) i + crs l i = smR (crs l) (i + 1) := rfl
      rw [hss] at o2
      generalize l[nextR l i]'(nextR_lt h0 i) = z at *
      generalize l[i] = x at *
      obtain ⟨T1, hT1⟩ : ∃ T1, T1 = T ++ [(⟨x.cells, 1, true⟩ : Blk), ⟨z.cells, 1, true⟩] := ⟨_, rfl⟩
      have hTl := (List.getElem?_eq_some_iff.1 g3).1
      have f2 : T1[H.length + 1]? = some ⟨qC (smR (crs l) i), 1, true⟩ := by rw [hT1, List.getElem?_append_left (by omega)]; exact g2
      have hw : wr T1 (H.length + 1) 0 (qC (smR (crs l) (i + 1))) = some (T1.set (H.length + 1) ⟨qC (smR (crs l) (i + 1)), 1, true⟩) := by
        rw [wr_at f2 rfl (by simp [qC]) rfl]
        rfl
      have r2 : rd T1 (H.length + 1) 0 3 = some (qC (smR (crs l) i)) := by unfold rd; rw [f2]; rfl
      have rx : rd T1 T.length 0 6 = some x.cells := by rw [hT1]; unfold rd; simp [RR.cells]
      have rz : rd T1 (T.length + 1) 0 6 = some z.cells := by rw [hT1]; unfold rd; simp [RR.cells]
      have hfin : ArInv H (.slice (some ⟨b, i0, none⟩) l.length c) l (i + 1) (T1.set (H.length + 1) ⟨qC (smR (crs l) (i + 1)), 1, true⟩) := by
        have hl1 : H.length + 1 < T1.length := (List.getElem?_eq_some_iff.1 f2).1
        refine ⟨?_, List.getElem?_set_self hl1, ?_, ?_⟩
        · rw [List.getElem?_set_ne (by omega), hT1, List.getElem?_append_left (by omega)]; exact g1
        · rw [List.getElem?_set_ne (by omega), hT1, List.getElem?_append_left hTl]; exact g3
        · rw [hT1]; exact (g4.trans (.app _ _)).set (by omega) _
      generalize T1.set (H.length + 1) ⟨qC (smR (crs l) (i + 1)), 1, true⟩ = T2 at *
      generalize smR (crs l) (i + 1) = s1 at *
      generalize smR (crs l) i = s0 at *
      generalize crs l i = cr at *
      unfold RR.cells at hT1 rx rz
      unfold qC at r2 hw
      unfold RR.val rV at *
      unfold mkQ qV at o1 o2
      simp -implicitDefEqProofs only [go_sem, simprocAttr, putPs_two]
      rw [← hT1]
      refine ax_quiet (by kernel_rfl) ?_
      simp -implicitDefEqProofs only [go_sem, simprocAttr, r2, rx, rz]
      refine kv (o1 _) ?_
      simp -implicitDefEqProofs only [go_sem, simprocAttr]
      refine kv (o2 _) ?_
      simp -implicitDefEqProofs only [go_sem, simprocAttr, hw]
      exact hfin
  · rintro T ⟨g1, g2, g3, g4⟩
    rw [harea]
    have hn0 : l.length * (4 * k + 5 + 1) ≤ 64 * (4 * k + 5 + 1) := Nat.mul_le_mul_right _ (by omega)
    have o1 := fun H => ofN_sim H (n := 2) (by decide) (by decide)
    have s2 : Fw.Sz (2 : Rat) 3 := ⟨by decide, by decide⟩
    rw [show ((2 : Int) : Rat) = 2 from rfl] at o1
    have o2 := fun H => quoQ H (hsz l.length).qv s2.qv (by omega) (by omega)
    rw [if_neg (by decide)] at o2
    have r2 : rd T (H.length + 1) 0 3 = some (qC (smR (crs l) l.length)) := by unfold rd; rw [g2]; rfl
    have r2' := fun B => rd_more r2 B
    generalize smR (crs l) l.length = s1 at *
    generalize s1 / 2 = s3 at *
    have hTl := (List.getElem?_eq_some_iff.1 g3).1
    obtain ⟨T6, hT6⟩ : ∃ T6, T6 = T ++ [(⟨qC s3, 1, true⟩ : Blk)] := ⟨_, rfl⟩
    have f6 : T6[H.length]? = some ⟨qC 0, 1, true⟩ := by rw [hT6, List.getElem?_append_left (by omega)]; exact g1
    have r6 : rd T6 T.length 0 3 = some (qC s3) := by rw [hT6]; unfold rd; simp [qC]
    have hw : wr T6 H.length 0 (qC s3) = some (T6.set H.length ⟨qC s3, 1, true⟩) := by
      rw [wr_at f6 rfl (by simp [qC]) rfl]
      rfl
    have r7 : rd (T6.set H.length ⟨qC s3, 1, true⟩) H.length 0 3 = some (qC s3) := by
      unfold rd
      rw [List.getElem?_set_self (List.getElem?_eq_some_iff.1 f6).1]; rfl
    have hE7 : Ext H (T6.set H.length ⟨qC s3, 1, true⟩) := by rw [hT6]; exact (g4.trans (.app _ _)).set (Nat.le_refl _) _
    generalize T6.set H.length ⟨qC s3, 1, true⟩ = T7 at *
    unfold qC at hT6 r6 hw r7 r2
    unfold mkQ qV at o1 o2 ⊢
    simp -implicitDefEqProofs only [go_sem, simprocAttr, wr_seq, wr_block, wr_region, wr_scope, wr_label, wr_skip, wr_exit, wr_ret, wr_cond, axCR_t, axCR_f]
    refine ax_quiet (by kernel_rfl) ?_
    simp -implicitDefEqProofs only [go_sem, simprocAttr, wr_seq, wr_block, wr_region, wr_scope, wr_label, wr_skip, wr_exit, wr_ret, wr_cond, axCR_t, axCR_f, r2]
    refine kv (o1 _) ?_
    simp -implicitDefEqProofs only [go_sem, simprocAttr, wr_seq, wr_block, wr_region, wr_scope, wr_label, wr_skip, wr_exit, wr_ret, wr_cond, axCR_t, axCR_f]
    refine kv (o2 _) ?_
    simp -implicitDefEqProofs only [go_sem, simprocAttr, wr_seq, wr_block, wr_region, wr_scope, wr_label, wr_skip, wr_exit, wr_ret, wr_cond, axCR_t, axCR_f]
    rw [← hT6]
    simp -implicitDefEqProofs only [go_sem, simprocAttr, wr_seq, wr_block, wr_region, wr_scope, wr_label, wr_skip, wr_exit, wr_ret, wr_cond, axCR_t, axCR_f, r6, hw, r7, res89]
    exact hE7
end Go.Proofs.YthhmkaikopdmjaaGreat
namespace Go.Proofs.YthhmkaikopdmjaaGreat
open Go Go.Fw
theorem Stk.pushM {T : Heap} {L0 : Nat} {x : Value} {C m : List RR} {bx ix cx : Nat} (h : Stk T L0 x C) (hx : ElAt 6 T bx ix cx (m.map RR.cells)) (h0 : m ≠ []) (hC : C.length + m.length ≤ 10000) :
    ∃ T', aAppend tt T [52, 52] x (.slice (some ⟨bx, ix, none⟩) m.length cx) = some (.slice (some ⟨T.length, 0, none⟩) (C.length + m.length) 0, T') ∧ OwnR T' T.length (C ++ m) ∧ T'.length = T.length + 1 ∧ (∀ H, H.length ≤ L0 → Ext H T → Ext H T') := by
  rcases h with ⟨rfl, rfl⟩ | ⟨b', h1, rfl, h3⟩
  · have := append_none tt52 tt90 rfl (by decide) (by decide) hx (by simpa using h0) (by simp; simp at hC; omega)
    simp only [List.length_map] at this
    refine ⟨T ++ [⟨(m.map RR.cells).flatten, 6, true⟩], by rw [this]; simp, ?_, by simp, fun H _ hE => hE.trans (.app _ _)⟩
    exact OwnR.new T m
  · have := append_T h3 hx h0 (by omega)
    refine ⟨_, this, ?_, by simp, fun H hH hE => (hE.set (by omega) _).trans (.app _ _)⟩
    have h2 := OwnR.new (T.set b' deadBlk) (C ++ m)
    rw [List.length_set] at h2
    exact h2
def endsL (a b : Rot) (l : List RR) : List RR := l.flatMap fun p => [RR.of (a.thn p.rot), RR.of (b.thn p.rot)]
theorem endsL_len (a b : Rot) (l : List RR) : (endsL a b l).length = 2 * l.length := by
  induction l with
  | nil => rfl
  | cons p l ih => unfold endsL at ih ⊢; simp only [List.flatMap_cons, List.length_append, ih, List.length_cons, List.length_nil]; omega
theorem endsL_snoc (a b : Rot) (l : List RR) (p : RR) : endsL a b (l ++ [p]) = endsL a b l ++ [RR.of (a.thn p.rot), RR.of (b.thn p.rot)] := by
  unfold endsL
  rw [List.flatMap_append]
  rfl
theorem ends_le {a b : RR} {l : List RR} {k : Nat} (ha : a.le k) (hb : b.le k) (hl : ∀ r ∈ l, r.le k) (hk : k ≤ 210) : ∀ r ∈ endsL a.rot b.rot l, r.le 2567 ∧ r.can = true := by
  intro r hr
  unfold endsL at hr
  rw [List.mem_flatMap] at hr
  obtain ⟨p, hp, hr⟩ := hr
  have hp' := hl p hp
  simp only [List.mem_cons, List.not_mem_nil, or_false] at hr
  rcases hr with rfl | rfl
  · exact ⟨(ha.sz.thn hp'.sz).le.mono (by omega), can_of _⟩
  · exact ⟨(hb.sz.thn hp'.sz).le.mono (by omega), can_of _⟩
theorem row2_at (T : Heap) (x y : RR) : ElAt 6 (T ++ [⟨x.cells ++ y.cells, 6, true⟩]) T.length 0 2 ([x, y].map RR.cells) :=
  ⟨.inr (by simp), by decide, RR.cells_all _, ⟨_, by simp; rfl, rfl, by simp [RR.cells], by simp [RR.cells]⟩, RR.cells_ok _⟩
theorem row2P (T : Heap) (x y : RR) : aBuildSlice tt T 52 2 [(0, .agg #[.bool x.g, .string (bs x.n), .string (bs x.d), .bool x.g', .string (bs x.n'), .string (bs x.d')]), (1, .agg #[.bool y.g, .string (bs y.n), .string (bs y.d), .bool y.g', .string (bs y.n'), .string (bs y.d')])] = some (.slice (some ⟨T.length, 0, none⟩) 2 2, T ++ [⟨x.cells ++ y.cells, 6, true⟩]) := rfl
def badH (D : List RR) : Prop := flatB D = true ∨ 64 < (hullL D).length
def ExcOut (e : Int) (S S2 : List RR) (w : Value) : Prop := (e ≠ 0 ∧ w = .tuple #[mkQ 0, .int .i64 e]) ∨ (e = 0 ∧ ∃ D, Dist S D ∧ ((badH D ∧ w = .tuple #[mkQ 0, .int .i64 4]) ∨ (¬ badH D ∧ ∃ D2, Dist S2 D2 ∧ ((badH D2 ∧ w = .tuple #[mkQ 0, .int .i64 4]) ∨
  (¬ badH D2 ∧ w = .tuple #[mkQ (areaR ((hullL D).map RR.rot) / 2 - areaR ((hullL D2).map RR.rot) / 2), .int .i64 0])))))
theorem hullL_sub {D : List RR} : ∀ r ∈ hullL D, r ∈ D := by
  intro r hr
  unfold hullL at hr
  rcases List.mem_append.1 hr with h | h
  · have h := (List.dropLast_sublist _).subset h
    rcases chainP_sub D [] r (by simpa using h) with h | h
    · cases h
    · exact h
  · have h := (List.dropLast_sublist _).subset h
    rcases chainP_sub D.reverse [] r (by simpa using h) with h | h
    · cases h
    · simpa using h
theorem hullL_ne {D : List RR} (h : flatB D = false) : hullL D ≠ [] := by
  have h3 : 3 ≤ D.length := by
    unfold flatB at h
    rw [Bool.or_eq_false_iff, decide_eq_false_iff_not] at h
    omega
  have := chainP_two (S := D) (by omega)
  intro e
  have e2 : (hullL D).length = 0 := by rw [e]; rfl
  unfold hullL at e2
  rw [List.length_append, List.length_dropLast, List.length_reverse] at e2
  omega
theorem area_sz {l : List RR} (h0 : l ≠ []) (hl : l.length ≤ 64) (hle : ∀ r ∈ l, r.le 2567) : Fw.Sz (areaR (l.map RR.rot) / 2) 680000 := by
  have h := smR_sz (crs_sz h0 hle) l.length
  have s2 : Fw.Sz (2 : Rat) 3 := ⟨by decide, by decide⟩
  have e : areaR (l.map RR.rot) = smR (crs l) l.length := by
    unfold areaR
    rw [List.length_map]
    rfl
  rw [e]
  obtain ⟨c, hc⟩ : ∃ c, c = 4 * 2567 + 5 + 1 := ⟨_, rfl⟩
  rw [← hc] at h
  have hn : l.length * c ≤ 64 * c := Nat.mul_le_mul_right _ hl
  have hk : l.length * c + 2 + 3 ≤ 680000 := by omega
  exact (h.div s2 (by omega)).mono hk
theorem ExcessP (H : Heap) {v : Value} {l : List RR} {a b : RR} {k : Nat} (hv : RL H v l) (hl : l.length ≤ 80) (la : a.le k) (lb : b.le k) (lp : ∀ p ∈ l, p.le k) (hk : k ≤ 210) :
    ∃ w H', Sim Tryz.prog 39 #[v, a.val, b.val] H w H' ∧ Ext H H' ∧ ExcOut (arcE a b l) (sweptL a.rot b.rot l) (endsL a.rot b.rot l) w := by
  obtain ⟨x0, cp, rfl⟩ := RL.slice hv
  have e1 : aLen tt [52] (.slice x0 l.length cp) = some (.int .i64 (l.length : Nat)) := hv.len (tt := tt) tt52
  obtain ⟨H0, hH0⟩ : ∃ H0, H0 = H ++ [(⟨a.cells, 1, true⟩ : Blk), ⟨b.cells, 1, true⟩, ⟨[.bool false, .string (bs []), .string (bs [])], 1, true⟩] := ⟨_, rfl⟩
  have hE0 : Ext H H0 := by rw [hH0]; exact .app _ _
  have hc0 : H0[H.length + 2]? = some ⟨qC 0, 1, true⟩ := by rw [hH0, qC_zero]; simp
  have ha0 : H0[H.length]? = some ⟨a.cells, 1, true⟩ := by rw [hH0]; simp
  have hb0 : H0[H.length + 1]? = some ⟨b.cells, 1, true⟩ := by rw [hH0]; simp
  have hl0 : H0.length = H.length + 3 := by rw [hH0]; simp
  obtain ⟨w1, T1, o1, hE1, hres⟩ := ArcP H0 (hv.ext hE0) hl la lb lp hk
  have res : ∀ T q, Ext H0 T → ∃ T', wr T (H.length + 2) 0 (qC q) = some T' ∧ rd T' (H.length + 2) 0 3 = some (qC q) ∧ Ext H T' := by
    intro T q hT
    have f := hT.get hc0
    refine ⟨T.set (H.length + 2) ⟨qC q, 1, true⟩, by rw [wr_at f rfl (by simp [qC]) rfl]; rfl, ?_, (hE0.trans hT).set (by omega) _⟩
    unfold rd
    rw [List.getElem?_set_self (List.getElem?_eq_some_iff.1 f).1]; rfl
  have hbz : ∀ K : Value → Prop, K (mkQ 0) → K (.agg #[.bool false, .string (bs []), .string (bs [])]) := fun K h => by rw [mkQ_zero] at h; exact h
  have hq0 : mkQ 0 = .agg #[.bool false, .string (bs []), .string (bs [])] := by rw [mkQ_zero]; rfl
  have hqc0 : qC 0 = [.bool false, .string (bs []), .string (bs [])] := qC_zero
  unfold RR.cells at hH0
  rcases hres with ⟨hz, rfl⟩ | ⟨hz, D, hd, hres⟩
  · obtain ⟨T', w1, w2, w3⟩ := res T1 0 hE1
    rw [hqc0] at w1 w2
    generalize arcE a b l = z at *
    have hg : ExcOut z (sweptL a.rot b.rot l) (endsL a.rot b.rot l) (.tuple #[.agg #[.bool false, .string (bs []), .string (bs [])], .int .i64 z]) := .inl ⟨hz, by rw [hq0]⟩
    unfold RR.val rV at *
    refine sxA tok mixed Tryz.func39 ?_
    simp -implicitDefEqProofs only [go_sem, simprocAttr]
    rw [← hH0]
    refine kl o1 ?_
    simp -implicitDefEqProofs only [go_sem, simprocAttr, wa_cond, axC_t, axC_f, hz, w1, w2, res39]
    exact ⟨w3, hg⟩
  rw [hz]
  obtain ⟨-, ea, eb, ht⟩ := arcE_zero hz
  have hz4 : ¬ (4 : Int) = 0 := by decide
  rcases hres with ⟨hbad, rfl⟩ | ⟨hf, h64, bA, hbA, rfl, htopA⟩
  · obtain ⟨T', w1, w2, w3⟩ := res T1 0 hE1
    rw [hqc0] at w1 w2
    have hg : ExcOut 0 (sweptL a.rot b.rot l) (endsL a.rot b.rot l) (.tuple #[.agg #[.bool false, .string (bs []), .string (bs [])], .int .i64 4]) := .inr ⟨rfl, D, hd, .inl ⟨hbad, by rw [hq0]⟩⟩
    generalize sweptL a.rot b.rot l = S1 at *
    generalize endsL a.rot b.rot l = S2 at *
    unfold RR.val rV at *
    refine sxA tok mixed Tryz.func39 ?_
    simp -implicitDefEqProofs only [go_sem, simprocAttr]
    rw [← hH0]
    refine kl o1 ?_
    simp -implicitDefEqProofs only [go_sem, simprocAttr, wa_cond, axC_t, axC_f, w1, w2, res39]
    exact ⟨w3, hg⟩
  have hgood : ¬ badH D := by
    rintro (h | h)
    · rw [hf] at h; cases h
    · omega
  have h1 : l ≠ [] := by
    rintro rfl
    have := (arcE_zero hz).1
    unfold chkC at this
    simp at this
  have hRla := hv.ext hE0
  have hA1 := hullL_ne hf
  have hsl := endsL_len a.rot b.rot l
  have hele := ends_le la lb lp hk
  have hsle := swept_le la lb lp hk
  unfold RR.val rV at o1 ⊢
  refine sxA tok mixed Tryz.func39 ?_
  simp -implicitDefEqProofs only [go_sem, simprocAttr]
  rw [← hH0]
  refine kl o1 ?_
  simp -implicitDefEqProofs only [go_sem, simprocAttr, wa_cond, axC_t, axC_f, e1]
  refine ax_loopx (fun (i : Nat) s T => ∃ x, s 0 = .slice x0 l.length cp ∧ s 4 = .pointer (some ⟨H.length, 0, none⟩) ∧ s 5 = .pointer (some ⟨H.length + 1, 0, none⟩) ∧ s 6 = .pointer (some ⟨H.length + 2, 0, none⟩) ∧ s 8 = .slice (some ⟨bA, 0, none⟩) (hullL D).length 0 ∧
    s 10 = x ∧ s 29 = .slice x0 l.length cp ∧ s 30 = .int .i64 (l.length : Nat) ∧ s 31 = .int .i64 (i : Nat) ∧ i ≤ l.length ∧ Stk T T1.length x (endsL a.rot b.rot (l.take i)) ∧ Ext T1 T) (fun i => l.length - i) 0 ?_ ?_
  · simp -implicitDefEqProofs only [go_sem, simprocAttr]
    exact ⟨_, rfl, .inl ⟨rfl, by simp [endsL]⟩, .refl _⟩
  rintro i s T ⟨x, s0, s4, s5, s6, s8, s10, s29, s30, s31, hi, hstk, hT⟩
  simp -implicitDefEqProofs only [go_sem, simprocAttr, s30, s31]
  have hE0T : Ext H0 T := hE1.trans hT
  refine ax_cond2 ?_
  simp only [ev_tmp, ev_const, ev_func, upd_at, put_some, put_none, bndB_bool, Nat.reduceEqDiff, if_true, if_false, ↓reduceIte, reduceCtorEq]
  refine ⟨fun hc0 => have hlt := of_decide_eq_true hc0; ?_, fun hc0 => have hlt := of_decide_eq_false hc0; ?_⟩
  · have hil : i < l.length := by omega
    obtain ⟨b', i0, c', hx0, hA⟩ := (hRla.ext hE0T).at h1
    injection hx0 with hx0 _ hcc
    subst hx0 hcc
    have r1 := hA.rdR hil
    have hp := lp _ (List.getElem_mem hil)
    have o2 := fun H => ApplyR H la hp (by omega) ea
    have o3 := fun H => ApplyR H lb hp (by omega) eb
    have ra : ∀ B, rd (T ++ B) H.length 0 6 = some [.bool a.g, .string (bs a.n), .string (bs a.d), .bool a.g', .string (bs a.n'), .string (bs a.d')] := fun B => rd_more (by unfold rd; rw [hE0T.get ha0]; rfl) B
    have rb : ∀ B, rd (T ++ B) (H.length + 1) 0 6 = some [.bool b.g, .string (bs b.n), .string (bs b.d), .bool b.g', .string (bs b.n'), .string (bs b.d')] := fun B => rd_more (by unfold rd; rw [hE0T.get hb0]; rfl) B
    have htk := List.take_append_getElem hil
    have hsn := endsL_snoc a.rot b.rot (l.take i) l[i]
    rw [htk] at hsn
    have hel := endsL_len a.rot b.rot (l.take i)
    rw [List.length_take] at hel
    generalize a.rot.thn l[i].rot = xa at *
    generalize b.rot.thn l[i].rot = xb at *
    generalize l[i] = p at *
    obtain ⟨T5, hT5⟩ : ∃ T5, T5 = T ++ [(⟨p.cells, 1, true⟩ : Blk), ⟨(RR.of xa).cells, 1, true⟩, ⟨(RR.of xb).cells, 1, true⟩] := ⟨_, rfl⟩
    have hk5 : Stk (T5 ++ [⟨(RR.of xa).cells ++ (RR.of xb).cells, 6, true⟩]) T1.length x (endsL a.rot b.rot (l.take i)) := by rw [hT5]; exact (hstk.app _).app _
    obtain ⟨T7, p1, p2, p3, p4⟩ := hk5.pushM (row2_at T5 (RR.of xa) (RR.of xb)) (by simp) (by rw [hel]; simp; omega)
    have hT5e : Ext T1 T5 := by rw [hT5]; exact hT.trans (.app _ _)
    have hT7 := p4 T1 (Nat.le_refl _) (hT5e.trans (.app _ _))
    have row := row2P T5 (RR.of xa) (RR.of xb)
    have hT6l : T1.length ≤ (T5 ++ [(⟨(RR.of xa).cells ++ (RR.of xb).cells, 6, true⟩ : Blk)]).length := (hT5e.trans (.app _ _)).len
    have m1 : IntKind.i64.wrap ((i : Int) + 1) = ((i + 1 : Nat) : Int) := by rw [w64 (by omega) (by omega)]; rfl
    have hnn : (0 : Int) ≤ (i : Int) := by omega
    have hlt2 : (i : Int) < (l.length : Int) := by omega
    have hlen5 : T5.length = T.length + 3 := by rw [hT5]; simp
    have q1 : rd T5 (T.length + 1) 0 6 = some (RR.of xa).cells := by rw [hT5]; unfold rd; simp [RR.cells]
    have q2 : rd T5 (T.length + 2) 0 6 = some (RR.of xb).cells := by rw [hT5]; unfold rd; simp [RR.cells]
    generalize hya : RR.of xa = ya at *
    generalize hyb : RR.of xb = yb at *
    generalize T5 ++ [(⟨ya.cells ++ yb.cells, 6, true⟩ : Blk)] = T6 at *
    unfold RR.cells at r1 hT5 q1 q2
    unfold RR.val rV at o2 o3
    simp -implicitDefEqProofs only [go_sem, simprocAttr, s0, s4, s5, s29, s31, aIndexAddr, hnn, hlt2, r1, ra]
    refine kv (o2 _) ?_
    simp -implicitDefEqProofs only [go_sem, simprocAttr, s4, s5, ra, rb]
    refine kv (o3 _) ?_
    simp -implicitDefEqProofs only [go_sem, simprocAttr, s4, s5, ra, rb]
    rw [← hT5]
    simp only [List.length_cons, List.length_nil, Nat.zero_add, Nat.reduceAdd] at p1
    simp -implicitDefEqProofs only [go_sem, simprocAttr, s0, s4, s5, s6, s8, s10, s29, s30, s31, q1, q2, row, p1, m1]
    refine ⟨i + 1, ⟨_, rfl, ?_, by omega, ?_, hT7⟩, by omega⟩
    · rfl
    rw [hsn]
    refine .inr ⟨T6.length, ?_, ?_, OwnR.top p2⟩
    · exact hT6l
    · rw [List.length_append]; rfl
  · have : i = l.length := by omega
    subst this
    rw [List.take_length] at hstk
    have hne : endsL a.rot b.rot l ≠ [] := by
      intro h
      rw [h] at hsl
      have := List.length_pos_iff.2 h1
      simp at hsl; omega
    obtain ⟨w2, T2, o2, hE2, hres⟩ := OfP T hstk.rl hne (fun r hr => (hele r hr).1) (by omega) (by omega) (fun r hr => (hele r hr).2)
    have hE12 : Ext T1 T2 := hT.trans hE2
    obtain ⟨D2, hd2, hres⟩ := hres
    have bad : badH D2 → ∀ z : Int, w2 = .tuple #[.slice none 0 0, .int .i64 z] → z ≠ 0 → True := fun _ _ _ _ => trivial
    clear bad
    have fin4 : badH D2 → ExcOut 0 (sweptL a.rot b.rot l) (endsL a.rot b.rot l) (.tuple #[.agg #[.bool false, .string (bs []), .string (bs [])], .int .i64 4]) := fun h => .inr ⟨rfl, D, hd, .inr ⟨hgood, D2, hd2, .inl ⟨h, by rw [hq0]⟩⟩⟩
    have fin0 : ¬ badH D2 → ExcOut 0 (sweptL a.rot b.rot l) (endsL a.rot b.rot l) (.tuple #[mkQ (areaR ((hullL D).map RR.rot) / 2 - areaR ((hullL D2).map RR.rot) / 2), .int .i64 0]) := fun h => .inr ⟨rfl, D, hd, .inr ⟨hgood, D2, hd2, .inr ⟨h, rfl⟩⟩⟩
    have hD : ∀ r ∈ hullL D, r.le 2567 := fun r hr => (hsle r ((hd.mem r).1 (hullL_sub r hr))).1
    have hD2 : ∀ r ∈ hullL D2, r.le 2567 := fun r hr => (hele r ((hd2.mem r).1 (hullL_sub r hr))).1
    generalize sweptL a.rot b.rot l = S1 at *
    generalize endsL a.rot b.rot l = S2 at *
    rcases hres with ⟨hf2, rfl⟩ | ⟨hf2, h642, rfl⟩ | ⟨hf2, h642, b2, hb2, rfl, htop2⟩
    · obtain ⟨T', w1, w2, w3⟩ := res T2 0 (hE1.trans hE12)
      rw [hqc0] at w1 w2
      simp -implicitDefEqProofs only [go_sem, simprocAttr, s10]
      refine kl o2 ?_
      simp -implicitDefEqProofs only [go_sem, simprocAttr, wa_cond, axC_t, axC_f, s6, w1, w2, res39]
      exact ⟨w3, fin4 (.inl hf2)⟩
    · obtain ⟨T', w1, w2, w3⟩ := res T2 0 (hE1.trans hE12)
      rw [hqc0] at w1 w2
      simp -implicitDefEqProofs only [go_sem, simprocAttr, s10]
      refine kl o2 ?_
      simp -implicitDefEqProofs only [go_sem, simprocAttr, wa_cond, axC_t, axC_f, s6, w1, w2, res39]
      exact ⟨w3, fin4 (.inr h642)⟩
    · have hg2 : ¬ badH D2 := by
        rintro (h | h)
        · rw [hf2] at h; cases h
        · omega
      have o3 := AreaP T2 (htopA.ext hE12).rl hA1 h64 hD (by omega)
      have o4 := AreaP T2 htop2.rl (hullL_ne hf2) h642 hD2 (by omega)
      have o5 := subQ T2 (area_sz hA1 h64 hD).qv (area_sz (hullL_ne hf2) h642 hD2).qv (by omega) (by omega)
      obtain ⟨T', w1, w2, w3⟩ := res T2 (areaR ((hullL D).map RR.rot) / 2 - areaR ((hullL D2).map RR.rot) / 2) (hE1.trans hE12)
      have hfin := fin0 hg2
      clear fin0 fin4
      generalize areaR ((hullL D).map RR.rot) / 2 - areaR ((hullL D2).map RR.rot) / 2 = q3 at *
      generalize areaR ((hullL D).map RR.rot) / 2 = q1 at *
      generalize areaR ((hullL D2).map RR.rot) / 2 = q2 at *
      unfold qC at w1 w2
      unfold mkQ qV at o3 o4 o5 hfin
      simp -implicitDefEqProofs only [go_sem, simprocAttr, s10]
      refine kl o2 ?_
      simp -implicitDefEqProofs only [go_sem, simprocAttr, wa_cond, axC_t, axC_f, s6, s8]
      refine kv o3 ?_
      simp -implicitDefEqProofs only [go_sem, simprocAttr, wa_cond, axC_t, axC_f, s6, s8]
      refine kv o4 ?_
      simp -implicitDefEqProofs only [go_sem, simprocAttr, wa_cond, axC_t, axC_f, s6, s8]
      refine kv o5 ?_
      simp -implicitDefEqProofs only [go_sem, simprocAttr, wa_cond, axC_t, axC_f, s6, w1, w2, res39]
      exact ⟨w3, hfin⟩
end Go.Proofs.YthhmkaikopdmjaaGreat
namespace Go.Proofs.YthhmkaikopdmjaaGreat
open Go Go.Fw
def turnL (r : Rot) (l : List RR) : List RR := l.map fun p => RR.of (r.thn p.rot)
theorem SameP (H : Heap) {v w : Value} {l m : List RR} (hv : RL H v l) (hw : RL H w m) (hl : l.length ≤ 1000000) : Sim Tryz.prog 40 #[v, w] H (.bool (decide (l = m))) H := by
  have o1 := equalP H hv hw hl
  refine soA tok mixed Tryz.func40 ?_
  simp -implicitDefEqProofs only [go_sem, simprocAttr]
  refine kv o1 ?_
  simp -implicitDefEqProofs only [go_sem, simprocAttr, res40]
theorem turnedP (H : Heap) {v : Value} {l : List RR} {r : RR} {k : Nat} (hv : RL H v l) (hl : l.length ≤ 1000) (lr : r.le k) (lp : ∀ p ∈ l, p.le k) (hk : k ≤ 19000) (er : r.err = 0) :
    ∃ w H', Sim Tryz.prog 38 #[v, r.val] H w H' ∧ Ext H H' ∧ Stk H' H.length w (turnL r.rot l) := by
  obtain ⟨x0, cp, rfl⟩ := RL.slice hv
  have e1 : aLen tt [52] (.slice x0 l.length cp) = some (.int .i64 (l.length : Nat)) := hv.len (tt := tt) tt52
  obtain ⟨H0, hH0⟩ : ∃ H0, H0 = H ++ [(⟨r.cells, 1, true⟩ : Blk)] := ⟨_, rfl⟩
  have hE0 : Ext H H0 := by rw [hH0]; exact .app _ _
  have ha0 : H0[H.length]? = some ⟨r.cells, 1, true⟩ := by rw [hH0]; simp
  have hl0 := hE0.len
  unfold RR.cells at hH0
  unfold RR.val rV
  refine sxA tok mixed Tryz.func38 ?_
  simp -implicitDefEqProofs only [go_sem, simprocAttr, e1]
  rw [← hH0]
  refine ax_loopx (fun (i : Nat) s T => ∃ x, s 3 = .pointer (some ⟨H.length, 0, none⟩) ∧ s 5 = x ∧ s 10 = .slice x0 l.length cp ∧ s 11 = .int .i64 (l.length : Nat) ∧ s 12 = .int .i64 (i : Nat) ∧ i ≤ l.length ∧ Stk T H0.length x (turnL r.rot (l.take i)) ∧ Ext H0 T) (fun i => l.length - i) 0 ?_ ?_
  · simp -implicitDefEqProofs only [go_sem, simprocAttr]
    exact ⟨_, rfl, .inl ⟨rfl, by simp [turnL]⟩, .refl _⟩
  rintro i s T ⟨x, s3, s5, s10, s11, s12, hi, hstk, hT⟩
  simp -implicitDefEqProofs only [go_sem, simprocAttr, s11, s12]
  refine ax_cond2 ?_
  simp only [ev_tmp, ev_const, ev_func, upd_at, put_some, put_none, bndB_bool, Nat.reduceEqDiff, if_true, if_false, ↓reduceIte, reduceCtorEq]
  refine ⟨fun hc0 => have hlt := of_decide_eq_true hc0; ?_, fun hc0 => have hlt := of_decide_eq_false hc0; ?_⟩
  · have hil : i < l.length := by omega
    obtain ⟨b', i0, c', hx0, hA⟩ := ((hv.ext hE0).ext hT).at (by rintro rfl; simp at hil)
    injection hx0 with hx0 _ hcc
    subst hx0 hcc
    have r1 := hA.rdR hil
    have o2 := fun H => ApplyR H lr (lp _ (List.getElem_mem hil)) (by omega) er
    have ra : ∀ B, rd (T ++ B) H.length 0 6 = some [.bool r.g, .string (bs r.n), .string (bs r.d), .bool r.g', .string (bs r.n'), .string (bs r.d')] := fun B => rd_more (by unfold rd; rw [hT.get ha0]; rfl) B
    have htk := List.take_append_getElem hil
    have hsn : turnL r.rot (l.take i ++ [l[i]]) = turnL r.rot (l.take i) ++ [RR.of (r.rot.thn l[i].rot)] := by unfold turnL; rw [List.map_append]; rfl
    rw [htk] at hsn
    have hel : (turnL r.rot (l.take i)).length = i := by simp [turnL]; omega
    generalize r.rot.thn l[i].rot = xa at *
    generalize l[i] = p at *
    obtain ⟨T5, hT5⟩ : ∃ T5, T5 = T ++ [(⟨p.cells, 1, true⟩ : Blk), ⟨(RR.of xa).cells, 1, true⟩] := ⟨_, rfl⟩
    have hk5 : Stk T5 H0.length x (turnL r.rot (l.take i)) := by rw [hT5]; exact hstk.app _
    have hT5e : Ext H0 T5 := by rw [hT5]; exact hT.trans (.app _ _)
    have hlen5 : H0.length ≤ T5.length := hT5e.len
    obtain ⟨T7, p1, p2, p3, p4, p5⟩ := hk5.push (RR.of xa) (by rw [hel]; omega)
    have row := row1P' T5 (RR.of xa)
    have m1 : IntKind.i64.wrap ((i : Int) + 1) = ((i + 1 : Nat) : Int) := by rw [w64 (by omega) (by omega)]; rfl
    have hnn : (0 : Int) ≤ (i : Int) := by omega
    have hlt2 : (i : Int) < (l.length : Int) := by omega
    have q1 : rd T5 (T.length + 1) 0 6 = some (RR.of xa).cells := by rw [hT5]; unfold rd; simp [RR.cells]
    have hT7 : Ext H0 T7 := p5 H0 (Nat.le_refl _) hT5e
    generalize hya : RR.of xa = ya at *
    generalize T5 ++ [(⟨ya.cells, 6, true⟩ : Blk)] = T6 at *
    unfold RR.cells at r1 hT5 q1
    unfold RR.val rV at o2
    simp -implicitDefEqProofs only [go_sem, simprocAttr, s3, s5, s10, s12, aIndexAddr, hnn, hlt2, r1, ra]
    refine kv (o2 _) ?_
    simp -implicitDefEqProofs only [go_sem, simprocAttr, s3, s5, s10, s11, s12, ra]
    rw [← hT5]
    simp -implicitDefEqProofs only [go_sem, simprocAttr, s3, s5, s10, s11, s12, q1, row, p1, m1]
    refine ⟨i + 1, ⟨_, rfl, rfl, by omega, ?_, hT7⟩, by omega⟩
    rw [hsn]
    exact .inr ⟨T5.length + 1, by omega, by rw [List.length_append]; rfl, OwnR.top p2⟩
  · have : i = l.length := by omega
    subst this
    rw [List.take_length] at hstk
    simp -implicitDefEqProofs only [go_sem, simprocAttr, s5, res38]
    exact ⟨hE0.trans hT, hstk.mono hl0⟩
def LeastAt (l : List RR) (w : Value) : Prop := ∃ j : Nat, w = .int .i64 (j : Nat) ∧ j < l.length ∧ ∀ i (hi : i < l.length), ¬ (l[i]).rot.plt (l.getD j rr0).rot
theorem firstP (H : Heap) {v : Value} {l : List RR} {k : Nat} (hv : RL H v l) (h0 : l ≠ []) (hl : l.length ≤ 1000) (hle : ∀ r ∈ l, r.le k) (hk : k ≤ 1100000) :
    ∃ w H', Sim Tryz.prog 91 #[v] H w H' ∧ Ext H H' ∧ LeastAt l w := by
  have e1 := hv.len (tt := tt) tt52
  have hn := List.length_pos_iff.2 h0
  obtain ⟨b', i0, c', rfl, hA0⟩ := hv.at h0
  refine sxA tok mixed Tryz.func91 ?_
  simp -implicitDefEqProofs only [go_sem, simprocAttr, e1]
  refine ax_loopx (fun (i : Nat) s T => ∃ j : Nat, s 0 = .slice (some ⟨b', i0, none⟩) l.length c' ∧ s 3 = .int .i64 (j : Nat) ∧ s 6 = .slice (some ⟨b', i0, none⟩) l.length c' ∧ s 7 = .int .i64 (l.length : Nat) ∧ s 8 = .int .i64 (i : Nat) ∧ i ≤ l.length ∧ j < l.length ∧
    (∀ i' (hi : i' < l.length), i' < i → ¬ (l[i']).rot.plt (l.getD j rr0).rot) ∧ Ext H T) (fun i => l.length - i) 0 ?_ ?_
  · simp -implicitDefEqProofs only [go_sem, simprocAttr]
    exact ⟨0, rfl, hn, fun i' hi h => absurd h (by omega), .refl _⟩
  rintro i s T ⟨j, s0, s3, s6, s7, s8, hi, hj, hmin, hT⟩
  simp -implicitDefEqProofs only [go_sem, simprocAttr, s7, s8]
  refine ax_cond2 ?_
  simp only [ev_tmp, ev_const, ev_func, upd_at, put_some, put_none, bndB_bool, Nat.reduceEqDiff, if_true, if_false, ↓reduceIte, reduceCtorEq]
  refine ⟨fun hc0 => have hlt := of_decide_eq_true hc0; ?_, fun hc0 => have hlt := of_decide_eq_false hc0; ?_⟩
  · have hil : i < l.length := by omega
    have hA := hA0.ext hT
    have r1 := hA.rdR hil
    have r2 := fun B => rd_more (hA.rdR hj) B
    have o1 := fun H => compareP H (hle _ (List.getElem_mem hil)) (hle _ (List.getElem_mem hj)) hk
    have gj := getD_eq hj
    have gi := getD_eq hil
    have hneg := pcmp_neg (a := l[i].rot) (b := l[j].rot)
    have hnew : ∀ q : RR, l[i] = q → (∀ i' (hi : i' < l.length), i' < i → ¬ (l[i']).rot.plt l[j].rot) → q.rot.plt l[j].rot → ∀ i' (hi : i' < l.length), i' < i + 1 → ¬ (l[i']).rot.plt q.rot := by
      intro q hq hm hlt i' hi' hii
      by_cases e : i' = i
      · subst e; rw [hq]; exact plt_irrefl _
      · exact fun h => hm i' hi' (by omega) (plt_trans h hlt)
    have hold : ¬ (l[i]).rot.plt l[j].rot → (∀ i' (hi : i' < l.length), i' < i → ¬ (l[i']).rot.plt l[j].rot) → ∀ i' (hi : i' < l.length), i' < i + 1 → ¬ (l[i']).rot.plt l[j].rot := by
      intro hn' hm i' hi' hii
      by_cases e : i' = i
      · subst e; exact hn'
      · exact hm i' hi' (by omega)
    rw [gj] at hmin
    have hnew' := hnew _ rfl hmin
    have hold' := fun h => hold h hmin
    clear hnew hold hmin
    have m1 : IntKind.i64.wrap ((i : Int) + 1) = ((i + 1 : Nat) : Int) := by rw [w64 (by omega) (by omega)]; rfl
    have hnn : (0 : Int) ≤ (i : Int) := by omega
    have hlt2 : (i : Int) < (l.length : Int) := by omega
    have hnn2 : (0 : Int) ≤ (j : Int) := by omega
    have hlt3 : (j : Int) < (l.length : Int) := by omega
    generalize hx : l[i] = x at *
    generalize hy : l[j] = y at *
    generalize pcmp x.rot y.rot = z at *
    unfold RR.cells at r1 r2
    unfold RR.val rV at o1
    simp -implicitDefEqProofs only [go_sem, simprocAttr, s0, s3, s6, s8, aIndexAddr, hnn, hlt2, r1]
    refine ax_quiet (by kernel_rfl) ?_
    simp -implicitDefEqProofs only [go_sem, simprocAttr, s0, s3, s6, s8, aIndexAddr, hnn2, hlt3, r2]
    refine kv (o1 _) ?_
    by_cases hz : z < 0
    · simp -implicitDefEqProofs only [go_sem, simprocAttr, wa_cond, axC_t, axC_f, hz, s0, s3, s6, s7, s8, m1]
      refine ⟨i + 1, ⟨i, rfl, rfl, by omega, hil, ?_, hT.trans (.app _ _)⟩, by omega⟩
      rw [gi]
      exact hnew' (hneg.1 hz)
    · simp -implicitDefEqProofs only [go_sem, simprocAttr, wa_cond, axC_t, axC_f, hz, s0, s3, s6, s7, s8, m1]
      refine ⟨i + 1, ⟨j, rfl, rfl, by omega, hj, ?_, hT.trans (.app _ _)⟩, by omega⟩
      rw [gj]
      exact hold' (fun h => hz (hneg.2 h))
  · have : i = l.length := by omega
    subst this
    simp -implicitDefEqProofs only [go_sem, simprocAttr, s3, res91]
    exact ⟨hT, j, rfl, hj, fun i' hi' => hmin i' hi' hi'⟩
end Go.Proofs.YthhmkaikopdmjaaGreat
namespace Go.Proofs.YthhmkaikopdmjaaGreat
open Go Go.Fw
theorem rcanonical1 (H : Heap) {r : RR} {k : Nat} (hr : r.le k) (hk : k ≤ 100000) : Sim Tryz.prog 141 #[r.val] H (.bool (!r.can)) H := by
  refine flat_ex rfl ?_
  have o1 := fun H => vcheckP H hr hk
  generalize r.can = z at *
  unfold RR.val rV at *
  cases z
  all_goals
    refine sxA tok mixed Tryz.func141 ?_
    simp -implicitDefEqProofs only [go_sem, simprocAttr, UU]
    refine kv (o1 _) ?_
    simp -implicitDefEqProofs only [go_sem, simprocAttr, UU, Bool.not_true, Bool.not_false]
    simp -implicitDefEqProofs only [go_sem, simprocAttr, UU, res141]
    first | exact .app _ _ | exact ⟨.app _ _, rfl⟩ | exact .refl _ | exact ⟨.refl _, rfl⟩
theorem rcanonicalP (H : Heap) {v : Value} {l : List RR} {k : Nat} (hv : RL H v l) (hle : ∀ r ∈ l, r.le k) (hk : k ≤ 100000) (hl : l.length ≤ 1000000) : Sim Tryz.prog 83 #[v] H (.bool (l.all RR.can)) H := by
  have o1 := containsFuncP H (g := 141) (cap := #[]) (p := fun r => !r.can) hv hl (fun x hx => rcanonical1 _ (hle x hx) hk)
  have e : (l.all RR.can) = !(l.any fun r => !r.can) := by simp [List.not_any_eq_all_not]
  rw [e]
  generalize (l.any fun r => !r.can) = g at *
  refine soA tok mixed Tryz.func83 ?_
  simp -implicitDefEqProofs only [go_sem, simprocAttr]
  refine kv o1 ?_
  simp -implicitDefEqProofs only [go_sem, simprocAttr, res83]
theorem corner1 (H : Heap) {a b c : RR} {k : Nat} (la : a.le k) (lb : b.le k) (lc : c.le k) (hk : k ≤ 130000) (h1 : b ≠ c) (h2 : cmpQ (ori a.rot b.rot c.rot) 0 ≠ 0) : Sim Tryz.prog 85 #[a.val, b.val, c.val] H (.bool false) H := by
  refine flat_ex rfl ?_
  have o1 := fun H => orientP H la lb lc hk
  have q1 := eq90 b c
  rw [decide_eq_false h1] at q1
  generalize cmpQ (ori a.rot b.rot c.rot) 0 = z at *
  unfold RR.val rV at *
  refine sxA tok mixed Tryz.func85 ?_
  simp -implicitDefEqProofs only [go_sem, simprocAttr, UU, q1]
  refine kv (o1 _) ?_
  simp -implicitDefEqProofs only [go_sem, simprocAttr, UU, h2]
  simp -implicitDefEqProofs only [go_sem, simprocAttr, UU, res85]
  first | exact .app _ _ | exact ⟨.app _ _, rfl⟩ | exact .refl _ | exact ⟨.refl _, rfl⟩
def prevI (l : List RR) (i : Nat) : Nat := (i + l.length - 1) % l.length
theorem simplifyP (H : Heap) {v : Value} {l : List RR} {k : Nat} (hv : RL H v l) (h3 : 3 ≤ l.length) (hl : l.length ≤ 1000) (hle : ∀ r ∈ l, r.le k) (hk : k ≤ 130000)
    (hc : ∀ i, i < l.length → l.getD i rr0 ≠ l.getD (nextR l i) rr0 ∧ cmpQ (ori (l.getD (prevI l i) rr0).rot (l.getD i rr0).rot (l.getD (nextR l i) rr0).rot) 0 ≠ 0) :
    ∃ w H', Sim Tryz.prog 84 #[v, .func (.func 85) #[] #[]] H w H' ∧ Ext H H' ∧ ∃ b', H.length ≤ b' ∧ w = .slice (some ⟨b', 0, none⟩) l.length 0 ∧ OwnR H' b' l := by
  have h0 : l ≠ [] := by rintro rfl; simp at h3
  obtain ⟨b, i0, c, rfl, hA⟩ := hv.at h0
  obtain ⟨w1, T1, o1, hE1, b1, hb1, rfl, hown⟩ := cloneP H hA h0 (by omega)
  have e1 : ∀ n, aLen tt [52] (.slice (some ⟨b1, 0, none⟩) n 0) = some (.int .i64 (n : Nat)) := fun _ => rfl
  refine sim_exR tok mixed Tryz.func84 ?_
  simp -implicitDefEqProofs only [go_sem, simprocAttr, wr_seq, wr_block, wr_region, wr_scope, wr_label, wr_skip, wr_exit, wr_ret, wr_cond, axCR_t, axCR_f]
  refine kl o1 ?_
  simp -implicitDefEqProofs only [go_sem, simprocAttr, wr_seq, wr_block, wr_region, wr_scope, wr_label, wr_skip, wr_exit, wr_ret, wr_cond, axCR_t, axCR_f, e1]
  refine axR_loopx (fun (i : Nat) s T => s 0 = .slice (some ⟨b1, 0, none⟩) l.length 0 ∧ s 1 = .func (.func 85) #[] #[] ∧ s 5 = .int .i64 (l.length : Nat) ∧ s 6 = .int .i64 (i : Nat) ∧ i ≤ l.length ∧ T = T1) (fun i => l.length - i) 0 ?_ ?_
  · simp -implicitDefEqProofs only [go_sem, simprocAttr]
  rintro i s T ⟨s0, s1, s5, s6, hi, rfl⟩
  have d3 : (3 : Int) ≤ (l.length : Int) := by omega
  by_cases hil : i < l.length
  case neg =>
    have : i = l.length := by omega
    subst this
    have dl : ¬ (l.length : Int) < (l.length : Int) := by omega
    simp -implicitDefEqProofs only [go_sem, simprocAttr, wr_seq, wr_block, wr_region, wr_scope, wr_label, wr_skip, wr_exit, wr_ret, wr_cond, axCR_t, axCR_f, s5, s6, d3, dl, s0, res84]
    exact ⟨hE1, b1, hb1, rfl, hown⟩
  have dl : (i : Int) < (l.length : Int) := by omega
  have hj := nextR_lt h0 i
  have hp : prevI l i < l.length := Nat.mod_lt _ (List.length_pos_iff.2 h0)
  have hA1 := Own.at hown (c := 0) (.inl rfl)
  have r1 := hA1.rdR hil
  have r2 := hA1.rdR hj
  have r3 := hA1.rdR hp
  obtain ⟨k1, k2⟩ := hc i hil
  have o2 := fun H => corner1 H (hle _ (List.getElem_mem hp)) (hle _ (List.getElem_mem hil)) (hle _ (List.getElem_mem hj)) hk (by rw [getD_eq hil, getD_eq hj] at k1; exact k1) (by rw [getD_eq hil, getD_eq hj, getD_eq hp] at k2; exact k2)
  have m1 : IntKind.i64.wrap ((i : Int) + 1) = ((i + 1 : Nat) : Int) := by rw [w64 (by omega) (by omega)]; rfl
  have m2 : Int.tmod ((i + 1 : Nat) : Int) (l.length : Int) = ((nextR l i : Nat) : Int) := by rw [tmod_nat]; rfl
  have m3 : ¬ (l.length : Int) = 0 := by omega
  have m4 : IntKind.i64.wrap ((i : Int) + (l.length : Int)) = ((i + l.length : Nat) : Int) := by rw [w64 (by omega) (by omega)]; omega
  have m5 : IntKind.i64.wrap (((i + l.length : Nat) : Int) - 1) = ((i + l.length - 1 : Nat) : Int) := by rw [w64 (by omega) (by omega)]; omega
  have m6 : Int.tmod ((i + l.length - 1 : Nat) : Int) (l.length : Int) = ((prevI l i : Nat) : Int) := by rw [tmod_nat]; rfl
  have hnn : (0 : Int) ≤ (i : Int) := by omega
  have hnn2 : (0 : Int) ≤ (nextR l i : Int) := by omega
  have hlt2 : (nextR l i : Int) < (l.length : Int) := by omega
  have hnn3 : (0 : Int) ≤ (prevI l i : Int) := by omega
  have hlt3 : (prevI l i : Int) < (l.length : Int) := by omega
  clear hc k1 k2
  generalize l[i] = x at *
  generalize l[nextR l i] = y at *
  generalize l[prevI l i] = z at *
  generalize nextR l i = j at *
  generalize prevI l i = jp at *
  unfold RR.cells at r1 r2 r3
  simp only [Nat.zero_add] at r1 r2 r3
  unfold RR.val rV at o2
  simp -implicitDefEqProofs only [go_sem, simprocAttr, wr_seq, wr_block, wr_region, wr_scope, wr_label, wr_skip, wr_exit, wr_ret, wr_cond, axCR_t, axCR_f, s5, s6, d3, dl]
  refine ax_quiet (by kernel_rfl) ?_
  simp -implicitDefEqProofs only [go_sem, simprocAttr, wr_seq, wr_block, wr_region, wr_scope, wr_label, wr_skip, wr_exit, wr_ret, wr_cond, axCR_t, axCR_f, s0, s1, s5, s6, aIndexAddr, m1, m2, m3, m4, m5, m6, hnn, dl, hnn2, hlt2, hnn3, hlt3, r1, r2, r3]
  refine wl_callC 85 #[] (by simp -implicitDefEqProofs only [go_sem, simprocAttr, s1]) _ (by simp -implicitDefEqProofs only [go_sem, simprocAttr]) (o2 _) ?_
  simp -implicitDefEqProofs only [go_sem, simprocAttr, wr_seq, wr_block, wr_region, wr_scope, wr_label, wr_skip, wr_exit, wr_ret, wr_cond, axCR_t, axCR_f, s0, s1, s5, s6, m1]
  exact ⟨i + 1, ⟨rfl, by omega⟩, by omega⟩
end Go.Proofs.YthhmkaikopdmjaaGreat
namespace Go.Proofs.YthhmkaikopdmjaaGreat
open Go Go.Fw
theorem Hl.congr {S S' H : List Rot} (h : Hl S H) (e : ∀ x, x ∈ S ↔ x ∈ S') : Hl S' H :=
  { h with sub := fun x hx => (e x).1 (h.sub x hx), edge := fun i s hs => h.edge i s ((e s).2 hs), low := fun s hs => h.low s ((e s).2 hs) }
theorem cmp_zero {x : Rat} : cmpQ x 0 = 0 ↔ x = 0 := by
  unfold cmpQ
  split
  · constructor <;> intro _ <;> grind
  · split
    · constructor <;> intro _ <;> grind
    · constructor <;> intro _ <;> grind
theorem hull_hl {l D : List RR} (hd : Dist l D) (hf : flatB D = false) : Hl (l.map RR.rot) ((hullL D).map RR.rot) := by
  unfold flatB at hf
  rw [Bool.or_eq_false_iff, decide_eq_false_iff_not, Bool.not_eq_false', List.any_eq_true] at hf
  obtain ⟨h3, p, hp, hne⟩ := hf
  rw [decide_eq_true_eq, cmp_zero] at hne
  have h0 : D ≠ [] := by rintro rfl; cases hp
  have hs : (D.map RR.rot).Pairwise Rot.plt := by rw [List.pairwise_map]; exact hd.ord
  have hx : (D.map RR.rot).head? = some (D.getD 0 rr0).rot := by
    cases D with
    | nil => exact absurd rfl h0
    | cons d D => rfl
  have hy : (D.map RR.rot).getLast? = some (D.getD (D.length - 1) rr0).rot := by
    rw [List.getLast?_map, List.getLast?_eq_getElem?, List.getElem?_eq_getElem (by omega), getD_eq (show D.length - 1 < D.length by omega)]
    rfl
  have := hull_of hs hx hy ⟨p.rot, List.mem_map_of_mem hp, hne⟩
  have e : (hullL D).map RR.rot = ((chainC [] (D.map RR.rot)).reverse.dropLast ++ (chainC [] (D.map RR.rot).reverse).reverse.dropLast) := by
    unfold hullL
    have c1 := chainP_map D []
    have c2 := chainP_map D.reverse []
    rw [List.map_nil] at c1 c2
    rw [List.map_append, List.map_dropLast, List.map_dropLast, List.map_reverse, List.map_reverse, c1, c2, List.map_reverse]
  rw [e]
  refine Hl.congr this (fun x => ?_)
  simp only [List.mem_map]
  constructor
  · rintro ⟨r, hr, rfl⟩; exact ⟨r, (hd.mem r).1 hr, rfl⟩
  · rintro ⟨r, hr, rfl⟩; exact ⟨r, (hd.mem r).2 hr, rfl⟩
end Go.Proofs.YthhmkaikopdmjaaGreat
namespace Go.Proofs.YthhmkaikopdmjaaGreat
open Go Go.Fw
theorem flat_iff {l D : List RR} (hd : Dist l D) : flatB D = true ↔ ∀ x ∈ l.map RR.rot, ∀ y ∈ l.map RR.rot, ∀ z ∈ l.map RR.rot, ori x y z = 0 := by
  have hm : ∀ x, x ∈ l.map RR.rot ↔ x ∈ D.map RR.rot := by
    intro x
    simp only [List.mem_map]
    constructor
    · rintro ⟨r, hr, rfl⟩; exact ⟨r, (hd.mem r).2 hr, rfl⟩
    · rintro ⟨r, hr, rfl⟩; exact ⟨r, (hd.mem r).1 hr, rfl⟩
  simp only [hm]
  unfold flatB
  rw [Bool.or_eq_true, decide_eq_true_eq, Bool.not_eq_true', ← Bool.not_eq_true, List.any_eq_true]
  constructor
  · rintro (h3 | hno)
    · intro x hx y hy z hz
      have hl : (D.map RR.rot).length < 3 := by rw [List.length_map]; exact h3
      obtain ⟨i, hi, rfl⟩ := List.getElem_of_mem hx
      obtain ⟨j, hj, rfl⟩ := List.getElem_of_mem hy
      obtain ⟨m, hm', rfl⟩ := List.getElem_of_mem hz
      have : i = j ∨ j = m ∨ i = m := by omega
      rcases this with rfl | rfl | rfl
      · exact ori_self1 _ _
      · exact ori_self3 _ _
      · exact ori_self2 _ _
    · intro x hx y hy z hz
      by_cases h3 : D.length < 2
      · have hl : (D.map RR.rot).length < 2 := by rw [List.length_map]; exact h3
        obtain ⟨i, hi, rfl⟩ := List.getElem_of_mem hx
        obtain ⟨j, hj, rfl⟩ := List.getElem_of_mem hy
        have : i = j := by omega
        subst this
        exact ori_self1 _ _
      · have hp := List.pairwise_iff_getElem.1 hd.ord 0 (D.length - 1) (by omega) (by omega) (by omega)
        have hne : (D.getD 0 rr0).rot ≠ (D.getD (D.length - 1) rr0).rot := by
          rw [getD_eq (show 0 < D.length by omega), getD_eq (show D.length - 1 < D.length by omega)]
          intro e
          rw [e] at hp
          exact plt_irrefl _ hp
        have hall : ∀ w ∈ D.map RR.rot, ori (D.getD 0 rr0).rot (D.getD (D.length - 1) rr0).rot w = 0 := by
          intro w hw
          obtain ⟨r, hr, rfl⟩ := List.mem_map.1 hw
          refine Classical.byContradiction fun hn => hno ⟨r, hr, ?_⟩
          rw [decide_eq_true_eq, cmp_zero]
          exact hn
        exact line3 hne (hall x hx) (hall y hy) (hall z hz)
  · intro h
    by_cases h3 : D.length < 3
    · exact .inl h3
    · refine .inr ?_
      rintro ⟨r, hr, hn⟩
      rw [decide_eq_true_eq, cmp_zero] at hn
      refine hn (h _ ?_ _ ?_ _ (List.mem_map_of_mem hr))
      · rw [getD_eq (show 0 < D.length by omega)]; exact List.mem_map_of_mem (List.getElem_mem _)
      · rw [getD_eq (show D.length - 1 < D.length by omega)]; exact List.mem_map_of_mem (List.getElem_mem _)
theorem flat_turn {l l' D D' : List RR} (hd : Dist l D) (hd' : Dist l' D') {f : Rot → Rot} (hf : ∀ a b c, ori (f a) (f b) (f c) = ori a b c) (e : l'.map RR.rot = (l.map RR.rot).map f) : flatB D' = flatB D := by
  have h1 := flat_iff hd
  have h2 := flat_iff hd'
  have : flatB D' = true ↔ flatB D = true := by
    rw [h1, h2, e]
    constructor
    · intro h x hx y hy z hz
      have := h _ (List.mem_map_of_mem hx) _ (List.mem_map_of_mem hy) _ (List.mem_map_of_mem hz)
      rw [hf] at this
      exact this
    · intro h x hx y hy z hz
      obtain ⟨x', hx', rfl⟩ := List.mem_map.1 hx
      obtain ⟨y', hy', rfl⟩ := List.mem_map.1 hy
      obtain ⟨z', hz', rfl⟩ := List.mem_map.1 hz
      rw [hf]
      exact h x' hx' y' hy' z' hz'
  cases h : flatB D' <;> cases h' : flatB D <;> simp [h, h'] at this ⊢
end Go.Proofs.YthhmkaikopdmjaaGreat
namespace Go.Proofs.YthhmkaikopdmjaaGreat
open Go Go.Fw
theorem thn_turn (a r p : Rot) : (a.thn r).thn p = r.thn (a.thn p) := by
  unfold Rot.thn
  simp only [Rot.mk.injEq]
  constructor <;> grind
theorem ori_turn {r : Rot} (hr : r.ok) (a b c : Rot) : ori (r.thn a) (r.thn b) (r.thn c) = ori a b c := by
  unfold Rot.ok at hr
  unfold ori Rot.cross Rot.sub Rot.thn
  simp only
  grind
theorem thn_inj {r : Rot} (hr : r.ok) {a b : Rot} (h : r.thn a = r.thn b) : a = b := by
  unfold Rot.ok at hr
  cases a; cases b
  unfold Rot.thn at h
  simp only [Rot.mk.injEq] at *
  grind
theorem cross_turn {r : Rot} (hr : r.ok) (a b : Rot) : (r.thn a).cross (r.thn b) = a.cross b := by
  unfold Rot.ok at hr
  unfold Rot.cross Rot.thn
  simp only
  grind
theorem back_turn {r : Rot} (hr : r.ok) (a b : Rot) : (a.thn r).back.thn (b.thn r) = a.back.thn b := by
  unfold Rot.ok at hr
  unfold Rot.back Rot.thn
  simp only [Rot.mk.injEq]
  constructor <;> grind
theorem corn_turn {r : Rot} (hr : r.ok) (a b p : Rot) : corn (a.thn r) (b.thn r) p = r.thn (corn a b p) := by
  unfold corn
  rw [back_turn hr, thn_turn, thn_turn]
  generalize a.thn p = x
  generalize b.thn p = y
  generalize 1 + (a.back.thn b).c = d
  unfold Rot.thn
  simp only [Rat.div_def, Rot.mk.injEq]
  constructor <;> grind
theorem turnB_turn {r : Rot} (hr : r.ok) (a b : Rot) : turnB (a.thn r) (b.thn r) = turnB a b := by
  unfold turnB
  rw [back_turn hr]
theorem swept_turn {r : Rot} (hr : r.ok) (a b : Rot) (l : List RR) : (sweptL (a.thn r) (b.thn r) l).map RR.rot = ((sweptL a b l).map RR.rot).map r.thn := by
  unfold sweptL
  induction l with
  | nil => rfl
  | cons p l ih =>
    simp only [List.flatMap_cons, List.map_append, List.map_cons, List.map_nil, RR.of_rot] at ih ⊢
    rw [ih, thn_turn, thn_turn, corn_turn hr]
theorem ends_turn (r a b : Rot) (l : List RR) : (endsL (a.thn r) (b.thn r) l).map RR.rot = ((endsL a b l).map RR.rot).map r.thn := by
  unfold endsL
  induction l with
  | nil => rfl
  | cons p l ih =>
    simp only [List.flatMap_cons, List.map_append, List.map_cons, List.map_nil, RR.of_rot] at ih ⊢
    rw [ih, thn_turn, thn_turn]
theorem hull_turn {l l' D D' : List RR} (hd : Dist l D) (hd' : Dist l' D') (hf : flatB D = false) {r : Rot} (hr : r.ok) (e : l'.map RR.rot = (l.map RR.rot).map r.thn) {k : Nat} (hk : k < (hullL D).length)
    (hl : ∀ i, r.thn (cy ((hullL D).map RR.rot) k) = r.thn (cy ((hullL D).map RR.rot) i) ∨ (r.thn (cy ((hullL D).map RR.rot) k)).plt (r.thn (cy ((hullL D).map RR.rot) i))) :
    (hullL D').map RR.rot = rotL (((hullL D).map RR.rot).map r.thn) k := by
  have h1 := hull_hl hd hf
  have hf' : flatB D' = false := by rw [flat_turn hd hd' (ori_turn hr) e]; exact hf
  have h2 := hull_hl hd' hf'
  rw [e] at h2
  exact h2.one (h1.turned (ori_turn hr) (fun a b h => thn_inj hr h) (by rw [List.length_map]; exact hk) hl)
end Go.Proofs.YthhmkaikopdmjaaGreat
