/- slices: neighbours; slices: sorting by insertion; slices: SortFunc for short rows; slices: Refine; slices: turn, awake; slices: Contains, ContainsFunc, SlicesQuarters; slices: IndexFunc, ContainsFunc; SlicesQuarters; the reference of bigint: trim, Canonical, small, value, mag, Of, Neg; the reference of bigint: compareMag, mag, Of, Neg; the reference of bigint: mag, Of, Neg; the reference of bigint: addMag, subMag; the reference of bigint: subMag; the reference of bigint: Add, Sub, Compare; the reference of bigint: Sub, Compare; the reference of bigint: mulMag; the reference of bigint: mulMag; the reference of bigint: Mul; the reference of bigint: divMag; the reference of bigint: Gcd; the reference of bigint: Div; the reference of rational: number, digits, small; the reference of rational: pack, parts; the reference of rational: reduce, New, Ratio, Of, integer. Conditions: none. -/
import Derived.Test.YthhmkaikopdmjaaGreatMe
set_option linter.unusedSimpArgs false
set_option linter.unusedVariables false
set_option maxRecDepth 8000
namespace Go.Proofs.YthhmkaikopdmjaaGreat
open Go Go.Fw
theorem neighboursS (H : Heap) (x : Option Addr) (n c : Nat) : Sim Tryz.prog 65 #[.slice x n c] H (.func (.func 115) #[] #[.pointer (some ⟨H.length, 0, none⟩)]) (H ++ [⟨[.slice x n c], 1, true⟩]) := by
  refine sim_of_ax tok mixed Tryz.func65 rfl (by kernel_rfl) (by kernel_rfl) (by simp only [Tryz.ntmps65, List.size_toArray, List.length_cons, List.length_nil]; omega) ?_
  simp -implicitDefEqProofs only [go_sem, simprocAttr, res65]
def nextR (l : List RR) (i : Nat) : Nat := (i + 1) % l.length
theorem nextR_lt {l : List RR} (h : l ≠ []) (i : Nat) : nextR l i < l.length := Nat.mod_lt _ (List.length_pos_iff.2 h)
theorem neighY {Y : Array Value → Heap → Heap → Prop} {l : List RR} {v : Value} {b0 : Nat} {H : Heap} (Inv : Nat → Heap → Prop) (h2 : 2 ≤ l.length) (hl : l.length ≤ 100000) (h0 : Inv 0 H)
    (hbox : ∀ i T, Inv i T → T[b0]? = some ⟨[v], 1, true⟩ ∧ RL T v l) (happ : ∀ i T B, Inv i T → Inv i (T ++ [B]))
    (hY : ∀ i T, ∀ hi : i < l.length, Inv i T → ∃ T', Y #[l[i].val, (l[nextR l i]'(nextR_lt (fun h => by rw [h] at hi; simp at hi) i)).val] T T' ∧ Inv (i + 1) T') :
    ∃ H1, SimY Tryz.prog 115 Y #[.pointer (some ⟨b0, 0, none⟩)] H H1 ∧ Inv l.length H1 := by
  have hne : l ≠ [] := fun h => by rw [h] at h2; simp at h2
  obtain ⟨G, g0, g1, g2⟩ := chain_ex (Inv := Inv) (n := l.length) (H := H) (Y := fun i T T' => ∀ hi : i < l.length, Y #[l[i].val, (l[nextR l i]'(nextR_lt hne i)).val] T T') (fun i => ⟨(l.getD i ⟨false, [], [], false, [], []⟩).cells, 1, true⟩) h0 happ
    (fun i T hi h => by obtain ⟨T', a, b⟩ := hY i T hi h; exact ⟨T', fun _ => a, b⟩)
  refine ⟨G l.length, ?_, g1 _ (Nat.le_refl _)⟩
  refine simY_of_ax tok mixed Tryz.func115 rfl (by kernel_rfl) (by kernel_rfl) (by simp only [Tryz.ntmps115, List.size_toArray, List.length_cons, List.length_nil]; omega) ?_
  intro y
  have hb := hbox 0 H h0
  obtain ⟨b, i0, c, rfl, hA0⟩ := hb.2.at hne
  have box : ∀ i, i ≤ l.length → ∀ B, rd (G i ++ B) b0 0 1 = some [.slice (some ⟨b, i0, none⟩) l.length c] := by
    intro i hi B
    refine rd_more ?_ B
    have := (hbox i _ (g1 i hi)).1
    unfold rd
    rw [this]; rfl
  have box0 := fun i hi => by simpa using box i hi []
  have hrow : ∀ i, i ≤ l.length → ElAt 6 (G i) b i0 c (l.map RR.cells) := by
    intro i hi
    obtain ⟨b', i', c', e, h⟩ := ((hbox i _ (g1 i hi)).2).at hne
    injection e with e1 e2 e3
    injection e1 with e1
    injection e1 with e4 e5
    subst e4 e5 e3
    exact h
  have e1 : aLen tt [22] (.slice (some ⟨b, i0, none⟩) l.length c) = some (.int .i64 (l.length : Nat)) := rfl
  have hnlt : ¬ (l.length : Int) < 2 := by omega
  rw [← g0]
  have bx0 := box0 0 (by omega)
  have eini : (#[Value.func (Fn.yield y) #[] #[]] ++ #[Value.pointer (some ⟨b0, 0, none⟩)] : Array Value) = #[.func (.yield y) #[] #[], .pointer (some ⟨b0, 0, none⟩)] := rfl
  rw [eini]
  simp -implicitDefEqProofs only [go_sem, simprocAttr, bx0, e1]
  refine ax_loopx (fun (i : Nat) s T => s 0 = .func (.yield y) #[] #[] ∧ s 1 = .pointer (some ⟨b0, 0, none⟩) ∧ s 5 = .slice (some ⟨b, i0, none⟩) l.length c ∧ s 6 = .int .i64 (l.length : Nat) ∧ s 7 = .int .i64 (i : Nat) ∧ i ≤ l.length ∧ T = G i) (fun i => l.length - i) 0 ?_ ?_
  · simp -implicitDefEqProofs only [go_sem, simprocAttr]
  rintro i s T ⟨s0, s1, s5, s6, s7, hi, rfl⟩
  simp -implicitDefEqProofs only [go_sem, simprocAttr, s6, s7]
  refine ax_cond2 ?_
  simp only [ev_tmp, ev_const, ev_func, upd_at, put_some, put_none, bndB_bool, Nat.reduceEqDiff, if_true, if_false, ↓reduceIte, reduceCtorEq]
  refine ⟨fun hc0 => have hlt := of_decide_eq_true hc0; ?_, fun hc0 => have hlt := of_decide_eq_false hc0; ?_⟩
  · have hil : i < l.length := by omega
    have hr := (hrow i hi).rdR hil
    have hj := nextR_lt hne i
    have hr2 := fun B => rd_more ((hrow i hi).rdR hj) B
    have hy := g2 i hil hil
    have hgd : l.getD i ⟨false, [], [], false, [], []⟩ = l[i] := by simp [List.getD, List.getElem?_eq_getElem hil]
    rw [hgd] at hy
    have bxi := box0 i hi
    have bxi2 := box i hi
    have m1 : IntKind.i64.wrap ((i : Int) + 1) = ((i + 1 : Nat) : Int) := by rw [w64 (by omega) (by omega)]; rfl
    have m2 : Int.tmod ((i + 1 : Nat) : Int) (l.length : Int) = ((nextR l i : Nat) : Int) := by rw [tmod_nat]; rfl
    have m3 : ¬ (l.length : Int) = 0 := by omega
    have hnn : (0 : Int) ≤ (i : Int) := by omega
    have hlt2 : (i : Int) < (l.length : Int) := by omega
    have hnn2 : (0 : Int) ≤ (nextR l i : Int) := by omega
    have hlt3 : (nextR l i : Int) < (l.length : Int) := by omega
    generalize l[nextR l i] = z at hr2 hy
    generalize l[i] = x at hr hy
    generalize nextR l i = j at m2 hnn2 hlt3 hr2
    unfold RR.cells at hr hr2 hy
    simp -implicitDefEqProofs only [go_sem, simprocAttr, s0, s1, s5, s7, aIndexAddr, hnn, hlt2, hr]
    refine ax_loud (by kernel_rfl) ?_
    simp -implicitDefEqProofs only [go_sem, simprocAttr, s0, s1, s5, s7, aIndexAddr, hnn, hlt2, hnn2, hlt3, hr2, bxi, bxi2, e1, hnlt, m1, m2, m3]
    unfold RR.val rV at hy
    refine wl_yield y _ (by simp -implicitDefEqProofs only [go_sem, simprocAttr, s0]) (by simp -implicitDefEqProofs only [go_sem, simprocAttr]) ⟨rfl, rfl, hy⟩ ?_
    simp -implicitDefEqProofs only [go_sem, simprocAttr, wa_cond, axC_t, axC_f, s0, s1, s5, s6, s7, m1]
    exact ⟨i + 1, ⟨rfl, by omega, rfl⟩, by omega⟩
  · have : i = l.length := by omega
    subst this
    simp -implicitDefEqProofs only [go_sem, simprocAttr]
    exact ⟨[], rfl, rfl⟩
end Go.Proofs.YthhmkaikopdmjaaGreat
namespace Go.Proofs.YthhmkaikopdmjaaGreat
open Go Go.Fw
theorem leq_cmp {a b : RR} (ha : a.err = 0) (hb : b.err = 0) : a.leq b ↔ ¬ cmpS b a < 0 := by rw [cmpS_ok hb ha]; rfl
theorem insertionS (T0 : Heap) {b : Nat} {L0 : List RR} {k c lo hi : Nat} (hown : OwnR T0 b L0) (hle : ∀ r ∈ L0, r.le k) (hk : k ≤ 19000) (hok : ∀ r ∈ L0, r.err = 0) (hlo : lo ≤ hi) (hhi : hi ≤ L0.length) (hlen : L0.length ≤ 1000000) :
    ∃ L, Sim Tryz.prog 177 #[.slice (some ⟨b, 0, none⟩) L0.length c, .int .i64 (lo : Nat), .int .i64 (hi : Nat), .func (.func 54) #[] #[]] T0 (.tuple #[]) (putR T0 b L) ∧ Within L0 L lo hi ∧ SrtTo RR.leq L lo hi := by
  suffices hx : ∃ w H', Sim Tryz.prog 177 #[.slice (some ⟨b, 0, none⟩) L0.length c, .int .i64 (lo : Nat), .int .i64 (hi : Nat), .func (.func 54) #[] #[]] T0 w H' ∧ w = .tuple #[] ∧ ∃ L, H' = putR T0 b L ∧ Within L0 L lo hi ∧ SrtTo RR.leq L lo hi by
    obtain ⟨w, H', h1, rfl, L, rfl, h2⟩ := hx
    exact ⟨L, h1, h2⟩
  have hb := hown.lt
  have a1 : IntKind.i64.wrap ((lo : Int) + 1) = ((lo + 1 : Nat) : Int) := by rw [w64 (by omega) (by omega)]; rfl
  have hself := putR_self hown
  refine sim_ex tok mixed Tryz.func177 rfl (by kernel_rfl) (by kernel_rfl) (by simp only [Tryz.ntmps177, List.size_toArray, List.length_cons, List.length_nil]; omega) ?_
  simp -implicitDefEqProofs only [go_sem, simprocAttr, a1]
  refine ax_loopx (fun (i : Nat) s T => s 0 = .slice (some ⟨b, 0, none⟩) L0.length c ∧ s 1 = .int .i64 (lo : Nat) ∧ s 2 = .int .i64 (hi : Nat) ∧ s 3 = .func (.func 54) #[] #[] ∧ s 8 = .int .i64 (i : Nat) ∧ lo + 1 ≤ i ∧ i ≤ hi + 1 ∧
    ∃ L, T = putR T0 b L ∧ Within L0 L lo hi ∧ SrtTo RR.leq L lo i) (fun i => hi + 1 - i) (lo + 1) ?_ ?_
  · simp -implicitDefEqProofs only [go_sem, simprocAttr]
    exact ⟨by omega, L0, hself.symm, .refl _ _ _, .one _ (by omega)⟩
  rintro i s T ⟨s0, s1, s2, s3, s8, hi1, hi2, L, rfl, hw, hs⟩
  simp -implicitDefEqProofs only [go_sem, simprocAttr, s2, s8]
  refine ax_cond2 ?_
  simp only [ev_tmp, ev_const, ev_func, upd_at, put_some, put_none, bndB_bool, Nat.reduceEqDiff, if_true, if_false, ↓reduceIte, reduceCtorEq]
  refine ⟨fun hc0 => have hlt := of_decide_eq_true hc0; ?_, fun hc0 => have hlt := of_decide_eq_false hc0; ?_⟩
  · have hih : i < hi := by omega
    simp -implicitDefEqProofs only [go_sem, simprocAttr, s8]
    refine ax_midl2 (fun s T => s 0 = .slice (some ⟨b, 0, none⟩) L0.length c ∧ s 1 = .int .i64 (lo : Nat) ∧ s 2 = .int .i64 (hi : Nat) ∧ s 3 = .func (.func 54) #[] #[] ∧ s 8 = .int .i64 (i : Nat) ∧
      ∃ L, T = putR T0 b L ∧ Within L0 L lo hi ∧ SrtTo RR.leq L lo (i + 1)) ?_ ?_
    · refine ax_loopx (fun (j : Nat) s T => s 0 = .slice (some ⟨b, 0, none⟩) L0.length c ∧ s 1 = .int .i64 (lo : Nat) ∧ s 2 = .int .i64 (hi : Nat) ∧ s 3 = .func (.func 54) #[] #[] ∧ s 8 = .int .i64 (i : Nat) ∧ s 9 = .int .i64 (j : Nat) ∧ lo ≤ j ∧ j ≤ i ∧
        ∃ L, T = putR T0 b L ∧ Within L0 L lo hi ∧ InsI RR.leq L lo i j) (fun j => j) i ?_ ?_
      · simp -implicitDefEqProofs only [go_sem, simprocAttr, s0, s1, s2, s3, s8]
        exact ⟨by omega, L, rfl, hw, hs.ins⟩
      clear s0 s1 s2 s3 s8 hw hs hself a1
      clear L
      rintro j s T ⟨s0, s1, s2, s3, s8, s9, hj1, hj2, L, rfl, hw, hs⟩
      have hLl := hw.len
      have hoL := hw.oks hok
      have hlL := hw.oks hle
      have ho := putR_own T0 L hb
      simp -implicitDefEqProofs only [go_sem, simprocAttr]
      refine ax_quiet (by kernel_rfl) ?_
      by_cases hjl : lo < j
      · obtain ⟨j, rfl⟩ : ∃ j', j = j' + 1 := ⟨j - 1, by omega⟩
        have hjn : j + 1 < L.length := by omega
        have r1 := (ho.at (c := 0) (.inl rfl)).rdR (j := j + 1) hjn
        have r2 := (ho.at (c := 0) (.inl rfl)).rdR (j := j) (by omega)
        have hcm := fun H => compareS H (hlL _ (List.getElem_mem hjn)) (hlL _ (List.getElem_mem (show j < L.length by omega))) hk
        have g1 : (lo : Int) < ((j + 1 : Nat) : Int) := by omega
        have g2 : (0 : Int) ≤ ((j + 1 : Nat) : Int) := by omega
        have g3 : ((j + 1 : Nat) : Int) < (L0.length : Int) := by omega
        have g4 : (0 : Int) ≤ (j : Int) := by omega
        have g5 : (j : Int) < (L0.length : Int) := by omega
        have m1 : IntKind.i64.wrap (((j + 1 : Nat) : Int) - 1) = (j : Int) := by rw [w64 (by omega) (by omega)]; omega
        have hiff := leq_cmp (hoL _ (List.getElem_mem (show j < L.length by omega))) (hoL _ (List.getElem_mem hjn))
        have hstep := fun hlt => hs.step (by omega) hjn hj2 hlt
        have hstop := fun hle => InsI.stop RR.tot hoL hs hjl hj2 hjn hle
        have htot := RR.lt_leq (hoL _ (List.getElem_mem hjn)) (hoL _ (List.getElem_mem (show j < L.length by omega)))
        have hcr := cmpS_ok (hoL _ (List.getElem_mem hjn)) (hoL _ (List.getElem_mem (show j < L.length by omega)))
        have hww := hw.trans (.swp L j hjn (by omega) (by omega))
        have w1 := ho.wr (j := j + 1) hjn L[j]
        have w2 := (putR_own T0 (L.set (j + 1) L[j]) hb).wr (j := j) (by simp; omega) L[j + 1]
        rw [putR_put] at w1 w2
        have hsw : (L.set (j + 1) L[j]).set j L[j + 1] = swp L j hjn := rfl
        rw [hsw] at w2
        generalize swp L j hjn = L2 at *
        generalize L.set (j + 1) L[j] = L1 at *
        simp only [Nat.add_sub_cancel] at hstop
        generalize L[j] = y at *
        generalize L[j + 1] = x at *
        unfold RR.cells at r1 r2 w1 w2
        unfold RR.val rV at hcm
        simp only [Nat.zero_add] at r1 r2
        simp -implicitDefEqProofs only [go_sem, simprocAttr, s0, s1, s2, s3, s9, aIndexAddr, g1, g2, g3, g4, g5, m1, r1, r2]
        refine wl_callO _ (by simp -implicitDefEqProofs only [go_sem, simprocAttr, s3]) _ (by simp -implicitDefEqProofs only [go_sem, simprocAttr]) (hcm _) ?_
        by_cases hc : cmpS x y < 0
        · simp -implicitDefEqProofs only [go_sem, simprocAttr, wa_cond, axC_t, axC_f, hc]
          refine ax_loud (by kernel_rfl) ?_
          simp -implicitDefEqProofs only [go_sem, simprocAttr, s0, s1, s2, s3, s8, s9, aIndexAddr, g1, g2, g3, g4, g5, m1, r1, r2, w1, w2]
          refine ⟨j, ⟨rfl, by omega, by omega, L2, rfl, hww, hstep (htot (by rw [hcr] at hc; exact hc))⟩, by omega⟩
        · simp -implicitDefEqProofs only [go_sem, simprocAttr, wa_cond, axC_t, axC_f, hc, s0, s1, s2, s3, s8]
          exact ⟨L, rfl, hw, hstop (hiff.2 hc)⟩
      · have : j = lo := by omega
        subst this
        have g1 : ¬ (j : Int) < (j : Int) := by omega
        simp -implicitDefEqProofs only [go_sem, simprocAttr, wa_cond, axC_t, axC_f, s0, s1, s2, s3, s8, s9, g1]
        exact ⟨L, rfl, hw, hs.zero⟩
    clear s0 s1 s2 s3 s8 hw hs hself a1
    clear L
    rintro s T ⟨s0, s1, s2, s3, s8, L, rfl, hw, hs⟩
    have m1 : IntKind.i64.wrap ((i : Int) + 1) = ((i + 1 : Nat) : Int) := by rw [w64 (by omega) (by omega)]; rfl
    simp -implicitDefEqProofs only [go_sem, simprocAttr, s0, s1, s2, s3, s8, m1]
    exact ⟨i + 1, ⟨rfl, by omega, by omega, L, rfl, hw, hs⟩, by omega⟩
  · have hih : hi ≤ i := by omega
    simp -implicitDefEqProofs only [go_sem, simprocAttr]
    refine ⟨[], rfl, rfl, L, rfl, hw, ?_⟩
    exact fun p q h0 h1 h2 hp hq => hs p q h0 h1 (by omega) hp hq
end Go.Proofs.YthhmkaikopdmjaaGreat
namespace Go.Proofs.YthhmkaikopdmjaaGreat
open Go Go.Fw
theorem len64_sim (H : Heap) {x : Nat} (hx : x < 256) : Sim Tryz.prog 186 #[.int .u64 (x : Nat)] H (.int .i64 (bitLen x : Nat)) H := by
  have hbl : bitLen x ≤ 8 := by
    by_cases h : x = 0
    · subst h; decide
    · exact bitLen_le (by omega) hx
  have c3 : (0 : Int) ≤ (x : Int) := by omega
  have c4 : IntKind.u8.wrap (x : Int) = (x : Int) := wu8 (by omega) (by omega)
  have c6 : IntKind.i64.wrap (((UInt8.ofNat (bitLen x)).toNat : Nat) : Int) = (bitLen x : Int) := by
    have : (UInt8.ofNat (bitLen x)).toNat = bitLen x := by simp; omega
    rw [this, w64n (by omega)]
  have c7 : IntKind.i64.wrap (0 + (bitLen x : Int)) = (bitLen x : Int) := by rw [Int.zero_add, w64n (by omega)]
  have key : ∀ (B : ByteArray), (∀ z : Fin 256, B[z.1]? = some (UInt8.ofNat (bitLen z.1))) → B[x]? = some (UInt8.ofNat (bitLen x)) := fun B h => h ⟨x, hx⟩
  have d1 : ¬ ((4294967296 : Int) ≤ (x : Int)) := by omega
  have d2 : ¬ ((65536 : Int) ≤ (x : Int)) := by omega
  have d3 : ¬ ((256 : Int) ≤ (x : Int)) := by omega
  refine sim_of_ax tok mixed Tryz.func186 rfl (by kernel_rfl) (by kernel_rfl) (by simp only [Tryz.ntmps186, List.size_toArray, List.length_cons, List.length_nil]; omega) ?_
  generalize hB : (⟨(List.toArray _)⟩ : ByteArray) = B
  have hg := key B (by rw [← hB]; decide +kernel)
  clear hB key
  simp -implicitDefEqProofs only [go_sem, simprocAttr, wa_cond, axC_t, axC_f, d1, d2, d3, aConv, c3, c4, hg, c6, c7, res186]
theorem len_sim (H : Heap) {x : Nat} (hx : x < 256) : Sim Tryz.prog 119 #[.int .u64 (x : Nat)] H (.int .i64 (bitLen x : Nat)) H := by
  have o1 := fun H => len64_sim H hx
  refine sim_of_ax tok mixed Tryz.func119 rfl (by kernel_rfl) (by kernel_rfl) (by simp only [Tryz.ntmps119, List.size_toArray, List.length_cons, List.length_nil]; omega) ?_
  simp -implicitDefEqProofs only [go_sem, simprocAttr, wa_cond, axC_t, axC_f]
  refine wl_callV _ (by simp -implicitDefEqProofs only [go_sem, simprocAttr]) (o1 _) ?_
  simp -implicitDefEqProofs only [go_sem, simprocAttr, res119]
theorem pdq12 (T0 : Heap) {b : Nat} {L0 : List RR} {k c lo hi : Nat} {z : Int} (hown : OwnR T0 b L0) (hle : ∀ r ∈ L0, r.le k) (hk : k ≤ 19000) (hok : ∀ r ∈ L0, r.err = 0) (hlo : lo ≤ hi) (hhi : hi ≤ L0.length) (hlen : L0.length ≤ 1000000) (h12 : hi - lo ≤ 12) :
    ∃ L, Sim Tryz.prog 118 #[.slice (some ⟨b, 0, none⟩) L0.length c, .int .i64 (lo : Nat), .int .i64 (hi : Nat), .int .i64 z, .func (.func 54) #[] #[]] T0 (.tuple #[]) (putR T0 b L) ∧ Within L0 L lo hi ∧ SrtTo RR.leq L lo hi := by
  obtain ⟨L, o1, hw⟩ := insertionS T0 (c := c) hown hle hk hok hlo hhi hlen
  refine ⟨L, ?_, hw⟩
  have m1 : IntKind.i64.wrap ((hi : Int) - (lo : Int)) = ((hi - lo : Nat) : Int) := by rw [w64 (by omega) (by omega)]; omega
  have m2 : ((hi - lo : Nat) : Int) ≤ 12 := by omega
  refine sim_of_ax tok mixed Tryz.func118 rfl (by kernel_rfl) (by kernel_rfl) (by simp only [Tryz.ntmps118, List.size_toArray, List.length_cons, List.length_nil]; omega) ?_
  simp -implicitDefEqProofs only [go_sem, simprocAttr]
  refine ax_loopx (fun (_ : Unit) s T => s 0 = .slice (some ⟨b, 0, none⟩) L0.length c ∧ s 1 = .int .i64 (lo : Nat) ∧ s 2 = .int .i64 (hi : Nat) ∧ s 4 = .func (.func 54) #[] #[] ∧ T = T0) (fun _ => 0) () ?_ ?_
  · simp -implicitDefEqProofs only [go_sem, simprocAttr]
  rintro _ s T ⟨s0, s1, s2, s4, rfl⟩
  simp -implicitDefEqProofs only [go_sem, simprocAttr, wa_cond, axC_t, axC_f, s0, s1, s2, s4, m1, m2]
  refine wl_callF _ (by simp -implicitDefEqProofs only [go_sem, simprocAttr]) o1 (fun h => by cases h) ?_
  simp -implicitDefEqProofs only [go_sem, simprocAttr]
  first | rfl | exact ⟨[], rfl, rfl, rfl⟩
theorem sort12 (T0 : Heap) {b : Nat} {L0 : List RR} {k c : Nat} (hown : OwnR T0 b L0) (hle : ∀ r ∈ L0, r.le k) (hk : k ≤ 19000) (hok : ∀ r ∈ L0, r.err = 0) (h12 : L0.length ≤ 12) :
    ∃ L, Sim Tryz.prog 67 #[.slice (some ⟨b, 0, none⟩) L0.length c, .func (.func 54) #[] #[]] T0 (.tuple #[]) (putR T0 b L) ∧ L.Perm L0 ∧ L.Pairwise RR.leq := by
  obtain ⟨L, o1, hw, hs⟩ := pdq12 T0 (c := c) (z := (bitLen L0.length : Nat)) hown hle hk hok (Nat.zero_le _) (Nat.le_refl _) (by omega) (by omega)
  refine ⟨L, ?_, hw.perm, ?_⟩
  · have e1 : aLen tt [22] (.slice (some ⟨b, 0, none⟩) L0.length c) = some (.int .i64 (L0.length : Nat)) := rfl
    have o2 := fun H => len_sim H (x := L0.length) (by omega)
    have c1 : IntKind.u64.wrap (L0.length : Int) = (L0.length : Int) := wu64n (by omega)
    refine sim_of_ax tok mixed Tryz.func67 rfl (by kernel_rfl) (by kernel_rfl) (by simp only [Tryz.ntmps67, List.size_toArray, List.length_cons, List.length_nil]; omega) ?_
    simp -implicitDefEqProofs only [go_sem, simprocAttr, e1, aConv, c1]
    refine wl_callV _ (by simp -implicitDefEqProofs only [go_sem, simprocAttr]) (o2 _) ?_
    simp -implicitDefEqProofs only [go_sem, simprocAttr]
    refine wl_callF _ (by simp -implicitDefEqProofs only [go_sem, simprocAttr]) o1 (fun h => by cases h) ?_
    simp -implicitDefEqProofs only [go_sem, simprocAttr]
    first | rfl | exact ⟨[], rfl, rfl, rfl⟩
  · rw [← hw.len] at hs
    exact hs.pairwise
end Go.Proofs.YthhmkaikopdmjaaGreat
namespace Go.Proofs.YthhmkaikopdmjaaGreat
open Go Go.Fw
theorem mid_ok {a b : Rot} (ha : a.ok) : (Rot.mid a b).ok := by
  unfold Rot.mid
  split
  · exact Rot.thn_ok ha (by unfold Rot.ok; simp only; grind)
  · exact Rot.thn_ok ha (Rot.ofT_ok _)
theorem mid_sz {a b : RR} {k : Nat} (ha : a.le k) (hb : b.le k) (hk : k ≤ 80) (ea : a.err = 0) (eb : b.err = 0) : (Rot.mid a.rot b.rot).Sz 18000 := by
  have oka := (RR.err_zero.1 ea).2
  have okb := (RR.err_zero.1 eb).2
  have okd : (a.rot.back.thn b.rot).ok := Rot.thn_ok (Rot.back_ok oka) okb
  have zd : (a.rot.back.thn b.rot).Sz (4 * k + 21) := by
    have := ha.bk.sz.thn hb.sz
    rw [RR.bk_rot] at this
    exact this.mono (by omega)
  have hhalf := Rot.half_one okd
  unfold Rot.mid
  generalize hdd : a.rot.back.thn b.rot = d at *
  by_cases hh : d.half = 1
  · rw [if_pos hh]
    have hq0 : (Rot.mk 0 1).Sz 2 := ⟨⟨by decide, by decide⟩, sz_one (by decide)⟩
    exact (ha.sz.thn hq0).mono (by omega)
  · rw [if_neg hh]
    obtain ⟨hs0, hc0, hc1⟩ := hhalf hh
    have hpos : 0 ≤ d.s / (1 + d.c) := by
      rw [Rat.div_def]
      exact Rat.mul_nonneg hs0 (Rat.le_of_lt (Rat.inv_pos.2 hc1))
    have zt := zd.s.div ((sz_one (k := 2) (by decide)).add zd.c) (by omega)
    have z3 := Sz.int (z := 3) (k := 2) (by decide) (by decide)
    rw [show ((3 : Int) : Rat) = 3 from rfl] at z3
    have zth := zt.div z3 (by decide)
    generalize hth : d.s / (1 + d.c) / 3 = th at *
    have hth0 : 0 ≤ th := by
      rw [← hth, Rat.div_def]
      exact Rat.mul_nonneg hpos (Rat.le_of_lt (Rat.inv_pos.2 (by decide)))
    have zs := Sz.smp (a := th) (b := th + th) (k := 16 * k + 100) (by grind) (zth.mono (by omega)) ((zth.add zth).mono (by omega)) (by omega)
    exact (ha.sz.thn (Rot.Sz.ofT zs)).mono (by omega)
def rr0 : RR := ⟨false, [], [], false, [], []⟩
def midsTo (l : List RR) (i : Nat) : List RR := (List.range i).map fun j => RR.of (Rot.mid (l.getD j rr0).rot (l.getD (nextR l j) rr0).rot)
theorem midsTo_len (l : List RR) (i : Nat) : (midsTo l i).length = i := by simp [midsTo]
theorem midsTo_succ (l : List RR) (i : Nat) : midsTo l (i + 1) = midsTo l i ++ [RR.of (Rot.mid (l.getD i rr0).rot (l.getD (nextR l i) rr0).rot)] := by simp [midsTo, List.range_succ]
theorem getD_eq {l : List RR} {i : Nat} (h : i < l.length) : l.getD i rr0 = l[i] := by simp [List.getD, List.getElem?_eq_getElem h]
theorem mids_le {l : List RR} {k i : Nat} (hle : ∀ r ∈ l, r.le k) (hok : ∀ r ∈ l, r.err = 0) (hk : k ≤ 80) (hi : i ≤ l.length) : ∀ r ∈ midsTo l i, r.le 18007 ∧ r.err = 0 := by
  intro r hr
  obtain ⟨j, hj, rfl⟩ := List.mem_map.1 hr
  have hj := List.mem_range.1 hj
  have hjl : j < l.length := by omega
  have hn := nextR_lt (l := l) (fun h => by rw [h] at hjl; simp at hjl) j
  rw [getD_eq hjl, getD_eq hn]
  have m1 := List.getElem_mem hjl
  have m2 := List.getElem_mem hn
  exact ⟨(mid_sz (hle _ m1) (hle _ m2) hk (hok _ m1) (hok _ m2)).le, by rw [RR.err_of, if_pos (mid_ok (RR.err_zero.1 (hok _ m1)).2)]⟩
theorem next_ne {l : List RR} (ho : Ord l) (h2 : 2 ≤ l.length) {i : Nat} (hi : i < l.length) : (l[i]).rot ≠ (l[nextR l i]'(nextR_lt ho.ne i)).rot := by
  have hn := nextR_lt ho.ne i
  have hp := List.pairwise_iff_getElem.1 ho.ord
  have hne : i ≠ nextR l i := by
    unfold nextR
    by_cases h : i + 1 = l.length
    · rw [h, Nat.mod_self]; omega
    · rw [Nat.mod_eq_of_lt (by omega)]; omega
  intro he
  have ok := (RR.err_zero.1 (ho.ok _ (List.getElem_mem hi))).2
  rcases Nat.lt_or_gt_of_ne hne with h | h
  · have := hp i (nextR l i) hi hn h
    rw [← he] at this
    exact Rot.lt_irrefl ok this
  · have := hp (nextR l i) i hn hi h
    rw [← he] at this
    exact Rot.lt_irrefl ok this
theorem wr_cell {T : Heap} {p : Nat} {w v : Value} (h : T[p]? = some ⟨[w], 1, true⟩) (hv : isCell v = true) : wr T p 0 [v] = some (T.set p ⟨[v], 1, true⟩) := by
  rw [wr_eq, h]
  simp [splice, hv, allC_cons, allC_nil]
theorem rd_cell {T : Heap} {p : Nat} {w : Value} (h : T[p]? = some ⟨[w], 1, true⟩) : rd T p 0 1 = some [w] := by
  unfold rd
  rw [h]; rfl
def RefInv (H : Heap) (p : Nat) (v : Value) (l : List RR) (i : Nat) (T : Heap) : Prop :=
  ∃ b', H.length ≤ b' ∧ b' ≠ p ∧ b' ≠ p + 1 ∧ T[p]? = some ⟨[.slice (some ⟨b', 0, none⟩) (l.length + i) 0], 1, true⟩ ∧ T[p + 1]? = some ⟨[v], 1, true⟩ ∧ OwnR T b' (l ++ midsTo l i) ∧ Ext H T
theorem RefineG (H : Heap) {v : Value} {l : List RR} {k : Nat} (hv : RL H v l) (hle : ∀ r ∈ l, r.le k) (hk : k ≤ 80) (ho : Ord l) (h2 : 2 ≤ l.length) (h32 : l.length ≤ 32)
    (hS : ∀ (T : Heap) (b : Nat) (L0 : List RR), OwnR T b L0 → (∀ r ∈ L0, r.le 18007) → (∀ r ∈ L0, r.err = 0) → L0.length = l.length + l.length → ∃ L, Sim Tryz.prog 67 #[.slice (some ⟨b, 0, none⟩) L0.length 0, .func (.func 54) #[] #[]] T (.tuple #[]) (putR T b L) ∧ L.Perm L0 ∧ L.Pairwise RR.leq) :
    ∃ w H', Sim Tryz.prog 26 #[v] H w H' ∧ Ext H H' ∧ ∃ b L, H.length ≤ b ∧ w = .tuple #[.slice (some ⟨b, 0, none⟩) (2 * l.length) 0, .int .i64 0] ∧ OwnR H' b L ∧ L.Perm (l ++ midsTo l l.length) ∧ L.Pairwise RR.leq := by
  have hne := ho.ne
  have o1 := CheckS H hv hle (by omega) (by omega)
  have hchk := ok_chk ho
  rw [hchk] at o1
  have e1 := hv.len (tt := tt) tt22
  obtain ⟨b, i0, c, rfl, hA⟩ := hv.at hne
  have m1 : IntKind.i64.wrap (2 * (l.length : Int)) = ((2 * l.length : Nat) : Int) := by rw [w64 (by omega) (by omega)]; omega
  have m2 : (1 : Int) < (l.length : Int) := by omega
  have m3 : ¬ (64 : Int) < ((2 * l.length : Nat) : Int) := by omega
  obtain ⟨vc, T1, ocl, hE1, b1, hb1, rfl, hown1⟩ := cloneR H hA hne (by omega)
  refine sim_exT tok mixed Tryz.func26 rfl (by kernel_rfl) (by kernel_rfl) (by simp only [Tryz.ntmps26, List.size_toArray, List.length_cons, List.length_nil]; omega) ?_
  simp -implicitDefEqProofs only [go_sem, simprocAttr, wt_seq, wt_block, wt_region, wt_loop, wt_skip, wt_exit, wt_ret, wt_cond, axCT_t, axCT_f]
  refine wl_callV _ (by simp -implicitDefEqProofs only [go_sem, simprocAttr]) o1 ?_
  simp -implicitDefEqProofs only [go_sem, simprocAttr, wt_seq, wt_block, wt_region, wt_loop, wt_skip, wt_exit, wt_ret, wt_cond, axCT_t, axCT_f, e1, m1, m2, m3]
  refine wl_callF _ (by simp -implicitDefEqProofs only [go_sem, simprocAttr]) ocl (fun h => by cases h) ?_
  simp -implicitDefEqProofs only [go_sem, simprocAttr, wt_seq, wt_block, wt_region, wt_loop, wt_skip, wt_exit, wt_ret, wt_cond, axCT_t, axCT_f]
  have on := neighboursS (T1 ++ [⟨[.slice (some ⟨b1, 0, none⟩) l.length 0], 1, true⟩]) (some ⟨b, i0, none⟩) l.length c
  refine wl_callF _ (by simp -implicitDefEqProofs only [go_sem, simprocAttr]) on (fun h => by cases h) ?_
  simp -implicitDefEqProofs only [go_sem, simprocAttr, wt_seq, wt_block, wt_region, wt_loop, wt_skip, wt_exit, wt_ret, wt_cond, axCT_t, axCT_f]
  have hlen1 := hE1.len
  have hvs : ∀ T, Ext H T → RL T (.slice (some ⟨b, i0, none⟩) l.length c) l := fun T hT => hv.ext hT
  refine axT_range (RefInv H T1.length (.slice (some ⟨b, i0, none⟩) l.length c) l l.length) (by simp -implicitDefEqProofs only [go_sem, simprocAttr]; rfl) (neighY (v := .slice (some ⟨b, i0, none⟩) l.length c) (RefInv H T1.length (.slice (some ⟨b, i0, none⟩) l.length c) l) h2 (by omega) ?_ ?_ ?_ ?_) ?_
  · refine ⟨b1, hb1, ?_, ?_, ?_, ?_, ?_, ?_⟩
    · have := hown1.lt; omega
    · have := hown1.lt; omega
    · simp
    · simp
    · simp only [midsTo, List.range_zero, List.map_nil, List.append_nil]; exact Own.app hown1 _
    · exact hE1.trans (.app _ _)
  · rintro i T ⟨b', g1, g2, g3, g4, g5, g6, g7⟩
    exact ⟨g5, hvs T g7⟩
  · rintro i T B ⟨b', g1, g2, g3, g4, g5, g6, g7⟩
    have l1 := (List.getElem?_eq_some_iff.1 g4).1
    have l2 := (List.getElem?_eq_some_iff.1 g5).1
    exact ⟨b', g1, g2, g3, by rw [List.getElem?_append_left l1]; exact g4, by rw [List.getElem?_append_left l2]; exact g5, Own.app g6 _, g7.trans (.app _ _)⟩
  · rintro i T hi ⟨b', g1, g2, g3, g4, g5, g6, g7⟩
    refine yr_ex rfl ?_
    have hj := nextR_lt hne i
    have mi := List.getElem_mem hi
    have mj := List.getElem_mem hj
    have om := fun H => MiddleR H (hle _ mi) (hle _ mj) (by omega) (ho.ok _ mi) (ho.ok _ mj) (next_ne ho h2 hi)
    have hsucc := midsTo_succ l i
    rw [getD_eq hi, getD_eq hj] at hsucc
    generalize RR.of (Rot.mid l[i].rot l[nextR l i].rot) = m at *
    generalize l[nextR l i] = z at om ⊢
    generalize l[i] = x at om ⊢
    have rp := fun B => rd_more (rd_cell g4) B
    have hlen2 : (l ++ midsTo l i).length = l.length + i := by rw [List.length_append, midsTo_len]
    have hpT := (List.getElem?_eq_some_iff.1 g4).1
    have hpT1 := (List.getElem?_eq_some_iff.1 g5).1
    have hT2 : ∀ B : Heap, ∃ T2, T2 = T ++ B ∧ OwnR T2 b' (l ++ midsTo l i) ∧ T2[T1.length]? = some ⟨[.slice (some ⟨b', 0, none⟩) (l.length + i) 0], 1, true⟩ ∧ T2[T1.length + 1]? = some ⟨[.slice (some ⟨b, i0, none⟩) l.length c], 1, true⟩ ∧ Ext H T2 ∧ T.length ≤ T2.length := fun B =>
      ⟨_, rfl, Own.app g6 _, by rw [List.getElem?_append_left hpT]; exact g4, by rw [List.getElem?_append_left hpT1]; exact g5, g7.trans (.app _ _), by simp⟩
    obtain ⟨T2, hT2, f1, f2, f3, f4, f5⟩ := hT2 [⟨x.cells, 1, true⟩, ⟨z.cells, 1, true⟩, ⟨m.cells, 1, true⟩]
    obtain ⟨T3, happ, ho3, hT3⟩ := append_R m f1 (by rw [hlen2]; omega)
    rw [hlen2] at happ
    have q1 : T3[T1.length]? = some ⟨[.slice (some ⟨b', 0, none⟩) (l.length + i) 0], 1, true⟩ := by
      rw [hT3, List.getElem?_append_left (by simp; omega), List.getElem?_set_ne g2, List.getElem?_append_left (by omega)]; exact f2
    have q2 : T3[T1.length + 1]? = some ⟨[.slice (some ⟨b, i0, none⟩) l.length c], 1, true⟩ := by
      rw [hT3, List.getElem?_append_left (by simp; omega), List.getElem?_set_ne g3, List.getElem?_append_left (by omega)]; exact f3
    have q3 : Ext H T3 := by rw [hT3]; exact ((f4.trans (.app _ _)).set g1 _).trans (.app _ _)
    have hw := wr_cell q1 (v := .slice (some ⟨T2.length + 1, 0, none⟩) (l.length + i + 1) 0) rfl
    have q4 : OwnR (T3.set T1.length ⟨[.slice (some ⟨T2.length + 1, 0, none⟩) (l.length + i + 1) 0], 1, true⟩) (T2.length + 1) (l ++ midsTo l (i + 1)) := by
      rw [hsucc, ← List.append_assoc]; exact Own.other ho3 (by omega) _
    have q5 := q3.set hlen1 ⟨[.slice (some ⟨T2.length + 1, 0, none⟩) (l.length + i + 1) 0], 1, true⟩
    have q6 : (T3.set T1.length ⟨[.slice (some ⟨T2.length + 1, 0, none⟩) (l.length + i + 1) 0], 1, true⟩)[T1.length]? = some ⟨[.slice (some ⟨T2.length + 1, 0, none⟩) (l.length + i + 1) 0], 1, true⟩ := by
      rw [List.getElem?_set_self (List.getElem?_eq_some_iff.1 q1).1]
    have q7 : (T3.set T1.length ⟨[.slice (some ⟨T2.length + 1, 0, none⟩) (l.length + i + 1) 0], 1, true⟩)[T1.length + 1]? = some ⟨[.slice (some ⟨b, i0, none⟩) l.length c], 1, true⟩ := by
      rw [List.getElem?_set_ne (by omega)]; exact q2
    have row := row1 T2 m
    generalize T3.set T1.length ⟨[.slice (some ⟨T2.length + 1, 0, none⟩) (l.length + i + 1) 0], 1, true⟩ = T4 at *
    clear hT3 q1 q2 q3 ho3 f1 f2 f3 f4
    generalize (T2 ++ [(⟨m.cells, 6, true⟩ : Blk)]) = T5 at *
    simp only [RR.cells] at hT2
    unfold RR.val rV at om ⊢
    unfold RR.val rV at row
    simp -implicitDefEqProofs only [go_sem, simprocAttr, putPs_two, mkR]
    refine wl_callV _ (by simp -implicitDefEqProofs only [go_sem, simprocAttr]) (om _) ?_
    simp -implicitDefEqProofs only [go_sem, simprocAttr, rp]
    rw [← hT2]
    clear hT2
    simp -implicitDefEqProofs only [go_sem, simprocAttr, row, happ, hw]
    exact ⟨T2.length + 1, by omega, by omega, by omega, q6, q7, q4, q5⟩
  · rintro T ⟨b', g1, g2, g3, g4, g5, g6, g7⟩
    have rp := rd_cell g4
    have hlen2 : (l ++ midsTo l l.length).length = l.length + l.length := by rw [List.length_append, midsTo_len]
    have hle2 : ∀ r ∈ l ++ midsTo l l.length, r.le 18007 := by
      intro r hr
      rcases List.mem_append.1 hr with hr | hr
      · exact (hle r hr).mono (by omega)
      · exact (mids_le hle ho.ok hk (Nat.le_refl _) r hr).1
    have hok2 : ∀ r ∈ l ++ midsTo l l.length, r.err = 0 := by
      intro r hr
      rcases List.mem_append.1 hr with hr | hr
      · exact ho.ok r hr
      · exact (mids_le hle ho.ok hk (Nat.le_refl _) r hr).2
    obtain ⟨L, os, hperm, hpair⟩ := hS T b' _ g6 hle2 hok2 hlen2
    rw [hlen2] at os
    have rp2 : rd (putR T b' L) T1.length 0 1 = some [.slice (some ⟨b', 0, none⟩) (l.length + l.length) 0] := by
      refine rd_cell ?_
      unfold putR
      rw [List.getElem?_set_ne g2]; exact g4
    simp -implicitDefEqProofs only [go_sem, simprocAttr, wt_seq, wt_block, wt_region, wt_loop, wt_skip, wt_exit, wt_ret, wt_cond, axCT_t, axCT_f, rp]
    refine wl_callF _ (by simp -implicitDefEqProofs only [go_sem, simprocAttr]) os (fun h => by cases h) ?_
    simp -implicitDefEqProofs only [go_sem, simprocAttr, wt_seq, wt_block, wt_region, wt_loop, wt_skip, wt_exit, wt_ret, wt_cond, axCT_t, axCT_f, rp2, res26]
    refine ⟨g7.set g1 _, b', L, g1, by rw [Nat.two_mul], putR_own _ _ (Own.lt g6), hperm, hpair⟩
theorem RefineS (H : Heap) {v : Value} {l : List RR} {k : Nat} (hv : RL H v l) (hle : ∀ r ∈ l, r.le k) (hk : k ≤ 80) (ho : Ord l) (h2 : 2 ≤ l.length) (h6 : l.length ≤ 6) :
    ∃ w H', Sim Tryz.prog 26 #[v] H w H' ∧ Ext H H' ∧ ∃ b L, H.length ≤ b ∧ w = .tuple #[.slice (some ⟨b, 0, none⟩) (2 * l.length) 0, .int .i64 0] ∧ OwnR H' b L ∧ L.Perm (l ++ midsTo l l.length) ∧ L.Pairwise RR.leq :=
  RefineG H hv hle hk ho h2 (by omega) fun T b L0 h1 h2 h3 h4 => sort12 T h1 h2 (by omega) h3 (by omega)
end Go.Proofs.YthhmkaikopdmjaaGreat
namespace Go.Proofs.YthhmkaikopdmjaaGreat
open Go Go.Fw
def rotI (a b c : Int) : Rot := ⟨Rat.divInt a c, Rat.divInt b c⟩
theorem turnS (H : Heap) {a b c : Int} (ha : -1000 ≤ a ∧ a ≤ 1000) (hb : -1000 ≤ b ∧ b ≤ 1000) (hc : 0 < c ∧ c ≤ 1000) : Sim Tryz.prog 20 #[.int .i64 a, .int .i64 b, .int .i64 c] H (RR.of (rotI a b c)).val H := by
  refine flat_ex rfl ?_
  have o1 := fun H => ratioI_sim H (n := a) (d := c) (by omega) (by omega) (by omega) (by omega)
  have o2 := fun H => ratioI_sim H (n := b) (d := c) (by omega) (by omega) (by omega) (by omega)
  simp only [show ¬ c = 0 by omega, if_false] at o1 o2
  rw [RR.of_val]
  unfold rotI
  simp only
  generalize Rat.divInt a c = x at *
  generalize Rat.divInt b c = y at *
  refine sim_ex tok mixed Tryz.func20 rfl (by kernel_rfl) (by kernel_rfl) (by simp only [Tryz.ntmps20, List.size_toArray, List.length_cons, List.length_nil]; omega) ?_
  simp -implicitDefEqProofs only [go_sem, simprocAttr, mkI, iV, mkQ, qV, fV, ofV, rV, mkR]
  refine wl_callV _ (by simp -implicitDefEqProofs only [go_sem, simprocAttr, mkI, iV, mkQ, qV, fV, ofV, rV, mkR]) (o1 _) ?_
  simp -implicitDefEqProofs only [go_sem, simprocAttr, mkI, iV, mkQ, qV, fV, ofV, rV, mkR]
  refine wl_callV _ (by simp -implicitDefEqProofs only [go_sem, simprocAttr, mkI, iV, mkQ, qV, fV, ofV, rV, mkR]) (o2 _) ?_
  simp -implicitDefEqProofs only [go_sem, simprocAttr, mkI, iV, mkQ, qV, fV, ofV, rV, mkR]
  simp -implicitDefEqProofs only [go_sem, simprocAttr, mkI, iV, mkQ, qV, fV, ofV, rV, mkR, res20]
  first | exact .app _ _ | exact ⟨.app _ _, rfl⟩ | exact .refl _ | exact ⟨.refl _, rfl⟩
def enumR : Nat → List RR → List (Nat × Value) | _, [] => [] | i, r :: l => (i, r.val) :: enumR (i + 1) l
theorem fill_rows : ∀ (l done : List RR) (rest : List Value), rest.length = 6 * l.length → fillL (fun i => some (i * 6, 6)) ((done.map RR.cells).flatten ++ rest) (enumR done.length l) = some (((done ++ l).map RR.cells).flatten) := by
  intro l
  induction l with
  | nil =>
    intro done rest h
    have : rest = [] := by simpa using h
    subst this
    simp [enumR, fillL]
  | cons r l ih =>
    intro done rest h
    have hl : ((done.map RR.cells).flatten).length = done.length * 6 := by
      have := flatten_len (k := 6) (RR.cells_all done)
      rw [this, List.length_map, Nat.mul_comm]
    have hlen : rest.length = 6 + 6 * l.length := by rw [h, List.length_cons]; omega
    unfold enumR fillL
    simp only
    have hsz : r.val.cells.size = 6 := rfl
    rw [if_neg (by rw [hsz, List.length_append, hl]; omega)]
    have hsp : splice ((done.map RR.cells).flatten ++ rest) (done.length * 6) r.val.cells.toList = ((done ++ [r]).map RR.cells).flatten ++ rest.drop 6 := by
      unfold splice
      have e : r.val.cells.toList = r.cells := rfl
      rw [e, ← hl, List.take_left, List.drop_append, List.drop_eq_nil_of_le (by omega)]
      simp [RR.cells_len]
    rw [hsp]
    have := ih (done ++ [r]) (rest.drop 6) (by simp; omega)
    rw [List.length_append, List.length_cons, List.length_nil, Nat.zero_add] at this
    rw [this]
    simp
theorem build_rows (T : Heap) (l : List RR) (h : 0 < l.length) (h2 : l.length ≤ 1000) : aBuildSlice tt T 22 l.length (enumR 0 l) = some (.slice (some ⟨T.length, 0, none⟩) l.length l.length, T ++ [⟨(l.map RR.cells).flatten, 6, true⟩]) := by
  have := fill_rows l [] (zerosL (if l.length * 6 = 0 then [] else (Value.agg #[(.bool false), (.string ⟨#[]⟩), (.string ⟨#[]⟩), (.bool false), (.string ⟨#[]⟩), (.string ⟨#[]⟩)]).cells.toList) (l.length * 6)) (by rw [if_neg (by omega)]; simp [zerosL]; omega)
  unfold aBuildSlice
  simp only [tt22, tt26]
  rw [if_pos (by omega)]
  simp only [List.map_nil, List.flatten_nil, List.nil_append, List.length_nil] at this
  rw [this]
theorem row8 (T : Heap) (a b c d e f g h : RR) : aBuildSlice tt T 22 8 [(0, a.val), (1, b.val), (2, c.val), (3, d.val), (4, e.val), (5, f.val), (6, g.val), (7, h.val)] = some (.slice (some ⟨T.length, 0, none⟩) 8 8, T ++ [⟨([a, b, c, d, e, f, g, h].map RR.cells).flatten, 6, true⟩]) :=
  build_rows T [a, b, c, d, e, f, g, h] (by simp) (by simp)
def wantL : List Rot := [rotI 1 0 1, rotI 3 4 5, rotI 0 1 1, rotI (-4) 3 5, rotI (-1) 0 1, rotI (-3) (-4) 5, rotI 0 (-1) 1, rotI 4 (-3) 5]
deriving instance DecidableEq for Rot
theorem want_eq : wantL = outsL 2 3 := by decide +kernel
def listR (k : Nat) : List RR := (outsL k 3).map RR.of
theorem listR_chk : ∀ k : Fin 17, 0 < k.1 → chkR (listR k.1) = 0 := by decide +kernel
theorem awake_chk2 : chk2 (listR 2) (RR.of (rotI 4 3 5)) = 0 := by decide +kernel
theorem awake_has : hasR (listR 2) (RR.of (rotI 4 3 5)) = false := by decide +kernel
theorem awake_cnt : cntLess (listR 2) (RR.of (rotI 4 3 5)) = 1 := by decide +kernel
theorem awake_perm : (listR 1 ++ midsTo (listR 1) (listR 1).length).Perm (listR 2) := by decide +kernel
theorem listR_len (k : Nat) : (listR k).length = 4 * k := by unfold listR; rw [List.length_map, outsL_len]
theorem listR_le {k : Nat} (h0 : 0 < k) (h16 : k ≤ 16) : ∀ r ∈ listR k, r.le 67 := by
  intro r hr
  obtain ⟨x, hx, rfl⟩ := List.mem_map.1 hr
  have : ∀ j, ∀ r ∈ outsL k j, r.Sz 60 := by
    intro j
    induction j with
    | zero => exact base_sz h0 h16 h16
    | succ j ih =>
      intro r hr
      rcases List.mem_append.1 hr with hr | hr
      · exact ih r hr
      · exact qn_sz (base_sz h0 h16 h16) _ r hr
  exact (this 3 x hx).le
theorem listR_ord {k : Nat} (h0 : 0 < k) (h16 : k ≤ 16) : Ord (listR k) := chk_ok (listR_chk ⟨k, by omega⟩ h0)
theorem ListK (H : Heap) {k : Nat} (h0 : 0 < k) (h16 : k ≤ 16) : ∃ w H', Sim Tryz.prog 12 #[.int .i64 (k : Nat)] H w H' ∧ Ext H H' ∧ ∃ b, H.length ≤ b ∧ w = .tuple #[.slice (some ⟨b, 0, none⟩) (4 * k) 0, .int .i64 0] ∧ OwnR H' b (listR k) := ListS H h0 h16
theorem awakeS (H : Heap) : Sim Tryz.prog 11 #[] H (.bool true) H := by
  refine flat_ex rfl ?_
  have t0 := fun H => turnS H (a := 1) (b := 0) (c := 1) (by decide) (by decide) (by decide)
  have t1 := fun H => turnS H (a := 3) (b := 4) (c := 5) (by decide) (by decide) (by decide)
  have t2 := fun H => turnS H (a := 0) (b := 1) (c := 1) (by decide) (by decide) (by decide)
  have t3 := fun H => turnS H (a := -4) (b := 3) (c := 5) (by decide) (by decide) (by decide)
  have t4 := fun H => turnS H (a := -1) (b := 0) (c := 1) (by decide) (by decide) (by decide)
  have t5 := fun H => turnS H (a := -3) (b := -4) (c := 5) (by decide) (by decide) (by decide)
  have t6 := fun H => turnS H (a := 0) (b := -1) (c := 1) (by decide) (by decide) (by decide)
  have t7 := fun H => turnS H (a := 4) (b := -3) (c := 5) (by decide) (by decide) (by decide)
  have t8 := fun H => turnS H (a := 4) (b := 3) (c := 5) (by decide) (by decide) (by decide)
  have hwant : [RR.of (rotI 1 0 1), RR.of (rotI 3 4 5), RR.of (rotI 0 1 1), RR.of (rotI (-4) 3 5), RR.of (rotI (-1) 0 1), RR.of (rotI (-3) (-4) 5), RR.of (rotI 0 (-1) 1), RR.of (rotI 4 (-3) 5)] = listR 2 := by
    show wantL.map RR.of = _
    rw [want_eq]; rfl
  have hfv : findV (listR 2) (RR.of (rotI 4 3 5)) = .tuple #[.int .i64 0, .bool false, .int .i64 0] := by
    unfold findV
    rw [awake_chk2, if_neg (by decide), awake_has, if_neg (by decide), awake_cnt, listR_len]
    rfl
  have hlek := (show (RR.of (rotI 4 3 5)).le 67 from (show (rotI 4 3 5).Sz 60 from ⟨⟨by decide +kernel, by decide +kernel⟩, ⟨by decide +kernel, by decide +kernel⟩⟩).le)
  generalize RR.of (rotI 1 0 1) = r0 at t0 hwant
  generalize RR.of (rotI 3 4 5) = r1 at t1 hwant
  generalize RR.of (rotI 0 1 1) = r2 at t2 hwant
  generalize RR.of (rotI (-4) 3 5) = r3 at t3 hwant
  generalize RR.of (rotI (-1) 0 1) = r4 at t4 hwant
  generalize RR.of (rotI (-3) (-4) 5) = r5 at t5 hwant
  generalize RR.of (rotI 0 (-1) 1) = r6 at t6 hwant
  generalize RR.of (rotI 4 (-3) 5) = r7 at t7 hwant
  generalize RR.of (rotI 4 3 5) = r8 at *
  have o2 : ∀ H, ∃ w H', Sim Tryz.prog 12 #[.int .i64 2] H w H' ∧ Ext H H' ∧ ∃ b, H.length ≤ b ∧ w = .tuple #[.slice (some ⟨b, 0, none⟩) 8 0, .int .i64 0] ∧ OwnR H' b (listR 2) := fun H => ListK H (k := 2) (by decide) (by decide)
  have o1 : ∀ H, ∃ w H', Sim Tryz.prog 12 #[.int .i64 1] H w H' ∧ Ext H H' ∧ ∃ b, H.length ≤ b ∧ w = .tuple #[.slice (some ⟨b, 0, none⟩) 4 0, .int .i64 0] ∧ OwnR H' b (listR 1) := fun H => ListK H (k := 1) (by decide) (by decide)
  refine sim_ex tok mixed Tryz.func11 rfl (by kernel_rfl) (by kernel_rfl) (by simp only [Tryz.ntmps11, List.size_toArray, List.length_cons, List.length_nil]; omega) ?_
  simp -implicitDefEqProofs only [go_sem, simprocAttr]
  refine wl_callV _ (by simp -implicitDefEqProofs only [go_sem, simprocAttr]) (t0 _) ?_
  simp -implicitDefEqProofs only [go_sem, simprocAttr, row8]
  refine wl_callV _ (by simp -implicitDefEqProofs only [go_sem, simprocAttr]) (t1 _) ?_
  simp -implicitDefEqProofs only [go_sem, simprocAttr, row8]
  refine wl_callV _ (by simp -implicitDefEqProofs only [go_sem, simprocAttr]) (t2 _) ?_
  simp -implicitDefEqProofs only [go_sem, simprocAttr, row8]
  refine wl_callV _ (by simp -implicitDefEqProofs only [go_sem, simprocAttr]) (t3 _) ?_
  simp -implicitDefEqProofs only [go_sem, simprocAttr, row8]
  refine wl_callV _ (by simp -implicitDefEqProofs only [go_sem, simprocAttr]) (t4 _) ?_
  simp -implicitDefEqProofs only [go_sem, simprocAttr, row8]
  refine wl_callV _ (by simp -implicitDefEqProofs only [go_sem, simprocAttr]) (t5 _) ?_
  simp -implicitDefEqProofs only [go_sem, simprocAttr, row8]
  refine wl_callV _ (by simp -implicitDefEqProofs only [go_sem, simprocAttr]) (t6 _) ?_
  simp -implicitDefEqProofs only [go_sem, simprocAttr, row8]
  refine wl_callV _ (by simp -implicitDefEqProofs only [go_sem, simprocAttr]) (t7 _) ?_
  simp -implicitDefEqProofs only [go_sem, simprocAttr, row8]
  have hw2 : [r0.cells, r1.cells, r2.cells, r3.cells, r4.cells, r5.cells, r6.cells, r7.cells].flatten = ((listR 2).map RR.cells).flatten := congrArg (fun l : List RR => (l.map RR.cells).flatten) hwant
  rw [hw2]
  obtain ⟨T0, hT0⟩ : ∃ T, T = H ++ [(⟨((listR 2).map RR.cells).flatten, 6, true⟩ : Blk)] := ⟨_, rfl⟩
  have hw0 : RL T0 (.slice (some ⟨H.length, 0, none⟩) 8 8) (listR 2) := by
    rw [hT0]
    exact .inr ⟨H.length, 0, 8, rfl, (OwnR.new H (listR 2)).at (.inr (by rw [List.length_map, listR_len]; decide))⟩
  have hE0 : Ext H T0 := by rw [hT0]; exact .app _ _
  rw [← hT0]
  clear hT0 hwant t0 t1 t2 t3 t4 t5 t6 t7
  refine wl_callT _ (by simp -implicitDefEqProofs only [go_sem, simprocAttr]) (o2 _) ?_
  rintro _ T1 hE1 ⟨b1, hb1, rfl, hown1⟩
  simp -implicitDefEqProofs only [go_sem, simprocAttr]
  refine wl_callV _ (by simp -implicitDefEqProofs only [go_sem, simprocAttr]) (t8 _) ?_
  simp -implicitDefEqProofs only [go_sem, simprocAttr]
  have hl8 := listR_len 2
  have hl4 := listR_len 1
  have hr1 := hown1.rl
  rw [hl8] at hr1
  have hf := FindS T1 hr1 (listR_le (by decide) (by decide)) hlek (by decide) (by rw [hl8]; decide)
  rw [hfv] at hf
  refine wl_callV _ (by simp -implicitDefEqProofs only [go_sem, simprocAttr]) hf ?_
  simp -implicitDefEqProofs only [go_sem, simprocAttr]
  refine wl_callT _ (by simp -implicitDefEqProofs only [go_sem, simprocAttr]) (o1 _) ?_
  rintro _ T2 hE2 ⟨b2, hb2, rfl, hown2⟩
  simp -implicitDefEqProofs only [go_sem, simprocAttr]
  have hr2 := hown2.rl
  rw [hl4] at hr2
  have hrf := RefineS T2 hr2 (listR_le (by decide) (by decide)) (by decide) (listR_ord (by decide) (by decide)) (by rw [hl4]; decide) (by rw [hl4]; decide)
  refine wl_callT _ (by simp -implicitDefEqProofs only [go_sem, simprocAttr]) hrf ?_
  rintro _ T3 hE3 ⟨b3, L, hb3, rfl, hown3, hperm, hpair⟩
  have ho2 := listR_ord (k := 2) (by decide) (by decide)
  have hL : L = listR 2 := by
    refine srt_unique RR.tot (hperm.trans awake_perm) ho2.ok hpair ?_
    refine List.Pairwise.imp_of_mem ?_ ho2.ord
    intro a b ha hb h
    exact RR.lt_leq (ho2.ok a ha) (ho2.ok b hb) h
  subst hL
  have hr3 := hown3.rl
  rw [hl8] at hr3
  have q1 := equalR T3 (hr1.ext (hE2.trans hE3)) (hw0.ext (hE1.trans (hE2.trans hE3))) (by rw [hl8]; decide)
  have q2 := equalR T3 hr3 (hr1.ext (hE2.trans hE3)) (by rw [hl8]; decide)
  simp only [decide_true] at q1 q2
  rw [hl4]
  have e1 : ∀ b, aLen tt [22] (.slice (some ⟨b, 0, none⟩) 8 0) = some (.int .i64 8) := fun _ => rfl
  simp -implicitDefEqProofs only [go_sem, simprocAttr]
  refine wl_callV _ (by simp -implicitDefEqProofs only [go_sem, simprocAttr]) q1 ?_
  simp -implicitDefEqProofs only [go_sem, simprocAttr]
  refine wl_callV _ (by simp -implicitDefEqProofs only [go_sem, simprocAttr]) q2 ?_
  simp -implicitDefEqProofs only [go_sem, simprocAttr, e1, res11]
  first | exact ⟨hE0.trans (hE1.trans (hE2.trans hE3)), rfl⟩ | exact hE0.trans (hE1.trans (hE2.trans hE3))
end Go.Proofs.YthhmkaikopdmjaaGreat
namespace Go.Proofs.YthhmkaikopdmjaaGreat
open Go Go.Fw
def idxZ (p : RR → Bool) (l : List RR) : Int := if l.findIdx p < l.length then (l.findIdx p : Nat) else -1
theorem idxZ_geq (p : RR → Bool) (l : List RR) : decide ((0 : Int) ≤ idxZ p l) = l.any p := by
  unfold idxZ
  by_cases h : l.findIdx p < l.length
  · rw [if_pos h]
    have := List.findIdx_getElem (xs := l) (p := p) (w := h)
    rw [List.any_eq_true.2 ⟨_, List.getElem_mem h, this⟩]
    exact decide_eq_true (by omega)
  · rw [if_neg h]
    have : l.any p = false := by
      rw [← Bool.not_eq_true, List.any_eq_true]
      rintro ⟨x, hx, hp⟩
      exact h (List.findIdx_lt_length_of_exists ⟨x, hx, hp⟩)
    rw [this]; rfl
theorem indexR (H : Heap) {v : Value} {l : List RR} {r : RR} (hv : RL H v l) (hl : l.length ≤ 1000000) : Sim Tryz.prog 61 #[v, r.val] H (.int .i64 (idxZ (fun x => decide (r = x)) l)) H := by
  refine flat_ex rfl ?_
  have e1 := hv.len (tt := tt) tt22
  unfold RR.val rV
  refine sim_ex tok mixed Tryz.func61 rfl (by kernel_rfl) (by kernel_rfl) (by simp only [Tryz.ntmps61, List.size_toArray, List.length_cons, List.length_nil]; omega) ?_
  simp -implicitDefEqProofs only [go_sem, simprocAttr, e1]
  refine ax_loopx (fun (i : Nat) s T => s 0 = v ∧ s 3 = .pointer (some ⟨H.length, 0, none⟩) ∧ s 7 = .int .i64 (l.length : Nat) ∧ s 8 = .int .i64 (i : Nat) ∧ i ≤ l.length ∧ i ≤ l.findIdx (fun x => decide (r = x)) ∧
    T = H ++ [⟨[.bool r.g, .string (bs r.n), .string (bs r.d), .bool r.g', .string (bs r.n'), .string (bs r.d')], 1, true⟩]) (fun i => l.length - i) 0 ?_ ?_
  · simp -implicitDefEqProofs only [go_sem, simprocAttr]
  rintro i s T ⟨s0, s3, s7, s8, hi, hf, rfl⟩
  simp -implicitDefEqProofs only [go_sem, simprocAttr, s7, s8]
  refine ax_cond2 ?_
  simp only [ev_tmp, ev_const, ev_func, upd_at, put_some, put_none, bndB_bool, Nat.reduceEqDiff, if_true, if_false, ↓reduceIte, reduceCtorEq]
  refine ⟨fun hc0 => have hlt := of_decide_eq_true hc0; ?_, fun hc0 => have hlt := of_decide_eq_false hc0; ?_⟩
  · have hil : i < l.length := by omega
    obtain ⟨b, i0, c, rfl, hA⟩ := hv.at (fun h => by rw [h] at hil; simp at hil)
    have r1 := fun G => rd_more (hA.rdR hil) G
    have hnn : (0 : Int) ≤ (i : Int) := by omega
    have hlt2 : (i : Int) < (l.length : Int) := by omega
    have m1 : IntKind.i64.wrap ((i : Int) + 1) = ((i + 1 : Nat) : Int) := by rw [w64 (by omega) (by omega)]; rfl
    have hq := eq26 r l[i]
    have hfi : l.findIdx (fun x => decide (r = x)) = i ∨ r ≠ l[i] := by
      by_cases h : r = l[i]
      · left
        refine Nat.le_antisymm ?_ hf
        refine Classical.byContradiction fun hn => ?_
        have := List.not_of_lt_findIdx (p := fun x => decide (r = x)) (xs := l) (i := i) (by omega)
        simp at this
        exact this h
      · exact .inr h
    have hfi2 : r ≠ l[i] → i + 1 ≤ l.findIdx (fun x => decide (r = x)) := by
      intro h
      refine Nat.lt_of_le_of_ne hf fun he => ?_
      have := List.findIdx_getElem (p := fun x => decide (r = x)) (xs := l) (w := by omega)
      simp [← he] at this
      exact h this
    unfold idxZ
    generalize l.findIdx (fun x => decide (r = x)) = F at *
    generalize l[i] = x at *
    unfold RR.cells at r1
    simp -implicitDefEqProofs only [go_sem, simprocAttr, s7, s8]
    refine ax_quiet (by kernel_rfl) ?_
    simp -implicitDefEqProofs only [go_sem, simprocAttr, s0, s3, s8, aIndexAddr, hnn, hlt2, r1, hq]
    by_cases he : r = x
    · have hF : F = i := by
        rcases hfi with h | h
        · exact h
        · exact absurd he h
      simp -implicitDefEqProofs only [go_sem, simprocAttr, wa_cond, axC_t, axC_f, he, s0, s3, s7, s8, res61]
      rw [hF, if_pos hil]
      exact ⟨.app _ _, rfl⟩
    · simp -implicitDefEqProofs only [go_sem, simprocAttr, wa_cond, axC_t, axC_f, he, s0, s3, s7, s8, m1]
      exact ⟨i + 1, ⟨rfl, by omega, hfi2 he⟩, by omega⟩
  · have : i = l.length := by omega
    subst this
    unfold idxZ
    rw [if_neg (by omega)]
    simp -implicitDefEqProofs only [go_sem, simprocAttr, res61]
    first | exact ⟨.app _ _, rfl⟩ | exact .app _ _
theorem containsR (H : Heap) {v : Value} {l : List RR} {r : RR} (hv : RL H v l) (hl : l.length ≤ 1000000) : Sim Tryz.prog 23 #[v, r.val] H (.bool (l.any fun x => decide (r = x))) H := by
  refine flat_ex rfl ?_
  have o1 := fun G => indexR (H ++ G) (r := r) (El.app hv G) hl
  have h := idxZ_geq (fun x => decide (r = x)) l
  generalize idxZ (fun x => decide (r = x)) l = z at *
  rw [← h]
  unfold RR.val rV at *
  refine sim_ex tok mixed Tryz.func23 rfl (by kernel_rfl) (by kernel_rfl) (by simp only [Tryz.ntmps23, List.size_toArray, List.length_cons, List.length_nil]; omega) ?_
  simp -implicitDefEqProofs only [go_sem, simprocAttr, mkI, iV, mkQ, qV, fV, ofV, rV, mkR]
  refine wl_callV _ (by simp -implicitDefEqProofs only [go_sem, simprocAttr, mkI, iV, mkQ, qV, fV, ofV, rV, mkR]) (o1 _) ?_
  simp -implicitDefEqProofs only [go_sem, simprocAttr, mkI, iV, mkQ, qV, fV, ofV, rV, mkR]
  simp -implicitDefEqProofs only [go_sem, simprocAttr, mkI, iV, mkQ, qV, fV, ofV, rV, mkR, res23]
  first | exact .app _ _ | exact ⟨.app _ _, rfl⟩ | exact .refl _ | exact ⟨.refl _, rfl⟩
end Go.Proofs.YthhmkaikopdmjaaGreat
namespace Go.Proofs.YthhmkaikopdmjaaGreat
open Go Go.Fw
theorem indexFuncR (H : Heap) {v : Value} {l : List RR} {g : FuncId} {cap : Array Value} {p : RR → Bool} (hv : RL H v l) (hl : l.length ≤ 1000000) (hf : ∀ x ∈ l, Sim Tryz.prog g (#[x.val] ++ cap) H (.bool (p x)) H) :
    Sim Tryz.prog 60 #[v, .func (.func g) #[] cap] H (.int .i64 (idxZ p l)) H := by
  have e1 := hv.len (tt := tt) tt22
  refine sim_of_ax tok mixed Tryz.func60 rfl (by kernel_rfl) (by kernel_rfl) (by simp only [Tryz.ntmps60, List.size_toArray, List.length_cons, List.length_nil]; omega) ?_
  simp -implicitDefEqProofs only [go_sem, simprocAttr, e1]
  refine ax_loopx (fun (i : Nat) s T => s 0 = v ∧ s 1 = .func (.func g) #[] cap ∧ s 7 = .int .i64 (l.length : Nat) ∧ s 8 = .int .i64 (i : Nat) ∧ i ≤ l.length ∧ i ≤ l.findIdx p ∧ T = H) (fun i => l.length - i) 0 ?_ ?_
  · simp -implicitDefEqProofs only [go_sem, simprocAttr]
  rintro i s T ⟨s0, s1, s7, s8, hi, hfi, rfl⟩
  simp -implicitDefEqProofs only [go_sem, simprocAttr, s7, s8]
  refine ax_cond2 ?_
  simp only [ev_tmp, ev_const, ev_func, upd_at, put_some, put_none, bndB_bool, Nat.reduceEqDiff, if_true, if_false, ↓reduceIte, reduceCtorEq]
  refine ⟨fun hc0 => have hlt := of_decide_eq_true hc0; ?_, fun hc0 => have hlt := of_decide_eq_false hc0; ?_⟩
  · have hil : i < l.length := by omega
    obtain ⟨b, i0, c, rfl, hA⟩ := hv.at (fun h => by rw [h] at hil; simp at hil)
    have r1 := hA.rdR hil
    have hnn : (0 : Int) ≤ (i : Int) := by omega
    have hlt2 : (i : Int) < (l.length : Int) := by omega
    have m1 : IntKind.i64.wrap ((i : Int) + 1) = ((i + 1 : Nat) : Int) := by rw [w64 (by omega) (by omega)]; rfl
    have o1 := hf _ (List.getElem_mem hil)
    have hF1 : p l[i] = true → l.findIdx p = i := by
      intro h
      refine Nat.le_antisymm ?_ hfi
      refine Classical.byContradiction fun hn => ?_
      have := List.not_of_lt_findIdx (p := p) (xs := l) (i := i) (by omega)
      rw [h] at this; cases this
    have hF2 : p l[i] = false → i + 1 ≤ l.findIdx p := by
      intro h
      refine Nat.lt_of_le_of_ne hfi fun he => ?_
      have := List.findIdx_getElem (p := p) (xs := l) (w := by omega)
      simp only [← he] at this
      rw [h] at this; cases this
    unfold idxZ
    generalize l.findIdx p = F at *
    generalize l[i] = x at *
    unfold RR.val rV at o1
    unfold RR.cells at r1
    simp -implicitDefEqProofs only [go_sem, simprocAttr, s0, s1, s7, s8, aIndexAddr, hnn, hlt2, r1]
    refine wl_callC g cap (by simp -implicitDefEqProofs only [go_sem, simprocAttr, s1]) _ (by simp -implicitDefEqProofs only [go_sem, simprocAttr]) o1 ?_
    cases hp : p x with
    | true =>
      have := hF1 hp
      subst this
      simp -implicitDefEqProofs only [go_sem, simprocAttr, wa_cond, axC_t, axC_f, res60]
      rw [if_pos hil]
    | false =>
      simp -implicitDefEqProofs only [go_sem, simprocAttr, wa_cond, axC_t, axC_f, s0, s1, s7, s8, m1]
      exact ⟨i + 1, ⟨rfl, by omega, hF2 hp⟩, by omega⟩
  · have : i = l.length := by omega
    subst this
    unfold idxZ
    rw [if_neg (by omega)]
    simp -implicitDefEqProofs only [go_sem, simprocAttr, res60]
theorem containsFuncR (H : Heap) {v : Value} {l : List RR} {g : FuncId} {cap : Array Value} {p : RR → Bool} (hv : RL H v l) (hl : l.length ≤ 1000000) (hf : ∀ x ∈ l, Sim Tryz.prog g (#[x.val] ++ cap) H (.bool (p x)) H) :
    Sim Tryz.prog 21 #[v, .func (.func g) #[] cap] H (.bool (l.any p)) H := by
  have o1 := indexFuncR H hv hl hf
  have h := idxZ_geq p l
  generalize idxZ p l = z at *
  rw [← h]
  refine sim_of_ax tok mixed Tryz.func21 rfl (by kernel_rfl) (by kernel_rfl) (by simp only [Tryz.ntmps21, List.size_toArray, List.length_cons, List.length_nil]; omega) ?_
  simp -implicitDefEqProofs only [go_sem, simprocAttr]
  refine wl_callV _ (by simp -implicitDefEqProofs only [go_sem, simprocAttr]) o1 ?_
  simp -implicitDefEqProofs only [go_sem, simprocAttr, res21]
end Go.Proofs.YthhmkaikopdmjaaGreat
namespace Go.Proofs.YthhmkaikopdmjaaGreat
open Go Go.Fw
theorem trimR (H : Heap) (m : List UInt8) : Sim Tryz.prog 225 #[.string (bs m)] H (.string (bs (dropZ m))) H := by
  refine sim_of_ax tok mixed Tryz.func225 rfl (by kernel_rfl) (by kernel_rfl) (by simp only [Tryz.ntmps225, List.size_toArray, List.length_cons, List.length_nil]; omega) ?_
  simp -implicitDefEqProofs only [go_sem, simprocAttr, -Int.reducePow, -Nat.reducePow]
  refine ax_loopx (fun (l : List UInt8) s H' => s 0 = .string (bs l) ∧ dropZ l = dropZ m ∧ H' = H) List.length m ?_ ?_
  · simp -implicitDefEqProofs only [go_sem, simprocAttr, -Int.reducePow, -Nat.reducePow]
  rintro l s T ⟨h0, hl, rfl⟩
  cases l with
  | nil =>
    have e : ¬ (0 : Int) < (0 : Int) := by omega
    simp -implicitDefEqProofs only [go_sem, simprocAttr, -Int.reducePow, -Nat.reducePow, wa_cond, axC_t, axC_f, h0, aLen, e, res225]
    rw [← hl]; rfl
  | cons b l =>
    have e : (0 : Int) < ((l.length + 1 : Nat) : Int) := by omega
    by_cases hb : b = 0
    · subst hb
      simp -implicitDefEqProofs only [go_sem, simprocAttr, -Int.reducePow, -Nat.reducePow, wa_cond, axC_t, axC_f, h0, aLen, e, aSlice, bnd, u8_zero, show ((0 : UInt8).toNat : Int) = 0 from rfl]
      refine ⟨l, ⟨?_, ?_⟩, by simp⟩
      · simp
      · rw [← hl]; rfl
    · have hb2 : ¬ ((b.toNat : Int) = 0) := fun h => hb (u8_zero.1 h)
      simp -implicitDefEqProofs only [go_sem, simprocAttr, -Int.reducePow, -Nat.reducePow, wa_cond, axC_t, axC_f, h0, aLen, e, hb2, res225]
      rw [← hl]
      simp [dropZ, hb]
theorem canon_mk (g : Bool) (m : List UInt8) : mkI (ival g m) = iV (g && decide (dropZ m ≠ [])) (dropZ m) := by
  unfold mkI
  rw [ival_abs, ← digB_strip]
  congr 1
  unfold ival
  by_cases h : valB m = 0
  · have : dropZ m = [] := by rw [digB_strip, h, digB_zero]
    cases g <;> simp [h, this]
  · have : dropZ m ≠ [] := fun hd => h (by rw [← valB_drop, hd]; rfl)
    cases g <;> simp [this] <;> omega
theorem canonR (H : Heap) (g : Bool) (m : List UInt8) : Sim Tryz.prog 220 #[iV g m] H (mkI (ival g m)) H := by
  refine flat_ex rfl ?_
  have o1 := fun H => trimR H m
  rw [canon_mk]
  unfold iV
  refine sim_ex tok mixed Tryz.func220 rfl (by kernel_rfl) (by kernel_rfl) (by simp only [Tryz.ntmps220, List.size_toArray, List.length_cons, List.length_nil]; omega) ?_
  simp -implicitDefEqProofs only [go_sem, simprocAttr, -Int.reducePow, -Nat.reducePow]
  cases m with
  | nil =>
    have e : ¬ (0 : Int) < (0 : Int) := by omega
    simp -implicitDefEqProofs only [go_sem, simprocAttr, -Int.reducePow, -Nat.reducePow, wa_cond, axC_t, axC_f, aLen, e]
    refine wl_callV _ (by simp -implicitDefEqProofs only [go_sem, simprocAttr, -Int.reducePow, -Nat.reducePow]) (o1 _) ?_
    have e2 : dropZ [] = [] := rfl
    rw [e2]
    cases g <;> simp -implicitDefEqProofs only [go_sem, simprocAttr, -Int.reducePow, -Nat.reducePow, res220] <;> first | exact .app _ _ | exact ⟨.app _ _, rfl⟩
  | cons b l =>
    have e : (0 : Int) < ((l.length + 1 : Nat) : Int) := by omega
    by_cases hb : b = 0
    · have hb2 : ((b.toNat : Int) = 0) := u8_zero.2 hb
      have hne : (bs (dropZ (b :: l)) = bs []) ↔ dropZ (b :: l) = [] := bs_inj
      simp -implicitDefEqProofs only [go_sem, simprocAttr, -Int.reducePow, -Nat.reducePow, wa_cond, axC_t, axC_f, aLen, e, hb2]
      refine wl_callV _ (by simp -implicitDefEqProofs only [go_sem, simprocAttr, -Int.reducePow, -Nat.reducePow]) (o1 _) ?_
      cases g <;> simp -implicitDefEqProofs only [go_sem, simprocAttr, -Int.reducePow, -Nat.reducePow, hne, res220] <;> first | exact .app _ _ | exact ⟨.app _ _, rfl⟩
    · have hb2 : ¬ ((b.toNat : Int) = 0) := fun h => hb (u8_zero.1 h)
      have hd : dropZ (b :: l) = b :: l := by simp [dropZ, hb]
      simp -implicitDefEqProofs only [go_sem, simprocAttr, -Int.reducePow, -Nat.reducePow, wa_cond, axC_t, axC_f, aLen, e, hb2, hd, res220]
      cases g <;> first | exact .app _ _ | exact ⟨.app _ _, rfl⟩
theorem smallR (H : Heap) {m : List UInt8} (hm : m.length ≤ 7) : Sim Tryz.prog 227 #[.string (bs m)] H (.int .i64 (valB m : Nat)) H := by
  refine sim_of_ax tok mixed Tryz.func227 rfl (by kernel_rfl) (by kernel_rfl) (by simp only [Tryz.ntmps227, List.size_toArray, List.length_cons, List.length_nil]; omega) ?_
  simp -implicitDefEqProofs only [go_sem, simprocAttr, -Int.reducePow, -Nat.reducePow, aLen]
  refine ax_loopx (fun (i : Nat) s T => s 0 = .string (bs m) ∧ s 3 = .int .i64 (valB (m.take i) : Nat) ∧ s 4 = .int .i64 (i : Nat) ∧ i ≤ m.length ∧ T = H) (fun i => m.length - i) 0 ?_ ?_
  · simp -implicitDefEqProofs only [go_sem, simprocAttr, -Int.reducePow, -Nat.reducePow]
    trivial
  rintro i s T ⟨h0, h3, h4, hi, hT⟩
  subst T
  simp -implicitDefEqProofs only [go_sem, simprocAttr, -Int.reducePow, -Nat.reducePow, h0, h4, aLen]
  refine ax_cond2 ?_
  simp only [ev_tmp, ev_const, ev_func, upd_at, put_some, put_none, bndB_bool, Nat.reduceEqDiff, if_true, if_false, ↓reduceIte, reduceCtorEq]
  refine ⟨fun hc0 => have hlt := of_decide_eq_true hc0; ?_, fun hc0 => have hlt := of_decide_eq_false hc0; ?_⟩
  · have hil : i < m.length := by omega
    have hg : m[i]? = some m[i] := List.getElem?_eq_getElem hil
    have hts := valB_take_succ hil
    have hvl := valB_take_lt m i
    have hvl2 := valB_take_lt m (i + 1)
    have hm1 := pow256_le (i := i) (by omega)
    have hm2 := pow256_le (i := i + 1) (by omega)
    have hb : m[i].toNat < 256 := UInt8.toNat_lt _
    generalize m[i] = x at *
    generalize valB (m.take i) = n at *
    have a1 : IntKind.i64.wrap ((n : Int) * 2 ^ 8) = ((n * 2 ^ 8 : Nat) : Int) := by
      rw [show ((n : Int) * 2 ^ 8) = ((n * 2 ^ 8 : Nat) : Int) by simp, w64n (by omega)]
    have a2 := w64n (n := x.toNat) (by omega)
    have a3 := or_i64 (a := n * 2 ^ 8) (b := x.toNat) (by omega) (by omega)
    have a4 : n * 2 ^ 8 ||| x.toNat = valB (m.take (i + 1)) := by rw [Nat.or_comm, or_add (by omega), hts]; omega
    rw [a4] at a3
    have a5 : IntKind.i64.wrap ((i : Int) + 1) = ((i + 1 : Nat) : Int) := by rw [w64 (by omega) (by omega)]; rfl
    have h8 : ¬ ((8 : Int) < 0) := by omega
    have hnn : (0 : Int) ≤ (i : Int) := by omega
    simp -implicitDefEqProofs only [go_sem, simprocAttr, -Int.reducePow, -Nat.reducePow, h0, h3, h4, hg, aConv, a1, a2, a3, a5, h8, hnn, show min 8 64 = 8 from rfl]
    exact ⟨i + 1, ⟨rfl, rfl, by omega⟩, by omega⟩
  · have hil : i = m.length := by omega
    subst hil
    rw [List.take_length] at h3
    simp -implicitDefEqProofs only [go_sem, simprocAttr, -Int.reducePow, -Nat.reducePow, h3, res227]
theorem valueR (H : Heap) (g : Bool) {m : List UInt8} (hm : m.length ≤ 7) : Sim Tryz.prog 221 #[iV g m] H (.int .i64 (ival g m)) H := by
  refine flat_ex rfl ?_
  have o1 := fun H => smallR H hm
  have hv := valB_lt m
  have hp := pow256_le (i := m.length) (by omega)
  have a1 : IntKind.i64.wrap (0 - (valB m : Int)) = -(valB m : Int) := by rw [w64 (by omega) (by omega)]; omega
  unfold iV ival
  refine sim_ex tok mixed Tryz.func221 rfl (by kernel_rfl) (by kernel_rfl) (by simp only [Tryz.ntmps221, List.size_toArray, List.length_cons, List.length_nil]; omega) ?_
  cases g
  · simp -implicitDefEqProofs only [go_sem, simprocAttr, -Int.reducePow, -Nat.reducePow, wa_cond, axC_t, axC_f]
    refine wl_callV _ (by simp -implicitDefEqProofs only [go_sem, simprocAttr, -Int.reducePow, -Nat.reducePow]) (o1 _) ?_
    simp -implicitDefEqProofs only [go_sem, simprocAttr, -Int.reducePow, -Nat.reducePow, res221]
    first | exact .app _ _ | exact ⟨.app _ _, rfl⟩
  · simp -implicitDefEqProofs only [go_sem, simprocAttr, -Int.reducePow, -Nat.reducePow, wa_cond, axC_t, axC_f]
    refine wl_callV _ (by simp -implicitDefEqProofs only [go_sem, simprocAttr, -Int.reducePow, -Nat.reducePow]) (o1 _) ?_
    simp -implicitDefEqProofs only [go_sem, simprocAttr, -Int.reducePow, -Nat.reducePow, a1, res221]
    first | exact .app _ _ | exact ⟨.app _ _, rfl⟩
end Go.Proofs.YthhmkaikopdmjaaGreat
namespace Go.Proofs.YthhmkaikopdmjaaGreat
open Go Go.Fw
theorem bs_list (l : List UInt8) : (bs l).toList = l := Go.ByteArray.toList_eq (bs l)
theorem bytesLess_val : ∀ (l m : List UInt8), l.length = m.length → Op.bytesLess l m = decide (valB l < valB m) := by
  intro l
  induction l with
  | nil =>
    intro m h
    have : m = [] := by simpa using h.symm
    subst this; rfl
  | cons a l ih =>
    intro m h
    cases m with
    | nil => simp at h
    | cons b m =>
      have hl : l.length = m.length := by simpa using h
      rw [valB_cons, valB_cons, hl]
      have h1 := valB_lt l
      have h2 := valB_lt m
      rw [hl] at h1
      unfold Op.bytesLess
      rw [ih m hl]
      generalize 256 ^ m.length = p at *
      by_cases hab : a < b
      · have hn : a.toNat < b.toNat := UInt8.lt_iff_toNat_lt.1 hab
        have : (a.toNat + 1) * p ≤ b.toNat * p := Nat.mul_le_mul_right _ hn
        rw [Nat.add_mul] at this
        rw [decide_eq_true (show a.toNat * p + valB l < b.toNat * p + valB m by omega)]
        simp [hab]
      · by_cases he : a = b
        · subst he
          simp [hab]
        · have hn : b.toNat < a.toNat := by
            have h3 : ¬ a.toNat < b.toNat := fun h => hab (UInt8.lt_iff_toNat_lt.2 h)
            have h4 : a.toNat ≠ b.toNat := fun h => he (UInt8.toNat_inj.1 h)
            omega
          have : (b.toNat + 1) * p ≤ a.toNat * p := Nat.mul_le_mul_right _ hn
          rw [Nat.add_mul] at this
          rw [decide_eq_false (show ¬ a.toNat * p + valB l < b.toNat * p + valB m by omega)]
          simp [hab, he]
theorem digB_len_lt {n k : Nat} (h : (digB n).length < (digB k).length) : n < k := by
  have h1 := valB_lt (digB n)
  rw [valB_dig] at h1
  have h2 := dropZ_ge (digB_drop k) (fun h0 => by rw [h0] at h; simp at h)
  rw [valB_dig] at h2
  have : 256 ^ (digB n).length ≤ 256 ^ ((digB k).length - 1) := Nat.pow_le_pow_right (by decide) (by omega)
  omega
theorem compareMagR (H : Heap) (n k : Nat) : Sim Tryz.prog 223 #[.string (bs (digB n)), .string (bs (digB k))] H (.int .i64 (sgn ((n : Int) - k))) H := by
  have h1 := digB_len_lt (n := n) (k := k)
  have h2 := digB_len_lt (n := k) (k := n)
  have h3 := bytesLess_val (digB n) (digB k)
  have h4 : bs (digB n) = bs (digB k) ↔ n = k := by
    rw [bs_inj]
    refine ⟨fun h => ?_, fun h => by rw [h]⟩
    have := congrArg valB h
    rwa [valB_dig, valB_dig] at this
  rw [valB_dig, valB_dig] at h3
  generalize digB n = l at *
  generalize digB k = m at *
  have bl : ∀ t, aBin tt .lss t (.string (bs l)) (.string (bs m)) = some (.bool (Op.bytesLess l m)) := fun t => by simp only [aBin, aStr, bs_list]
  have bg : ∀ t, aBin tt .gtr t (.string (bs l)) (.string (bs m)) = some (.bool !(Op.bytesLess l m || decide (bs l = bs m))) := fun t => by simp only [aBin, aStr, beq_ba]; rw [bs_list, bs_list]
  refine sim_of_ax tok mixed Tryz.func223 rfl (by kernel_rfl) (by kernel_rfl) (by simp only [Tryz.ntmps223, List.size_toArray, List.length_cons, List.length_nil]; omega) ?_
  simp -implicitDefEqProofs only [go_sem, simprocAttr, aLen]
  by_cases hl : l.length = m.length
  · have e : ((l.length : Int) = (m.length : Int)) := by omega
    have h3 := h3 hl
    simp -implicitDefEqProofs only [go_sem, simprocAttr, wa_cond, axC_t, axC_f, e, bl, h3]
    by_cases hlt : n < k
    · have hs : sgn ((n : Int) - k) = -1 := by unfold sgn; rw [if_pos (by omega)]
      rw [hs]
      simp -implicitDefEqProofs only [go_sem, simprocAttr, wa_cond, axC_t, axC_f, hlt, res223]
    · by_cases he : n = k
      · have hs : sgn ((n : Int) - k) = 0 := by unfold sgn; rw [if_neg (by omega), if_neg (by omega)]
        rw [hs]
        have h5 := h4.2 he
        simp -implicitDefEqProofs only [go_sem, simprocAttr, wa_cond, axC_t, axC_f, hlt, bg, h3, h4, he, Bool.or_true, Bool.false_or, res223]
      · have hs : sgn ((n : Int) - k) = 1 := by unfold sgn; rw [if_neg (by omega), if_pos (by omega)]
        rw [hs]
        simp -implicitDefEqProofs only [go_sem, simprocAttr, wa_cond, axC_t, axC_f, hlt, bg, h3, h4, he, Bool.or_false, Bool.false_or, res223]
  · have e : ¬ ((l.length : Int) = (m.length : Int)) := by omega
    by_cases hlt : l.length < m.length
    · have hn := h1 hlt
      have hs : sgn ((n : Int) - k) = -1 := by unfold sgn; rw [if_pos (by omega)]
      have e2 : (l.length : Int) < (m.length : Int) := by omega
      rw [hs]
      simp -implicitDefEqProofs only [go_sem, simprocAttr, wa_cond, axC_t, axC_f, e, e2, aLen, res223]
    · have hn := h2 (by omega)
      have hs : sgn ((n : Int) - k) = 1 := by unfold sgn; rw [if_neg (by omega), if_pos (by omega)]
      have e2 : ¬ (l.length : Int) < (m.length : Int) := by omega
      rw [hs]
      simp -implicitDefEqProofs only [go_sem, simprocAttr, wa_cond, axC_t, axC_f, e, e2, aLen, res223]
end Go.Proofs.YthhmkaikopdmjaaGreat
namespace Go.Proofs.YthhmkaikopdmjaaGreat
open Go Go.Fw
theorem byte1 (H : Heap) (x : Int) : aBuildSlice tt H 203 1 [(0, .int .u8 x)] = some (.slice (some ⟨H.length, 0, none⟩) 1 1, H ++ [⟨[.int .u8 x], 1, true⟩]) := rfl
theorem digB_one {n : Nat} (h0 : n ≠ 0) (h : n < 256) : digB n = [UInt8.ofNat n] := by
  rw [digB_step h0]
  have : n / 2 ^ 8 = 0 := by omega
  rw [this, digB_zero, List.nil_append]
theorem magR (H : Heap) {n : Nat} (hn : n < 9223372036854775808) : Sim Tryz.prog 166 #[.int .i64 (n : Nat)] H (.string (bs (digB n))) H := by
  refine flat_ex rfl ?_
  refine sim_ex tok mixed Tryz.func166 rfl (by kernel_rfl) (by kernel_rfl) (by simp only [Tryz.ntmps166, List.size_toArray, List.length_cons, List.length_nil]; omega) ?_
  simp -implicitDefEqProofs only [go_sem, Nat.reduceAdd, Nat.reduceSub, Nat.reduceMul, Nat.reduceLT, Nat.reduceLeDiff, Nat.reduceEqDiff, Nat.reduceBEq, Nat.reduceGT, Nat.reduceMod, Nat.reduceDiv, ↓reduceIte, reduceCtorEq, Int.reduceLE, Int.reduceLT, Int.reduceToNat, Int.reduceEq, Int.reduceNeg, Int.reduceAdd, Int.reduceSub, Int.reduceMul]
  by_cases h256 : n < 256
  · have e : (n : Int) < 256 := by omega
    by_cases h0 : n = 0
    · subst h0
      rw [digB_zero]
      simp -implicitDefEqProofs only [go_sem, Nat.reduceAdd, Nat.reduceSub, Nat.reduceMul, Nat.reduceLT, Nat.reduceLeDiff, Nat.reduceEqDiff, Nat.reduceBEq, Nat.reduceGT, Nat.reduceMod, Nat.reduceDiv, ↓reduceIte, reduceCtorEq, Int.reduceLE, Int.reduceLT, Int.reduceToNat, Int.reduceEq, Int.reduceNeg, Int.reduceAdd, Int.reduceSub, Int.reduceMul, wa_cond, axC_t, axC_f, res166]
      first | exact .refl _ | exact ⟨.refl _, rfl⟩
    · have e2 : ¬ (n : Int) = 0 := by omega
      have a2 := low_u8 n
      have hrd : rd (H ++ [⟨u8s [UInt8.ofNat n], 1, true⟩]) H.length 0 1 = some (u8s [UInt8.ofNat n]) := by simp [rd, u8s]
      have hb := bytesOf_u8s [UInt8.ofNat n]
      unfold u8s at hrd hb
      simp only [List.map_cons, List.map_nil] at hrd hb
      simp -implicitDefEqProofs only [go_sem, Nat.reduceAdd, Nat.reduceSub, Nat.reduceMul, Nat.reduceLT, Nat.reduceLeDiff, Nat.reduceEqDiff, Nat.reduceBEq, Nat.reduceGT, Nat.reduceMod, Nat.reduceDiv, ↓reduceIte, reduceCtorEq, Int.reduceLE, Int.reduceLT, Int.reduceToNat, Int.reduceEq, Int.reduceNeg, Int.reduceAdd, Int.reduceSub, Int.reduceMul, wa_cond, axC_t, axC_f, e, e2, aConv, a2, byte1, hrd, hb, res166]
      rw [digB_one h0 h256]
      first | exact .app _ _ | exact ⟨.app _ _, rfl⟩
  have e : ¬ (n : Int) < 256 := by omega
  have h0 : 0 < n := by omega
  simp -implicitDefEqProofs only [go_sem, Nat.reduceAdd, Nat.reduceSub, Nat.reduceMul, Nat.reduceLT, Nat.reduceLeDiff, Nat.reduceEqDiff, Nat.reduceBEq, Nat.reduceGT, Nat.reduceMod, Nat.reduceDiv, ↓reduceIte, reduceCtorEq, Int.reduceLE, Int.reduceLT, Int.reduceToNat, Int.reduceEq, Int.reduceNeg, Int.reduceAdd, Int.reduceSub, Int.reduceMul, wa_cond, axC_t, axC_f, e]
  refine ax_loopx (fun (r : Nat) s T => ∃ (i : Nat) (o : List UInt8), s 0 = .int .i64 (r : Nat) ∧ s 3 = .pointer (some ⟨H.length, 0, none⟩) ∧ s 4 = .int .i64 (i : Nat) ∧ i ≤ 8 ∧ o.length = 8 ∧ r < 256 ^ i ∧ r < 9223372036854775808 ∧ digB n = digB r ++ o.drop i ∧ (r = 0 → i < 8) ∧
    T = H ++ [⟨u8s o, 1, true⟩]) id n ?_ ?_
  · refine ⟨8, List.replicate 8 0, ?_⟩
    simp -implicitDefEqProofs only [go_sem, Nat.reduceAdd, Nat.reduceSub, Nat.reduceMul, Nat.reduceLT, Nat.reduceLeDiff, Nat.reduceEqDiff, Nat.reduceBEq, Nat.reduceGT, Nat.reduceMod, Nat.reduceDiv, ↓reduceIte, reduceCtorEq, Int.reduceLE, Int.reduceLT, Int.reduceToNat, Int.reduceEq, Int.reduceNeg, Int.reduceAdd, Int.reduceSub, Int.reduceMul]
    exact ⟨rfl, by simp, by rw [show 256 ^ 8 = 18446744073709551616 from rfl]; omega, hn, by simp, by omega, rfl⟩
  rintro r s T ⟨i, o, s0, s3, s4, hi, ho, hr, hr2, hd, h8, hT⟩
  subst T
  simp -implicitDefEqProofs only [go_sem, Nat.reduceAdd, Nat.reduceSub, Nat.reduceMul, Nat.reduceLT, Nat.reduceLeDiff, Nat.reduceEqDiff, Nat.reduceBEq, Nat.reduceGT, Nat.reduceMod, Nat.reduceDiv, ↓reduceIte, reduceCtorEq, Int.reduceLE, Int.reduceLT, Int.reduceToNat, Int.reduceEq, Int.reduceNeg, Int.reduceAdd, Int.reduceSub, Int.reduceMul, s0]
  refine ax_cond2 ?_
  simp only [ev_tmp, ev_const, ev_func, upd_at, put_some, put_none, bndB_bool, Nat.reduceEqDiff, if_true, if_false, ↓reduceIte, reduceCtorEq]
  refine ⟨fun hc0 => have hc := of_decide_eq_true hc0; ?_, fun hc0 => have hc := of_decide_eq_false hc0; ?_⟩
  · have hr0 : r ≠ 0 := by omega
    obtain ⟨i, rfl⟩ : ∃ i', i = i' + 1 := ⟨i - 1, by
      cases i with
      | zero => simp at hr; omega
      | succ i => omega⟩
    have a1 : IntKind.i64.wrap (((i + 1 : Nat) : Int) - 1) = (i : Int) := by rw [castS]; exact w64 (by omega) (by omega)
    have a2 := low_u8 r
    have a3 := fdiv_pow r 8
    have hi2 : (0 : Int) ≤ (i : Int) ∧ (i : Int) < ((8 : Nat) : Int) := by omega
    have hw := u8_wr (L := []) (l := o) (k := i) (b := UInt8.ofNat r) (by omega)
    have hd8 : ¬ ((8 : Int) < 0) := by omega
    simp -implicitDefEqProofs only [go_sem, Nat.reduceAdd, Nat.reduceSub, Nat.reduceMul, Nat.reduceLT, Nat.reduceLeDiff, Nat.reduceEqDiff, Nat.reduceBEq, Nat.reduceGT, Nat.reduceMod, Nat.reduceDiv, ↓reduceIte, reduceCtorEq, Int.reduceLE, Int.reduceLT, Int.reduceToNat, Int.reduceEq, Int.reduceNeg, Int.reduceAdd, Int.reduceSub, Int.reduceMul, s0, s3, s4, a1, aConv, a2, aIndexAddr, hi2, Nat.mul_one, hw, a3, hd8, show min 8 64 = 8 from rfl]
    refine ⟨r / 2 ^ 8, ⟨i, o.set i (UInt8.ofNat r), ?_⟩, Nat.div_lt_self (by omega) (by decide)⟩
    refine ⟨rfl, rfl, by omega, by simpa using ho, ?_, by omega, ?_, by omega, rfl⟩
    · rw [Nat.div_lt_iff_lt_mul (by decide)]
      rw [Nat.pow_succ] at hr
      exact hr
    · rw [hd, digB_step hr0, List.append_assoc]
      congr 1
      rw [List.drop_eq_getElem_cons (l := o.set i (UInt8.ofNat r)) (i := i) (by simp; omega), List.getElem_set_self, List.drop_set_of_lt (by omega)]
      rfl
  · have hr0 : r = 0 := by omega
    subst hr0
    have hi8 := h8 rfl
    rw [digB_zero, List.nil_append] at hd
    have hs : aSlice tt (H ++ [⟨u8s o, 1, true⟩]) 204 (.pointer (some ⟨H.length, 0, none⟩)) (some (.int .i64 (i : Nat))) none none = some (.slice (some ⟨H.length, i, none⟩) (8 - i) (8 - i)) := by
      simp only [aSlice, tt204, sizeT, tt5, bnd, Option.map_some, Int.toNat_natCast]
      simp [show i ≤ 8 by omega, hi8]
    have hrd := u8_rd (L := []) (l := o) (k := i) (n := 8 - i) (by omega)
    simp -implicitDefEqProofs only [go_sem, Nat.reduceAdd, Nat.reduceSub, Nat.reduceMul, Nat.reduceLT, Nat.reduceLeDiff, Nat.reduceEqDiff, Nat.reduceBEq, Nat.reduceGT, Nat.reduceMod, Nat.reduceDiv, ↓reduceIte, reduceCtorEq, Int.reduceLE, Int.reduceLT, Int.reduceToNat, Int.reduceEq, Int.reduceNeg, Int.reduceAdd, Int.reduceSub, Int.reduceMul, s3, s4, hs, aConv, hrd, bytesOf_u8s, res166]
    rw [hd]
    first | exact .app _ _ | exact ⟨.app _ _, rfl⟩
theorem ofR (H : Heap) {z : Int} (h1 : -9223372036854775808 ≤ z) (h2 : z < 9223372036854775808) : Sim Tryz.prog 102 #[.int .i64 z] H (mkI z) H := by
  refine flat_ex (flat_mkI z) ?_
  have b106 : ∀ s : ByteArray, aBuild tt 106 [(1, .string s)] = some (.agg #[.bool false, .string s]) := fun _ => rfl
  by_cases hz : 0 ≤ z
  · have o1 := fun H => magR H (n := z.natAbs) (by omega)
    rw [show ((z.natAbs : Nat) : Int) = z by omega] at o1
    have e : ¬ z < 0 := by omega
    unfold mkI iV
    refine sim_ex tok mixed Tryz.func102 rfl (by kernel_rfl) (by kernel_rfl) (by simp only [Tryz.ntmps102, List.size_toArray, List.length_cons, List.length_nil]; omega) ?_
    simp -implicitDefEqProofs only [go_sem, Nat.reduceAdd, Nat.reduceSub, Nat.reduceMul, Nat.reduceLT, Nat.reduceLeDiff, Nat.reduceEqDiff, Nat.reduceBEq, Nat.reduceGT, Nat.reduceMod, Nat.reduceDiv, ↓reduceIte, reduceCtorEq, Int.reduceLE, Int.reduceLT, Int.reduceToNat, Int.reduceEq, Int.reduceNeg, Int.reduceAdd, Int.reduceSub, Int.reduceMul, wa_cond, axC_t, axC_f, hz]
    refine wl_callV _ (by simp -implicitDefEqProofs only [go_sem, Nat.reduceAdd, Nat.reduceSub, Nat.reduceMul, Nat.reduceLT, Nat.reduceLeDiff, Nat.reduceEqDiff, Nat.reduceBEq, Nat.reduceGT, Nat.reduceMod, Nat.reduceDiv, ↓reduceIte, reduceCtorEq, Int.reduceLE, Int.reduceLT, Int.reduceToNat, Int.reduceEq, Int.reduceNeg, Int.reduceAdd, Int.reduceSub, Int.reduceMul]) (o1 _) ?_
    simp -implicitDefEqProofs only [go_sem, Nat.reduceAdd, Nat.reduceSub, Nat.reduceMul, Nat.reduceLT, Nat.reduceLeDiff, Nat.reduceEqDiff, Nat.reduceBEq, Nat.reduceGT, Nat.reduceMod, Nat.reduceDiv, ↓reduceIte, reduceCtorEq, Int.reduceLE, Int.reduceLT, Int.reduceToNat, Int.reduceEq, Int.reduceNeg, Int.reduceAdd, Int.reduceSub, Int.reduceMul, b106, e, res102]
    first | exact .app _ _ | exact ⟨.app _ _, rfl⟩
  · have e : z < 0 := by omega
    by_cases hm : z = -9223372036854775808
    · subst hm
      have a1 : IntKind.i64.wrap 9223372036854775808 = -9223372036854775808 := by decide
      have hd : digB (Int.natAbs (-9223372036854775808)) = [128, 0, 0, 0, 0, 0, 0, 0] := by decide +kernel
      unfold mkI iV
      rw [hd]
      refine sim_ex tok mixed Tryz.func102 rfl (by kernel_rfl) (by kernel_rfl) (by simp only [Tryz.ntmps102, List.size_toArray, List.length_cons, List.length_nil]; omega) ?_
      simp -implicitDefEqProofs only [go_sem, Nat.reduceAdd, Nat.reduceSub, Nat.reduceMul, Nat.reduceLT, Nat.reduceLeDiff, Nat.reduceEqDiff, Nat.reduceBEq, Nat.reduceGT, Nat.reduceMod, Nat.reduceDiv, ↓reduceIte, reduceCtorEq, Int.reduceLE, Int.reduceLT, Int.reduceToNat, Int.reduceEq, Int.reduceNeg, Int.reduceAdd, Int.reduceSub, Int.reduceMul, wa_cond, axC_t, axC_f, a1, res102]
      first | exact .app _ _ | exact ⟨.app _ _, rfl⟩
    · have a1 : IntKind.i64.wrap (0 - z) = -z := by rw [w64 (by omega) (by omega)]; omega
      have e2 : ¬ z = -z := by omega
      have o1 := fun H => magR H (n := z.natAbs) (by omega)
      rw [show ((z.natAbs : Nat) : Int) = -z by omega] at o1
      unfold mkI iV
      refine sim_ex tok mixed Tryz.func102 rfl (by kernel_rfl) (by kernel_rfl) (by simp only [Tryz.ntmps102, List.size_toArray, List.length_cons, List.length_nil]; omega) ?_
      simp -implicitDefEqProofs only [go_sem, Nat.reduceAdd, Nat.reduceSub, Nat.reduceMul, Nat.reduceLT, Nat.reduceLeDiff, Nat.reduceEqDiff, Nat.reduceBEq, Nat.reduceGT, Nat.reduceMod, Nat.reduceDiv, ↓reduceIte, reduceCtorEq, Int.reduceLE, Int.reduceLT, Int.reduceToNat, Int.reduceEq, Int.reduceNeg, Int.reduceAdd, Int.reduceSub, Int.reduceMul, wa_cond, axC_t, axC_f, hz, a1, e2]
      refine wl_callV _ (by simp -implicitDefEqProofs only [go_sem, Nat.reduceAdd, Nat.reduceSub, Nat.reduceMul, Nat.reduceLT, Nat.reduceLeDiff, Nat.reduceEqDiff, Nat.reduceBEq, Nat.reduceGT, Nat.reduceMod, Nat.reduceDiv, ↓reduceIte, reduceCtorEq, Int.reduceLE, Int.reduceLT, Int.reduceToNat, Int.reduceEq, Int.reduceNeg, Int.reduceAdd, Int.reduceSub, Int.reduceMul]) (o1 _) ?_
      simp -implicitDefEqProofs only [go_sem, Nat.reduceAdd, Nat.reduceSub, Nat.reduceMul, Nat.reduceLT, Nat.reduceLeDiff, Nat.reduceEqDiff, Nat.reduceBEq, Nat.reduceGT, Nat.reduceMod, Nat.reduceDiv, ↓reduceIte, reduceCtorEq, Int.reduceLE, Int.reduceLT, Int.reduceToNat, Int.reduceEq, Int.reduceNeg, Int.reduceAdd, Int.reduceSub, Int.reduceMul, e, res102]
      first | exact .app _ _ | exact ⟨.app _ _, rfl⟩
theorem negR (H : Heap) (g : Bool) (m : List UInt8) : Sim Tryz.prog 163 #[iV g m] H (mkI (-(ival g m))) H := by
  refine flat_ex (flat_mkI _) ?_
  have o1 := fun H => canonR H g m
  generalize ival g m = z at *
  have hne : bs (digB z.natAbs) = bs [] ↔ z = 0 := by rw [bs_inj, digB_nil_iff]; omega
  have hn : mkI (-z) = .agg #[.bool (!decide (z < 0) && decide (z ≠ 0)), .string (bs (digB z.natAbs))] := by
    unfold mkI iV
    rw [Int.natAbs_neg]
    congr 3
    by_cases h1 : z < 0
    · have : ¬ -z < 0 := by omega
      simp [h1, this]; omega
    · by_cases h2 : z = 0
      · subst h2; rfl
      · have : -z < 0 := by omega
        simp [h1, h2, this]; omega
  rw [hn]
  unfold mkI iV at *
  refine sim_ex tok mixed Tryz.func163 rfl (by kernel_rfl) (by kernel_rfl) (by simp only [Tryz.ntmps163, List.size_toArray, List.length_cons, List.length_nil]; omega) ?_
  simp -implicitDefEqProofs only [go_sem, Nat.reduceAdd, Nat.reduceSub, Nat.reduceMul, Nat.reduceLT, Nat.reduceLeDiff, Nat.reduceEqDiff, Nat.reduceBEq, Nat.reduceGT, Nat.reduceMod, Nat.reduceDiv, ↓reduceIte, reduceCtorEq, Int.reduceLE, Int.reduceLT, Int.reduceToNat, Int.reduceEq, Int.reduceNeg, Int.reduceAdd, Int.reduceSub, Int.reduceMul]
  refine wl_callV _ (by simp -implicitDefEqProofs only [go_sem, Nat.reduceAdd, Nat.reduceSub, Nat.reduceMul, Nat.reduceLT, Nat.reduceLeDiff, Nat.reduceEqDiff, Nat.reduceBEq, Nat.reduceGT, Nat.reduceMod, Nat.reduceDiv, ↓reduceIte, reduceCtorEq, Int.reduceLE, Int.reduceLT, Int.reduceToNat, Int.reduceEq, Int.reduceNeg, Int.reduceAdd, Int.reduceSub, Int.reduceMul]) (o1 _) ?_
  by_cases h1 : z < 0
  · simp -implicitDefEqProofs only [go_sem, Nat.reduceAdd, Nat.reduceSub, Nat.reduceMul, Nat.reduceLT, Nat.reduceLeDiff, Nat.reduceEqDiff, Nat.reduceBEq, Nat.reduceGT, Nat.reduceMod, Nat.reduceDiv, ↓reduceIte, reduceCtorEq, Int.reduceLE, Int.reduceLT, Int.reduceToNat, Int.reduceEq, Int.reduceNeg, Int.reduceAdd, Int.reduceSub, Int.reduceMul, h1, Bool.false_and, res163]
    first | exact .app _ _ | exact ⟨.app _ _, rfl⟩
  · simp -implicitDefEqProofs only [go_sem, Nat.reduceAdd, Nat.reduceSub, Nat.reduceMul, Nat.reduceLT, Nat.reduceLeDiff, Nat.reduceEqDiff, Nat.reduceBEq, Nat.reduceGT, Nat.reduceMod, Nat.reduceDiv, ↓reduceIte, reduceCtorEq, Int.reduceLE, Int.reduceLT, Int.reduceToNat, Int.reduceEq, Int.reduceNeg, Int.reduceAdd, Int.reduceSub, Int.reduceMul, h1, hne, Bool.true_and, res163]
    first | exact .app _ _ | exact ⟨.app _ _, rfl⟩
end Go.Proofs.YthhmkaikopdmjaaGreat
namespace Go.Proofs.YthhmkaikopdmjaaGreat
open Go Go.Fw
def dgt (l : List UInt8) (k : Nat) : Nat := if h : k < l.length then (l[l.length - 1 - k]'(by omega)).toNat else 0
def lowB (l : List UInt8) (k : Nat) : Nat := valB (l.drop (l.length - k))
theorem dgt_lt (l : List UInt8) (k : Nat) : dgt l k < 256 := by unfold dgt; split; exact UInt8.toNat_lt _; omega
theorem lowB_zero (l : List UInt8) : lowB l 0 = 0 := by simp [lowB, valB]
theorem lowB_all {l : List UInt8} {k : Nat} (h : l.length ≤ k) : lowB l k = valB l := by unfold lowB; rw [show l.length - k = 0 by omega, List.drop_zero]
theorem lowB_succ (l : List UInt8) (k : Nat) : lowB l (k + 1) = lowB l k + 256 ^ k * dgt l k := by
  unfold dgt
  by_cases h : k < l.length
  · rw [dif_pos h]
    unfold lowB
    rw [List.drop_eq_getElem_cons (show l.length - (k + 1) < l.length by omega), valB_cons]
    have e : l.length - (k + 1) + 1 = l.length - k := by omega
    have e2 : (l.drop (l.length - k)).length = k := by simp; omega
    rw [e, e2, Nat.mul_comm, Nat.add_comm]
    congr 3
    congr 1
    omega
  · rw [dif_neg h, lowB_all (by omega), lowB_all (by omega), Nat.mul_zero, Nat.add_zero]
theorem dgt_at {l : List UInt8} {k : Nat} (h : k < l.length) : ∃ b : UInt8, l[l.length - 1 - k]? = some b ∧ b.toNat = dgt l k := by
  refine ⟨l[l.length - 1 - k]'(by omega), List.getElem?_eq_getElem (by omega), ?_⟩
  unfold dgt
  rw [dif_pos h]
theorem dgt_zero {l : List UInt8} {k : Nat} (h : ¬ k < l.length) : dgt l k = 0 := by unfold dgt; rw [dif_neg h]
theorem lowB_set {o : List UInt8} {k : Nat} (h : k < o.length) (b : UInt8) : lowB (o.set (o.length - 1 - k) b) (k + 1) = lowB o k + 256 ^ k * b.toNat := by
  rw [lowB_succ]
  congr 1
  · unfold lowB
    rw [List.length_set, List.drop_set_of_lt (by omega)]
  · unfold dgt
    rw [dif_pos (by simpa using h)]
    simp
theorem sum_step8 {A B C p c x y : Nat} (h : A + p * c = B + C) : A + p * ((c + x + y) % 256) + p * 256 * ((c + x + y) / 256) = (B + p * x) + (C + p * y) := by
  have e := Nat.mod_add_div (c + x + y) 256
  have e2 : p * ((c + x + y) % 256) + p * 256 * ((c + x + y) / 256) = p * (c + x + y) := by
    rw [Nat.mul_assoc, ← Nat.mul_add, e]
  rw [Nat.add_assoc, e2, Nat.mul_add, Nat.mul_add]
  omega
theorem make_u8 (H : Heap) (n : Nat) (h : n ≤ 10000000) : aMakeSlice tt H 203 (.int .i64 (n : Nat)) (.int .i64 (n : Nat)) = some (.slice (some ⟨H.length, 0, none⟩) n n, H ++ [⟨u8s (List.replicate n 0), 1, true⟩]) := by
  unfold aMakeSlice
  simp only [tt203, tt5]
  rw [if_pos (by omega)]
  by_cases h0 : n = 0
  · subst h0
    simp [zerosL, u8s]
  · simp only [Int.toNat_natCast, Nat.mul_one, if_neg h0, cells_int]
    rw [zerosL_one]
    simp [u8s]
theorem addMagR (H : Heap) {l m : List UInt8} (hl : l.length ≤ 1000000) (hm : m.length ≤ 1000000) :
    Sim Tryz.prog 222 #[.string (bs l), .string (bs m)] H (.string (bs (digB (valB l + valB m)))) H := by
  refine flat_ex rfl ?_
  obtain ⟨n, hn⟩ : ∃ n, n = max l.length m.length + 1 := ⟨_, rfl⟩
  have hmx : ∀ H, aBuiltin tt H .max [3, 3] [.int .i64 (l.length : Nat), .int .i64 (m.length : Nat)] = some (.int .i64 ((n - 1 : Nat) : Int), H) := by
    intro H
    unfold aBuiltin
    by_cases h : m.length > l.length
    · have e : ((n - 1 : Nat) : Int) = (m.length : Int) := by omega
      have h2 : (m.length : Int) > (l.length : Int) := by omega
      simp [maxInts, h2, e]
    · have e : ((n - 1 : Nat) : Int) = (l.length : Int) := by omega
      have h2 : ¬ (m.length : Int) > (l.length : Int) := by omega
      simp [maxInts, h2, e]
  have a1 : IntKind.i64.wrap (((n - 1 : Nat) : Int) + 1) = (n : Int) := by rw [w64 (by omega) (by omega)]; omega
  refine sim_ex tok mixed Tryz.func222 rfl (by kernel_rfl) (by kernel_rfl) (by simp only [Tryz.ntmps222, List.size_toArray, List.length_cons, List.length_nil]; omega) ?_
  simp -implicitDefEqProofs only [go_sem, simprocAttr, -Int.reducePow, -Nat.reducePow, aLen, hmx, a1, make_u8 H n (by omega)]
  refine ax_loopx (fun (i : Nat) s T => ∃ (o : List UInt8) (c : Nat), s 0 = .string (bs l) ∧ s 1 = .string (bs m) ∧ s 5 = .int .i64 (n : Nat) ∧ s 6 = .slice (some ⟨H.length, 0, none⟩) n n ∧ s 7 = .int .i64 (c : Nat) ∧ s 8 = .int .i64 ((i + 1 : Nat) : Int) ∧
    i ≤ n ∧ c ≤ 1 ∧ o.length = n ∧ lowB o i + 256 ^ i * c = lowB l i + lowB m i ∧ T = H ++ [⟨u8s o, 1, true⟩]) (fun i => n - i) 0 ?_ ?_
  · refine ⟨List.replicate n 0, 0, ?_⟩
    simp -implicitDefEqProofs only [go_sem, simprocAttr, -Int.reducePow, -Nat.reducePow]
    exact ⟨by simp, by simp [lowB_zero]⟩
  rintro i s T ⟨o, c, s0, s1, s5, s6, s7, s8, hi, hc, ho, hinv, rfl⟩
  simp -implicitDefEqProofs only [go_sem, simprocAttr, -Int.reducePow, -Nat.reducePow, s5, s8]
  refine ax_cond2 ?_
  simp only [ev_tmp, ev_const, ev_func, upd_at, put_some, put_none, bndB_bool, Nat.reduceEqDiff, if_true, if_false, ↓reduceIte, reduceCtorEq]
  refine ⟨fun hc0 => have hlt := of_decide_eq_true hc0; ?_, fun hc0 => have hlt := of_decide_eq_false hc0; ?_⟩
  · have hin : i < n := by omega
    have hst := sum_step8 (x := dgt l i) (y := dgt m i) hinv
    rw [← lowB_succ, ← lowB_succ] at hst
    have hx := dgt_lt l i
    have hy := dgt_lt m i
    have hlc : ((i + 1 : Nat) : Int) ≤ (l.length : Int) ↔ i < l.length := by omega
    have hmc : ((i + 1 : Nat) : Int) ≤ (m.length : Int) ↔ i < m.length := by omega
    simp -implicitDefEqProofs only [go_sem, simprocAttr, -Int.reducePow, -Nat.reducePow, s0, s8, aLen]
    refine ax_mid (fun s T => s 0 = .string (bs l) ∧ s 1 = .string (bs m) ∧ s 5 = .int .i64 (n : Nat) ∧ s 6 = .slice (some ⟨H.length, 0, none⟩) n n ∧ s 7 = .int .i64 ((c + dgt l i : Nat) : Int) ∧ s 8 = .int .i64 ((i + 1 : Nat) : Int) ∧ T = H ++ [⟨u8s o, 1, true⟩]) ?_ ?_
    · by_cases h : i < l.length
      · obtain ⟨b, hb1, hb2⟩ := dgt_at h
        have a2 : IntKind.i64.wrap ((l.length : Int) - ((i + 1 : Nat) : Int)) = ((l.length - 1 - i : Nat) : Int) := by rw [w64 (by omega) (by omega)]; omega
        have a3 : IntKind.i64.wrap ((b.toNat : Nat) : Int) = ((b.toNat : Nat) : Int) := w64n (by omega)
        have a4 : IntKind.i64.wrap ((c : Int) + (b.toNat : Int)) = ((c + dgt l i : Nat) : Int) := by rw [w64 (by omega) (by omega)]; omega
        have hnn : (0 : Int) ≤ ((l.length - 1 - i : Nat) : Int) := by omega
        have h1 := hlc.2 h
        simp -implicitDefEqProofs only [go_sem, simprocAttr, -Int.reducePow, -Nat.reducePow, wa_cond, axC_t, axC_f, h1, s0, s1, s5, s6, s7, s8, aLen, a2, hnn, hb1, aConv, a3, a4]
      · have h1 : ¬ ((i + 1 : Nat) : Int) ≤ (l.length : Int) := fun hh => h (hlc.1 hh)
        rw [dgt_zero h]
        simp -implicitDefEqProofs only [go_sem, simprocAttr, -Int.reducePow, -Nat.reducePow, wa_cond, axC_t, axC_f, h1, s0, s1, s5, s6, s7, s8]
    clear s0 s1 s5 s6 s7 s8
    rintro s T ⟨s0, s1, s5, s6, s7, s8, rfl⟩
    simp -implicitDefEqProofs only [go_sem, simprocAttr, -Int.reducePow, -Nat.reducePow, s1, s8, aLen]
    refine ax_mid (fun s T => s 0 = .string (bs l) ∧ s 1 = .string (bs m) ∧ s 5 = .int .i64 (n : Nat) ∧ s 6 = .slice (some ⟨H.length, 0, none⟩) n n ∧ s 7 = .int .i64 ((c + dgt l i + dgt m i : Nat) : Int) ∧ s 8 = .int .i64 ((i + 1 : Nat) : Int) ∧ T = H ++ [⟨u8s o, 1, true⟩]) ?_ ?_
    · by_cases h : i < m.length
      · obtain ⟨b, hb1, hb2⟩ := dgt_at h
        have a2 : IntKind.i64.wrap ((m.length : Int) - ((i + 1 : Nat) : Int)) = ((m.length - 1 - i : Nat) : Int) := by rw [w64 (by omega) (by omega)]; omega
        have a3 : IntKind.i64.wrap ((b.toNat : Nat) : Int) = ((b.toNat : Nat) : Int) := w64n (by omega)
        have a4 : IntKind.i64.wrap (((c + dgt l i : Nat) : Int) + (b.toNat : Int)) = ((c + dgt l i + dgt m i : Nat) : Int) := by rw [w64 (by omega) (by omega)]; omega
        have hnn : (0 : Int) ≤ ((m.length - 1 - i : Nat) : Int) := by omega
        have h1 := hmc.2 h
        simp -implicitDefEqProofs only [go_sem, simprocAttr, -Int.reducePow, -Nat.reducePow, wa_cond, axC_t, axC_f, h1, s0, s1, s5, s6, s7, s8, aLen, a2, hnn, hb1, aConv, a3, a4]
      · have h1 : ¬ ((i + 1 : Nat) : Int) ≤ (m.length : Int) := fun hh => h (hmc.1 hh)
        rw [dgt_zero h]
        simp -implicitDefEqProofs only [go_sem, simprocAttr, -Int.reducePow, -Nat.reducePow, wa_cond, axC_t, axC_f, h1, s0, s1, s5, s6, s7, s8, Nat.add_zero]
    clear s0 s1 s5 s6 s7 s8
    rintro s T ⟨s0, s1, s5, s6, s7, s8, rfl⟩
    have a5 : IntKind.i64.wrap ((n : Int) - ((i + 1 : Nat) : Int)) = ((o.length - 1 - i : Nat) : Int) := by rw [w64 (by omega) (by omega)]; omega
    have a6 := low_u8 (c + dgt l i + dgt m i)
    have a7 := fdiv_pow (c + dgt l i + dgt m i) 8
    have hd8 : ¬ ((8 : Int) < 0) := by omega
    have a8 : IntKind.i64.wrap (((i + 1 : Nat) : Int) + 1) = ((i + 1 + 1 : Nat) : Int) := by rw [w64 (by omega) (by omega)]; rfl
    have hi2 : (0 : Int) ≤ ((o.length - 1 - i : Nat) : Int) ∧ ((o.length - 1 - i : Nat) : Int) < (n : Int) := by omega
    have hw := u8_wr (L := []) (l := o) (k := o.length - 1 - i) (b := UInt8.ofNat (c + dgt l i + dgt m i)) (by omega)
    have hset := lowB_set (o := o) (k := i) (by omega) (UInt8.ofNat (c + dgt l i + dgt m i))
    have hby : (UInt8.ofNat (c + dgt l i + dgt m i)).toNat = (c + dgt l i + dgt m i) % 256 := by simp
    rw [hby] at hset
    simp -implicitDefEqProofs only [go_sem, simprocAttr, -Int.reducePow, -Nat.reducePow, s0, s1, s5, s6, s7, s8, a5, aConv, a6, aIndexAddr, hi2, Nat.mul_one, hw, a7, hd8, show min 8 64 = 8 from rfl, a8]
    refine ⟨i + 1, ⟨o.set (o.length - 1 - i) (UInt8.ofNat (c + dgt l i + dgt m i)), (c + dgt l i + dgt m i) / 2 ^ 8, rfl, rfl, by omega, by omega, by simpa using ho, ?_, rfl⟩, by omega⟩
    rw [hset, Nat.pow_succ]
    exact hst
  · have hin : i = n := by omega
    subst hin
    have hvo := valB_lt o
    have hvl := valB_lt l
    have hvm := valB_lt m
    rw [lowB_all (by omega), lowB_all (by omega), lowB_all (by omega)] at hinv
    have p1 : 256 ^ l.length ≤ 256 ^ (i - 1) := Nat.pow_le_pow_right (by decide) (by omega)
    have p2 : 256 ^ m.length ≤ 256 ^ (i - 1) := Nat.pow_le_pow_right (by decide) (by omega)
    have p3 : 256 ^ i = 256 * 256 ^ (i - 1) := by rw [Nat.mul_comm, ← Nat.pow_succ]; congr 1; omega
    have hc0 : c = 0 := by
      rcases Nat.eq_zero_or_pos c with h | h
      · exact h
      · have : c = 1 := by omega
        subst this
        rw [p3] at hinv
        omega
    subst hc0
    rw [Nat.mul_zero, Nat.add_zero] at hinv
    have hrd := u8_rd (L := []) (l := o) (k := 0) (n := i) (by omega)
    rw [List.drop_zero] at hrd
    have o1 := fun H => trimR H o
    rw [digB_strip, hinv] at o1
    unfold bs at o1
    simp -implicitDefEqProofs only [go_sem, simprocAttr, -Int.reducePow, -Nat.reducePow, s6, aConv, hrd, bytesOf_u8s]
    refine wl_callV _ (by simp -implicitDefEqProofs only [go_sem, simprocAttr, -Int.reducePow, -Nat.reducePow]) (o1 _) ?_
    simp -implicitDefEqProofs only [go_sem, simprocAttr, -Int.reducePow, -Nat.reducePow, res222]
    first | exact .app _ _ | exact ⟨.app _ _, rfl⟩
end Go.Proofs.YthhmkaikopdmjaaGreat
namespace Go.Proofs.YthhmkaikopdmjaaGreat
open Go Go.Fw
theorem sub_step8 {Lo Lm Ll p c x y b c' : Nat} (h : Lo + Lm = Ll + p * c) (hb : b + y + c = x + 256 * c') : (Lo + p * b) + (Lm + p * y) = (Ll + p * x) + p * 256 * c' := by
  have := congrArg (p * ·) hb
  simp only [Nat.mul_add] at this
  rw [Nat.mul_assoc]
  omega
theorem subMagR (H : Heap) {l m : List UInt8} (hl : l.length ≤ 1000000) (hm : m.length ≤ l.length) (hle : valB m ≤ valB l) :
    Sim Tryz.prog 224 #[.string (bs l), .string (bs m)] H (.string (bs (digB (valB l - valB m)))) H := by
  refine flat_ex rfl ?_
  refine sim_ex tok mixed Tryz.func224 rfl (by kernel_rfl) (by kernel_rfl) (by simp only [Tryz.ntmps224, List.size_toArray, List.length_cons, List.length_nil]; omega) ?_
  simp -implicitDefEqProofs only [go_sem, simprocAttr, aLen, make_u8 H l.length (by omega)]
  refine ax_loopx (fun (i : Nat) s T => ∃ (o : List UInt8) (c : Nat), s 0 = .string (bs l) ∧ s 1 = .string (bs m) ∧ s 5 = .slice (some ⟨H.length, 0, none⟩) l.length l.length ∧ s 6 = .int .i64 (c : Nat) ∧ s 7 = .int .i64 ((i + 1 : Nat) : Int) ∧
    i ≤ l.length ∧ c ≤ 1 ∧ o.length = l.length ∧ lowB o i + lowB m i = lowB l i + 256 ^ i * c ∧ T = H ++ [⟨u8s o, 1, true⟩]) (fun i => l.length - i) 0 ?_ ?_
  · refine ⟨List.replicate l.length 0, 0, ?_⟩
    simp -implicitDefEqProofs only [go_sem, simprocAttr]
    exact ⟨by simp, by simp [lowB_zero]⟩
  rintro i s T ⟨o, c, s0, s1, s5, s6, s7, hi, hc, ho, hinv, rfl⟩
  simp -implicitDefEqProofs only [go_sem, simprocAttr, s0, s7, aLen]
  refine ax_cond2 ?_
  simp only [ev_tmp, ev_const, ev_func, upd_at, put_some, put_none, bndB_bool, Nat.reduceEqDiff, if_true, if_false, ↓reduceIte, reduceCtorEq]
  refine ⟨fun hc0 => have hlt := of_decide_eq_true hc0; ?_, fun hc0 => have hlt := of_decide_eq_false hc0; ?_⟩
  · have hin : i < l.length := by omega
    have hx := dgt_lt l i
    have hy := dgt_lt m i
    obtain ⟨b, hb1, hb2⟩ := dgt_at hin
    have hmc : ((i + 1 : Nat) : Int) ≤ (m.length : Int) ↔ i < m.length := by omega
    have a2 : IntKind.i64.wrap ((l.length : Int) - ((i + 1 : Nat) : Int)) = ((l.length - 1 - i : Nat) : Int) := by rw [w64 (by omega) (by omega)]; omega
    have a3 : IntKind.i64.wrap ((b.toNat : Nat) : Int) = ((b.toNat : Nat) : Int) := w64n (by omega)
    have a4 : IntKind.i64.wrap ((b.toNat : Int) - (c : Int)) = ((dgt l i : Nat) : Int) - (c : Int) := by rw [w64 (by omega) (by omega)]; omega
    have hnn : (0 : Int) ≤ ((l.length - 1 - i : Nat) : Int) := by omega
    simp -implicitDefEqProofs only [go_sem, simprocAttr, s0, s1, s5, s6, s7, aLen, a2, hnn, hb1, aConv, a3, a4]
    refine ax_mid (fun s T => s 0 = .string (bs l) ∧ s 1 = .string (bs m) ∧ s 5 = .slice (some ⟨H.length, 0, none⟩) l.length l.length ∧ s 7 = .int .i64 ((i + 1 : Nat) : Int) ∧ s 8 = .int .i64 (((dgt l i : Nat) : Int) - (c : Int) - ((dgt m i : Nat) : Int)) ∧ T = H ++ [⟨u8s o, 1, true⟩]) ?_ ?_
    · by_cases h : i < m.length
      · obtain ⟨b', hb1', hb2'⟩ := dgt_at h
        have a2' : IntKind.i64.wrap ((m.length : Int) - ((i + 1 : Nat) : Int)) = ((m.length - 1 - i : Nat) : Int) := by rw [w64 (by omega) (by omega)]; omega
        have a3' : IntKind.i64.wrap ((b'.toNat : Nat) : Int) = ((b'.toNat : Nat) : Int) := w64n (by omega)
        have a4' : IntKind.i64.wrap (((dgt l i : Nat) : Int) - (c : Int) - (b'.toNat : Int)) = ((dgt l i : Nat) : Int) - (c : Int) - ((dgt m i : Nat) : Int) := by rw [w64 (by omega) (by omega)]; omega
        have hnn' : (0 : Int) ≤ ((m.length - 1 - i : Nat) : Int) := by omega
        have h1 := hmc.2 h
        simp -implicitDefEqProofs only [go_sem, simprocAttr, wa_cond, axC_t, axC_f, h1, s0, s1, s5, s6, s7, aLen, a2', hnn', hb1', aConv, a3', a4']
      · have h1 : ¬ ((i + 1 : Nat) : Int) ≤ (m.length : Int) := fun hh => h (hmc.1 hh)
        rw [dgt_zero h]
        simp -implicitDefEqProofs only [go_sem, simprocAttr, wa_cond, axC_t, axC_f, h1, s0, s1, s5, s6, s7, Int.sub_zero]
    clear s0 s1 s5 s6 s7
    rintro s T ⟨s0, s1, s5, s7, s8, rfl⟩
    have a5 : IntKind.i64.wrap ((l.length : Int) - ((i + 1 : Nat) : Int)) = ((o.length - 1 - i : Nat) : Int) := by rw [w64 (by omega) (by omega)]; omega
    have a8 : IntKind.i64.wrap (((i + 1 : Nat) : Int) + 1) = ((i + 1 + 1 : Nat) : Int) := by rw [w64 (by omega) (by omega)]; rfl
    have hi2 : (0 : Int) ≤ ((o.length - 1 - i : Nat) : Int) ∧ ((o.length - 1 - i : Nat) : Int) < (l.length : Int) := by omega
    obtain ⟨d, c', hd, hc', hdc, hcase⟩ : ∃ d c' : Nat, d < 256 ∧ c' ≤ 1 ∧ d + dgt m i + c = dgt l i + 256 * c' ∧ ((((dgt l i : Nat) : Int) - (c : Int) - ((dgt m i : Nat) : Int) < 0 ∧ c' = 1 ∧ ((dgt l i : Nat) : Int) - (c : Int) - ((dgt m i : Nat) : Int) + 256 = (d : Int)) ∨ (¬ ((dgt l i : Nat) : Int) - (c : Int) - ((dgt m i : Nat) : Int) < 0 ∧ c' = 0 ∧ ((dgt l i : Nat) : Int) - (c : Int) - ((dgt m i : Nat) : Int) = (d : Int))) := by
      by_cases h : ((dgt l i : Nat) : Int) - (c : Int) - ((dgt m i : Nat) : Int) < 0
      · exact ⟨dgt l i + 256 - c - dgt m i, 1, by omega, by omega, by omega, .inl ⟨h, rfl, by omega⟩⟩
      · exact ⟨dgt l i - c - dgt m i, 0, by omega, by omega, by omega, .inr ⟨h, rfl, by omega⟩⟩
    have hst := sub_step8 hinv hdc
    rw [← lowB_succ, ← lowB_succ] at hst
    have a6 := low_u8 d
    have hw := u8_wr (L := []) (l := o) (k := o.length - 1 - i) (b := UInt8.ofNat d) (by omega)
    have hset := lowB_set (o := o) (k := i) (by omega) (UInt8.ofNat d)
    have hby : (UInt8.ofNat d).toNat = d := by simp; omega
    rw [hby] at hset
    have fin : lowB (o.set (o.length - 1 - i) (UInt8.ofNat d)) (i + 1) + lowB m (i + 1) = lowB l (i + 1) + 256 ^ (i + 1) * c' := by rw [hset, Nat.pow_succ]; exact hst
    generalize ((dgt l i : Nat) : Int) - (c : Int) - ((dgt m i : Nat) : Int) = z at *
    rcases hcase with ⟨h1, rfl, h2⟩ | ⟨h1, rfl, h2⟩
    · have a9 : IntKind.i64.wrap (z + 256) = (d : Int) := by rw [w64 (by omega) (by omega)]; omega
      simp -implicitDefEqProofs only [go_sem, simprocAttr, wa_cond, axC_t, axC_f, s0, s1, s5, s7, s8, h1, a9, a5, aLen, aConv, a6, aIndexAddr, hi2, Nat.mul_one, hw, a8]
      exact ⟨i + 1, ⟨o.set (o.length - 1 - i) (UInt8.ofNat d), 1, rfl, rfl, by omega, by omega, by simpa using ho, fin, rfl⟩, by omega⟩
    · subst h2
      simp -implicitDefEqProofs only [go_sem, simprocAttr, wa_cond, axC_t, axC_f, s0, s1, s5, s7, s8, h1, a5, aLen, aConv, a6, aIndexAddr, hi2, Nat.mul_one, hw, a8]
      exact ⟨i + 1, ⟨o.set (o.length - 1 - i) (UInt8.ofNat d), 0, rfl, rfl, by omega, by omega, by simpa using ho, fin, rfl⟩, by omega⟩
  · have hin : i = l.length := by omega
    subst hin
    have hvo := valB_lt o
    rw [lowB_all (by omega), lowB_all (by omega), lowB_all (by omega)] at hinv
    rw [ho] at hvo
    have hc0 : c = 0 := by
      rcases Nat.eq_zero_or_pos c with h | h
      · exact h
      · have : c = 1 := by omega
        subst this
        omega
    subst hc0
    have hinv : valB o = valB l - valB m := by omega
    have hrd := u8_rd (L := []) (l := o) (k := 0) (n := l.length) (by omega)
    rw [List.drop_zero] at hrd
    have o1 := fun H => trimR H o
    rw [digB_strip, hinv] at o1
    unfold bs at o1
    simp -implicitDefEqProofs only [go_sem, simprocAttr, s5, aConv, hrd, bytesOf_u8s]
    refine wl_callV _ (by simp -implicitDefEqProofs only [go_sem, simprocAttr]) (o1 _) ?_
    simp -implicitDefEqProofs only [go_sem, simprocAttr, res224]
    first | exact .app _ _ | exact ⟨.app _ _, rfl⟩
end Go.Proofs.YthhmkaikopdmjaaGreat
namespace Go.Proofs.YthhmkaikopdmjaaGreat
open Go Go.Fw
theorem ltlen {n k : Nat} (h : (digB k).length ≤ (digB n).length ∨ k ≤ n) : (digB k).length ≤ (digB n).length := by
  rcases h with h | h
  · exact h
  · refine Classical.byContradiction fun hc => ?_
    have := digB_len_lt (n := n) (k := k) (by omega)
    omega
theorem bool_eqt {t : TypeId} (p q : Bool) (ht : t = 4) : aBin tt .eql t (.bool p) (.bool q) = some (.bool (p == q)) := by subst ht; rfl
theorem build106 : aBuild tt 106 [] = some (.agg #[.bool false, .string (bs [])]) := rfl
theorem addRI (H : Heap) {g g' : Bool} {m m' : List UInt8} (hm : m.length ≤ 1000000) (hm' : m'.length ≤ 1000000) :
    Sim Tryz.prog 162 #[iV g m, iV g' m'] H (mkI (ival g m + ival g' m')) H := by
  refine flat_ex (flat_mkI _) ?_
  have o1 := fun H => canonR H g m
  have o2 := fun H => canonR H g' m'
  have l1 : (digB (ival g m).natAbs).length ≤ 1000000 := by rw [ival_abs, ← digB_strip]; exact Nat.le_trans (dropZ_len m) hm
  have l2 : (digB (ival g' m').natAbs).length ≤ 1000000 := by rw [ival_abs, ← digB_strip]; exact Nat.le_trans (dropZ_len m') hm'
  generalize ival g m = x at *
  generalize ival g' m' = y at *
  have v1 := valB_dig x.natAbs
  have v2 := valB_dig y.natAbs
  unfold mkI iV at o1 o2
  unfold iV
  refine sim_ex tok mixed Tryz.func162 rfl (by kernel_rfl) (by kernel_rfl) (by simp only [Tryz.ntmps162, List.size_toArray, List.length_cons, List.length_nil]; omega) ?_
  simp -implicitDefEqProofs only [go_sem, simprocAttr]
  refine ax_quiet (by kernel_rfl) ?_
  simp -implicitDefEqProofs only [go_sem, simprocAttr]
  refine wl_callV _ (by simp -implicitDefEqProofs only [go_sem, simprocAttr]) (o1 _) ?_
  simp -implicitDefEqProofs only [go_sem, simprocAttr]
  refine wl_callV _ (by simp -implicitDefEqProofs only [go_sem, simprocAttr]) (o2 _) ?_
  simp -implicitDefEqProofs only [go_sem, simprocAttr]
  by_cases hs : (digB x.natAbs).length < 8 ∧ (digB y.natAbs).length < 8
  · obtain ⟨h1, h2⟩ := hs
    have p1 := valB_lt (digB x.natAbs)
    have p2 := valB_lt (digB y.natAbs)
    have q1 := pow256_le (i := (digB x.natAbs).length) (by omega)
    have q2 := pow256_le (i := (digB y.natAbs).length) (by omega)
    have o3 := fun H => valueR H (decide (x < 0)) (m := digB x.natAbs) (by omega)
    have o4 := fun H => valueR H (decide (y < 0)) (m := digB y.natAbs) (by omega)
    rw [ival_mk] at o3 o4
    have o5 := fun H => ofR H (z := x + y) (by omega) (by omega)
    have e1 : ((digB x.natAbs).length : Int) < 8 := by omega
    have e2 : ((digB y.natAbs).length : Int) < 8 := by omega
    have a1 : IntKind.i64.wrap (x + y) = x + y := by rw [w64 (by omega) (by omega)]
    generalize digB x.natAbs = l at *
    generalize digB y.natAbs = l' at *
    unfold iV at o3 o4
    unfold mkI iV at o5 ⊢
    simp -implicitDefEqProofs only [go_sem, simprocAttr, wa_cond, axC_t, axC_f, aLen, e1, e2]
    refine ax_quiet (by kernel_rfl) ?_
    simp -implicitDefEqProofs only [go_sem, simprocAttr]
    refine wl_callV _ (by simp -implicitDefEqProofs only [go_sem, simprocAttr]) (o3 _) ?_
    simp -implicitDefEqProofs only [go_sem, simprocAttr]
    refine wl_callV _ (by simp -implicitDefEqProofs only [go_sem, simprocAttr]) (o4 _) ?_
    simp -implicitDefEqProofs only [go_sem, simprocAttr, a1]
    refine wl_callV _ (by simp -implicitDefEqProofs only [go_sem, simprocAttr]) (o5 _) ?_
    simp -implicitDefEqProofs only [go_sem, simprocAttr, res162]
    first | exact .app _ _ | exact ⟨.app _ _, rfl⟩
  have hdig : ∀ z : Int, z.natAbs = x.natAbs + y.natAbs → mkI z = .agg #[.bool (decide (z < 0)), .string (bs (digB (x.natAbs + y.natAbs)))] := fun z h => by unfold mkI iV; rw [h]
  have o6 := fun H => addMagR H (l := digB x.natAbs) (m := digB y.natAbs) l1 l2
  have o7 := fun H => compareMagR H x.natAbs y.natAbs
  rw [v1, v2] at o6
  have o8 : ∀ _ : y.natAbs ≤ x.natAbs, ∀ H, Sim Tryz.prog 224 #[.string (bs (digB x.natAbs)), .string (bs (digB y.natAbs))] H (.string (bs (digB (x.natAbs - y.natAbs)))) H := fun h H => by
    have := subMagR H (l := digB x.natAbs) (m := digB y.natAbs) l1 (ltlen (.inr h)) (by rw [v1, v2]; exact h)
    rwa [v1, v2] at this
  have o9 : ∀ _ : x.natAbs ≤ y.natAbs, ∀ H, Sim Tryz.prog 224 #[.string (bs (digB y.natAbs)), .string (bs (digB x.natAbs))] H (.string (bs (digB (y.natAbs - x.natAbs)))) H := fun h H => by
    have := subMagR H (l := digB y.natAbs) (m := digB x.natAbs) l2 (ltlen (.inr h)) (by rw [v1, v2]; exact h)
    rwa [v1, v2] at this
  have hbig : (¬ ((digB x.natAbs).length : Int) < 8 ∧ ¬ ((digB x.natAbs).length : Int) < 8) ∨ (((digB x.natAbs).length : Int) < 8 ∧ ¬ ((digB y.natAbs).length : Int) < 8) := by omega
  have hmain : ∀ z : Int, mkI z = .agg #[.bool (decide (z < 0)), .string (bs (digB z.natAbs))] := fun z => rfl
  rw [hmain (x + y)]
  clear hs v1 v2 l1 l2 o1 o2
  by_cases hsg : decide (x < 0) = decide (y < 0)
  · have e3 : (x + y).natAbs = x.natAbs + y.natAbs := by
      by_cases h : x < 0
      · have : y < 0 := by simpa [h] using hsg.symm
        omega
      · have : ¬ y < 0 := by simpa [h] using hsg.symm
        omega
    have e4 : decide (x + y < 0) = decide (x < 0) := by
      by_cases h : x < 0
      · have h2 : y < 0 := by simpa [h] using hsg.symm
        simp [h]; omega
      · have h2 : ¬ y < 0 := by simpa [h] using hsg.symm
        simp [h]; omega
    have e5 : (decide (x < 0) == decide (y < 0)) = true := by rw [hsg]; simp
    rw [e3, e4]
    generalize decide (x < 0) = sx at *
    generalize decide (y < 0) = sy at *
    generalize digB x.natAbs = l at *
    generalize digB y.natAbs = l' at *
    rcases hbig with ⟨h1, h2⟩ | ⟨h1, h2⟩
    all_goals
      simp -implicitDefEqProofs only [go_sem, simprocAttr, wa_cond, axC_t, axC_f, aLen, h1, h2, bool_eqt, e5]
      refine ax_quiet (by kernel_rfl) ?_
      simp -implicitDefEqProofs only [go_sem, simprocAttr]
      refine wl_callV _ (by simp -implicitDefEqProofs only [go_sem, simprocAttr]) (o6 _) ?_
      simp -implicitDefEqProofs only [go_sem, simprocAttr, res162]
      first | exact .app _ _ | exact ⟨.app _ _, rfl⟩
  have e5 : (decide (x < 0) == decide (y < 0)) = false := by
    cases h : decide (x < 0) <;> cases h' : decide (y < 0) <;> simp_all
  rcases Nat.lt_trichotomy x.natAbs y.natAbs with hc | hc | hc
  · have o8 := o9 (by omega)
    have e3 : (x + y).natAbs = y.natAbs - x.natAbs := by
      by_cases h : x < 0
      · have : ¬ y < 0 := by simpa [h] using hsg
        omega
      · have : y < 0 := by simpa [h] using hsg
        omega
    have e4 : decide (x + y < 0) = decide (y < 0) := by
      by_cases h : x < 0
      · have h2 : ¬ y < 0 := by simpa [h] using hsg
        simp [h2]; omega
      · have h2 : y < 0 := by simpa [h] using hsg
        simp [h2]; omega
    have e6 : sgn ((x.natAbs : Int) - (y.natAbs : Int)) = -1 := by unfold sgn; rw [if_pos (by omega)]
    rw [e3, e4]
    rw [e6] at o7
    generalize decide (x < 0) = sx at *
    generalize decide (y < 0) = sy at *
    generalize digB x.natAbs = l at *
    generalize digB y.natAbs = l' at *
    rcases hbig with ⟨h1, h2⟩ | ⟨h1, h2⟩
    all_goals
      simp -implicitDefEqProofs only [go_sem, simprocAttr, wa_cond, axC_t, axC_f, aLen, h1, h2, bool_eqt, e5]
      refine wl_callV _ (by simp -implicitDefEqProofs only [go_sem, simprocAttr]) (o7 _) ?_
      simp -implicitDefEqProofs only [go_sem, simprocAttr, wa_cond, axC_t, axC_f]
      refine ax_quiet (by kernel_rfl) ?_
      simp -implicitDefEqProofs only [go_sem, simprocAttr]
      refine wl_callV _ (by simp -implicitDefEqProofs only [go_sem, simprocAttr]) (o8 _) ?_
      simp -implicitDefEqProofs only [go_sem, simprocAttr, res162]
      first | exact .app _ _ | exact ⟨.app _ _, rfl⟩
  · have e3 : x + y = 0 := by
      by_cases h : x < 0
      · have : ¬ y < 0 := by simpa [h] using hsg
        omega
      · have : y < 0 := by simpa [h] using hsg
        omega
    have e6 : sgn ((x.natAbs : Int) - (y.natAbs : Int)) = 0 := by unfold sgn; rw [if_neg (by omega), if_neg (by omega)]
    rw [e3, show Int.natAbs 0 = 0 from rfl, digB_zero]
    rw [e6] at o7
    generalize decide (x < 0) = sx at *
    generalize decide (y < 0) = sy at *
    generalize digB x.natAbs = l at *
    generalize digB y.natAbs = l' at *
    rcases hbig with ⟨h1, h2⟩ | ⟨h1, h2⟩
    all_goals
      simp -implicitDefEqProofs only [go_sem, simprocAttr, wa_cond, axC_t, axC_f, aLen, h1, h2, bool_eqt, e5]
      refine wl_callV _ (by simp -implicitDefEqProofs only [go_sem, simprocAttr]) (o7 _) ?_
      simp -implicitDefEqProofs only [go_sem, simprocAttr, wa_cond, axC_t, axC_f, build106, res162]
      first | exact .app _ _ | exact ⟨.app _ _, rfl⟩
  · have o8 := o8 (by omega)
    have e3 : (x + y).natAbs = x.natAbs - y.natAbs := by
      by_cases h : x < 0
      · have : ¬ y < 0 := by simpa [h] using hsg
        omega
      · have : y < 0 := by simpa [h] using hsg
        omega
    have e4 : decide (x + y < 0) = decide (x < 0) := by
      by_cases h : x < 0
      · have h2 : ¬ y < 0 := by simpa [h] using hsg
        simp [h]; omega
      · have h2 : y < 0 := by simpa [h] using hsg
        simp [h]; omega
    have e6 : sgn ((x.natAbs : Int) - (y.natAbs : Int)) = 1 := by unfold sgn; rw [if_neg (by omega), if_pos (by omega)]
    rw [e3, e4]
    rw [e6] at o7
    generalize decide (x < 0) = sx at *
    generalize decide (y < 0) = sy at *
    generalize digB x.natAbs = l at *
    generalize digB y.natAbs = l' at *
    rcases hbig with ⟨h1, h2⟩ | ⟨h1, h2⟩
    all_goals
      simp -implicitDefEqProofs only [go_sem, simprocAttr, wa_cond, axC_t, axC_f, aLen, h1, h2, bool_eqt, e5]
      refine wl_callV _ (by simp -implicitDefEqProofs only [go_sem, simprocAttr]) (o7 _) ?_
      simp -implicitDefEqProofs only [go_sem, simprocAttr, wa_cond, axC_t, axC_f]
      refine ax_quiet (by kernel_rfl) ?_
      simp -implicitDefEqProofs only [go_sem, simprocAttr]
      refine wl_callV _ (by simp -implicitDefEqProofs only [go_sem, simprocAttr]) (o8 _) ?_
      simp -implicitDefEqProofs only [go_sem, simprocAttr, res162]
      first | exact .app _ _ | exact ⟨.app _ _, rfl⟩
end Go.Proofs.YthhmkaikopdmjaaGreat
namespace Go.Proofs.YthhmkaikopdmjaaGreat
open Go Go.Fw
theorem canon_len {g : Bool} {m : List UInt8} {k : Nat} (h : m.length ≤ k) : (digB (ival g m).natAbs).length ≤ k := by rw [ival_abs, ← digB_strip]; exact Nat.le_trans (dropZ_len m) h
theorem subRI (H : Heap) {g g' : Bool} {m m' : List UInt8} (hm : m.length ≤ 1000000) (hm' : m'.length ≤ 1000000) :
    Sim Tryz.prog 228 #[iV g m, iV g' m'] H (mkI (ival g m - ival g' m')) H := by
  refine flat_ex (flat_mkI _) ?_
  have o1 := fun H => negR H g' m'
  have l1 : (digB (-(ival g' m')).natAbs).length ≤ 1000000 := by rw [Int.natAbs_neg]; exact canon_len hm'
  have o2 := fun H => addRI H (g := g) (g' := decide (-(ival g' m') < 0)) (m := m) (m' := digB (-(ival g' m')).natAbs) hm l1
  rw [ival_mk, ← Int.sub_eq_add_neg] at o2
  generalize hz : ival g m - ival g' m' = z at *
  unfold mkI iV at *
  refine sim_ex tok mixed Tryz.func228 rfl (by kernel_rfl) (by kernel_rfl) (by simp only [Tryz.ntmps228, List.size_toArray, List.length_cons, List.length_nil]; omega) ?_
  simp -implicitDefEqProofs only [go_sem, simprocAttr]
  refine ax_quiet (by kernel_rfl) ?_
  simp -implicitDefEqProofs only [go_sem, simprocAttr]
  refine wl_callV _ (by simp -implicitDefEqProofs only [go_sem, simprocAttr]) (o1 _) ?_
  simp -implicitDefEqProofs only [go_sem, simprocAttr]
  refine wl_callV _ (by simp -implicitDefEqProofs only [go_sem, simprocAttr]) (o2 _) ?_
  simp -implicitDefEqProofs only [go_sem, simprocAttr, res228]
  first | exact .app _ _ | exact ⟨.app _ _, rfl⟩
theorem bool_neq {t : TypeId} (p q : Bool) (ht : t = 4) : aBin tt .neq t (.bool p) (.bool q) = some (.bool !(p == q)) := by subst ht; rfl
theorem compareRI (H : Heap) (g g' : Bool) (m m' : List UInt8) :
    Sim Tryz.prog 167 #[iV g m, iV g' m'] H (.int .i64 (sgn (ival g m - ival g' m'))) H := by
  refine flat_ex rfl ?_
  have o1 := fun H => canonR H g m
  have o2 := fun H => canonR H g' m'
  generalize ival g m = x at *
  generalize ival g' m' = y at *
  have o3 := fun H => compareMagR H x.natAbs y.natAbs
  have o4 := fun H => compareMagR H y.natAbs x.natAbs
  unfold mkI iV at o1 o2
  unfold iV
  refine sim_ex tok mixed Tryz.func167 rfl (by kernel_rfl) (by kernel_rfl) (by simp only [Tryz.ntmps167, List.size_toArray, List.length_cons, List.length_nil]; omega) ?_
  simp -implicitDefEqProofs only [go_sem, simprocAttr]
  refine ax_quiet (by kernel_rfl) ?_
  simp -implicitDefEqProofs only [go_sem, simprocAttr]
  refine wl_callV _ (by simp -implicitDefEqProofs only [go_sem, simprocAttr]) (o1 _) ?_
  simp -implicitDefEqProofs only [go_sem, simprocAttr]
  refine wl_callV _ (by simp -implicitDefEqProofs only [go_sem, simprocAttr]) (o2 _) ?_
  by_cases hx : x < 0
  · by_cases hy : y < 0
    · have e : sgn ((y.natAbs : Int) - (x.natAbs : Int)) = sgn (x - y) := by congr 1; omega
      rw [e] at o4
      simp -implicitDefEqProofs only [go_sem, simprocAttr, wa_cond, axC_t, axC_f, hx, hy, bool_neq, show (true == true) = true from rfl]
      refine wl_callV _ (by simp -implicitDefEqProofs only [go_sem, simprocAttr]) (o4 _) ?_
      simp -implicitDefEqProofs only [go_sem, simprocAttr, res167]
      first | exact .app _ _ | exact ⟨.app _ _, rfl⟩
    · have e : sgn (x - y) = -1 := by unfold sgn; rw [if_pos (by omega)]
      rw [e]
      simp -implicitDefEqProofs only [go_sem, simprocAttr, wa_cond, axC_t, axC_f, hx, hy, bool_neq, res167, show (true == false) = false from rfl]
      first | exact .app _ _ | exact ⟨.app _ _, rfl⟩
  · by_cases hy : y < 0
    · have e : sgn (x - y) = 1 := by unfold sgn; rw [if_neg (by omega), if_pos (by omega)]
      rw [e]
      simp -implicitDefEqProofs only [go_sem, simprocAttr, wa_cond, axC_t, axC_f, hx, hy, bool_neq, res167, show (false == true) = false from rfl]
      first | exact .app _ _ | exact ⟨.app _ _, rfl⟩
    · have e : sgn ((x.natAbs : Int) - (y.natAbs : Int)) = sgn (x - y) := by congr 1; omega
      rw [e] at o3
      simp -implicitDefEqProofs only [go_sem, simprocAttr, wa_cond, axC_t, axC_f, hx, hy, bool_neq, show (false == false) = true from rfl]
      refine wl_callV _ (by simp -implicitDefEqProofs only [go_sem, simprocAttr]) (o3 _) ?_
      simp -implicitDefEqProofs only [go_sem, simprocAttr, res167]
      first | exact .app _ _ | exact ⟨.app _ _, rfl⟩
end Go.Proofs.YthhmkaikopdmjaaGreat
namespace Go.Proofs.YthhmkaikopdmjaaGreat
open Go Go.Fw
def i8s (l : List UInt8) : List Value := l.map fun b => Value.int .i64 (b.toNat : Nat)
theorem i8s_length (l : List UInt8) : (i8s l).length = l.length := by simp [i8s]
theorem i8s_set (l : List UInt8) (k : Nat) (b : UInt8) : (i8s l).set k (.int .i64 (b.toNat : Nat)) = i8s (l.set k b) := by simp [i8s, List.map_set]
theorem i8_wr {l : List UInt8} {L : Heap} {k : Nat} {b : UInt8} (h : k < l.length) : wr (⟨i8s l, 1, true⟩ :: L) 0 k [.int .i64 (b.toNat : Nat)] = some (⟨i8s (l.set k b), 1, true⟩ :: L) := by
  rw [wr_eq]
  simp only [List.getElem?_cons_zero, List.set_cons_zero]
  rw [if_pos (by simp [i8s_length, allC, isCell]; omega), splice_one _ _ _ (by rw [i8s_length]; exact h), i8s_set]
theorem i8_rd1 {l : List UInt8} {L : Heap} {k : Nat} (h : k < l.length) : rd (⟨i8s l, 1, true⟩ :: L) 0 k 1 = some [.int .i64 (l[k].toNat : Nat)] := by
  unfold rd
  simp only [List.getElem?_cons_zero]
  rw [if_pos (by simp [i8s_length]; omega)]
  congr 1
  apply List.ext_getElem?
  intro j
  simp only [List.getElem?_take, List.getElem?_drop, i8s, List.getElem?_map]
  cases j with
  | zero => simp [List.getElem?_eq_getElem h]
  | succ j => simp
theorem make_i64 (H : Heap) (n : Nat) (h : n ≤ 2000000) : aMakeSlice tt H 229 (.int .i64 (n : Nat)) (.int .i64 (n : Nat)) = some (.slice (some ⟨H.length, 0, none⟩) n n, H ++ [⟨i8s (List.replicate n 0), 1, true⟩]) := by
  unfold aMakeSlice
  simp only [tt229, tt3]
  rw [if_pos (by omega)]
  by_cases h0 : n = 0
  · subst h0
    simp [zerosL, i8s]
  · simp only [Int.toNat_natCast, Nat.mul_one, if_neg h0, cells_int]
    rw [zerosL_one]
    simp [i8s]
theorem valB_set : ∀ (l : List UInt8) (j : Nat) (b : UInt8) (h : j < l.length), valB (l.set j b) + 256 ^ (l.length - 1 - j) * l[j].toNat = valB l + 256 ^ (l.length - 1 - j) * b.toNat := by
  intro l
  induction l with
  | nil => intro j b h; simp at h
  | cons x l ih =>
    intro j b h
    cases j with
    | zero =>
      simp only [List.set_cons_zero, List.getElem_cons_zero, List.length_cons, Nat.add_sub_cancel, Nat.sub_zero]
      rw [valB_cons, valB_cons, Nat.mul_comm (256 ^ l.length), Nat.mul_comm (256 ^ l.length)]
      omega
    | succ j =>
      have hj : j < l.length := by simpa using h
      have := ih j b hj
      simp only [List.set_cons_succ, List.getElem_cons_succ, List.length_cons]
      rw [valB_cons, valB_cons, List.length_set]
      have e : l.length + 1 - 1 - (j + 1) = l.length - 1 - j := by omega
      rw [e]
      omega
theorem valB_setw {o : List UInt8} {w : Nat} (h : w < o.length) (b : UInt8) : valB (o.set (o.length - 1 - w) b) + 256 ^ w * dgt o w = valB o + 256 ^ w * b.toNat := by
  have := valB_set o (o.length - 1 - w) b (by omega)
  have e : o.length - 1 - (o.length - 1 - w) = w := by omega
  rw [e] at this
  unfold dgt
  rw [dif_pos h]
  exact this
theorem dgt_setw {o : List UInt8} {w w' : Nat} (h : w < o.length) (hne : w ≠ w') (b : UInt8) : dgt (o.set (o.length - 1 - w) b) w' = dgt o w' := by
  unfold dgt
  by_cases h' : w' < o.length
  · simp [h', List.getElem_set, show ¬ (o.length - 1 - w = o.length - 1 - w') by omega]
  · simp [h']
theorem dgt_top {o : List UInt8} {w : Nat} (h : valB o < 256 ^ w) : dgt o w = 0 := by
  have h1 : lowB o (w + 1) ≤ valB o := by
    unfold lowB
    have := valB_from (o.take (o.length - (w + 1))) 0
    have e : valB o = valB (o.take (o.length - (w + 1))) * 256 ^ (o.drop (o.length - (w + 1))).length + valB (o.drop (o.length - (w + 1))) := by
      conv => lhs; rw [← List.take_append_drop (o.length - (w + 1)) o]
      unfold valB
      rw [List.foldl_append]
      exact valB_from _ _
    omega
  rw [lowB_succ] at h1
  rcases Nat.eq_zero_or_pos (dgt o w) with hz | hz
  · exact hz
  · have : 256 ^ w * 1 ≤ 256 ^ w * dgt o w := Nat.mul_le_mul_left _ hz
    omega
theorem mul_in {V V' P c d x y lw vb pw : Nat} (hP : P = pw) (h : V + P * c = vb + lw) (hs : V' + P * d = V + P * ((c + (d + x * y)) % 256)) : V' + P * 256 * ((c + (d + x * y)) / 256) = vb + (lw + P * (x * y)) := by
  have e := Nat.mod_add_div (c + (d + x * y)) 256
  have e2 : P * ((c + (d + x * y)) % 256) + P * 256 * ((c + (d + x * y)) / 256) = P * (c + (d + x * y)) := by
    rw [Nat.mul_assoc, ← Nat.mul_add, e]
  rw [Nat.mul_add, Nat.mul_add] at e2
  omega
end Go.Proofs.YthhmkaikopdmjaaGreat
namespace Go.Proofs.YthhmkaikopdmjaaGreat
open Go Go.Fw
theorem and_255 {a : Nat} (ha : a < 1000000) : andI .i64 (a : Int) 255 = ((a % 256 : Nat) : Int) := by
  have h255 : (255 : Int) = ((255 : Nat) : Int) := rfl
  unfold andI
  rw [h255, show IntKind.i64.bits = 64 from rfl, and_nat (by omega) (by omega), show (255 : Nat) = 2 ^ 8 - 1 from rfl, Nat.and_two_pow_sub_one_eq_mod]
  exact w64 (by omega) (by omega)
theorem valB_rep (n : Nat) : valB (List.replicate n 0) = 0 := by
  induction n with
  | zero => rfl
  | succ n ih => rw [List.replicate_succ, valB_cons, ih]; simp
theorem mulMagR (H : Heap) {l m : List UInt8} (hl : l.length ≤ 1000000) (hm : m.length ≤ 1000000) :
    Sim Tryz.prog 231 #[.string (bs l), .string (bs m)] H (.string (bs (digB (valB l * valB m)))) H := by
  refine flat_ex rfl ?_
  have a0 : IntKind.i64.wrap ((l.length : Int) + (m.length : Int)) = ((l.length + m.length : Nat) : Int) := by rw [addc, w64n (by omega)]
  have a1 : IntKind.i64.wrap ((l.length : Int) - 1) = (l.length : Int) - 1 - ((0 : Nat) : Int) := by rw [w64 (by omega) (by omega)]; omega
  have aL : aLen tt [229] (.slice (some ⟨H.length, 0, none⟩) (l.length + m.length) (l.length + m.length)) = some (.int .i64 ((l.length + m.length : Nat) : Int)) := rfl
  refine sim_ex tok mixed Tryz.func231 rfl (by kernel_rfl) (by kernel_rfl) (by simp only [Tryz.ntmps231, List.size_toArray, List.length_cons, List.length_nil]; omega) ?_
  simp -implicitDefEqProofs only [go_sem, simprocAttr, -Int.reducePow, -Nat.reducePow, aLen, a0, a1, make_i64 H (l.length + m.length) (by omega)]
  refine ax_midl (fun s T => ∃ o : List UInt8, s 5 = .slice (some ⟨H.length, 0, none⟩) (l.length + m.length) (l.length + m.length) ∧ o.length = l.length + m.length ∧ valB o = valB l * valB m ∧ T = H ++ [⟨i8s o, 1, true⟩]) ?_ ?_
  · refine ax_loopx (fun (p : Nat) s T => ∃ o : List UInt8, s 0 = .string (bs l) ∧ s 1 = .string (bs m) ∧ s 5 = .slice (some ⟨H.length, 0, none⟩) (l.length + m.length) (l.length + m.length) ∧ s 6 = .int .i64 ((l.length : Int) - 1 - (p : Nat)) ∧ p ≤ l.length ∧
      o.length = l.length + m.length ∧ valB o = lowB l p * valB m ∧ T = H ++ [⟨i8s o, 1, true⟩]) (fun p => l.length - p) 0 ?_ ?_
    · refine ⟨List.replicate (l.length + m.length) 0, ?_⟩
      simp -implicitDefEqProofs only [go_sem, simprocAttr, -Int.reducePow, -Nat.reducePow]
      exact ⟨by simp, by rw [valB_rep, lowB_zero, Nat.zero_mul]⟩
    rintro p s T ⟨o, s0, s1, s5, s6, hp, ho, hv, rfl⟩
    simp -implicitDefEqProofs only [go_sem, simprocAttr, -Int.reducePow, -Nat.reducePow, s6]
    refine ax_cond2 ?_
    simp only [ev_tmp, ev_const, ev_func, upd_at, put_some, put_none, bndB_bool, Nat.reduceEqDiff, if_true, if_false, ↓reduceIte, reduceCtorEq]
    refine ⟨fun hc0 => have hlt := of_decide_eq_true hc0; ?_, fun hc0 => have hlt := of_decide_eq_false hc0; ?_⟩
    · have hpl : p < l.length := by omega
      obtain ⟨b, hb1, hb2⟩ := dgt_at hpl
      have hx := dgt_lt l p
      have hlow : lowB l p < 256 ^ p := by
        unfold lowB
        have := valB_lt (l.drop (l.length - p))
        have e : (l.drop (l.length - p)).length = p := by simp; omega
        rwa [e] at this
      have hvm := valB_lt m
      have htop : dgt o (p + m.length) = 0 := by
        refine dgt_top ?_
        rw [hv, Nat.pow_add]
        exact Nat.mul_lt_mul'' hlow hvm
      have a2 : IntKind.i64.wrap ((m.length : Int) - 1) = (m.length : Int) - 1 - ((0 : Nat) : Int) := by rw [w64 (by omega) (by omega)]; omega
      simp -implicitDefEqProofs only [go_sem, simprocAttr, -Int.reducePow, -Nat.reducePow, s1, aLen, a2]
      refine ax_midl (fun s T => ∃ (o : List UInt8) (c : Nat), s 0 = .string (bs l) ∧ s 1 = .string (bs m) ∧ s 5 = .slice (some ⟨H.length, 0, none⟩) (l.length + m.length) (l.length + m.length) ∧ s 6 = .int .i64 ((l.length : Int) - 1 - (p : Nat)) ∧ s 7 = .int .i64 (c : Nat) ∧
        o.length = l.length + m.length ∧ c ≤ 255 ∧ dgt o (p + m.length) = 0 ∧ valB o + 256 ^ (p + m.length) * c = lowB l p * valB m + 256 ^ p * dgt l p * valB m ∧ T = H ++ [⟨i8s o, 1, true⟩]) ?_ ?_
      · refine ax_loopx (fun (q : Nat) s T => ∃ (o : List UInt8) (c : Nat), s 0 = .string (bs l) ∧ s 1 = .string (bs m) ∧ s 5 = .slice (some ⟨H.length, 0, none⟩) (l.length + m.length) (l.length + m.length) ∧ s 6 = .int .i64 ((l.length : Int) - 1 - (p : Nat)) ∧ s 7 = .int .i64 (c : Nat) ∧
          s 8 = .int .i64 ((m.length : Int) - 1 - (q : Nat)) ∧ q ≤ m.length ∧ o.length = l.length + m.length ∧ c ≤ 255 ∧ dgt o (p + m.length) = 0 ∧ valB o + 256 ^ (p + q) * c = lowB l p * valB m + 256 ^ p * dgt l p * lowB m q ∧ T = H ++ [⟨i8s o, 1, true⟩]) (fun q => m.length - q) 0 ?_ ?_
        · refine ⟨o, 0, ?_⟩
          simp -implicitDefEqProofs only [go_sem, simprocAttr, -Int.reducePow, -Nat.reducePow, s0, s1, s5, s6]
          exact ⟨ho, htop, by rw [lowB_zero, Nat.mul_zero, hv]; rfl⟩
        clear s0 s1 s5 s6 ho hv htop
        clear o
        rintro q s T ⟨o, c, s0, s1, s5, s6, s7, s8, hq, ho, hc, htop, hv, rfl⟩
        simp -implicitDefEqProofs only [go_sem, simprocAttr, -Int.reducePow, -Nat.reducePow, s8]
        refine ax_cond2 ?_
        simp only [ev_tmp, ev_const, ev_func, upd_at, put_some, put_none, bndB_bool, Nat.reduceEqDiff, if_true, if_false, ↓reduceIte, reduceCtorEq]
        refine ⟨fun hc0 => have hlq := of_decide_eq_true hc0; ?_, fun hc0 => have hlq := of_decide_eq_false hc0; ?_⟩
        · have hql : q < m.length := by omega
          obtain ⟨b', hb1', hb2'⟩ := dgt_at hql
          have hy := dgt_lt m q
          have hd := dgt_lt o (p + q)
          have ei : (l.length : Int) - 1 - (p : Nat) = ((l.length - 1 - p : Nat) : Int) := by omega
          have ek : (m.length : Int) - 1 - (q : Nat) = ((m.length - 1 - q : Nat) : Int) := by omega
          have a3 : IntKind.i64.wrap (((l.length - 1 - p : Nat) : Int) + ((m.length - 1 - q : Nat) : Int)) = ((l.length - 1 - p + (m.length - 1 - q) : Nat) : Int) := by rw [addc, w64n (by omega)]
          have a4 : IntKind.i64.wrap (((l.length - 1 - p + (m.length - 1 - q) : Nat) : Int) + 1) = ((o.length - 1 - (p + q) : Nat) : Int) := by rw [w64 (by omega) (by omega)]; omega
          have a5 : IntKind.i64.wrap ((b.toNat : Nat) : Int) = ((dgt l p : Nat) : Int) := by rw [hb2]; exact w64n (by omega)
          have a6 : IntKind.i64.wrap ((b'.toNat : Nat) : Int) = ((dgt m q : Nat) : Int) := by rw [hb2']; exact w64n (by omega)
          have hxy : dgt l p * dgt m q ≤ 255 * 255 := Nat.mul_le_mul (by omega) (by omega)
          have a7 : IntKind.i64.wrap (((dgt l p : Nat) : Int) * ((dgt m q : Nat) : Int)) = ((dgt l p * dgt m q : Nat) : Int) := by
            rw [show ((dgt l p : Nat) : Int) * ((dgt m q : Nat) : Int) = ((dgt l p * dgt m q : Nat) : Int) by simp, w64n (by omega)]
          have a8 : IntKind.i64.wrap (((dgt o (p + q) : Nat) : Int) + ((dgt l p * dgt m q : Nat) : Int)) = ((dgt o (p + q) + dgt l p * dgt m q : Nat) : Int) := by rw [addc, w64n (by omega)]
          have a9 : IntKind.i64.wrap ((c : Int) + ((dgt o (p + q) + dgt l p * dgt m q : Nat) : Int)) = ((c + (dgt o (p + q) + dgt l p * dgt m q) : Nat) : Int) := by rw [addc, w64n (by omega)]
          have a10 := and_255 (a := c + (dgt o (p + q) + dgt l p * dgt m q)) (by omega)
          have a11 := fdiv_pow (c + (dgt o (p + q) + dgt l p * dgt m q)) 8
          have a12 : IntKind.i64.wrap (((m.length - 1 - q : Nat) : Int) - 1) = (m.length : Int) - 1 - ((q + 1 : Nat) : Int) := by rw [w64 (by omega) (by omega)]; omega
          have hd8 : ¬ ((8 : Int) < 0) := by omega
          have hw1 : p + q < o.length := by omega
          have hrd := i8_rd1 (l := o) (L := []) (k := o.length - 1 - (p + q)) (by omega)
          have hdd : ((o[o.length - 1 - (p + q)]'(by omega)).toNat) = dgt o (p + q) := by unfold dgt; rw [dif_pos hw1]
          rw [hdd] at hrd
          have hset := valB_setw hw1 (UInt8.ofNat ((c + (dgt o (p + q) + dgt l p * dgt m q)) % 256))
          have hby : (UInt8.ofNat ((c + (dgt o (p + q) + dgt l p * dgt m q)) % 256)).toNat = (c + (dgt o (p + q) + dgt l p * dgt m q)) % 256 := by simp
          have hwr := i8_wr (l := o) (L := []) (k := o.length - 1 - (p + q)) (b := UInt8.ofNat ((c + (dgt o (p + q) + dgt l p * dgt m q)) % 256)) (by omega)
          rw [hby] at hset hwr
          have hst := mul_in rfl hv hset
          have htop2 := dgt_setw (w' := p + m.length) hw1 (by omega) (UInt8.ofNat ((c + (dgt o (p + q) + dgt l p * dgt m q)) % 256))
          rw [htop] at htop2
          have hfin : 256 ^ p * dgt l p * lowB m (q + 1) = 256 ^ p * dgt l p * lowB m q + 256 ^ (p + q) * (dgt l p * dgt m q) := by
            rw [lowB_succ, Nat.mul_add, Nat.pow_add]
            congr 1
            simp only [Nat.mul_assoc, Nat.mul_left_comm]
          have hin1 : (0 : Int) ≤ ((o.length - 1 - (p + q) : Nat) : Int) ∧ ((o.length - 1 - (p + q) : Nat) : Int) < ((l.length + m.length : Nat) : Int) := by omega
          have hnn1 : (0 : Int) ≤ ((l.length - 1 - p : Nat) : Int) := by omega
          have hnn2 : (0 : Int) ≤ ((m.length - 1 - q : Nat) : Int) := by omega
          rw [ei] at s6
          rw [ek] at s8
          simp -implicitDefEqProofs only [go_sem, simprocAttr, -Int.reducePow, -Nat.reducePow]
          refine ax_quiet (by kernel_rfl) ?_
          simp -implicitDefEqProofs only [go_sem, simprocAttr, -Int.reducePow, -Nat.reducePow, s0, s1, s5, s6, s7, s8, a3, a4, aIndexAddr, hin1, Nat.mul_one, hrd, hnn1, hnn2, hb1, hb1', aConv, a5, a6, a7, a8, a9, a10, hwr, a11, hd8, show min 8 64 = 8 from rfl, a12]
          refine ⟨q + 1, ⟨o.set (o.length - 1 - (p + q)) (UInt8.ofNat ((c + (dgt o (p + q) + dgt l p * dgt m q)) % 256)), (c + (dgt o (p + q) + dgt l p * dgt m q)) / 2 ^ 8, ?_⟩, by omega⟩
          refine ⟨by rw [ei], rfl, rfl, by omega, by simpa using ho, by omega, htop2, ?_, rfl⟩
          rw [hfin, ← hst, ← Nat.add_assoc p q 1, Nat.pow_succ]
        · have : q = m.length := by omega
          subst this
          rw [lowB_all (Nat.le_refl _)] at hv
          simp -implicitDefEqProofs only [go_sem, simprocAttr, -Int.reducePow, -Nat.reducePow, s0, s1, s5, s6, s7]
          exact ⟨o, c, rfl, ho, hc, htop, hv, rfl⟩
      clear s0 s1 s5 s6 ho hv htop
      clear o
      rintro s T ⟨o, c, s0, s1, s5, s6, s7, ho, hc, htop, hv, rfl⟩
      have ei : (l.length : Int) - 1 - (p : Nat) = ((o.length - 1 - (p + m.length) : Nat) : Int) := by omega
      have hw1 : p + m.length < o.length := by omega
      have hrd := i8_rd1 (l := o) (L := []) (k := o.length - 1 - (p + m.length)) (by omega)
      have hdd : ((o[o.length - 1 - (p + m.length)]'(by omega)).toNat) = 0 := by unfold dgt at htop; rw [dif_pos hw1] at htop; exact htop
      rw [hdd] at hrd
      have hset := valB_setw hw1 (UInt8.ofNat c)
      have hby : (UInt8.ofNat c).toNat = c := by simp; omega
      have hwr := i8_wr (l := o) (L := []) (k := o.length - 1 - (p + m.length)) (b := UInt8.ofNat c) (by omega)
      rw [hby] at hset hwr
      rw [htop, Nat.mul_zero, Nat.add_zero, hv] at hset
      have hin1 : (0 : Int) ≤ ((o.length - 1 - (p + m.length) : Nat) : Int) ∧ ((o.length - 1 - (p + m.length) : Nat) : Int) < ((l.length + m.length : Nat) : Int) := by omega
      have a3 : IntKind.i64.wrap (((0 : Nat) : Int) + (c : Int)) = (c : Int) := by rw [w64 (by omega) (by omega)]; omega
      have a4 : IntKind.i64.wrap (((o.length - 1 - (p + m.length) : Nat) : Int) - 1) = (l.length : Int) - 1 - ((p + 1 : Nat) : Int) := by rw [w64 (by omega) (by omega)]; omega
      rw [ei] at s6
      rw [cast0] at hrd a3
      simp -implicitDefEqProofs only [go_sem, simprocAttr, -Int.reducePow, -Nat.reducePow, s0, s1, s5, s6, s7, aIndexAddr, hin1, Nat.mul_one, hrd, a3, hwr, a4]
      refine ⟨p + 1, ⟨o.set (o.length - 1 - (p + m.length)) (UInt8.ofNat c), rfl, by omega, by simpa using ho, ?_, rfl⟩, by omega⟩
      rw [hset, lowB_succ, Nat.add_mul]
    · have : p = l.length := by omega
      subst this
      rw [lowB_all (Nat.le_refl _)] at hv
      simp -implicitDefEqProofs only [go_sem, simprocAttr, -Int.reducePow, -Nat.reducePow, s5]
      exact ⟨o, ho, hv, rfl⟩
  rintro s T ⟨o, s5, ho, hv, rfl⟩
  rw [← ho] at s5 aL
  have mk := fun L : Heap => make_u8 (H ++ [⟨i8s o, 1, true⟩]) o.length (by omega)
  have mk := mk []
  simp only [List.append_assoc, List.cons_append, List.nil_append, List.length_append, List.length_cons, List.length_nil, Nat.zero_add] at mk
  simp -implicitDefEqProofs only [go_sem, simprocAttr, -Int.reducePow, -Nat.reducePow, s5, aL, mk]
  refine ax_midl (fun s T => ∃ t : List UInt8, s 9 = .slice (some ⟨H.length + 1, 0, none⟩) o.length o.length ∧ t = o ∧ T = H ++ [⟨i8s o, 1, true⟩, ⟨u8s t, 1, true⟩]) ?_ ?_
  · refine ax_loopx (fun (i : Nat) s T => ∃ t : List UInt8, s 5 = .slice (some ⟨H.length, 0, none⟩) o.length o.length ∧ s 9 = .slice (some ⟨H.length + 1, 0, none⟩) o.length o.length ∧ s 10 = .int .i64 (i : Nat) ∧ i ≤ o.length ∧ t.length = o.length ∧ t.take i = o.take i ∧ T = H ++ [⟨i8s o, 1, true⟩, ⟨u8s t, 1, true⟩]) (fun i => o.length - i) 0 ?_ ?_
    · refine ⟨List.replicate o.length 0, ?_⟩
      simp -implicitDefEqProofs only [go_sem, simprocAttr, -Int.reducePow, -Nat.reducePow]
      exact ⟨s5, by simp⟩
    rintro i s T ⟨t, s5, s9, s10, hi, ht, htk, rfl⟩
    simp -implicitDefEqProofs only [go_sem, simprocAttr, -Int.reducePow, -Nat.reducePow, s5, s10, aL]
    refine ax_cond2 ?_
    simp only [ev_tmp, ev_const, ev_func, upd_at, put_some, put_none, bndB_bool, Nat.reduceEqDiff, if_true, if_false, ↓reduceIte, reduceCtorEq]
    refine ⟨fun hc0 => have hlt := of_decide_eq_true hc0; ?_, fun hc0 => have hlt := of_decide_eq_false hc0; ?_⟩
    · have hio : i < o.length := by omega
      have hrd := i8_rd1 (l := o) (L := [⟨u8s t, 1, true⟩]) (k := i) hio
      have a2 : IntKind.u8.wrap ((o[i].toNat : Nat) : Int) = ((o[i].toNat : Nat) : Int) := wu8 (by omega) (by have := UInt8.toNat_lt o[i]; omega)
      have a3 : IntKind.i64.wrap ((i : Int) + 1) = ((i + 1 : Nat) : Int) := by rw [w64 (by omega) (by omega)]; rfl
      have hi2 : (0 : Int) ≤ (i : Int) ∧ (i : Int) < (o.length : Int) := by omega
      have hwr := u8_wr (l := t) (L := []) (k := i) (b := o[i]) (by omega)
      have htake : (t.set i o[i]).take (i + 1) = o.take (i + 1) := by
        rw [List.take_add_one, List.take_add_one, List.getElem?_set_self (by omega), List.getElem?_eq_getElem hio, List.take_set_of_le (Nat.le_refl _), htk]
      have htl : (t.set i o[i]).length = o.length := by simpa using ht
      generalize t.set i o[i] = t2 at *
      generalize o[i] = x at *
      simp -implicitDefEqProofs only [go_sem, simprocAttr, -Int.reducePow, -Nat.reducePow, s5, s9, s10, aL, aIndexAddr, hi2, Nat.mul_one, hrd, aConv, a2, hwr, a3]
      exact ⟨i + 1, ⟨t2, rfl, by omega, htl, htake, rfl⟩, by omega⟩
    · have : i = o.length := by omega
      subst this
      have : t = o := by rw [List.take_of_length_le (by omega), List.take_length] at htk; exact htk
      subst this
      simp -implicitDefEqProofs only [go_sem, simprocAttr, -Int.reducePow, -Nat.reducePow, s9]
      exact ⟨t, rfl, rfl⟩
  rintro s T ⟨t, s9, rfl, rfl⟩
  have hrd := u8_rd (L := []) (l := t) (k := 0) (n := t.length) (by omega)
  rw [List.drop_zero] at hrd
  have o1 := fun H => trimR H t
  rw [digB_strip, hv] at o1
  unfold bs at o1
  simp -implicitDefEqProofs only [go_sem, simprocAttr, -Int.reducePow, -Nat.reducePow, s9, aConv, hrd, bytesOf_u8s]
  refine wl_callV _ (by simp -implicitDefEqProofs only [go_sem, simprocAttr, -Int.reducePow, -Nat.reducePow]) (o1 _) ?_
  simp -implicitDefEqProofs only [go_sem, simprocAttr, -Int.reducePow, -Nat.reducePow, res231]
  first | exact .app _ _ | exact ⟨.app _ _, rfl⟩
end Go.Proofs.YthhmkaikopdmjaaGreat
namespace Go.Proofs.YthhmkaikopdmjaaGreat
open Go Go.Fw
theorem mulRI (H : Heap) {g g' : Bool} {m m' : List UInt8} (hm : m.length ≤ 1000000) (hm' : m'.length ≤ 1000000) :
    Sim Tryz.prog 171 #[iV g m, iV g' m'] H (mkI (ival g m * ival g' m')) H := by
  refine flat_ex (flat_mkI _) ?_
  have o1 := fun H => canonR H g m
  have o2 := fun H => canonR H g' m'
  have l1 : (digB (ival g m).natAbs).length ≤ 1000000 := canon_len hm
  have l2 : (digB (ival g' m').natAbs).length ≤ 1000000 := canon_len hm'
  generalize ival g m = x at *
  generalize ival g' m' = y at *
  have v1 := valB_dig x.natAbs
  have v2 := valB_dig y.natAbs
  have n1 : bs (digB x.natAbs) = bs [] ↔ x = 0 := by rw [bs_inj, digB_nil_iff]; omega
  have n2 : bs (digB y.natAbs) = bs [] ↔ y = 0 := by rw [bs_inj, digB_nil_iff]; omega
  unfold mkI iV at o1 o2
  unfold iV
  by_cases hx : x = 0
  · subst hx
    rw [Int.zero_mul]
    unfold mkI iV
    rw [show Int.natAbs 0 = 0 from rfl, digB_zero] at *
    refine sim_ex tok mixed Tryz.func171 rfl (by kernel_rfl) (by kernel_rfl) (by simp only [Tryz.ntmps171, List.size_toArray, List.length_cons, List.length_nil]; omega) ?_
    simp -implicitDefEqProofs only [go_sem, simprocAttr]
    refine ax_quiet (by kernel_rfl) ?_
    simp -implicitDefEqProofs only [go_sem, simprocAttr]
    refine wl_callV _ (by simp -implicitDefEqProofs only [go_sem, simprocAttr]) (o1 _) ?_
    simp -implicitDefEqProofs only [go_sem, simprocAttr]
    refine wl_callV _ (by simp -implicitDefEqProofs only [go_sem, simprocAttr]) (o2 _) ?_
    simp -implicitDefEqProofs only [go_sem, simprocAttr, wa_cond, axC_t, axC_f, build106, res171]
    first | exact .app _ _ | exact ⟨.app _ _, rfl⟩
  by_cases hy : y = 0
  · subst hy
    rw [Int.mul_zero]
    have n1 : ¬ bs (digB x.natAbs) = bs [] := fun h => hx (n1.1 h)
    unfold mkI iV
    rw [show Int.natAbs 0 = 0 from rfl, digB_zero] at *
    refine sim_ex tok mixed Tryz.func171 rfl (by kernel_rfl) (by kernel_rfl) (by simp only [Tryz.ntmps171, List.size_toArray, List.length_cons, List.length_nil]; omega) ?_
    simp -implicitDefEqProofs only [go_sem, simprocAttr]
    refine ax_quiet (by kernel_rfl) ?_
    simp -implicitDefEqProofs only [go_sem, simprocAttr]
    refine wl_callV _ (by simp -implicitDefEqProofs only [go_sem, simprocAttr]) (o1 _) ?_
    simp -implicitDefEqProofs only [go_sem, simprocAttr]
    refine wl_callV _ (by simp -implicitDefEqProofs only [go_sem, simprocAttr]) (o2 _) ?_
    simp -implicitDefEqProofs only [go_sem, simprocAttr, wa_cond, axC_t, axC_f, n1, build106, res171]
    first | exact .app _ _ | exact ⟨.app _ _, rfl⟩
  have n1 : ¬ bs (digB x.natAbs) = bs [] := fun h => hx (n1.1 h)
  have n2 : ¬ bs (digB y.natAbs) = bs [] := fun h => hy (n2.1 h)
  have a0 : IntKind.i64.wrap (((digB x.natAbs).length : Int) + ((digB y.natAbs).length : Int)) = (((digB x.natAbs).length + (digB y.natAbs).length : Nat) : Int) := by rw [addc, w64n (by omega)]
  by_cases hs : (digB x.natAbs).length + (digB y.natAbs).length < 8
  · have p1 := valB_lt (digB x.natAbs)
    have p2 := valB_lt (digB y.natAbs)
    have q1 : x.natAbs * y.natAbs < 256 ^ ((digB x.natAbs).length + (digB y.natAbs).length) := by
      rw [v1] at p1
      rw [v2] at p2
      rw [Nat.pow_add]; exact Nat.mul_lt_mul'' p1 p2
    have q2 := pow256_le (i := (digB x.natAbs).length + (digB y.natAbs).length) (by omega)
    have hab : (x * y).natAbs = x.natAbs * y.natAbs := Int.natAbs_mul x y
    have o3 := fun H => valueR H (decide (x < 0)) (m := digB x.natAbs) (by omega)
    have o4 := fun H => valueR H (decide (y < 0)) (m := digB y.natAbs) (by omega)
    rw [ival_mk] at o3 o4
    have hz : (x * y).natAbs < 72057594037927936 := by omega
    have o5 := fun H => ofR H (z := x * y) (by omega) (by omega)
    have e1 : (((digB x.natAbs).length + (digB y.natAbs).length : Nat) : Int) < 8 := by omega
    have a1 : IntKind.i64.wrap (x * y) = x * y := by rw [w64 (by omega) (by omega)]
    clear hab hz q1
    generalize digB x.natAbs = l at *
    generalize digB y.natAbs = l' at *
    unfold iV at o3 o4
    unfold mkI iV at o5 ⊢
    refine sim_ex tok mixed Tryz.func171 rfl (by kernel_rfl) (by kernel_rfl) (by simp only [Tryz.ntmps171, List.size_toArray, List.length_cons, List.length_nil]; omega) ?_
    simp -implicitDefEqProofs only [go_sem, simprocAttr]
    refine ax_quiet (by kernel_rfl) ?_
    simp -implicitDefEqProofs only [go_sem, simprocAttr]
    refine wl_callV _ (by simp -implicitDefEqProofs only [go_sem, simprocAttr]) (o1 _) ?_
    simp -implicitDefEqProofs only [go_sem, simprocAttr]
    refine wl_callV _ (by simp -implicitDefEqProofs only [go_sem, simprocAttr]) (o2 _) ?_
    simp -implicitDefEqProofs only [go_sem, simprocAttr, wa_cond, axC_t, axC_f, n1, n2, aLen, a0, e1]
    refine ax_quiet (by kernel_rfl) ?_
    simp -implicitDefEqProofs only [go_sem, simprocAttr]
    refine wl_callV _ (by simp -implicitDefEqProofs only [go_sem, simprocAttr]) (o3 _) ?_
    simp -implicitDefEqProofs only [go_sem, simprocAttr]
    refine wl_callV _ (by simp -implicitDefEqProofs only [go_sem, simprocAttr]) (o4 _) ?_
    simp -implicitDefEqProofs only [go_sem, simprocAttr, a1]
    refine wl_callV _ (by simp -implicitDefEqProofs only [go_sem, simprocAttr]) (o5 _) ?_
    simp -implicitDefEqProofs only [go_sem, simprocAttr, res171]
    first | exact .app _ _ | exact ⟨.app _ _, rfl⟩
  have o6 := fun H => mulMagR H (l := digB x.natAbs) (m := digB y.natAbs) l1 l2
  rw [v1, v2] at o6
  have e1 : ¬ (((digB x.natAbs).length + (digB y.natAbs).length : Nat) : Int) < 8 := by omega
  have e4 : (!(decide (x < 0) == decide (y < 0))) = decide (x * y < 0) := by
    by_cases h : x < 0
    · by_cases h' : y < 0
      · have := Int.mul_pos_of_neg_of_neg h h'
        simp [h, h']; omega
      · have := Int.mul_neg_of_neg_of_pos h (show 0 < y by omega)
        simp [h, h', this]
    · by_cases h' : y < 0
      · have := Int.mul_neg_of_pos_of_neg (show 0 < x by omega) h'
        simp [h, h', this]
      · have := Int.mul_pos (show 0 < x by omega) (show 0 < y by omega)
        simp [h, h']; omega
  unfold mkI iV
  rw [Int.natAbs_mul, ← e4]
  generalize decide (x < 0) = sx at *
  generalize decide (y < 0) = sy at *
  generalize digB x.natAbs = l at *
  generalize digB y.natAbs = l' at *
  refine sim_ex tok mixed Tryz.func171 rfl (by kernel_rfl) (by kernel_rfl) (by simp only [Tryz.ntmps171, List.size_toArray, List.length_cons, List.length_nil]; omega) ?_
  simp -implicitDefEqProofs only [go_sem, simprocAttr]
  refine ax_quiet (by kernel_rfl) ?_
  simp -implicitDefEqProofs only [go_sem, simprocAttr]
  refine wl_callV _ (by simp -implicitDefEqProofs only [go_sem, simprocAttr]) (o1 _) ?_
  simp -implicitDefEqProofs only [go_sem, simprocAttr]
  refine wl_callV _ (by simp -implicitDefEqProofs only [go_sem, simprocAttr]) (o2 _) ?_
  simp -implicitDefEqProofs only [go_sem, simprocAttr, wa_cond, axC_t, axC_f, n1, n2, aLen, a0, e1]
  refine ax_quiet (by kernel_rfl) ?_
  simp -implicitDefEqProofs only [go_sem, simprocAttr, bool_neq]
  refine wl_callV _ (by simp -implicitDefEqProofs only [go_sem, simprocAttr]) (o6 _) ?_
  simp -implicitDefEqProofs only [go_sem, simprocAttr, res171]
  first | exact .app _ _ | exact ⟨.app _ _, rfl⟩
end Go.Proofs.YthhmkaikopdmjaaGreat
namespace Go.Proofs.YthhmkaikopdmjaaGreat
open Go Go.Fw
def strs (l : List (List UInt8)) : List Value := l.map fun s => Value.string (bs s)
theorem strs_length (l : List (List UInt8)) : (strs l).length = l.length := by simp [strs]
theorem strs_wr {l : List (List UInt8)} {L : Heap} {k : Nat} {b : List UInt8} (h : k < l.length) : wr (⟨strs l, 1, true⟩ :: L) 0 k [.string (bs b)] = some (⟨strs (l.set k b), 1, true⟩ :: L) := by
  rw [wr_eq]
  simp only [List.getElem?_cons_zero, List.set_cons_zero]
  rw [if_pos (by simp [strs_length, allC, isCell]; omega), splice_one _ _ _ (by rw [strs_length]; exact h)]
  simp [strs, List.map_set]
theorem strs_rd1 {l : List (List UInt8)} {L : Heap} {k : Nat} {x : List UInt8} (h : l[k]? = some x) : rd (⟨strs l, 1, true⟩ :: L) 0 k 1 = some [.string (bs x)] := by
  have hk := (List.getElem?_eq_some_iff.1 h).1
  unfold rd
  simp only [List.getElem?_cons_zero]
  rw [if_pos (by simp [strs_length]; omega)]
  congr 1
  apply List.ext_getElem?
  intro j
  simp only [List.getElem?_take, List.getElem?_drop, strs, List.getElem?_map]
  cases j with
  | zero => simp [h]
  | succ j => simp
theorem str_slice1 (H : Heap) {l : List UInt8} {i : Nat} (h : i < l.length) : aSlice tt H 9 (.string (bs l)) (some (.int .i64 (i : Nat))) (some (.int .i64 ((i + 1 : Nat) : Int))) none = some (.string (bs [l[i]])) := by
  have e0 : (0 : Int) ≤ (i : Int) := by omega
  have e1 : (0 : Int) ≤ ((i + 1 : Nat) : Int) := by omega
  have e2 : i ≤ i + 1 ∧ i + 1 ≤ (bs l).size := ⟨by omega, by rw [bs_size]; omega⟩
  have e3 : (l.drop i).take (i + 1 - i) = [l[i]] := by rw [List.drop_eq_getElem_cons h, show i + 1 - i = 1 by omega]; rfl
  simp only [aSlice, tt9, bnd, if_pos e0, if_pos e1, Int.toNat_natCast]
  rw [if_pos e2, bs_extract, e3]
theorem bs_add {l m : List UInt8} (h : l.length + m.length ≤ 1099511627776) (t : TypeId) : aBin tt .add t (.string (bs l)) (.string (bs m)) = some (.string (bs (l ++ m))) := by
  have e : bs l ++ bs m = bs (l ++ m) := by
    have h2 : bl (bs l ++ bs m) = l ++ m := by simp [bl, bs]
    rw [← bs_bl (bs l ++ bs m), h2]
  simp only [aBin, aStr, bs_size, if_pos h, e]
theorem divMagR (H : Heap) {l : List UInt8} {D : Nat} (hl : l.length ≤ 900000) (hD : 0 < D) (hDl : (digB D).length ≤ 900000) :
    Sim Tryz.prog 226 #[.string (bs l), .string (bs (digB D))] H (.tuple #[.string (bs (digB (valB l / D))), .string (bs (digB (valB l % D)))]) H := by
  refine flat_ex rfl ?_
  have hre : ∀ T : Heap, T ++ [(⟨[.string (bs []), .string (bs []), .string (bs []), .string (bs []), .string (bs []), .string (bs []), .string (bs []), .string (bs [])], 1, true⟩ : Blk)] = T ++ [⟨strs (List.replicate 8 []), 1, true⟩] := fun _ => rfl
  have hw0 := strs_wr (l := List.replicate 8 []) (L := []) (k := 0) (b := digB D) (by decide)
  refine sim_ex tok mixed Tryz.func226 rfl (by kernel_rfl) (by kernel_rfl) (by simp only [Tryz.ntmps226, List.size_toArray, List.length_cons, List.length_nil]; omega) ?_
  simp -implicitDefEqProofs only [go_sem, Nat.reduceAdd, Nat.reduceSub, Nat.reduceMul, Nat.reduceLT, Nat.reduceLeDiff, Nat.reduceEqDiff, Nat.reduceBEq, Nat.reduceGT, Nat.reduceMod, Nat.reduceDiv, ↓reduceIte, reduceCtorEq, Int.reduceLE, Int.reduceLT, Int.reduceToNat, Int.reduceEq, Int.reduceNeg, Int.reduceAdd, Int.reduceSub, Int.reduceMul]
  rw [hre]
  simp -implicitDefEqProofs only [go_sem, Nat.reduceAdd, Nat.reduceSub, Nat.reduceMul, Nat.reduceLT, Nat.reduceLeDiff, Nat.reduceEqDiff, Nat.reduceBEq, Nat.reduceGT, Nat.reduceMod, Nat.reduceDiv, ↓reduceIte, reduceCtorEq, Int.reduceLE, Int.reduceLT, Int.reduceToNat, Int.reduceEq, Int.reduceNeg, Int.reduceAdd, Int.reduceSub, Int.reduceMul, aIndexAddr, hw0, show (0 : Int) < ((8 : Nat) : Int) from by decide]
  refine ax_midl (fun s T => ∃ ts : List (List UInt8), s 0 = .string (bs l) ∧ s 6 = .pointer (some ⟨H.length, 0, none⟩) ∧ ts.length = 8 ∧ (∀ j, j < 8 → ts[j]? = some (digB (D * 2 ^ j))) ∧ T = H ++ [⟨strs ts, 1, true⟩]) ?_ ?_
  · refine ax_loopx (fun (i : Nat) s T => ∃ ts : List (List UInt8), s 0 = .string (bs l) ∧ s 6 = .pointer (some ⟨H.length, 0, none⟩) ∧ s 7 = .int .i64 ((i + 1 : Nat) : Int) ∧ i ≤ 7 ∧ ts.length = 8 ∧ (∀ j, j ≤ i → ts[j]? = some (digB (D * 2 ^ j))) ∧ T = H ++ [⟨strs ts, 1, true⟩]) (fun i => 7 - i) 0 ?_ ?_
    · refine ⟨(List.replicate 8 []).set 0 (digB D), ?_⟩
      simp -implicitDefEqProofs only [go_sem, Nat.reduceAdd, Nat.reduceSub, Nat.reduceMul, Nat.reduceLT, Nat.reduceLeDiff, Nat.reduceEqDiff, Nat.reduceBEq, Nat.reduceGT, Nat.reduceMod, Nat.reduceDiv, ↓reduceIte, reduceCtorEq, Int.reduceLE, Int.reduceLT, Int.reduceToNat, Int.reduceEq, Int.reduceNeg, Int.reduceAdd, Int.reduceSub, Int.reduceMul]
      refine ⟨rfl, fun j hj => ?_⟩
      have : j = 0 := by omega
      subst this
      simp
    rintro i s T ⟨ts, s0, s6, s7, hi, hts, hv, rfl⟩
    simp -implicitDefEqProofs only [go_sem, Nat.reduceAdd, Nat.reduceSub, Nat.reduceMul, Nat.reduceLT, Nat.reduceLeDiff, Nat.reduceEqDiff, Nat.reduceBEq, Nat.reduceGT, Nat.reduceMod, Nat.reduceDiv, ↓reduceIte, reduceCtorEq, Int.reduceLE, Int.reduceLT, Int.reduceToNat, Int.reduceEq, Int.reduceNeg, Int.reduceAdd, Int.reduceSub, Int.reduceMul, s7]
    refine ax_cond2 ?_
    simp only [ev_tmp, ev_const, ev_func, upd_at, put_some, put_none, bndB_bool, Nat.reduceEqDiff, if_true, if_false, ↓reduceIte, reduceCtorEq]
    refine ⟨fun hc0 => have hlt := of_decide_eq_true hc0; ?_, fun hc0 => have hlt := of_decide_eq_false hc0; ?_⟩
    · have hi7 : i < 7 := by omega
      have hti := hv i (Nat.le_refl _)
      have hsz : (digB (D * 2 ^ i)).length ≤ 1000000 := by
        refine Nat.le_trans (digB_len _ ((digB D).length + 1) ?_) (by omega)
        have h1 := valB_lt (digB D)
        rw [valB_dig] at h1
        have h2 : 2 ^ i ≤ 2 ^ 7 := Nat.pow_le_pow_right (by decide) (by omega)
        rw [Nat.pow_succ]
        have h3 : D * 2 ^ i ≤ D * 2 ^ 7 := Nat.mul_le_mul_left _ h2
        omega
      have o1 := fun H => addMagR H (l := digB (D * 2 ^ i)) (m := digB (D * 2 ^ i)) hsz hsz
      have hdbl : valB (digB (D * 2 ^ i)) + valB (digB (D * 2 ^ i)) = D * 2 ^ (i + 1) := by rw [valB_dig, Nat.pow_succ, ← Nat.mul_assoc]; omega
      rw [hdbl] at o1
      have a1 : IntKind.i64.wrap (((i + 1 : Nat) : Int) - 1) = (i : Int) := by rw [w64 (by omega) (by omega)]; omega
      have a2 : IntKind.i64.wrap (((i + 1 : Nat) : Int) + 1) = ((i + 1 + 1 : Nat) : Int) := by rw [w64 (by omega) (by omega)]; rfl
      have hi1 : (0 : Int) ≤ (i : Int) ∧ (i : Int) < ((8 : Nat) : Int) := by omega
      have hi2 : (0 : Int) ≤ ((i + 1 : Nat) : Int) ∧ ((i + 1 : Nat) : Int) < ((8 : Nat) : Int) := by omega
      have hrd := strs_rd1 (L := []) hti
      have hwr := strs_wr (l := ts) (L := []) (k := i + 1) (b := digB (D * 2 ^ (i + 1))) (by omega)
      have hts2 : (ts.set (i + 1) (digB (D * 2 ^ (i + 1)))).length = 8 := by simpa using hts
      have hv2 : ∀ j, j ≤ i + 1 → (ts.set (i + 1) (digB (D * 2 ^ (i + 1))))[j]? = some (digB (D * 2 ^ j)) := by
        intro j hj
        by_cases hje : j = i + 1
        · subst hje; rw [List.getElem?_set_self (by omega)]
        · rw [List.getElem?_set_ne (by omega)]; exact hv j (by omega)
      generalize ts.set (i + 1) (digB (D * 2 ^ (i + 1))) = ts2 at *
      simp -implicitDefEqProofs only [go_sem, Nat.reduceAdd, Nat.reduceSub, Nat.reduceMul, Nat.reduceLT, Nat.reduceLeDiff, Nat.reduceEqDiff, Nat.reduceBEq, Nat.reduceGT, Nat.reduceMod, Nat.reduceDiv, ↓reduceIte, reduceCtorEq, Int.reduceLE, Int.reduceLT, Int.reduceToNat, Int.reduceEq, Int.reduceNeg, Int.reduceAdd, Int.reduceSub, Int.reduceMul]
      refine ax_quiet (by kernel_rfl) ?_
      simp -implicitDefEqProofs only [go_sem, Nat.reduceAdd, Nat.reduceSub, Nat.reduceMul, Nat.reduceLT, Nat.reduceLeDiff, Nat.reduceEqDiff, Nat.reduceBEq, Nat.reduceGT, Nat.reduceMod, Nat.reduceDiv, ↓reduceIte, reduceCtorEq, Int.reduceLE, Int.reduceLT, Int.reduceToNat, Int.reduceEq, Int.reduceNeg, Int.reduceAdd, Int.reduceSub, Int.reduceMul, s6, s7, a1, aIndexAddr, hi1, hi2, Nat.mul_one, hrd]
      refine wl_callV _ (by simp -implicitDefEqProofs only [go_sem, Nat.reduceAdd, Nat.reduceSub, Nat.reduceMul, Nat.reduceLT, Nat.reduceLeDiff, Nat.reduceEqDiff, Nat.reduceBEq, Nat.reduceGT, Nat.reduceMod, Nat.reduceDiv, ↓reduceIte, reduceCtorEq, Int.reduceLE, Int.reduceLT, Int.reduceToNat, Int.reduceEq, Int.reduceNeg, Int.reduceAdd, Int.reduceSub, Int.reduceMul]) (o1 _) ?_
      simp -implicitDefEqProofs only [go_sem, Nat.reduceAdd, Nat.reduceSub, Nat.reduceMul, Nat.reduceLT, Nat.reduceLeDiff, Nat.reduceEqDiff, Nat.reduceBEq, Nat.reduceGT, Nat.reduceMod, Nat.reduceDiv, ↓reduceIte, reduceCtorEq, Int.reduceLE, Int.reduceLT, Int.reduceToNat, Int.reduceEq, Int.reduceNeg, Int.reduceAdd, Int.reduceSub, Int.reduceMul, s0, s6, s7, aIndexAddr, hi1, hi2, Nat.mul_one, hwr, a2]
      exact ⟨i + 1, ⟨ts2, rfl, by omega, hts2, hv2, rfl⟩, by omega⟩
    · have : i = 7 := by omega
      subst this
      simp -implicitDefEqProofs only [go_sem, Nat.reduceAdd, Nat.reduceSub, Nat.reduceMul, Nat.reduceLT, Nat.reduceLeDiff, Nat.reduceEqDiff, Nat.reduceBEq, Nat.reduceGT, Nat.reduceMod, Nat.reduceDiv, ↓reduceIte, reduceCtorEq, Int.reduceLE, Int.reduceLT, Int.reduceToNat, Int.reduceEq, Int.reduceNeg, Int.reduceAdd, Int.reduceSub, Int.reduceMul, s0, s6]
      exact ⟨ts, hts, fun j hj => hv j (by omega), rfl⟩
  rintro s T ⟨ts, s0, s6, hts, hv, rfl⟩
  have hmk := make_u8 (H ++ [⟨strs ts, 1, true⟩]) l.length (by omega)
  simp -implicitDefEqProofs only [go_sem, Nat.reduceAdd, Nat.reduceSub, Nat.reduceMul, Nat.reduceLT, Nat.reduceLeDiff, Nat.reduceEqDiff, Nat.reduceBEq, Nat.reduceGT, Nat.reduceMod, Nat.reduceDiv, ↓reduceIte, reduceCtorEq, Int.reduceLE, Int.reduceLT, Int.reduceToNat, Int.reduceEq, Int.reduceNeg, Int.reduceAdd, Int.reduceSub, Int.reduceMul] at hmk
  simp -implicitDefEqProofs only [go_sem, Nat.reduceAdd, Nat.reduceSub, Nat.reduceMul, Nat.reduceLT, Nat.reduceLeDiff, Nat.reduceEqDiff, Nat.reduceBEq, Nat.reduceGT, Nat.reduceMod, Nat.reduceDiv, ↓reduceIte, reduceCtorEq, Int.reduceLE, Int.reduceLT, Int.reduceToNat, Int.reduceEq, Int.reduceNeg, Int.reduceAdd, Int.reduceSub, Int.reduceMul, s0, aLen, hmk]
  have hD1 : ∀ x : Nat, x % D < D := fun x => Nat.mod_lt x hD
  have hDlen : ∀ x : Nat, x < D → (digB x).length ≤ 900000 := fun x hx => Nat.le_trans (ltlen (n := D) (k := x) (.inr (by omega))) hDl
  refine ax_midl (fun s T => ∃ o : List UInt8, s 8 = .slice (some ⟨H.length + 1, 0, none⟩) l.length l.length ∧ s 9 = .string (bs (digB (valB l % D))) ∧ o.length = l.length ∧ valB o = valB l / D ∧ T = H ++ [⟨strs ts, 1, true⟩, ⟨u8s o, 1, true⟩]) ?_ ?_
  · refine ax_loopx (fun (i : Nat) s T => ∃ o : List UInt8, s 0 = .string (bs l) ∧ s 6 = .pointer (some ⟨H.length, 0, none⟩) ∧ s 8 = .slice (some ⟨H.length + 1, 0, none⟩) l.length l.length ∧ s 9 = .string (bs (digB (valB (l.take i) % D))) ∧ s 10 = .int .i64 (i : Nat) ∧ i ≤ l.length ∧ o.length = l.length ∧
      valB (o.take i) = valB (l.take i) / D ∧ T = H ++ [⟨strs ts, 1, true⟩, ⟨u8s o, 1, true⟩]) (fun i => l.length - i) 0 ?_ ?_
    · refine ⟨List.replicate l.length 0, ?_⟩
      simp -implicitDefEqProofs only [go_sem, Nat.reduceAdd, Nat.reduceSub, Nat.reduceMul, Nat.reduceLT, Nat.reduceLeDiff, Nat.reduceEqDiff, Nat.reduceBEq, Nat.reduceGT, Nat.reduceMod, Nat.reduceDiv, ↓reduceIte, reduceCtorEq, Int.reduceLE, Int.reduceLT, Int.reduceToNat, Int.reduceEq, Int.reduceNeg, Int.reduceAdd, Int.reduceSub, Int.reduceMul, show valB [] = 0 from rfl, Nat.zero_mod, digB_zero, s6]
      refine ⟨s0, ?_, (Nat.zero_div D).symm⟩; simp
    clear s0 s6 hmk
    rintro i s T ⟨o, s0, s6, s8, s9, s10, hi, ho, hvo, rfl⟩
    simp -implicitDefEqProofs only [go_sem, Nat.reduceAdd, Nat.reduceSub, Nat.reduceMul, Nat.reduceLT, Nat.reduceLeDiff, Nat.reduceEqDiff, Nat.reduceBEq, Nat.reduceGT, Nat.reduceMod, Nat.reduceDiv, ↓reduceIte, reduceCtorEq, Int.reduceLE, Int.reduceLT, Int.reduceToNat, Int.reduceEq, Int.reduceNeg, Int.reduceAdd, Int.reduceSub, Int.reduceMul, s0, s10, aLen]
    refine ax_cond2 ?_
    simp only [ev_tmp, ev_const, ev_func, upd_at, put_some, put_none, bndB_bool, Nat.reduceEqDiff, if_true, if_false, ↓reduceIte, reduceCtorEq]
    refine ⟨fun hc0 => have hlt := of_decide_eq_true hc0; ?_, fun hc0 => have hlt := of_decide_eq_false hc0; ?_⟩
    · have hil : i < l.length := by omega
      have hsl := fun H => str_slice1 H hil
      have hPD := hD1 (valB (l.take i))
      have hadd := fun t => bs_add (l := digB (valB (l.take i) % D)) (m := [l[i]]) (by have := hDlen _ hPD; simp; omega) t
      have o1 := fun H => trimR H (digB (valB (l.take i) % D) ++ [l[i]])
      have hx : (l[i]).toNat < 256 := UInt8.toNat_lt _
      rw [digB_strip, valB_snoc, valB_dig] at o1
      have hts := valB_take_succ hil
      have hdiv : valB (l.take (i + 1)) / D = (valB (l.take i) / D) * 256 + (valB (l.take i) % D * 256 + (l[i]).toNat) / D := by
        have e : valB (l.take (i + 1)) = D * (valB (l.take i) / D * 256) + (valB (l.take i) % D * 256 + (l[i]).toNat) := by
          rw [hts]
          conv => lhs; rw [← Nat.div_add_mod (valB (l.take i)) D]
          rw [Nat.add_mul, Nat.mul_assoc, Nat.add_assoc]
        rw [e, Nat.mul_add_div hD]
      have hmod : valB (l.take (i + 1)) % D = (valB (l.take i) % D * 256 + (l[i]).toNat) % D := by
        have e : valB (l.take (i + 1)) = D * (valB (l.take i) / D * 256) + (valB (l.take i) % D * 256 + (l[i]).toNat) := by
          rw [hts]
          conv => lhs; rw [← Nat.div_add_mod (valB (l.take i)) D]
          rw [Nat.add_mul, Nat.mul_assoc, Nat.add_assoc]
        rw [e, Nat.mul_add_mod]
      have hR : valB (l.take i) % D * 256 + (l[i]).toNat < D * 2 ^ 8 := by omega
      have a1 : IntKind.i64.wrap ((i : Int) + 1) = ((i + 1 : Nat) : Int) := by rw [w64 (by omega) (by omega)]; rfl
      generalize hRR : valB (l.take i) % D * 256 + (l[i]).toNat = R at *
      generalize l[i] = x at *
      generalize digB (valB (l.take i) % D) = rr at *
      simp -implicitDefEqProofs only [go_sem, Nat.reduceAdd, Nat.reduceSub, Nat.reduceMul, Nat.reduceLT, Nat.reduceLeDiff, Nat.reduceEqDiff, Nat.reduceBEq, Nat.reduceGT, Nat.reduceMod, Nat.reduceDiv, ↓reduceIte, reduceCtorEq, Int.reduceLE, Int.reduceLT, Int.reduceToNat, Int.reduceEq, Int.reduceNeg, Int.reduceAdd, Int.reduceSub, Int.reduceMul, s0, s9, s10, a1, hsl, hadd]
      refine wl_callV _ (by simp -implicitDefEqProofs only [go_sem, Nat.reduceAdd, Nat.reduceSub, Nat.reduceMul, Nat.reduceLT, Nat.reduceLeDiff, Nat.reduceEqDiff, Nat.reduceBEq, Nat.reduceGT, Nat.reduceMod, Nat.reduceDiv, ↓reduceIte, reduceCtorEq, Int.reduceLE, Int.reduceLT, Int.reduceToNat, Int.reduceEq, Int.reduceNeg, Int.reduceAdd, Int.reduceSub, Int.reduceMul]) (o1 _) ?_
      simp -implicitDefEqProofs only [go_sem, Nat.reduceAdd, Nat.reduceSub, Nat.reduceMul, Nat.reduceLT, Nat.reduceLeDiff, Nat.reduceEqDiff, Nat.reduceBEq, Nat.reduceGT, Nat.reduceMod, Nat.reduceDiv, ↓reduceIte, reduceCtorEq, Int.reduceLE, Int.reduceLT, Int.reduceToNat, Int.reduceEq, Int.reduceNeg, Int.reduceAdd, Int.reduceSub, Int.reduceMul]
      refine ax_midl (fun s T => ∃ (d r : Nat), s 0 = .string (bs l) ∧ s 6 = .pointer (some ⟨H.length, 0, none⟩) ∧ s 8 = .slice (some ⟨H.length + 1, 0, none⟩) l.length l.length ∧ s 9 = .string (bs (digB r)) ∧ s 10 = .int .i64 (i : Nat) ∧ s 11 = .int .i64 (d : Nat) ∧
        d * D + r = R ∧ r < D ∧ d < 256 ∧ T = H ++ [⟨strs ts, 1, true⟩, ⟨u8s o, 1, true⟩]) ?_ ?_
      · refine ax_loopx (fun (j : Nat) s T => ∃ (d r : Nat), s 0 = .string (bs l) ∧ s 6 = .pointer (some ⟨H.length, 0, none⟩) ∧ s 8 = .slice (some ⟨H.length + 1, 0, none⟩) l.length l.length ∧ s 9 = .string (bs (digB r)) ∧ s 10 = .int .i64 (i : Nat) ∧ s 11 = .int .i64 (d : Nat) ∧ s 12 = .int .i64 ((j : Int) - 1) ∧
          j ≤ 8 ∧ d * D + r = R ∧ r < D * 2 ^ j ∧ d + 2 ^ j ≤ 256 ∧ T = H ++ [⟨strs ts, 1, true⟩, ⟨u8s o, 1, true⟩]) (fun j => j) 8 ?_ ?_
        · refine ⟨0, R, ?_⟩
          simp -implicitDefEqProofs only [go_sem, Nat.reduceAdd, Nat.reduceSub, Nat.reduceMul, Nat.reduceLT, Nat.reduceLeDiff, Nat.reduceEqDiff, Nat.reduceBEq, Nat.reduceGT, Nat.reduceMod, Nat.reduceDiv, ↓reduceIte, reduceCtorEq, Int.reduceLE, Int.reduceLT, Int.reduceToNat, Int.reduceEq, Int.reduceNeg, Int.reduceAdd, Int.reduceSub, Int.reduceMul, s0, s6, s8, s10]
          ((repeat' apply And.intro) <;> first | rfl | assumption | omega)
        clear s0 s6 s8 s9 s10
        rintro j s T ⟨d, r, s0, s6, s8, s9, s10, s11, s12, hj, hdr, hr, hdj, rfl⟩
        cases j with
        | zero =>
          have e : ¬ (0 : Int) ≤ ((0 : Nat) : Int) - 1 := by decide
          simp -implicitDefEqProofs only [go_sem, Nat.reduceAdd, Nat.reduceSub, Nat.reduceMul, Nat.reduceLT, Nat.reduceLeDiff, Nat.reduceEqDiff, Nat.reduceBEq, Nat.reduceGT, Nat.reduceMod, Nat.reduceDiv, ↓reduceIte, reduceCtorEq, Int.reduceLE, Int.reduceLT, Int.reduceToNat, Int.reduceEq, Int.reduceNeg, Int.reduceAdd, Int.reduceSub, Int.reduceMul, wa_cond, axC_t, axC_f, s0, s6, s8, s9, s10, s11, s12, e]
          rw [Nat.pow_zero, Nat.mul_one] at hr; refine ⟨d, r, ?_⟩; ((repeat' apply And.intro) <;> first | rfl | assumption | omega)
        | succ k =>
          have e1 : ((k + 1 : Nat) : Int) - 1 = (k : Int) := by omega
          rw [e1] at s12
          have e2 : (0 : Int) ≤ (k : Int) := by omega
          have e3 : (0 : Int) ≤ (k : Int) ∧ (k : Int) < ((8 : Nat) : Int) := by omega
          have hrd := strs_rd1 (L := [⟨u8s o, 1, true⟩]) (hv k (by omega))
          have o2 := fun H => compareMagR H r (D * 2 ^ k)
          have a2 : IntKind.i64.wrap ((k : Int) - 1) = (k : Int) - 1 := w64 (by omega) (by omega)
          have hp := Nat.pow_succ 2 k
          rw [hp, ← Nat.mul_assoc] at hr
          by_cases hge : D * 2 ^ k ≤ r
          · have hs : (0 : Int) ≤ sgn ((r : Int) - ((D * 2 ^ k : Nat) : Int)) := by unfold sgn; rw [if_neg (by omega)]; split <;> omega
            have hp2 : 2 ^ k ≤ 2 ^ 7 := Nat.pow_le_pow_right (by decide) (by omega)
            have hrl : (digB r).length ≤ 1000000 := by
              refine Nat.le_trans (digB_len _ ((digB D).length + 1) ?_) (by omega)
              have h1 := valB_lt (digB D)
              rw [valB_dig] at h1
              rw [Nat.pow_succ]
              have h3 : D * 2 ^ k ≤ D * 2 ^ 7 := Nat.mul_le_mul_left _ hp2
              omega
            have o3 := fun H => subMagR H (l := digB r) (m := digB (D * 2 ^ k)) hrl (ltlen (.inr hge)) (by rw [valB_dig, valB_dig]; exact hge)
            rw [valB_dig, valB_dig] at o3
            have a3 : IntKind.u64.wrap (k : Int) = (k : Int) := wu64n (by omega)
            have a4 : ¬ (k : Int) < 0 := by omega
            have a5 : IntKind.i64.wrap (1 * 2 ^ (min k 64)) = ((2 ^ k : Nat) : Int) := by
              rw [show min k 64 = k by omega, Int.one_mul, show ((2 : Int) ^ k) = ((2 ^ k : Nat) : Int) by simp]
              exact w64n (by omega)
            have a6 : IntKind.i64.wrap ((d : Int) + ((2 ^ k : Nat) : Int)) = ((d + 2 ^ k : Nat) : Int) := by rw [addc, w64n (by omega)]
            have f1 : (d + 2 ^ k) * D + (r - D * 2 ^ k) = R := by rw [Nat.add_mul, Nat.mul_comm (2 ^ k) D]; omega
            have f2 : r - D * 2 ^ k < D * 2 ^ k := by omega
            have f3 : d + 2 ^ k + 2 ^ k ≤ 256 := by omega
            generalize sgn ((r : Int) - ((D * 2 ^ k : Nat) : Int)) = sg at *
            generalize digB (D * 2 ^ k) = tk at *
            generalize hr2 : r - D * 2 ^ k = r2 at *
            simp -implicitDefEqProofs only [go_sem, Nat.reduceAdd, Nat.reduceSub, Nat.reduceMul, Nat.reduceLT, Nat.reduceLeDiff, Nat.reduceEqDiff, Nat.reduceBEq, Nat.reduceGT, Nat.reduceMod, Nat.reduceDiv, ↓reduceIte, reduceCtorEq, Int.reduceLE, Int.reduceLT, Int.reduceToNat, Int.reduceEq, Int.reduceNeg, Int.reduceAdd, Int.reduceSub, Int.reduceMul, wa_cond, axC_t, axC_f, s0, s6, s8, s9, s10, s11, s12, e2, aIndexAddr, e3, Nat.mul_one, hrd]
            refine wl_callV _ (by simp -implicitDefEqProofs only [go_sem, Nat.reduceAdd, Nat.reduceSub, Nat.reduceMul, Nat.reduceLT, Nat.reduceLeDiff, Nat.reduceEqDiff, Nat.reduceBEq, Nat.reduceGT, Nat.reduceMod, Nat.reduceDiv, ↓reduceIte, reduceCtorEq, Int.reduceLE, Int.reduceLT, Int.reduceToNat, Int.reduceEq, Int.reduceNeg, Int.reduceAdd, Int.reduceSub, Int.reduceMul]) (o2 _) ?_
            simp -implicitDefEqProofs only [go_sem, Nat.reduceAdd, Nat.reduceSub, Nat.reduceMul, Nat.reduceLT, Nat.reduceLeDiff, Nat.reduceEqDiff, Nat.reduceBEq, Nat.reduceGT, Nat.reduceMod, Nat.reduceDiv, ↓reduceIte, reduceCtorEq, Int.reduceLE, Int.reduceLT, Int.reduceToNat, Int.reduceEq, Int.reduceNeg, Int.reduceAdd, Int.reduceSub, Int.reduceMul, wa_cond, axC_t, axC_f, s0, s6, s8, s9, s10, s11, s12, hs, aIndexAddr, e3, Nat.mul_one, hrd]
            refine wl_callV _ (by simp -implicitDefEqProofs only [go_sem, Nat.reduceAdd, Nat.reduceSub, Nat.reduceMul, Nat.reduceLT, Nat.reduceLeDiff, Nat.reduceEqDiff, Nat.reduceBEq, Nat.reduceGT, Nat.reduceMod, Nat.reduceDiv, ↓reduceIte, reduceCtorEq, Int.reduceLE, Int.reduceLT, Int.reduceToNat, Int.reduceEq, Int.reduceNeg, Int.reduceAdd, Int.reduceSub, Int.reduceMul]) (o3 _) ?_
            simp -implicitDefEqProofs only [go_sem, Nat.reduceAdd, Nat.reduceSub, Nat.reduceMul, Nat.reduceLT, Nat.reduceLeDiff, Nat.reduceEqDiff, Nat.reduceBEq, Nat.reduceGT, Nat.reduceMod, Nat.reduceDiv, ↓reduceIte, reduceCtorEq, Int.reduceLE, Int.reduceLT, Int.reduceToNat, Int.reduceEq, Int.reduceNeg, Int.reduceAdd, Int.reduceSub, Int.reduceMul, s0, s6, s8, s9, s10, s11, s12, aConv, a3, a4, a5, a6, a2]
            refine ⟨k, ⟨d + 2 ^ k, r2, ?_⟩, by omega⟩; ((repeat' apply And.intro) <;> first | rfl | assumption | omega)
          · have hs : ¬ (0 : Int) ≤ sgn ((r : Int) - ((D * 2 ^ k : Nat) : Int)) := by unfold sgn; rw [if_pos (by omega)]; decide
            have f2 : r < D * 2 ^ k := by omega
            have f3 : d + 2 ^ k ≤ 256 := by omega
            generalize sgn ((r : Int) - ((D * 2 ^ k : Nat) : Int)) = sg at *
            generalize digB (D * 2 ^ k) = tk at *
            simp -implicitDefEqProofs only [go_sem, Nat.reduceAdd, Nat.reduceSub, Nat.reduceMul, Nat.reduceLT, Nat.reduceLeDiff, Nat.reduceEqDiff, Nat.reduceBEq, Nat.reduceGT, Nat.reduceMod, Nat.reduceDiv, ↓reduceIte, reduceCtorEq, Int.reduceLE, Int.reduceLT, Int.reduceToNat, Int.reduceEq, Int.reduceNeg, Int.reduceAdd, Int.reduceSub, Int.reduceMul, wa_cond, axC_t, axC_f, s0, s6, s8, s9, s10, s11, s12, e2, aIndexAddr, e3, Nat.mul_one, hrd]
            refine wl_callV _ (by simp -implicitDefEqProofs only [go_sem, Nat.reduceAdd, Nat.reduceSub, Nat.reduceMul, Nat.reduceLT, Nat.reduceLeDiff, Nat.reduceEqDiff, Nat.reduceBEq, Nat.reduceGT, Nat.reduceMod, Nat.reduceDiv, ↓reduceIte, reduceCtorEq, Int.reduceLE, Int.reduceLT, Int.reduceToNat, Int.reduceEq, Int.reduceNeg, Int.reduceAdd, Int.reduceSub, Int.reduceMul]) (o2 _) ?_
            simp -implicitDefEqProofs only [go_sem, Nat.reduceAdd, Nat.reduceSub, Nat.reduceMul, Nat.reduceLT, Nat.reduceLeDiff, Nat.reduceEqDiff, Nat.reduceBEq, Nat.reduceGT, Nat.reduceMod, Nat.reduceDiv, ↓reduceIte, reduceCtorEq, Int.reduceLE, Int.reduceLT, Int.reduceToNat, Int.reduceEq, Int.reduceNeg, Int.reduceAdd, Int.reduceSub, Int.reduceMul, wa_cond, axC_t, axC_f, s0, s6, s8, s9, s10, s11, s12, hs, a2]
            refine ⟨k, ⟨d, r, ?_⟩, by omega⟩; ((repeat' apply And.intro) <;> first | rfl | assumption | omega)
      clear s0 s6 s8 s9 s10
      rintro s T ⟨d, r, s0, s6, s8, s9, s10, s11, hdr, hr, hd, rfl⟩
      have e3 : (0 : Int) ≤ (i : Int) ∧ (i : Int) < (l.length : Int) := by omega
      have a2 := low_u8 d
      have hwr := u8_wr (L := []) (l := o) (k := i) (b := UInt8.ofNat d) (by omega)
      have hdq : R / D = d ∧ R % D = r := by
        rw [← hdr, Nat.mul_comm]
        exact ⟨by rw [Nat.mul_add_div hD, Nat.div_eq_of_lt hr, Nat.add_zero], by rw [Nat.mul_add_mod, Nat.mod_eq_of_lt hr]⟩
      have hset : valB ((o.set i (UInt8.ofNat d)).take (i + 1)) = valB (l.take (i + 1)) / D := by
        rw [List.take_succ_eq_append_getElem (by simp; omega), List.getElem_set_self, List.take_set_of_le (Nat.le_refl _), valB_snoc, hvo, hdiv, hdq.1]
        congr 1
        simp; omega
      rw [← hdq.2, ← hmod] at s9
      have hol : (o.set i (UInt8.ofNat d)).length = l.length := by simpa using ho
      generalize o.set i (UInt8.ofNat d) = o2 at *
      simp -implicitDefEqProofs only [go_sem, Nat.reduceAdd, Nat.reduceSub, Nat.reduceMul, Nat.reduceLT, Nat.reduceLeDiff, Nat.reduceEqDiff, Nat.reduceBEq, Nat.reduceGT, Nat.reduceMod, Nat.reduceDiv, ↓reduceIte, reduceCtorEq, Int.reduceLE, Int.reduceLT, Int.reduceToNat, Int.reduceEq, Int.reduceNeg, Int.reduceAdd, Int.reduceSub, Int.reduceMul, s0, s6, s8, s9, s10, s11, aConv, a2, aIndexAddr, e3, Nat.mul_one, hwr, a1]
      refine ⟨i + 1, ⟨o2, ?_⟩, by omega⟩; ((repeat' apply And.intro) <;> first | rfl | assumption | omega)
    · have : i = l.length := by omega
      subst this
      rw [List.take_length] at s9
      rw [List.take_of_length_le (by omega), List.take_length] at hvo
      simp -implicitDefEqProofs only [go_sem, Nat.reduceAdd, Nat.reduceSub, Nat.reduceMul, Nat.reduceLT, Nat.reduceLeDiff, Nat.reduceEqDiff, Nat.reduceBEq, Nat.reduceGT, Nat.reduceMod, Nat.reduceDiv, ↓reduceIte, reduceCtorEq, Int.reduceLE, Int.reduceLT, Int.reduceToNat, Int.reduceEq, Int.reduceNeg, Int.reduceAdd, Int.reduceSub, Int.reduceMul, s8, s9]
      exact ⟨o, ho, hvo, rfl⟩
  clear s0 s6 hmk
  rintro s T ⟨o, s8, s9, ho, hvo, rfl⟩
  have hrd := u8_rd (L := []) (l := o) (k := 0) (n := l.length) (by omega)
  rw [List.drop_zero] at hrd
  have o1 := fun H => trimR H o
  rw [digB_strip, hvo] at o1
  unfold bs at o1
  simp -implicitDefEqProofs only [go_sem, Nat.reduceAdd, Nat.reduceSub, Nat.reduceMul, Nat.reduceLT, Nat.reduceLeDiff, Nat.reduceEqDiff, Nat.reduceBEq, Nat.reduceGT, Nat.reduceMod, Nat.reduceDiv, ↓reduceIte, reduceCtorEq, Int.reduceLE, Int.reduceLT, Int.reduceToNat, Int.reduceEq, Int.reduceNeg, Int.reduceAdd, Int.reduceSub, Int.reduceMul, s8, aConv, hrd, bytesOf_u8s]
  refine wl_callV _ (by simp -implicitDefEqProofs only [go_sem, Nat.reduceAdd, Nat.reduceSub, Nat.reduceMul, Nat.reduceLT, Nat.reduceLeDiff, Nat.reduceEqDiff, Nat.reduceBEq, Nat.reduceGT, Nat.reduceMod, Nat.reduceDiv, ↓reduceIte, reduceCtorEq, Int.reduceLE, Int.reduceLT, Int.reduceToNat, Int.reduceEq, Int.reduceNeg, Int.reduceAdd, Int.reduceSub, Int.reduceMul]) (o1 _) ?_
  simp -implicitDefEqProofs only [go_sem, Nat.reduceAdd, Nat.reduceSub, Nat.reduceMul, Nat.reduceLT, Nat.reduceLeDiff, Nat.reduceEqDiff, Nat.reduceBEq, Nat.reduceGT, Nat.reduceMod, Nat.reduceDiv, ↓reduceIte, reduceCtorEq, Int.reduceLE, Int.reduceLT, Int.reduceToNat, Int.reduceEq, Int.reduceNeg, Int.reduceAdd, Int.reduceSub, Int.reduceMul, s9, res226]
  first | exact .app _ _ | exact ⟨.app _ _, rfl⟩
end Go.Proofs.YthhmkaikopdmjaaGreat
namespace Go.Proofs.YthhmkaikopdmjaaGreat
open Go Go.Fw
theorem gcdR (H : Heap) {g g' : Bool} {m m' : List UInt8} (hm : m.length ≤ 900000) (hm' : m'.length ≤ 900000) :
    Sim Tryz.prog 164 #[iV g m, iV g' m'] H (mkI (Nat.gcd (valB m) (valB m') : Nat)) H := by
  refine flat_ex (flat_mkI _) ?_
  have o1 := fun H => trimR H m
  have o2 := fun H => trimR H m'
  have l1 : (digB (valB m)).length ≤ 900000 := by rw [← digB_strip]; exact Nat.le_trans (dropZ_len m) hm
  have l2 : (digB (valB m')).length ≤ 900000 := by rw [← digB_strip]; exact Nat.le_trans (dropZ_len m') hm'
  rw [digB_strip] at o1 o2
  generalize valB m = a at *
  generalize valB m' = b at *
  unfold iV
  refine sim_ex tok mixed Tryz.func164 rfl (by kernel_rfl) (by kernel_rfl) (by simp only [Tryz.ntmps164, List.size_toArray, List.length_cons, List.length_nil]; omega) ?_
  simp -implicitDefEqProofs only [go_sem, simprocAttr]
  refine ax_quiet (by kernel_rfl) ?_
  simp -implicitDefEqProofs only [go_sem, simprocAttr]
  refine wl_callV _ (by simp -implicitDefEqProofs only [go_sem, simprocAttr]) (o1 _) ?_
  simp -implicitDefEqProofs only [go_sem, simprocAttr]
  refine wl_callV _ (by simp -implicitDefEqProofs only [go_sem, simprocAttr]) (o2 _) ?_
  simp -implicitDefEqProofs only [go_sem, simprocAttr]
  obtain ⟨T0, hT0⟩ : ∃ T, T = H ++ [(⟨[.bool g, .string (bs m)], 1, true⟩ : Blk), ⟨[.bool g', .string (bs m')], 1, true⟩, ⟨[.bool false, .string (bs [])], 1, true⟩] := ⟨_, rfl⟩
  rw [← hT0]
  refine ax_midl (fun s T => ∃ n k : Nat, s 4 = .pointer (some ⟨H.length + 2, 0, none⟩) ∧ s 5 = .string (bs (digB n)) ∧ s 6 = .string (bs (digB k)) ∧ Nat.gcd n k = Nat.gcd a b ∧ (k = 0 ∨ (digB n).length ≤ 7 ∧ (digB k).length ≤ 7) ∧ T = T0) ?_ ?_
  · refine ax_loopx (fun (k : Nat) s T => ∃ n : Nat, s 4 = .pointer (some ⟨H.length + 2, 0, none⟩) ∧ s 5 = .string (bs (digB n)) ∧ s 6 = .string (bs (digB k)) ∧ Nat.gcd n k = Nat.gcd a b ∧ (digB n).length ≤ 900000 ∧ (digB k).length ≤ 900000 ∧ T = T0) id b ?_ ?_
    · refine ⟨a, ?_⟩
      simp -implicitDefEqProofs only [go_sem, simprocAttr]
      ((repeat' apply And.intro) <;> first | rfl | assumption | omega)
    rintro k s T ⟨n, s4, s5, s6, hg, hn, hk, rfl⟩
    by_cases hk0 : k = 0
    · subst hk0
      rw [digB_zero] at s6
      simp -implicitDefEqProofs only [go_sem, simprocAttr, wa_cond, axC_t, axC_f, s5, s6]
      refine ⟨n, 0, ?_⟩
      rw [digB_zero]
      exact ⟨s4, rfl, rfl, hg, .inl rfl⟩
    have hne : ¬ bs (digB k) = bs [] := by rw [bs_inj, digB_nil_iff]; exact hk0
    have o3 := fun H => divMagR H (l := digB n) (D := k) hn (by omega) hk
    rw [valB_dig] at o3
    have hmk : (digB (n % k)).length ≤ 900000 := Nat.le_trans (ltlen (n := k) (.inr (Nat.le_of_lt (Nat.mod_lt _ (by omega))))) hk
    have hgk : Nat.gcd k (n % k) = Nat.gcd a b := by rw [← hg, Nat.gcd_comm n k, Nat.gcd_comm k (n % k), ← Nat.gcd_rec]
    have hml : n % k < k := Nat.mod_lt _ (by omega)
    have c1 : (7 : Int) < ((digB n).length : Int) ∨ (¬ (7 : Int) < ((digB n).length : Int) ∧ (7 : Int) < ((digB k).length : Int)) ∨ (¬ (7 : Int) < ((digB n).length : Int) ∧ ¬ (7 : Int) < ((digB k).length : Int)) := by omega
    by_cases h7 : (digB n).length ≤ 7 ∧ (digB k).length ≤ 7
    · have e1 : ¬ (7 : Int) < ((digB n).length : Int) := by omega
      have e2 : ¬ (7 : Int) < ((digB k).length : Int) := by omega
      simp -implicitDefEqProofs only [go_sem, simprocAttr, wa_cond, axC_t, axC_f, s5, s6, hne, aLen, e1, e2]
      refine ⟨n, k, s4, rfl, rfl, hg, .inr h7⟩
    rcases c1 with e1 | ⟨e1, e2⟩ | ⟨e1, e2⟩
    · simp -implicitDefEqProofs only [go_sem, simprocAttr, wa_cond, axC_t, axC_f, s5, s6, hne, aLen, e1]
      refine wl_callV _ (by simp -implicitDefEqProofs only [go_sem, simprocAttr]) (o3 _) ?_
      simp -implicitDefEqProofs only [go_sem, simprocAttr, s4, s5, s6]
      refine ⟨n % k, ⟨k, ?_⟩, hml⟩
      ((repeat' apply And.intro) <;> first | rfl | assumption | omega)
    · simp -implicitDefEqProofs only [go_sem, simprocAttr, wa_cond, axC_t, axC_f, s5, s6, hne, aLen, e1, e2]
      refine wl_callV _ (by simp -implicitDefEqProofs only [go_sem, simprocAttr]) (o3 _) ?_
      simp -implicitDefEqProofs only [go_sem, simprocAttr, s4, s5, s6]
      refine ⟨n % k, ⟨k, ?_⟩, hml⟩
      ((repeat' apply And.intro) <;> first | rfl | assumption | omega)
    · omega
  rintro s T ⟨n, k, s4, s5, s6, hg, hc, rfl⟩
  subst hT0
  by_cases hk0 : k = 0
  · subst hk0
    rw [Nat.gcd_zero_right] at hg
    rw [← hg]
    have e : mkI (n : Nat) = .agg #[.bool false, .string (bs (digB n))] := by
      unfold mkI iV
      rw [decide_eq_false (by omega)]
      rfl
    rw [e]
    rw [digB_zero] at s6
    simp -implicitDefEqProofs only [go_sem, simprocAttr, wa_cond, axC_t, axC_f, s4, s5, s6, res164]
    first | exact .app _ _ | exact ⟨.app _ _, rfl⟩
  have hne : ¬ bs (digB k) = bs [] := by rw [bs_inj, digB_nil_iff]; exact hk0
  obtain ⟨h1, h2⟩ : (digB n).length ≤ 7 ∧ (digB k).length ≤ 7 := by rcases hc with h | h; exact absurd h hk0; exact h
  have o3 := fun H => smallR H h1
  have o4 := fun H => smallR H h2
  rw [valB_dig] at o3 o4
  have b1 := valB_lt (digB n)
  have b2 := valB_lt (digB k)
  rw [valB_dig] at b1 b2
  have p1 : 256 ^ (digB n).length ≤ 256 ^ 7 := Nat.pow_le_pow_right (by decide) h1
  have p2 : 256 ^ (digB k).length ≤ 256 ^ 7 := Nat.pow_le_pow_right (by decide) h2
  rw [show (256 : Nat) ^ 7 = 72057594037927936 from rfl] at p1 p2
  simp -implicitDefEqProofs only [go_sem, simprocAttr, wa_cond, axC_t, axC_f, s4, s5, s6, hne]
  refine wl_callV _ (by simp -implicitDefEqProofs only [go_sem, simprocAttr]) (o3 _) ?_
  simp -implicitDefEqProofs only [go_sem, simprocAttr, s4, s5, s6]
  refine wl_callV _ (by simp -implicitDefEqProofs only [go_sem, simprocAttr]) (o4 _) ?_
  simp -implicitDefEqProofs only [go_sem, simprocAttr]
  obtain ⟨T0, hT0⟩ : ∃ T, T = H ++ [(⟨[.bool g, .string (bs m)], 1, true⟩ : Blk), ⟨[.bool g', .string (bs m')], 1, true⟩, ⟨[.bool false, .string (bs [])], 1, true⟩] := ⟨_, rfl⟩
  rw [← hT0]
  refine ax_midl (fun s T => s 4 = .pointer (some ⟨H.length + 2, 0, none⟩) ∧ s 9 = .int .i64 (Nat.gcd a b : Nat) ∧ T = T0) ?_ ?_
  · refine ax_loopx (fun (y : Nat) s T => ∃ x : Nat, s 4 = .pointer (some ⟨H.length + 2, 0, none⟩) ∧ s 9 = .int .i64 (x : Nat) ∧ s 10 = .int .i64 (y : Nat) ∧ Nat.gcd x y = Nat.gcd a b ∧ T = T0) id k ?_ ?_
    · refine ⟨n, ?_⟩
      simp -implicitDefEqProofs only [go_sem, simprocAttr, s4]
      ((repeat' apply And.intro) <;> first | rfl | assumption | omega)
    rintro y s T ⟨x, s4, s9, s10, hg, rfl⟩
    by_cases hy : y = 0
    · subst hy
      rw [Nat.gcd_zero_right] at hg
      have e : ¬ (0 : Int) < ((0 : Nat) : Int) := by decide
      simp -implicitDefEqProofs only [go_sem, simprocAttr, wa_cond, axC_t, axC_f, s4, s9, s10, e]
      rw [← hg]
    · have e : (0 : Int) < (y : Int) := by omega
      have e2 : ¬ (y : Int) = 0 := by omega
      have e3 := tmod_nat x y
      have hml : x % y < y := Nat.mod_lt _ (by omega)
      have hgk : Nat.gcd y (x % y) = Nat.gcd a b := by rw [← hg, Nat.gcd_comm x y, Nat.gcd_comm y (x % y), ← Nat.gcd_rec]
      simp -implicitDefEqProofs only [go_sem, simprocAttr, wa_cond, axC_t, axC_f, s10, e]
      refine ax_quiet (by kernel_rfl) ?_
      simp -implicitDefEqProofs only [go_sem, simprocAttr, s4, s9, s10, e2, e3]
      refine ⟨x % y, ⟨y, ?_⟩, hml⟩
      ((repeat' apply And.intro) <;> first | rfl | assumption | omega)
  rintro s T ⟨s4, s9, rfl⟩
  subst hT0
  have hgb : Nat.gcd a b ≤ 72057594037927936 := by
    rw [← hg]
    exact Nat.le_trans (Nat.gcd_le_right _ (by omega)) (by omega)
  have o5 := fun H => ofR H (z := (Nat.gcd a b : Nat)) (by omega) (by omega)
  unfold mkI iV at *
  simp -implicitDefEqProofs only [go_sem, simprocAttr, s4, s9]
  refine wl_callV _ (by simp -implicitDefEqProofs only [go_sem, simprocAttr]) (o5 _) ?_
  simp -implicitDefEqProofs only [go_sem, simprocAttr, s4, res164]
  first | exact .app _ _ | exact ⟨.app _ _, rfl⟩
end Go.Proofs.YthhmkaikopdmjaaGreat
namespace Go.Proofs.YthhmkaikopdmjaaGreat
open Go Go.Fw
theorem mkI_nat (n : Nat) : mkI (n : Nat) = .agg #[.bool false, .string (bs (digB n))] := by
  unfold mkI iV
  rw [decide_eq_false (by omega)]
  rfl
theorem mkI_shape (z : Int) : ∃ b s, mkI z = .agg #[.bool b, .string s] := ⟨_, _, rfl⟩
theorem sgI_of (z : Int) : sgI (decide (z < 0)) z.natAbs = z := by unfold sgI; by_cases h : z < 0 <;> simp [h] <;> omega
theorem divRI (H : Heap) {g g' : Bool} {m m' : List UInt8} (hm : m.length ≤ 900000) (hm' : m'.length ≤ 900000) (h0 : ival g' m' ≠ 0) :
    Sim Tryz.prog 165 #[iV g m, iV g' m'] H (.tuple #[mkI ((ival g m).fdiv (ival g' m')), mkI ((ival g m).fmod (ival g' m')), .int .i64 0]) H := by
  refine flat_ex rfl ?_
  have o1 := fun H => canonR H g m
  have o2 := fun H => canonR H g' m'
  have l1 : (digB (ival g m).natAbs).length ≤ 900000 := canon_len hm
  have l2 : (digB (ival g' m').natAbs).length ≤ 900000 := canon_len hm'
  generalize ival g m = x at *
  generalize ival g' m' = y at *
  have hne : ¬ bs (digB y.natAbs) = bs [] := by rw [bs_inj, digB_nil_iff]; omega
  have hn0 : 0 < y.natAbs := by omega
  have v1 := valB_dig x.natAbs
  have v2 := valB_dig y.natAbs
  obtain ⟨law1, law2⟩ := div_law (decide (x < 0)) (decide (y < 0)) x.natAbs y.natAbs hn0
  rw [sgI_of, sgI_of] at law1 law2
  have o3 := fun H => divMagR H (l := digB x.natAbs) (D := y.natAbs) l1 hn0 l2
  rw [v1] at o3
  have hsm : (digB x.natAbs).length < 8 → (digB y.natAbs).length < 8 → (∀ H, Sim Tryz.prog 227 #[.string (bs (digB x.natAbs))] H (.int .i64 (x.natAbs : Nat)) H) ∧ (∀ H, Sim Tryz.prog 227 #[.string (bs (digB y.natAbs))] H (.int .i64 (y.natAbs : Nat)) H) ∧ x.natAbs < 72057594037927936 ∧ y.natAbs < 72057594037927936 := by
    intro h1 h2
    have p1 := valB_lt (digB x.natAbs)
    have p2 := valB_lt (digB y.natAbs)
    have q1 := pow256_le (i := (digB x.natAbs).length) (by omega)
    have q2 := pow256_le (i := (digB y.natAbs).length) (by omega)
    refine ⟨fun H => ?_, fun H => ?_, by omega, by omega⟩
    · have := smallR H (m := digB x.natAbs) (by omega); rwa [v1] at this
    · have := smallR H (m := digB y.natAbs) (by omega); rwa [v2] at this
  have hQ : x.natAbs / y.natAbs ≤ x.natAbs := Nat.div_le_self _ _
  have hR : x.natAbs % y.natAbs < y.natAbs := Nat.mod_lt _ hn0
  have lQ : (digB (x.natAbs / y.natAbs)).length ≤ 900000 := Nat.le_trans (ltlen (.inr hQ)) l1
  have lR : (digB (x.natAbs % y.natAbs)).length ≤ 900000 := Nat.le_trans (ltlen (.inr (Nat.le_of_lt hR))) l2
  have oN := fun H => negR H false (digB (x.natAbs / y.natAbs))
  have iQ : ival false (digB (x.natAbs / y.natAbs)) = ((x.natAbs / y.natAbs : Nat) : Int) := by unfold ival; rw [valB_dig]; rfl
  have iR : ival false (digB (x.natAbs % y.natAbs)) = ((x.natAbs % y.natAbs : Nat) : Int) := by unfold ival; rw [valB_dig]; rfl
  have iY : ival false (digB y.natAbs) = (y.natAbs : Nat) := by unfold ival; rw [v2]; rfl
  rw [iQ] at oN
  have hnilR : bs (digB (x.natAbs % y.natAbs)) = bs [] ↔ x.natAbs % y.natAbs = 0 := by rw [bs_inj, digB_nil_iff]
  have oS1 := fun H => subRI H (g := decide (-((x.natAbs / y.natAbs : Nat) : Int) < 0)) (m := digB (-((x.natAbs / y.natAbs : Nat) : Int)).natAbs) (g' := decide ((1 : Int) < 0)) (m' := digB (1 : Int).natAbs) (by rw [Int.natAbs_neg]; simp only [Int.natAbs_natCast]; omega) (Nat.le_trans (digB_len _ 1 (by decide)) (by decide))
  rw [ival_mk, ival_mk] at oS1
  have oS2 := fun H => subRI H (g := false) (m := digB y.natAbs) (g' := false) (m' := digB (x.natAbs % y.natAbs)) (by omega) (by omega)
  rw [iY, iR] at oS2
  have oO := fun H => ofR H (z := 1) (by decide) (by decide)
  have oN2 := fun (z : Int) H => negR H (decide (z < 0)) (digB z.natAbs)
  simp only [ival_mk] at oN2
  have nQ := mkI_nat (x.natAbs / y.natAbs)
  have nR := mkI_nat (x.natAbs % y.natAbs)
  obtain ⟨qz, rz, f1, f2, f3⟩ : ∃ qz rz : Int, x.fdiv y = qz ∧ (if decide (y < 0) = true then -rz else rz) = x.fmod y ∧
      ((decide (x < 0) = decide (y < 0) ∧ qz = ((x.natAbs / y.natAbs : Nat) : Int) ∧ rz = ((x.natAbs % y.natAbs : Nat) : Int)) ∨
       (decide (x < 0) ≠ decide (y < 0) ∧ x.natAbs % y.natAbs = 0 ∧ qz = -((x.natAbs / y.natAbs : Nat) : Int) ∧ rz = ((x.natAbs % y.natAbs : Nat) : Int)) ∨
       (decide (x < 0) ≠ decide (y < 0) ∧ x.natAbs % y.natAbs ≠ 0 ∧ qz = -((x.natAbs / y.natAbs : Nat) : Int) - 1 ∧ rz = ((y.natAbs : Nat) : Int) - ((x.natAbs % y.natAbs : Nat) : Int))) := by
    clear oN oS1 oS2 oO oN2 nQ nR o1 o2 o3 hsm
    have hY : y = if decide (y < 0) = true then -((y.natAbs : Nat) : Int) else ((y.natAbs : Nat) : Int) := by by_cases h : y < 0 <;> simp [h] <;> omega
    generalize decide (x < 0) = sx at *
    generalize decide (y < 0) = sy at *
    generalize x.natAbs / y.natAbs = Q at *
    generalize x.natAbs % y.natAbs = R at *
    refine ⟨x.fdiv y, if sy = true then -(x.fmod y) else x.fmod y, rfl, by cases sy <;> simp, ?_⟩
    unfold sgI at law1 law2
    by_cases h1 : sx = sy
    · left
      obtain ⟨e1, e2⟩ := law1 (.inl h1)
      subst h1
      rw [← e1, ← e2]
      cases sx <;> simp
    · by_cases h2 : R = 0
      · right; left
        obtain ⟨e1, e2⟩ := law1 (.inr h2)
        rw [← e1, ← e2]
        subst h2
        refine ⟨h1, rfl, ?_, ?_⟩ <;> (cases sx <;> cases sy <;> first | exact absurd rfl h1 | (simp; done))
      · right; right
        obtain ⟨e1, e2⟩ := law2 (fun h => h.elim h1 h2)
        rw [← e1, ← e2]
        refine ⟨h1, h2, ?_, ?_⟩ <;> (cases sx <;> cases sy <;> first | exact absurd rfl h1 | (simp; done) | (simp only [if_true, Bool.false_eq_true, if_false] at hY ⊢; omega))
  rw [f1, ← f2]
  clear law1 law2 f1 f2 l1 l2 v1 v2 iQ iR iY lQ lR hR hQ
  unfold iV at *
  have hmk : ∀ z : Int, mkI z = .agg #[.bool (decide (z < 0)), .string (bs (digB z.natAbs))] := fun z => rfl
  rw [hmk x] at o1
  rw [hmk y] at o2
  rw [← hmk, ← hmk] at oS1
  generalize hQQ : x.natAbs / y.natAbs = Q at *
  generalize hRR : x.natAbs % y.natAbs = R at *
  generalize hsx : decide (x < 0) = sx at *
  generalize hsy : decide (y < 0) = sy at *
  generalize digB x.natAbs = lx at *
  generalize digB y.natAbs = ly at *
  generalize digB Q = lq at *
  generalize digB R = lr at *
  refine sim_ex tok mixed Tryz.func165 rfl (by kernel_rfl) (by kernel_rfl) (by simp only [Tryz.ntmps165, List.size_toArray, List.length_cons, List.length_nil]; omega) ?_
  simp -implicitDefEqProofs only [go_sem, simprocAttr]
  refine ax_quiet (by kernel_rfl) ?_
  simp -implicitDefEqProofs only [go_sem, simprocAttr]
  refine wl_callV _ (by simp -implicitDefEqProofs only [go_sem, simprocAttr]) (o1 _) ?_
  simp -implicitDefEqProofs only [go_sem, simprocAttr]
  refine wl_callV _ (by simp -implicitDefEqProofs only [go_sem, simprocAttr]) (o2 _) ?_
  simp -implicitDefEqProofs only [go_sem, simprocAttr, wa_cond, axC_t, axC_f, hne]
  apply shareK (M := fun s T => s 2 = .pointer (some ⟨H.length, 0, none⟩) ∧ s 3 = .pointer (some ⟨H.length + 1, 0, none⟩) ∧ s 4 = .pointer (some ⟨H.length + 2, 0, none⟩) ∧ s 5 = .pointer (some ⟨H.length + 3, 0, none⟩) ∧ s 7 = .pointer (some ⟨H.length + 4, 0, none⟩) ∧ s 8 = .pointer (some ⟨H.length + 5, 0, none⟩) ∧
    T = H ++ [⟨[.bool sx, .string (bs lx)], 1, true⟩, ⟨[.bool sy, .string (bs ly)], 1, true⟩, ⟨[.bool false, .string (bs [])], 1, true⟩, ⟨[.bool false, .string (bs [])], 1, true⟩, ⟨[.bool false, .string (bs lq)], 1, true⟩, ⟨[.bool false, .string (bs lr)], 1, true⟩])
  · intro hrest
    have hbig : (¬ (lx.length : Int) < 8 ∧ ¬ (lx.length : Int) < 8) ∨ ((lx.length : Int) < 8 ∧ ¬ (ly.length : Int) < 8) ∨ ((lx.length : Int) < 8 ∧ (ly.length : Int) < 8) := by omega
    rcases hbig with ⟨h1, h2⟩ | ⟨h1, h2⟩ | ⟨h1, h2⟩
    · simp -implicitDefEqProofs only [go_sem, simprocAttr, aLen, h1, h2]
      refine ax_mid _ ?_ hrest
      simp -implicitDefEqProofs only [go_sem, simprocAttr, wa_cond, axC_t, axC_f]
      refine wl_callV _ (by simp -implicitDefEqProofs only [go_sem, simprocAttr]) (o3 _) ?_
      simp -implicitDefEqProofs only [go_sem, simprocAttr]
    · simp -implicitDefEqProofs only [go_sem, simprocAttr, aLen, h1, h2]
      refine ax_mid _ ?_ hrest
      simp -implicitDefEqProofs only [go_sem, simprocAttr, wa_cond, axC_t, axC_f]
      refine wl_callV _ (by simp -implicitDefEqProofs only [go_sem, simprocAttr]) (o3 _) ?_
      simp -implicitDefEqProofs only [go_sem, simprocAttr]
    · obtain ⟨q1, q2, q3, q4⟩ := hsm (by omega) (by omega)
      have hn : ¬ ((y.natAbs : Nat) : Int) = 0 := by omega
      have d1 := tdiv_nat x.natAbs y.natAbs
      have d2 := tmod_nat x.natAbs y.natAbs
      have hq1 : x.natAbs / y.natAbs ≤ x.natAbs := Nat.div_le_self _ _
      have hq2 : x.natAbs % y.natAbs ≤ x.natAbs := Nat.mod_le _ _
      have d3 := w64n (n := x.natAbs / y.natAbs) (by omega)
      have o4 := fun H => ofR H (z := (x.natAbs / y.natAbs : Nat)) (by omega) (by omega)
      have o5 := fun H => ofR H (z := (x.natAbs % y.natAbs : Nat)) (by omega) (by omega)
      rw [hQQ] at d1 d3 o4
      rw [hRR] at d2 o5
      rw [nQ] at o4
      rw [nR] at o5
      simp -implicitDefEqProofs only [go_sem, simprocAttr, aLen, h1, h2]
      refine ax_mid _ ?_ hrest
      simp -implicitDefEqProofs only [go_sem, simprocAttr, wa_cond, axC_t, axC_f]
      refine ax_quiet (by kernel_rfl) ?_
      simp -implicitDefEqProofs only [go_sem, simprocAttr]
      refine wl_callV _ (by simp -implicitDefEqProofs only [go_sem, simprocAttr]) (q1 _) ?_
      simp -implicitDefEqProofs only [go_sem, simprocAttr]
      refine wl_callV _ (by simp -implicitDefEqProofs only [go_sem, simprocAttr]) (q2 _) ?_
      simp -implicitDefEqProofs only [go_sem, simprocAttr]
      refine ax_quiet (by kernel_rfl) ?_
      simp -implicitDefEqProofs only [go_sem, simprocAttr, hn, d1, d3]
      refine wl_callV _ (by simp -implicitDefEqProofs only [go_sem, simprocAttr]) (o4 _) ?_
      simp -implicitDefEqProofs only [go_sem, simprocAttr, hn, d2]
      refine wl_callV _ (by simp -implicitDefEqProofs only [go_sem, simprocAttr]) (o5 _) ?_
      simp -implicitDefEqProofs only [go_sem, simprocAttr]
  rintro s T ⟨s2, s3, s4, s5, s7, s8, rfl⟩
  simp -implicitDefEqProofs only [go_sem, simprocAttr, s2, s3, bool_neq]
  obtain ⟨qb, qs, hq⟩ := mkI_shape qz
  obtain ⟨rb, rs, hr⟩ := mkI_shape rz
  obtain ⟨fb, fs, hf⟩ := mkI_shape (if sy = true then -rz else rz)
  refine ax_mid (fun s T => s 3 = .pointer (some ⟨H.length + 1, 0, none⟩) ∧ s 4 = .pointer (some ⟨H.length + 2, 0, none⟩) ∧ s 5 = .pointer (some ⟨H.length + 3, 0, none⟩) ∧ s 7 = .pointer (some ⟨H.length + 4, 0, none⟩) ∧ s 8 = .pointer (some ⟨H.length + 5, 0, none⟩) ∧
    T = H ++ [⟨[.bool sx, .string (bs lx)], 1, true⟩, ⟨[.bool sy, .string (bs ly)], 1, true⟩, ⟨[.bool false, .string (bs [])], 1, true⟩, ⟨[.bool false, .string (bs [])], 1, true⟩, ⟨[.bool qb, .string qs], 1, true⟩, ⟨[.bool rb, .string rs], 1, true⟩]) ?_ ?_
  · rcases f3 with ⟨c1, c2, c3⟩ | ⟨c1, c2, c3, c4⟩ | ⟨c1, c2, c3, c4⟩
    · have e : (sx == sy) = true := by rw [c1]; simp
      rw [c2, nQ] at hq
      rw [c3, nR] at hr
      injection hq with hq
      injection hr with hr
      simp only [Array.mk.injEq, List.cons.injEq, Value.bool.injEq, Value.string.injEq, and_true] at hq hr
      obtain ⟨rfl, rfl⟩ := hq
      obtain ⟨rfl, rfl⟩ := hr
      simp -implicitDefEqProofs only [go_sem, simprocAttr, wa_cond, axC_t, axC_f, e, s2, s3, s4, s5, s7, s8]
    · have e : (sx == sy) = false := by cases sx <;> cases sy <;> first | rfl | exact absurd rfl c1
      rw [← c3, hq] at oN
      rw [c4, nR] at hr
      injection hr with hr
      simp only [Array.mk.injEq, List.cons.injEq, Value.bool.injEq, Value.string.injEq, and_true] at hr
      obtain ⟨rfl, rfl⟩ := hr
      have hz := hnilR.2 c2
      simp -implicitDefEqProofs only [go_sem, simprocAttr, wa_cond, axC_t, axC_f, e, s2, s3, s4, s5, s7, s8]
      refine wl_callV _ (by simp -implicitDefEqProofs only [go_sem, simprocAttr]) (oN _) ?_
      simp -implicitDefEqProofs only [go_sem, simprocAttr, wa_cond, axC_t, axC_f, s2, s3, s4, s5, s7, s8, hz]
    · have e : (sx == sy) = false := by cases sx <;> cases sy <;> first | rfl | exact absurd rfl c1
      have hz : ¬ bs lr = bs [] := fun h => c2 (hnilR.1 h)
      obtain ⟨nb, ns, hn⟩ := mkI_shape (-(Q : Int))
      rw [← c3, hq, hn] at oS1
      rw [hn] at oN
      rw [← c4, hr] at oS2
      simp -implicitDefEqProofs only [go_sem, simprocAttr, wa_cond, axC_t, axC_f, e, s2, s3, s4, s5, s7, s8]
      refine wl_callV _ (by simp -implicitDefEqProofs only [go_sem, simprocAttr]) (oN _) ?_
      simp -implicitDefEqProofs only [go_sem, simprocAttr, wa_cond, axC_t, axC_f, s2, s3, s4, s5, s7, s8, hz]
      refine ax_quiet (by kernel_rfl) ?_
      simp -implicitDefEqProofs only [go_sem, simprocAttr, s7]
      refine wl_callV _ (by simp -implicitDefEqProofs only [go_sem, simprocAttr]) (oO _) ?_
      simp -implicitDefEqProofs only [go_sem, simprocAttr]
      refine wl_callV _ (by simp -implicitDefEqProofs only [go_sem, simprocAttr]) (oS1 _) ?_
      simp -implicitDefEqProofs only [go_sem, simprocAttr, s2, s3, s4, s5, s7, s8]
      refine wl_callV _ (by simp -implicitDefEqProofs only [go_sem, simprocAttr]) (oS2 _) ?_
      simp -implicitDefEqProofs only [go_sem, simprocAttr, s2, s3, s4, s5, s7, s8]
  clear s2 s3 s4 s5 s7 s8
  rintro s T ⟨s3, s4, s5, s7, s8, rfl⟩
  simp -implicitDefEqProofs only [go_sem, simprocAttr, s3]
  rw [hq, hf]
  refine ax_mid (fun s T => s 4 = .pointer (some ⟨H.length + 2, 0, none⟩) ∧ s 5 = .pointer (some ⟨H.length + 3, 0, none⟩) ∧ s 7 = .pointer (some ⟨H.length + 4, 0, none⟩) ∧ s 8 = .pointer (some ⟨H.length + 5, 0, none⟩) ∧
    T = H ++ [⟨[.bool sx, .string (bs lx)], 1, true⟩, ⟨[.bool sy, .string (bs ly)], 1, true⟩, ⟨[.bool false, .string (bs [])], 1, true⟩, ⟨[.bool false, .string (bs [])], 1, true⟩, ⟨[.bool qb, .string qs], 1, true⟩, ⟨[.bool fb, .string fs], 1, true⟩]) ?_ ?_
  · cases sy with
    | true =>
      have oF := oN2 rz
      rw [← hmk, hr] at oF
      rw [if_pos rfl] at hf
      rw [hf] at oF
      simp -implicitDefEqProofs only [go_sem, simprocAttr, wa_cond, axC_t, axC_f, s4, s5, s7, s8]
      refine wl_callV _ (by simp -implicitDefEqProofs only [go_sem, simprocAttr]) (oF _) ?_
      simp -implicitDefEqProofs only [go_sem, simprocAttr, s4, s5, s7, s8]
    | false =>
      rw [if_neg (by decide), hr] at hf
      injection hf with hf
      simp only [Array.mk.injEq, List.cons.injEq, Value.bool.injEq, Value.string.injEq, and_true] at hf
      obtain ⟨rfl, rfl⟩ := hf
      simp -implicitDefEqProofs only [go_sem, simprocAttr, wa_cond, axC_t, axC_f, s4, s5, s7, s8]
  clear s3 s4 s5 s7 s8
  rintro s T ⟨s4, s5, s7, s8, rfl⟩
  simp -implicitDefEqProofs only [go_sem, simprocAttr]
  refine ax_cross5 (v0 := .agg #[.bool qb, .string qs]) (v1 := .agg #[.bool fb, .string fs]) ⟨by kernel_rfl, by kernel_rfl, by kernel_rfl, by kernel_rfl, by kernel_rfl, by kernel_rfl⟩ (by kernel_rfl) (by kernel_rfl) (by decide)
    (by simp -implicitDefEqProofs only [go_sem, simprocAttr, s7]) (by simp -implicitDefEqProofs only [go_sem, simprocAttr, s8]) (by simp -implicitDefEqProofs only [go_sem, simprocAttr, s4]; rfl) (by simp -implicitDefEqProofs only [go_sem, simprocAttr, s8]) (by simp -implicitDefEqProofs only [go_sem, simprocAttr, s5]; rfl) ?_
  simp -implicitDefEqProofs only [go_sem, simprocAttr, s4, s5, s7, s8, res165]
  first | exact .app _ _ | exact ⟨.app _ _, rfl⟩
end Go.Proofs.YthhmkaikopdmjaaGreat
namespace Go.Proofs.YthhmkaikopdmjaaGreat
open Go Go.Fw
theorem numberR (H : Heap) {m : List UInt8} (hm : m.length ≤ 7) : Sim Tryz.prog 229 #[.string (bs m)] H (.int .i64 (valB m : Nat)) H := by
  refine sim_of_ax tok mixed Tryz.func229 rfl (by kernel_rfl) (by kernel_rfl) (by simp only [Tryz.ntmps229, List.size_toArray, List.length_cons, List.length_nil]; omega) ?_
  simp -implicitDefEqProofs only [go_sem, simprocAttr, aLen]
  refine ax_loopx (fun (i : Nat) s T => s 0 = .string (bs m) ∧ s 3 = .int .i64 (valB (m.take i) : Nat) ∧ s 4 = .int .i64 (i : Nat) ∧ i ≤ m.length ∧ T = H) (fun i => m.length - i) 0 ?_ ?_
  · simp -implicitDefEqProofs only [go_sem, simprocAttr]
    trivial
  rintro i s T ⟨h0, h3, h4, hi, rfl⟩
  simp -implicitDefEqProofs only [go_sem, simprocAttr, h0, h4, aLen]
  refine ax_cond2 ?_
  simp only [ev_tmp, ev_const, ev_func, upd_at, put_some, put_none, bndB_bool, Nat.reduceEqDiff, if_true, if_false, ↓reduceIte, reduceCtorEq]
  refine ⟨fun hc0 => have hlt := of_decide_eq_true hc0; ?_, fun hc0 => have hlt := of_decide_eq_false hc0; ?_⟩
  · have hil : i < m.length := by omega
    have hg : m[i]? = some m[i] := List.getElem?_eq_getElem hil
    have hts := valB_take_succ hil
    have hvl := valB_take_lt m i
    have hvl2 := valB_take_lt m (i + 1)
    have hm1 := pow256_le (i := i) (by omega)
    have hm2 := pow256_le (i := i + 1) (by omega)
    have hb : m[i].toNat < 256 := UInt8.toNat_lt _
    generalize m[i] = x at *
    generalize valB (m.take i) = n at *
    have a1 : IntKind.i64.wrap (256 * (n : Int)) = ((256 * n : Nat) : Int) := by
      rw [show (256 * (n : Int)) = ((256 * n : Nat) : Int) by simp, w64n (by omega)]
    have a2 := w64n (n := x.toNat) (by omega)
    have a3 : IntKind.i64.wrap (((256 * n : Nat) : Int) + (x.toNat : Int)) = ((valB (m.take (i + 1)) : Nat) : Int) := by rw [addc, w64n (by omega), hts, Nat.mul_comm]
    have a5 : IntKind.i64.wrap ((i : Int) + 1) = ((i + 1 : Nat) : Int) := by rw [w64 (by omega) (by omega)]; rfl
    have hnn : (0 : Int) ≤ (i : Int) := by omega
    simp -implicitDefEqProofs only [go_sem, simprocAttr, h0, h3, h4, hg, aConv, a1, a2, a3, a5, hnn]
    refine ⟨i + 1, ?_, by omega⟩
    ((repeat' apply And.intro) <;> first | rfl | assumption | omega)
  · have hil : i = m.length := by omega
    subst hil
    rw [List.take_length] at h3
    simp -implicitDefEqProofs only [go_sem, simprocAttr, h3, res229]
theorem build_u81 (H : Heap) (x : Int) : aBuildSlice tt H 203 1 [(0, .int .u8 x)] = some (.slice (some ⟨H.length, 0, none⟩) 1 1, H ++ [⟨[.int .u8 x], 1, true⟩]) := rfl
theorem digitsR (H : Heap) {n : Nat} (hn : n < 72057594037927936) : Sim Tryz.prog 230 #[.int .i64 (n : Nat)] H (.string (bs (digB n))) H := by
  refine flat_ex rfl ?_
  refine sim_ex tok mixed Tryz.func230 rfl (by kernel_rfl) (by kernel_rfl) (by simp only [Tryz.ntmps230, List.size_toArray, List.length_cons, List.length_nil]; omega) ?_
  simp -implicitDefEqProofs only [go_sem, simprocAttr]
  refine ax_loopx (fun (j : Nat) s T => ∃ o : List UInt8, o = digB (n / 2 ^ (8 * j)) ∧ s 0 = .int .i64 (n : Nat) ∧ s 4 = .int .i64 (((8 * j : Nat) : Int) - 8) ∧ j ≤ 7 ∧ Ext H T ∧
    ((s 3 = .slice none 0 0 ∧ o = []) ∨ ∃ b, H.length ≤ b ∧ s 3 = .slice (some ⟨b, 0, none⟩) o.length 0 ∧ T[b]? = some ⟨u8s o, 1, true⟩)) (fun j => j) 7 ?_ ?_
  · refine ⟨digB (n / 2 ^ (8 * 7)), ?_⟩
    have e : n / 2 ^ (8 * 7) = 0 := Nat.div_eq_of_lt (by omega)
    rw [e, digB_zero]
    simp -implicitDefEqProofs only [go_sem, simprocAttr]
    exact ⟨.refl _, .inl trivial⟩
  rintro j s T ⟨o, ho, s0, s4, hj, hE, h3⟩
  have hol : o.length ≤ 7 := by rw [ho]; exact digB_len _ 7 (Nat.lt_of_le_of_lt (Nat.div_le_self _ _) hn)
  cases j with
  | zero =>
    have e : ¬ (0 : Int) ≤ ((8 * 0 : Nat) : Int) - 8 := by decide
    simp -implicitDefEqProofs only [Nat.mul_zero, Nat.pow_zero, Nat.div_one] at ho
    subst ho
    obtain hcv : aConv tt T 203 9 (s 3) = some (.string (bs (digB n))) := by
      rcases h3 with ⟨h3, h4⟩ | ⟨bo, hbo, h3, hrow⟩
      · rw [h3, h4]; rfl
      · rw [h3]
        have := rd_whole hrow (by simp)
        simp only [u8s_length] at this
        unfold aConv
        simp only [tt203, tt9, tt5, this, Option.bind_some, bytesOf_u8s]
        rfl
    simp -implicitDefEqProofs only [go_sem, simprocAttr, wa_cond, axC_t, axC_f, s4, e, hcv, res230]
    exact hE
  | succ j =>
    have e1 : ((8 * (j + 1) : Nat) : Int) - 8 = ((8 * j : Nat) : Int) := by omega
    rw [e1] at s4
    have e2 : (0 : Int) ≤ ((8 * j : Nat) : Int) := by omega
    have e3 : ¬ ((8 * j : Nat) : Int) < 0 := by omega
    have e4 : min (8 * j) 64 = 8 * j := by omega
    have f1 := fdiv_pow n (8 * j)
    have a4 : IntKind.i64.wrap (((8 * j : Nat) : Int) - 8) = ((8 * j : Nat) : Int) - 8 := w64 (by omega) (by omega)
    have hdd : n / 2 ^ (8 * j) / 256 = n / 2 ^ (8 * (j + 1)) := by rw [Nat.div_div_eq_div_mul, show (256 : Nat) = 2 ^ 8 from rfl, ← Nat.pow_add]; rfl
    have a1 := low_u8 (n / 2 ^ (8 * j))
    have a2 := tmod_nat (n / 2 ^ (8 * j)) 256
    generalize hx : n / 2 ^ (8 * j) = x at *
    have hc256 : ((256 : Nat) : Int) = 256 := rfl
    rw [hc256] at a2
    have hL : aLen tt [203] (s 3) = some (.int .i64 (o.length : Nat)) := by
      rcases h3 with ⟨h3, h4⟩ | ⟨bo, hbo, h3, hrow⟩
      · rw [h3, h4]; rfl
      · rw [h3]; rfl
    by_cases hx0 : x = 0
    · subst hx0
      have hdz : o = [] := by rw [ho, ← hdd, Nat.zero_div, digB_zero]
      have c1 : ¬ (0 : Int) < ((0 : Nat) : Int) := by decide
      subst hdz
      simp -implicitDefEqProofs only [go_sem, simprocAttr, wa_cond, axC_t, axC_f, s0, s4, e2, e3, e4, f1, a2, Nat.zero_mod, c1, hL, List.length_nil, a4]
      refine ⟨j, ⟨[], ?_⟩, by omega⟩
      rw [hx, digB_zero]
      ((repeat' apply And.intro) <;> first | rfl | assumption | omega)
    · have hstep := digB_step hx0
      rw [hdd, ← ho] at hstep
      have hcond : ((0 : Int) < ((x % 256 : Nat) : Int)) ∨ (¬ (0 : Int) < ((x % 256 : Nat) : Int) ∧ (0 : Int) < (o.length : Int)) := by
        by_cases h : 0 < x % 256
        · left; omega
        · right
          refine ⟨by omega, ?_⟩
          have : o ≠ [] := by rw [ho, Ne, digB_nil_iff, ← hdd]; omega
          have := List.length_pos_iff.2 this
          omega
      obtain ⟨b2, T2, happ, hE2, hb2, hrow⟩ : ∃ b2 T2, aAppend tt (T ++ [⟨[Value.int .u8 ((UInt8.ofNat x).toNat : Nat)], 1, true⟩]) [203, 203] (s 3) (.slice (some ⟨T.length, 0, none⟩) 1 1) =
          some (.slice (some ⟨b2, 0, none⟩) (o.length + 1) 0, T2) ∧ Ext H T2 ∧ H.length ≤ b2 ∧ T2[b2]? = some ⟨u8s (o ++ [UInt8.ofNat x]), 1, true⟩ := by
        have hx4 := rd_end (H := T) (cs := u8s [UInt8.ofNat x]) (o := true) (L := []) (show 0 < 1 by decide)
        rcases h3 with ⟨h3, rfl⟩ | ⟨bo, hbo, h3, hrow⟩
        · rw [h3]
          refine ⟨_, _, append_nil tt203 tt5 rfl (by decide) (by decide) hx4 rfl (by decide) rfl (by decide), (hE.trans (.app _ _)).trans (.app _ _), ?_, ?_⟩
          · have := hE.len; simp; omega
          · simp
        · rw [h3]
          have hrow' := (Ext.app T [⟨u8s [UInt8.ofNat x], 1, true⟩]).get hrow
          have ha := append_row (tt := tt) (cx := 1) (m := 1) tt203 tt5 rfl (by decide) (by decide) hrow' hx4 rfl (by decide) rfl (by rw [u8s_length]; omega)
          rw [u8s_length o] at ha
          refine ⟨_, _, ha, ((hE.trans (.app _ _)).set hbo _).trans (.app _ _), ?_, ?_⟩
          · have := hE.len; simp; omega
          · simp [u8s_app]
      rcases hcond with c1 | ⟨c1, c2⟩
      · simp -implicitDefEqProofs only [go_sem, simprocAttr, wa_cond, axC_t, axC_f, s0, s4, e2, e3, e4, f1, a2, c1, aConv, a1, build_u81, happ, a4]
        refine ⟨j, ⟨digB x, ?_⟩, by omega⟩
        rw [hx, hstep]
        ((repeat' apply And.intro) <;> first | rfl | assumption | omega | exact .inr ⟨b2, hb2, by simp, hrow⟩)
      · simp -implicitDefEqProofs only [go_sem, simprocAttr, wa_cond, axC_t, axC_f, s0, s4, e2, e3, e4, f1, a2, c1, hL, c2, aConv, a1, build_u81, happ, a4]
        refine ⟨j, ⟨digB x, ?_⟩, by omega⟩
        rw [hx, hstep]
        ((repeat' apply And.intro) <;> first | rfl | assumption | omega | exact .inr ⟨b2, hb2, by simp, hrow⟩)
theorem small_big (H : Heap) {g : Bool} {n d : List UInt8} (h : 3 < n.length ∨ 3 < d.length) : Sim Tryz.prog 168 #[qV g n d] H (.tuple #[.int .i64 0, .int .i64 0, .bool false]) H := by
  refine flat_ex rfl ?_
  unfold qV
  refine sim_ex tok mixed Tryz.func168 rfl (by kernel_rfl) (by kernel_rfl) (by simp only [Tryz.ntmps168, List.size_toArray, List.length_cons, List.length_nil]; omega) ?_
  by_cases h1 : 3 < n.length
  · have h2 : (3 : Int) < (n.length : Int) := by omega
    simp -implicitDefEqProofs only [go_sem, simprocAttr, wa_cond, axC_t, axC_f, aLen, h2, res168]
    first | exact .app _ _ | exact ⟨.app _ _, rfl⟩
  · have h2 : ¬ (3 : Int) < (n.length : Int) := by omega
    have h3 : (3 : Int) < (d.length : Int) := by omega
    simp -implicitDefEqProofs only [go_sem, simprocAttr, wa_cond, axC_t, axC_f, aLen, h2, h3, res168]
    first | exact .app _ _ | exact ⟨.app _ _, rfl⟩
theorem small_small (H : Heap) {g : Bool} {n d : List UInt8} (hn : n.length ≤ 3) (hd : d.length ≤ 3) : Sim Tryz.prog 168 #[qV g n d] H (.tuple #[.int .i64 (ival g n), .int .i64 (dval d : Nat), .bool true]) H := by
  refine flat_ex rfl ?_
  have h2 : ¬ (3 : Int) < (n.length : Int) := by omega
  have h3 : ¬ (3 : Int) < (d.length : Int) := by omega
  have hv := valB_lt n
  have hp := pow256_le (i := n.length) (by omega)
  have a1 : IntKind.i64.wrap (0 - (valB n : Int)) = -(valB n : Int) := by rw [w64 (by omega) (by omega)]; omega
  unfold qV ival
  refine sim_ex tok mixed Tryz.func168 rfl (by kernel_rfl) (by kernel_rfl) (by simp only [Tryz.ntmps168, List.size_toArray, List.length_cons, List.length_nil]; omega) ?_
  simp -implicitDefEqProofs only [go_sem, simprocAttr, wa_cond, axC_t, axC_f, aLen, h2, h3]
  refine ax_quiet (by kernel_rfl) ?_
  simp -implicitDefEqProofs only [go_sem, simprocAttr]
  refine wl_callV #[.string (bs n)] (by simp -implicitDefEqProofs only [go_sem, simprocAttr]) (numberR _ (by omega)) ?_
  simp -implicitDefEqProofs only [go_sem, simprocAttr]
  refine wl_callV #[.string (bs d)] (by simp -implicitDefEqProofs only [go_sem, simprocAttr]) (numberR _ (by omega)) ?_
  by_cases h0 : valB d = 0
  · have e : (valB d : Int) = 0 := by omega
    have e2 : dval d = 1 := by unfold dval; rw [if_pos h0]
    rw [e2]
    cases g
    · simp -implicitDefEqProofs only [go_sem, simprocAttr, wa_cond, axC_t, axC_f, e, res168]
      first | exact .app _ _ | exact ⟨.app _ _, rfl⟩
    · simp -implicitDefEqProofs only [go_sem, simprocAttr, wa_cond, axC_t, axC_f, e, a1, res168]
      first | exact .app _ _ | exact ⟨.app _ _, rfl⟩
  · have e : ¬ (valB d : Int) = 0 := by omega
    have e2 : dval d = valB d := by unfold dval; rw [if_neg h0]
    rw [e2]
    cases g
    · simp -implicitDefEqProofs only [go_sem, simprocAttr, wa_cond, axC_t, axC_f, e, res168]
      first | exact .app _ _ | exact ⟨.app _ _, rfl⟩
    · simp -implicitDefEqProofs only [go_sem, simprocAttr, wa_cond, axC_t, axC_f, e, a1, res168]
      first | exact .app _ _ | exact ⟨.app _ _, rfl⟩
end Go.Proofs.YthhmkaikopdmjaaGreat
namespace Go.Proofs.YthhmkaikopdmjaaGreat
open Go Go.Fw
theorem packR (H : Heap) {n : Int} {d : Nat} (hn : n.natAbs < 36028797018963968) (hd : d < 36028797018963968) (h0 : 0 < d) : Sim Tryz.prog 169 #[.int .i64 n, .int .i64 (d : Nat)] H (mkQ (mkRat n d)) H := by
  refine flat_ex rfl ?_
  have hgp : 0 < Nat.gcd n.natAbs d := Nat.gcd_pos_of_pos_right _ h0
  have hgd : Nat.gcd n.natAbs d ≤ d := Nat.gcd_le_right _ h0
  have hd1 : Nat.gcd n.natAbs d ∣ d := Nat.gcd_dvd_right _ _
  have hd2 : Nat.gcd n.natAbs d ∣ n.natAbs := Nat.gcd_dvd_left _ _
  have hw : n < 0 → IntKind.i64.wrap (0 - n) = ((n.natAbs : Nat) : Int) := fun h => by rw [w64 (by omega) (by omega)]; omega
  have hnn : ¬ n < 0 → n = ((n.natAbs : Nat) : Int) := fun h => by omega
  have e0 : (n / ((Nat.gcd n.natAbs d : Nat) : Int)).natAbs = n.natAbs / Nat.gcd n.natAbs d := by
    rw [Int.natAbs_ediv_of_dvd (Int.ofNat_dvd_left.2 hd2)]; rfl
  have hz : mkQ (mkRat 0 d) = qV false [] [] := by rw [Rat.zero_mkRat, mkQ_zero]
  have hz2 : n.natAbs = 0 → mkQ (mkRat n d) = qV false [] [] := fun h => by rw [← hz]; congr 1; rw [show n = 0 by omega]
  have hpos := mkQ_pos (n := n) h0
  rw [e0] at hpos
  refine sim_ex tok mixed Tryz.func169 rfl (by kernel_rfl) (by kernel_rfl) (by simp only [Tryz.ntmps169, List.size_toArray, List.length_cons, List.length_nil]; omega) ?_
  simp -implicitDefEqProofs only [go_sem, simprocAttr]
  refine ax_mid (fun s T => s 0 = .int .i64 (n.natAbs : Nat) ∧ s 1 = .int .i64 (d : Nat) ∧ s 4 = .pointer (some ⟨H.length, 0, none⟩) ∧ s 5 = .pointer (some ⟨H.length + 1, 0, none⟩) ∧ T = H ++ [⟨[.bool false, .string (bs []), .string (bs [])], 1, true⟩, ⟨[.bool (decide (n < 0)), .string (bs []), .string (bs [])], 1, true⟩]) ?_ ?_
  · by_cases h : n < 0
    · have hw := hw h
      simp -implicitDefEqProofs only [go_sem, simprocAttr, wa_cond, axC_t, axC_f, h, hw]
    · have hn2 := hnn h
      simp -implicitDefEqProofs only [go_sem, simprocAttr, wa_cond, axC_t, axC_f, h]
      rw [← hn2]
  rintro s T ⟨s0, s1, s4, s5, rfl⟩
  generalize decide (n < 0) = sg at *
  generalize mkQ (mkRat n d) = Q at *
  clear hw hnn e0 hz
  generalize n.natAbs = N at *
  by_cases hN : N = 0
  · rw [hz2 hN]
    unfold qV
    have e : ((N : Nat) : Int) = 0 := by omega
    simp -implicitDefEqProofs only [go_sem, simprocAttr, wa_cond, axC_t, axC_f, s0, s4, e, res169]
    first | exact .app _ _ | exact ⟨.app _ _, rfl⟩
  have e : ¬ ((N : Nat) : Int) = 0 := by omega
  simp -implicitDefEqProofs only [go_sem, simprocAttr, wa_cond, axC_t, axC_f, s0, s1, e]
  obtain ⟨T0, hT0⟩ : ∃ T, T = H ++ [(⟨[.bool false, .string (bs []), .string (bs [])], 1, true⟩ : Blk), ⟨[.bool sg, .string (bs []), .string (bs [])], 1, true⟩] := ⟨_, rfl⟩
  rw [← hT0]
  refine ax_midl (fun s T => s 0 = .int .i64 (N : Nat) ∧ s 1 = .int .i64 (d : Nat) ∧ s 4 = .pointer (some ⟨H.length, 0, none⟩) ∧ s 5 = .pointer (some ⟨H.length + 1, 0, none⟩) ∧ s 6 = .int .i64 (Nat.gcd N d : Nat) ∧ T = T0) ?_ ?_
  · refine ax_loopx (fun (y : Nat) s T => ∃ x : Nat, s 0 = .int .i64 (N : Nat) ∧ s 1 = .int .i64 (d : Nat) ∧ s 4 = .pointer (some ⟨H.length, 0, none⟩) ∧ s 5 = .pointer (some ⟨H.length + 1, 0, none⟩) ∧ s 6 = .int .i64 (x : Nat) ∧ s 7 = .int .i64 (y : Nat) ∧ Nat.gcd x y = Nat.gcd N d ∧ T = T0) (fun y => y) d ?_ ?_
    · refine ⟨N, ?_⟩
      simp -implicitDefEqProofs only [go_sem, simprocAttr, s0, s1, s4, s5]
    clear s0 s1 s4 s5
    rintro y s T ⟨x, s0, s1, s4, s5, s6, s7, hg, rfl⟩
    by_cases hy : y = 0
    · subst hy
      rw [Nat.gcd_zero_right] at hg
      have e : ¬ (0 : Int) < ((0 : Nat) : Int) := by decide
      simp -implicitDefEqProofs only [go_sem, simprocAttr, wa_cond, axC_t, axC_f, s0, s1, s4, s5, s6, s7, e]
      rw [← hg]
    · have e : (0 : Int) < (y : Int) := by omega
      have e2 : ¬ (y : Int) = 0 := by omega
      have e3 := tmod_nat x y
      have hml : x % y < y := Nat.mod_lt _ (by omega)
      have hgk : Nat.gcd y (x % y) = Nat.gcd N d := by rw [← hg, Nat.gcd_comm x y, Nat.gcd_comm y (x % y), ← Nat.gcd_rec]
      simp -implicitDefEqProofs only [go_sem, simprocAttr, wa_cond, axC_t, axC_f, s7, e]
      refine ax_quiet (by kernel_rfl) ?_
      simp -implicitDefEqProofs only [go_sem, simprocAttr, s0, s1, s4, s5, s6, s7, e2, e3]
      refine ⟨x % y, ⟨y, ?_⟩, hml⟩
      ((repeat' apply And.intro) <;> first | rfl | assumption | omega)
  clear s0 s1 s4 s5
  rintro s T ⟨s0, s1, s4, s5, s6, rfl⟩
  subst hT0
  rw [hpos]
  generalize Nat.gcd N d = G at *
  have c1 : ¬ (G : Int) = 0 := by omega
  have t1 := tdiv_nat N G
  have t2 := tdiv_nat d G
  have q1 := Nat.div_le_self N G
  have q2 := Nat.div_le_self d G
  have q3 : 0 < d / G := Nat.div_pos hgd hgp
  have w1 := w64n (n := N / G) (by omega)
  have w2 := w64n (n := d / G) (by omega)
  have o1 := fun H => digitsR H (n := N / G) (by omega)
  have o2 := fun H => digitsR H (n := d / G) (by omega)
  have hsn : ∀ (a b : Int) t, aBin tt .gtr t (.int .i64 a) (.int .i64 b) = some (.bool (decide (b < a))) := fun _ _ _ => rfl
  unfold qV
  simp -implicitDefEqProofs only [go_sem, simprocAttr, s0, s6, c1, t1, w1]
  refine wl_callV _ (by simp -implicitDefEqProofs only [go_sem, simprocAttr]) (o1 _) ?_
  by_cases h1 : d / G = 1
  · have e1 : denB (d / G) = [] := by unfold denB; rw [if_pos h1]
    have e2 : ¬ (1 : Int) < ((d / G : Nat) : Int) := by omega
    rw [e1]
    simp -implicitDefEqProofs only [go_sem, simprocAttr, wa_cond, axC_t, axC_f, s1, s4, s5, s6, c1, t2, w2, e2, res169]
    first | exact .app _ _ | exact ⟨.app _ _, rfl⟩
  · have e1 : denB (d / G) = digB (d / G) := by unfold denB; rw [if_neg h1]
    have e2 : (1 : Int) < ((d / G : Nat) : Int) := by omega
    rw [e1]
    simp -implicitDefEqProofs only [go_sem, simprocAttr, wa_cond, axC_t, axC_f, s1, s4, s5, s6, c1, t2, w2, e2]
    refine wl_callV _ (by simp -implicitDefEqProofs only [go_sem, simprocAttr]) (o2 _) ?_
    simp -implicitDefEqProofs only [go_sem, simprocAttr, s4, s5, res169]
    first | exact .app _ _ | exact ⟨.app _ _, rfl⟩
theorem partsR (H : Heap) {g : Bool} {n d : List UInt8} (hn : n.length ≤ 1000000) (hd : d.length ≤ 1000000) :
    Sim Tryz.prog 170 #[qV g n d] H (.tuple #[mkI (ival g n), mkI (dval d : Nat)]) H := by
  refine flat_ex rfl ?_
  have o1 := fun H => addRI H (g := g) (m := n) (g' := false) (m' := []) hn (by decide)
  have o2 := fun H => addRI H (g := false) (m := d) (g' := false) (m' := []) hd (by decide)
  have o3 := fun H => ofR H (z := 1) (by decide) (by decide)
  have e0 : ival false [] = 0 := rfl
  have e1 : ival false d = ((valB d : Nat) : Int) := rfl
  rw [e0, Int.add_zero] at o1 o2
  rw [e1, mkI_nat] at o2
  have hz : bs (digB (valB d)) = bs [] ↔ valB d = 0 := by rw [bs_inj, digB_nil_iff]
  have hD : mkI (dval d : Nat) = .agg #[.bool false, .string (bs (digB (dval d)))] := mkI_nat _
  obtain ⟨b1, s1, h1⟩ := mkI_shape (ival g n)
  rw [h1] at o1
  have h3 : mkI 1 = .agg #[.bool false, .string (bs (digB 1))] := mkI_nat 1
  rw [h3] at o3
  rw [h1, hD]
  unfold qV
  unfold iV at o1 o2
  unfold dval at *
  generalize valB d = x at *
  refine sim_ex tok mixed Tryz.func170 rfl (by kernel_rfl) (by kernel_rfl) (by simp only [Tryz.ntmps170, List.size_toArray, List.length_cons, List.length_nil]; omega) ?_
  simp -implicitDefEqProofs only [go_sem, simprocAttr, build106]
  refine wl_callV _ (by simp -implicitDefEqProofs only [go_sem, simprocAttr]) (o1 _) ?_
  simp -implicitDefEqProofs only [go_sem, simprocAttr, build106]
  refine wl_callV _ (by simp -implicitDefEqProofs only [go_sem, simprocAttr]) (o2 _) ?_
  simp -implicitDefEqProofs only [go_sem, simprocAttr]
  by_cases hx : x = 0
  · have hx2 := hz.2 hx
    rw [if_pos hx] at *
    simp -implicitDefEqProofs only [go_sem, simprocAttr, wa_cond, axC_t, axC_f, hx2]
    refine wl_callV _ (by simp -implicitDefEqProofs only [go_sem, simprocAttr]) (o3 _) ?_
    simp -implicitDefEqProofs only [go_sem, simprocAttr]
    refine ax_cross4 (v0 := .agg #[.bool b1, .string s1]) (v1 := .agg #[.bool false, .string (bs (digB 1))]) ⟨by kernel_rfl, by kernel_rfl, by kernel_rfl, by kernel_rfl, by kernel_rfl, by kernel_rfl⟩ (by kernel_rfl) (by decide)
      (by simp -implicitDefEqProofs only [go_sem, simprocAttr]) (by simp -implicitDefEqProofs only [go_sem, simprocAttr]) (by simp -implicitDefEqProofs only [go_sem, simprocAttr]; rfl) (by simp -implicitDefEqProofs only [go_sem, simprocAttr]) (by simp -implicitDefEqProofs only [go_sem, simprocAttr]; rfl) ?_
    simp -implicitDefEqProofs only [go_sem, simprocAttr, res170]
    first | exact .app _ _ | exact ⟨.app _ _, rfl⟩
  · have hx2 : ¬ bs (digB x) = bs [] := fun h => hx (hz.1 h)
    rw [if_neg hx] at *
    simp -implicitDefEqProofs only [go_sem, simprocAttr, wa_cond, axC_t, axC_f, hx2]
    refine ax_cross4 (v0 := .agg #[.bool b1, .string s1]) (v1 := .agg #[.bool false, .string (bs (digB x))]) ⟨by kernel_rfl, by kernel_rfl, by kernel_rfl, by kernel_rfl, by kernel_rfl, by kernel_rfl⟩ (by kernel_rfl) (by decide)
      (by simp -implicitDefEqProofs only [go_sem, simprocAttr]) (by simp -implicitDefEqProofs only [go_sem, simprocAttr]) (by simp -implicitDefEqProofs only [go_sem, simprocAttr]; rfl) (by simp -implicitDefEqProofs only [go_sem, simprocAttr]) (by simp -implicitDefEqProofs only [go_sem, simprocAttr]; rfl) ?_
    simp -implicitDefEqProofs only [go_sem, simprocAttr, res170]
    first | exact .app _ _ | exact ⟨.app _ _, rfl⟩
end Go.Proofs.YthhmkaikopdmjaaGreat
namespace Go.Proofs.YthhmkaikopdmjaaGreat
open Go Go.Fw
theorem rAdd (H : Heap) {v w : Value} {x y : Int} {k k' : Nat} (hv : IA v x k) (hw : IA w y k') (hk : k ≤ 7000000) (hk' : k' ≤ 7000000) : Sim Tryz.prog 162 #[v, w] H (mkI (x + y)) H := by
  obtain ⟨g, m, rfl, rfl, h⟩ := hv; obtain ⟨g', m', rfl, rfl, h'⟩ := hw; exact addRI H (by omega) (by omega)
theorem rMul (H : Heap) {v w : Value} {x y : Int} {k k' : Nat} (hv : IA v x k) (hw : IA w y k') (hk : k ≤ 7000000) (hk' : k' ≤ 7000000) : Sim Tryz.prog 171 #[v, w] H (mkI (x * y)) H := by
  obtain ⟨g, m, rfl, rfl, h⟩ := hv; obtain ⟨g', m', rfl, rfl, h'⟩ := hw; exact mulRI H (by omega) (by omega)
theorem rNeg (H : Heap) {v : Value} {x : Int} {k : Nat} (hv : IA v x k) : Sim Tryz.prog 163 #[v] H (mkI (-x)) H := by
  obtain ⟨g, m, rfl, rfl, h⟩ := hv; exact negR H g m
theorem rGcd (H : Heap) {v w : Value} {x y : Int} {k k' : Nat} (hv : IA v x k) (hw : IA w y k') (hk : k ≤ 7000000) (hk' : k' ≤ 7000000) : Sim Tryz.prog 164 #[v, w] H (mkI (Nat.gcd x.natAbs y.natAbs : Nat)) H := by
  obtain ⟨g, m, rfl, rfl, h⟩ := hv; obtain ⟨g', m', rfl, rfl, h'⟩ := hw
  rw [ival_abs, ival_abs]; exact gcdR H (by omega) (by omega)
theorem rDiv (H : Heap) {v w : Value} {x y : Int} {k k' : Nat} (hv : IA v x k) (hw : IA w y k') (hk : k ≤ 7000000) (hk' : k' ≤ 7000000) (h0 : y ≠ 0) : Sim Tryz.prog 165 #[v, w] H (.tuple #[mkI (x.fdiv y), mkI (x.fmod y), .int .i64 0]) H := by
  obtain ⟨g, m, rfl, rfl, h⟩ := hv; obtain ⟨g', m', rfl, rfl, h'⟩ := hw; exact divRI H (by omega) (by omega) h0
theorem rCmp (H : Heap) {v w : Value} {x y : Int} {k k' : Nat} (hv : IA v x k) (hw : IA w y k') : Sim Tryz.prog 167 #[v, w] H (.int .i64 (sgn (x - y))) H := by
  obtain ⟨g, m, rfl, rfl, h⟩ := hv; obtain ⟨g', m', rfl, rfl, h'⟩ := hw; exact compareRI H g g' m m'
theorem IA.zero : IA (iV false []) 0 0 := ⟨false, [], rfl, rfl, by decide⟩
theorem IA_canon {v : Value} {x : Int} {k : Nat} (h : IA v x k) : IA (mkI x) x k := by
  obtain ⟨g, m, rfl, rfl, h⟩ := h
  refine ⟨_, _, rfl, ival_mk _, ?_⟩
  rw [ival_abs, ← digB_strip]
  have := dropZ_len m
  omega
theorem reduceR (H : Heap) {v w : Value} {x y : Int} {k : Nat} (hv : IA v x k) (hw : IA w y k) (hk : k ≤ 6000000) (hy : y ≠ 0) :
    Sim Tryz.prog 101 #[v, w] H (mkQ (Rat.divInt x y)) H := by
  refine flat_ex rfl ?_
  have o1 := fun H => rAdd H hv IA.zero (by omega) (by decide)
  have o2 := fun H => rAdd H hw IA.zero (by omega) (by decide)
  rw [Int.add_zero] at o1 o2
  have n1 := fun H => rNeg H (IA_canon hv)
  have n2 := fun H => rNeg H (IA_canon hw)
  obtain ⟨N, D, hD, hND, hF⟩ : ∃ (N : Int) (D : Nat), 0 < D ∧ ((¬ y < 0 ∧ N = x ∧ (D : Int) = y) ∨ (y < 0 ∧ N = -x ∧ (D : Int) = -y)) ∧ Rat.divInt x y = mkRat N D := by
    by_cases h : y < 0
    · exact ⟨-x, y.natAbs, by omega, .inr ⟨h, rfl, by omega⟩, divInt_neg2 h⟩
    · exact ⟨x, y.natAbs, by omega, .inl ⟨h, rfl, by omega⟩, divInt_pos (by omega)⟩
  have hN : IA (mkI N) N k := by
    refine ⟨_, _, rfl, ival_mk _, ?_⟩
    rcases hND with ⟨_, h, _⟩ | ⟨_, h, _⟩
    · obtain ⟨g, m, e1, e2, e3⟩ := IA_canon hv
      rw [h, ← e2, ival_abs, ← digB_strip]; have := dropZ_len m; omega
    · obtain ⟨g, m, e1, e2, e3⟩ := IA_canon hv
      rw [h, Int.natAbs_neg, ← e2, ival_abs, ← digB_strip]; have := dropZ_len m; omega
  have hDD : IA (mkI (D : Nat)) (D : Nat) k := by
    refine ⟨_, _, rfl, ival_mk _, ?_⟩
    obtain ⟨g, m, e1, e2, e3⟩ := (IA_canon hw)
    rw [show ((D : Int)).natAbs = y.natAbs by omega, ← e2, ival_abs, ← digB_strip]; have := dropZ_len m; omega
  have hG := Nat.gcd_pos_of_pos_right N.natAbs hD
  have hGG : IA (mkI (Nat.gcd N.natAbs D : Nat)) (Nat.gcd N.natAbs D : Nat) (k + 7) := by
    refine IA.mk ?_
    rw [Int.natAbs_natCast]
    have h2 := hDD.sz
    have := Nat.gcd_le_right N.natAbs hD
    rw [Int.natAbs_natCast] at h2
    omega
  have g1 := fun H => rGcd H hN hDD (by omega) (by omega)
  rw [Int.natAbs_natCast] at g1
  have d1 := fun H => rDiv H hN hGG (by omega) (by omega) (by omega)
  have d2 := fun H => rDiv H hDD hGG (by omega) (by omega) (by omega)
  rw [gcd_fdiv _ _ hG] at d1 d2
  have hQ := mkQ_pos (n := N) hD
  have hneg : decide (N / ((Nat.gcd N.natAbs D : Nat) : Int) < 0) = decide (N < 0) := by
    have := mkRat_neg_iff N hD
    rw [mkRat_num' N hD] at this
    exact decide_eq_decide.2 this
  have hden : ((D : Int)) / ((Nat.gcd N.natAbs D : Nat) : Int) = ((D / Nat.gcd N.natAbs D : Nat) : Int) := rfl
  rw [hden] at d2
  have hx0 : bs (digB x.natAbs) = bs [] ↔ x = 0 := by rw [bs_inj, digB_nil_iff]; omega
  have hd1 : bs (digB (D / Nat.gcd N.natAbs D)) = bs [1] ↔ D / Nat.gcd N.natAbs D = 1 := by
    rw [bs_inj, show ([1] : List UInt8) = digB 1 by rw [digB_one (by decide) (by decide)]; rfl]
    refine ⟨fun h => ?_, fun h => by rw [h]⟩
    have := congrArg valB h
    rwa [valB_dig, valB_dig] at this
  obtain ⟨gx, mx, rfl, ex, _⟩ := hv
  obtain ⟨gy, my, rfl, ey, _⟩ := hw
  have shN : mkI (N / ((Nat.gcd N.natAbs D : Nat) : Int)) = .agg #[.bool (decide (N < 0)), .string (bs (digB (N / ((Nat.gcd N.natAbs D : Nat) : Int)).natAbs))] := by rw [← hneg]; rfl
  have shD := mkI_nat (D / Nat.gcd N.natAbs D)
  rw [shN] at d1
  rw [shD] at d2
  rw [hF, hQ]
  generalize Nat.gcd N.natAbs D = G at *
  by_cases hx : x = 0
  · have e : mkQ (mkRat N D) = qV false [] [] := by
      rw [← hF, hx, Rat.zero_divInt, mkQ_zero]
    rw [← hQ, e]
    have hx2 := hx0.2 hx
    unfold mkI iV at o1 o2
    unfold iV qV
    refine sim_ex tok mixed Tryz.func101 rfl (by kernel_rfl) (by kernel_rfl) (by simp only [Tryz.ntmps101, List.size_toArray, List.length_cons, List.length_nil]; omega) ?_
    simp -implicitDefEqProofs only [go_sem, simprocAttr, build106]
    refine ax_quiet (by kernel_rfl) ?_
    simp -implicitDefEqProofs only [go_sem, simprocAttr, build106]
    refine wl_callV _ (by simp -implicitDefEqProofs only [go_sem, simprocAttr]) (o1 _) ?_
    simp -implicitDefEqProofs only [go_sem, simprocAttr, build106]
    refine wl_callV _ (by simp -implicitDefEqProofs only [go_sem, simprocAttr]) (o2 _) ?_
    simp -implicitDefEqProofs only [go_sem, simprocAttr, wa_cond, axC_t, axC_f, hx2, res101]
    first | exact .app _ _ | exact ⟨.app _ _, rfl⟩
  have hx2 : ¬ bs (digB x.natAbs) = bs [] := fun h => hx (hx0.1 h)
  have hxs : mkI x = .agg #[.bool (decide (x < 0)), .string (bs (digB x.natAbs))] := rfl
  have hys : mkI y = .agg #[.bool (decide (y < 0)), .string (bs (digB y.natAbs))] := rfl
  obtain ⟨nb, ns, hNs⟩ := mkI_shape N
  obtain ⟨db, ds, hDs⟩ := mkI_shape (D : Nat)
  obtain ⟨gb, gs, hGs⟩ := mkI_shape (G : Nat)
  obtain ⟨b3, s3', h3⟩ := mkI_shape (N.fmod (G : Nat))
  obtain ⟨b4, s4', h4⟩ := mkI_shape (((D : Nat) : Int).fmod (G : Nat))
  rw [hxs] at o1 n1
  rw [hys] at o2 n2
  rw [hNs, hDs, hGs] at g1
  rw [hNs, hGs, h3] at d1
  rw [hDs, hGs, h4] at d2
  have cden : denB (D / G) = if D / G = 1 then [] else digB (D / G) := rfl
  rw [cden]
  unfold iV at o1 o2
  unfold iV qV
  generalize digB (N / (G : Int)).natAbs = qn at *
  refine sim_ex tok mixed Tryz.func101 rfl (by kernel_rfl) (by kernel_rfl) (by simp only [Tryz.ntmps101, List.size_toArray, List.length_cons, List.length_nil]; omega) ?_
  simp -implicitDefEqProofs only [go_sem, simprocAttr, build106]
  refine ax_quiet (by kernel_rfl) ?_
  simp -implicitDefEqProofs only [go_sem, simprocAttr, build106]
  refine wl_callV _ (by simp -implicitDefEqProofs only [go_sem, simprocAttr]) (o1 _) ?_
  simp -implicitDefEqProofs only [go_sem, simprocAttr, build106]
  refine wl_callV _ (by simp -implicitDefEqProofs only [go_sem, simprocAttr]) (o2 _) ?_
  simp -implicitDefEqProofs only [go_sem, simprocAttr, hx2]
  refine ax_cond2 ?_
  simp only [ev_tmp, ev_const, ev_func, upd_at, put_some, put_none, bndB_bool, Nat.reduceEqDiff, if_true, if_false, ↓reduceIte, reduceCtorEq]
  refine ⟨fun hc => hc.elim, fun _ => ?_⟩
  simp -implicitDefEqProofs only [go_sem, simprocAttr]
  refine ax_mid (fun s T => s 2 = .pointer (some ⟨H.length, 0, none⟩) ∧ s 3 = .pointer (some ⟨H.length + 1, 0, none⟩) ∧ s 4 = .pointer (some ⟨H.length + 2, 0, none⟩) ∧ T = H ++ [⟨[.bool nb, .string ns], 1, true⟩, ⟨[.bool db, .string ds], 1, true⟩, ⟨[.bool false, .string (bs []), .string (bs [])], 1, true⟩]) ?_ ?_
  · rcases hND with ⟨h, e1, e2⟩ | ⟨h, e1, e2⟩
    · rw [e1, hxs] at hNs
      rw [e2, hys] at hDs
      injection hNs with hNs
      injection hDs with hDs
      simp only [Array.mk.injEq, List.cons.injEq, Value.bool.injEq, Value.string.injEq, and_true] at hNs hDs
      obtain ⟨rfl, rfl⟩ := hNs
      obtain ⟨rfl, rfl⟩ := hDs
      simp -implicitDefEqProofs only [go_sem, simprocAttr, wa_cond, axC_t, axC_f, h]
    · rw [← e1, hNs] at n1
      rw [← e2, hDs] at n2
      rw [decide_eq_true h] at n2 ⊢
      simp -implicitDefEqProofs only [go_sem, simprocAttr, wa_cond, axC_t, axC_f]
      refine ax_quiet (by kernel_rfl) ?_
      simp -implicitDefEqProofs only [go_sem, simprocAttr]
      refine wl_callV _ (by simp -implicitDefEqProofs only [go_sem, simprocAttr]) (n1 _) ?_
      simp -implicitDefEqProofs only [go_sem, simprocAttr]
      refine wl_callV _ (by simp -implicitDefEqProofs only [go_sem, simprocAttr]) (n2 _) ?_
      simp -implicitDefEqProofs only [go_sem, simprocAttr]
  rintro s T ⟨s2, s3, s4, rfl⟩
  simp -implicitDefEqProofs only [go_sem, simprocAttr, s2, s3]
  refine wl_callV _ (by simp -implicitDefEqProofs only [go_sem, simprocAttr]) (g1 _) ?_
  simp -implicitDefEqProofs only [go_sem, simprocAttr, s2, s3]
  refine wl_callV _ (by simp -implicitDefEqProofs only [go_sem, simprocAttr]) (d1 _) ?_
  simp -implicitDefEqProofs only [go_sem, simprocAttr, s2, s3]
  refine wl_callV _ (by simp -implicitDefEqProofs only [go_sem, simprocAttr]) (d2 _) ?_
  simp -implicitDefEqProofs only [go_sem, simprocAttr, s2, s3, show (⟨#[1]⟩ : ByteArray) = bs [1] from rfl, hd1]
  by_cases h1 : D / G = 1
  · rw [if_pos h1]
    simp -implicitDefEqProofs only [go_sem, simprocAttr, wa_cond, axC_t, axC_f, s4, h1, res101]
    first | exact .app _ _ | exact ⟨.app _ _, rfl⟩
  · rw [if_neg h1]
    simp -implicitDefEqProofs only [go_sem, simprocAttr, wa_cond, axC_t, axC_f, s3, s4, h1, res101]
    first | exact .app _ _ | exact ⟨.app _ _, rfl⟩
theorem ofNR (H : Heap) {n : Int} (h1 : -9223372036854775808 ≤ n) (h2 : n < 9223372036854775808) : Sim Tryz.prog 48 #[.int .i64 n] H (mkQ (n : Rat)) H := by
  refine flat_ex rfl ?_
  have o1 := fun H => ofR H h1 h2
  have o2 := fun H => ofR H (z := 1) (by decide) (by decide)
  have o3 := fun H => reduceR H (IA.mk (z := n) (k := 64) (by omega)) (IA.mk (z := 1) (k := 64) (by decide)) (by decide) (by decide)
  rw [divInt_pos (by decide), show (1 : Int).natAbs = 1 from rfl, mkRat_one] at o3
  refine sim_ex tok mixed Tryz.func48 rfl (by kernel_rfl) (by kernel_rfl) (by simp only [Tryz.ntmps48, List.size_toArray, List.length_cons, List.length_nil]; omega) ?_
  simp -implicitDefEqProofs only [go_sem, simprocAttr, mkI, iV, mkQ, qV, fV, ofV, rV, mkR]
  refine wl_callV _ (by simp -implicitDefEqProofs only [go_sem, simprocAttr, mkI, iV, mkQ, qV, fV, ofV, rV, mkR]) (o1 _) ?_
  simp -implicitDefEqProofs only [go_sem, simprocAttr, mkI, iV, mkQ, qV, fV, ofV, rV, mkR]
  refine wl_callV _ (by simp -implicitDefEqProofs only [go_sem, simprocAttr, mkI, iV, mkQ, qV, fV, ofV, rV, mkR]) (o2 _) ?_
  simp -implicitDefEqProofs only [go_sem, simprocAttr, mkI, iV, mkQ, qV, fV, ofV, rV, mkR]
  refine wl_callV _ (by simp -implicitDefEqProofs only [go_sem, simprocAttr, mkI, iV, mkQ, qV, fV, ofV, rV, mkR]) (o3 _) ?_
  simp -implicitDefEqProofs only [go_sem, simprocAttr, mkI, iV, mkQ, qV, fV, ofV, rV, mkR]
  simp -implicitDefEqProofs only [go_sem, simprocAttr, mkI, iV, mkQ, qV, fV, ofV, rV, mkR, res48]
  first | exact .app _ _ | exact ⟨.app _ _, rfl⟩ | exact .refl _ | exact ⟨.refl _, rfl⟩
end Go.Proofs.YthhmkaikopdmjaaGreat
