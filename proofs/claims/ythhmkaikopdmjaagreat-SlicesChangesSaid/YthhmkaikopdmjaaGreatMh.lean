/- narrowsref45.Refine; the law SlicesChanges; Arguments of a law, as abstract values: rotations and lists of rotations. Conditions: none. -/
import Derived.Test.YthhmkaikopdmjaaGreatMg
import Derived.WalkKit
import Derived.ProofKit
import Derived.OpenShut
import Derived.Deep.Slices
import Derived.Carry
set_option linter.unusedSimpArgs false
set_option linter.unusedVariables false
set_option maxRecDepth 8000
namespace Go.Proofs.YthhmkaikopdmjaaGreat
open Go Go.Fw
theorem insL_leq {l : List RR} {r : RR} (hok : ∀ x ∈ l, x.err = 0) (hr : r.err = 0) (hp : l.Pairwise RR.leq) : (insL l (cntLess l r) r).Pairwise RR.leq := by
  unfold insL
  have hq := cntLess_le l r
  have hp0 := hp
  rw [← List.take_append_drop (cntLess l r) l, List.pairwise_append] at hp
  obtain ⟨p1, p2, p3⟩ := hp
  have lo : ∀ x ∈ l.take (cntLess l r), x.leq r := by
    intro x hx
    obtain ⟨i, hi, rfl⟩ := List.mem_iff_getElem.1 hx
    rw [List.length_take] at hi
    rw [List.getElem_take]
    have h1 := cntLess_below l r i (by omega) (by omega)
    have e1 := hok _ (List.getElem_mem (show i < l.length by omega))
    rw [cmpS_ok e1 hr] at h1
    exact fun h => Rot.lt_irrefl (RR.err_zero.1 hr).2 (Rot.lt_trans (RR.err_zero.1 hr).2 (RR.err_zero.1 e1).2 (RR.err_zero.1 hr).2 h h1)
  have hi : ∀ x ∈ l.drop (cntLess l r), r.leq x := by
    intro x hx
    obtain ⟨i, hi, rfl⟩ := List.mem_iff_getElem.1 hx
    rw [List.length_drop] at hi
    rw [List.getElem_drop]
    have hql : cntLess l r < l.length := by omega
    have e0 := hok _ (List.getElem_mem hql)
    have e1 := hok _ (List.getElem_mem (show cntLess l r + i < l.length by omega))
    have h1 := cntLess_stop l r hql
    rw [cmpS_ok e0 hr] at h1
    have h2 : RR.leq r l[cntLess l r] := h1
    by_cases hi0 : i = 0
    · subst hi0; exact h2
    · exact RR.tot.trans _ _ _ hr e0 e1 h2 (List.pairwise_iff_getElem.1 hp0 _ _ hql (by omega) (by omega))
  rw [List.pairwise_append, List.pairwise_cons]
  refine ⟨p1, ⟨hi, p2⟩, fun x hx y hy => ?_⟩
  rcases List.mem_cons.1 hy with rfl | hy
  · exact lo x hx
  · exact p3 x hx y hy
theorem Refine45 (H : Heap) {v : Value} {l : List RR} (hv : RL H v l) (hle : ∀ r ∈ l, r.le 64) (hl : l.length ≤ 1000) :
    ∃ w H', Sim Tryz.prog 29 #[v] H w H' ∧ Ext H H' ∧ ∃ x L, w = .tuple #[x, .int .i64 (refE l)] ∧ RL H' x L ∧ RefO l L := by
  have o1 := Check45 H hv hle (by decide) (by omega)
  have e1 := hv.len (tt := tt) tt22
  by_cases h1 : chkR l = 0
  case neg =>
    have hE : refE l = 1 := by unfold refE; rw [if_pos h1]
    have hO : RefO l [] := by unfold RefO; rw [hE]; rfl
    rw [hE]
    generalize chkR l = c at *
    refine sxA tok mixed Tryz.func29 ?_
    simp -implicitDefEqProofs only [go_sem, simprocAttr, UU]
    refine kv o1 ?_
    simp -implicitDefEqProofs only [go_sem, simprocAttr, UU, h1, wa_cond, axC_t, axC_f, build22_0]
    simp -implicitDefEqProofs only [go_sem, simprocAttr, res29]
    exact ⟨.app _ _, _, [], rfl, RL.nil0 _ _, hO⟩
  have ho := chk_ok h1
  rw [h1] at o1
  have hl0 := List.length_pos_iff.2 ho.ne
  by_cases h2 : l.length = 1
  · have hE : refE l = 0 := by unfold refE; rw [if_neg (by simpa using h1), if_pos h2]
    have hO : RefO l l := by
      unfold RefO; rw [hE, if_pos rfl]
      refine ⟨by unfold refM; rw [if_pos h2], ?_⟩
      obtain ⟨x, rfl⟩ := List.length_eq_one_iff.1 h2
      simp
    have d2 : (l.length : Int) = 1 := by omega
    rw [hE]
    refine sxA tok mixed Tryz.func29 ?_
    simp -implicitDefEqProofs only [go_sem, simprocAttr, UU]
    refine kv o1 ?_
    simp -implicitDefEqProofs only [go_sem, simprocAttr, UU, wa_cond, axC_t, axC_f, e1, d2]
    simp -implicitDefEqProofs only [go_sem, simprocAttr, res29]
    exact ⟨.refl _, _, l, rfl, hv, hO⟩
  have d2 : ¬ (l.length : Int) = 1 := by omega
  have w1 : IntKind.i64.wrap (2 * (l.length : Int)) = ((2 * l.length : Nat) : Int) := by rw [w64 (by omega) (by omega)]; omega
  by_cases h3 : 64 < 2 * l.length
  · have hE : refE l = 4 := by unfold refE; rw [if_neg (by simpa using h1), if_neg h2, if_pos h3]
    have hO : RefO l [] := by unfold RefO; rw [hE]; rfl
    have d3 : (64 : Int) < ((2 * l.length : Nat) : Int) := by omega
    rw [hE]
    refine sxA tok mixed Tryz.func29 ?_
    simp -implicitDefEqProofs only [go_sem, simprocAttr, UU]
    refine kv o1 ?_
    simp -implicitDefEqProofs only [go_sem, simprocAttr, UU, wa_cond, axC_t, axC_f, e1, d2, w1, d3, build22_0]
    simp -implicitDefEqProofs only [go_sem, simprocAttr, res29]
    exact ⟨.app _ _, _, [], rfl, RL.nil0 _ _, hO⟩
  have hE : refE l = 0 := by unfold refE; rw [if_neg (by simpa using h1), if_neg h2, if_neg h3]
  have d3 : ¬ (64 : Int) < ((2 * l.length : Nat) : Int) := by omega
  rw [hE]
  have hRO : ∀ L, RefO l L ↔ L.Perm (l ++ midsTo l l.length) ∧ L.Pairwise RR.leq := fun L => by
    unfold RefO refM; rw [hE, if_pos rfl, if_neg h2]
  have hs0 : l.Pairwise RR.leq := ho.ord.imp_of_mem fun {a b} ha hb h h' => Rot.lt_irrefl (RR.err_zero.1 (ho.ok a ha)).2 (Rot.lt_trans (RR.err_zero.1 (ho.ok a ha)).2 (RR.err_zero.1 (ho.ok b hb)).2 (RR.err_zero.1 (ho.ok a ha)).2 h h')
  have hml := mids_le2 hle ho.ok (Nat.le_refl _)
  have hme := mids_le hle ho.ok (by decide) (Nat.le_refl _)
  obtain ⟨b, i0, c, rfl, hA⟩ := hv.at ho.ne
  refine sxA tok mixed Tryz.func29 ?_
  simp -implicitDefEqProofs only [go_sem, simprocAttr, UU]
  refine kv o1 ?_
  simp -implicitDefEqProofs only [go_sem, simprocAttr, UU, wa_cond, axC_t, axC_f, e1, d2, w1, d3]
  refine ax_midl (fun s T => ∃ L, RL T (s 4) L ∧ L.Perm (l ++ midsTo l l.length) ∧ L.Pairwise RR.leq ∧ Ext H T) ?_ ?_
  · refine ax_loopx (fun (i : Nat) s T => s 0 = .slice (some ⟨b, i0, none⟩) l.length c ∧ s 5 = .int .i64 (i : Nat) ∧ i ≤ l.length ∧ Ext H T ∧ ∃ L, RL T (s 4) L ∧ L.Perm (l ++ midsTo l i) ∧ L.Pairwise RR.leq) (fun i => l.length - i) 0 ?_ ?_
    · simp -implicitDefEqProofs only [go_sem, simprocAttr]
      exact ⟨.refl _, l, hv, by simp [midsTo], hs0⟩
    rintro i s T ⟨s0, s5, hi, hE, L, hL, hp, hs⟩
    have hE := hE
    by_cases hil : i < l.length
    case neg =>
      have : i = l.length := by omega
      subst this
      have d0 : ¬ (l.length : Int) < (l.length : Int) := by omega
      simp -implicitDefEqProofs only [go_sem, simprocAttr, wa_cond, axC_t, axC_f, s0, s5, e1, d0]
      exact ⟨L, hL, hp, hs, hE⟩
    have d0 : (i : Int) < (l.length : Int) := by omega
    have hjl := nextR_lt ho.ne i
    have m1 : IntKind.i64.wrap ((i : Int) + 1) = ((i + 1 : Nat) : Int) := by rw [w64 (by omega) (by omega)]; rfl
    have m2 : Int.tmod ((i + 1 : Nat) : Int) (l.length : Int) = ((nextR l i : Nat) : Int) := by rw [tmod_nat]; rfl
    have m3 : ¬ (l.length : Int) = 0 := by omega
    have g1 : (0 : Int) ≤ (i : Int) := by omega
    have g2 : (0 : Int) ≤ (nextR l i : Int) := by omega
    have g3 : (nextR l i : Int) < (l.length : Int) := by omega
    have r1 := (hA.ext hE).rdR hil
    have r2 := (hA.ext hE).rdR hjl
    have oM := fun H => Middle4 H (hle _ (List.getElem_mem hil)) (hle _ (List.getElem_mem hjl)) (by decide) (ho.ok _ (List.getElem_mem hil)) (ho.ok _ (List.getElem_mem hjl)) (next_ne ho (by omega) hil)
    have hsucc := midsTo_succ l i
    rw [getD_eq hil, getD_eq hjl] at hsucc
    have hm1 : RR.of (Rot.mid l[i].rot l[nextR l i].rot) ∈ midsTo l l.length := by
      have : midsTo l (i + 1) ⊆ midsTo l l.length := fun x hx => by
        unfold midsTo at hx ⊢
        obtain ⟨j, hj, rfl⟩ := List.mem_map.1 hx
        exact List.mem_map.2 ⟨j, List.mem_range.2 (by have := List.mem_range.1 hj; omega), rfl⟩
      exact this (by rw [hsucc]; simp)
    have hmle := hml _ hm1
    have hmerr := (hme _ hm1).2
    have hle2 : ∀ x ∈ L, x.le 4407 := fun x hx => by
      rcases List.mem_append.1 (hp.mem_iff.1 hx) with h | h
      · exact (hle x h).mono (by omega)
      · exact mids_le2 hle ho.ok (by omega) x h
    have hok2 : ∀ x ∈ L, x.err = 0 := fun x hx => by
      rcases List.mem_append.1 (hp.mem_iff.1 hx) with h | h
      · exact ho.ok x h
      · exact (mids_le hle ho.ok (by decide) hi x h).2
    have hLl : L.length = l.length + i := by rw [hp.length_eq, List.length_append, midsTo_len]
    generalize RR.of (Rot.mid l[i].rot l[nextR l i].rot) = m at *
    generalize l[nextR l i] = y at oM r2
    generalize l[i] = x at oM r1
    generalize nextR l i = j at *
    have hnew : ∃ v0, s 4 = v0 := ⟨_, rfl⟩
    obtain ⟨v0, s4⟩ := hnew
    rw [s4] at hL
    unfold RR.cells at r1 r2
    unfold RR.val rV at oM
    simp -implicitDefEqProofs only [go_sem, simprocAttr, wa_cond, axC_t, axC_f, s0, s5, e1, d0]
    refine ax_quiet (by kernel_rfl) ?_
    simp -implicitDefEqProofs only [go_sem, simprocAttr, s0, s4, s5, e1, aIndexAddr, d0, g1, g2, g3, m1, m2, m3, r1, r2]
    refine kw (oM _) ?_
    have oi := insert45 (T ++ [⟨m.cells, 1, true⟩]) (hL.ext (.app _ _)) hle2 hmle (by decide) (fun h => by rw [h] at hLl; simp at hLl; omega) (by omega)
    unfold RR.cells RR.val rV at oi
    refine wl_callT _ (by simp -implicitDefEqProofs only [go_sem, simprocAttr, s4]) oi ?_
    rintro _ T2 hE2 ⟨b2, hb2, rfl, hown⟩
    have hrl := hown.rl
    rw [insL_len] at hrl
    simp -implicitDefEqProofs only [go_sem, simprocAttr, wa_cond, axC_t, axC_f, s0, s5, m1]
    refine ⟨i + 1, ⟨rfl, by omega, hE.trans ((Ext.app _ _).trans hE2), _, hrl, ?_, insL_leq hok2 hmerr hs⟩, by omega⟩
    rw [hsucc]
    exact (insL_perm _ _ _).trans (((hp.cons m).trans (List.perm_append_singleton m _).symm).trans (by rw [List.append_assoc]))
  rintro s T ⟨L, hL, hp, hs, hE⟩
  simp -implicitDefEqProofs only [go_sem, simprocAttr, res29]
  exact ⟨hE, _, L, rfl, hL, (hRO L).2 ⟨hp, hs⟩⟩
end Go.Proofs.YthhmkaikopdmjaaGreat
namespace Go.Proofs.YthhmkaikopdmjaaGreat
open Go Go.Fw
theorem lenBad_le {n : Nat} (h : lenBad n = false) : n ≤ 66 := by
  unfold lenBad at h
  have := of_decide_eq_false h
  omega
theorem refO_len {l L : List RR} (h : RefO l L) : L.length ≤ 2 * l.length := by
  unfold RefO at h
  split at h
  · rw [h.1.length_eq]
    unfold refM
    split
    · omega
    · rw [List.length_append, midsTo_len]; omega
  · rw [h]; simp
theorem changesS (H : Heap) {v : Value} {l : List RR} {r : RR} (hv : RL H v l) : Sim Tryz.prog 7 #[v, r.val] H (.bool true) H := by
  refine flat_ex rfl ?_
  have aw := awakeS
  obtain ⟨H0, hH0⟩ : ∃ H0, H0 = H ++ [(⟨r.cells, 1, true⟩ : Blk), ⟨r.cells, 6, true⟩] := ⟨_, rfl⟩
  have hE0 : Ext H H0 := by rw [hH0]; exact .app _ _
  have hv1 : RL H0 v l := hv.ext hE0
  have hw : RL H0 (.slice (some ⟨H.length + 1, 0, none⟩) 1 1) [r] := by
    have := row1_at (H ++ [⟨r.cells, 1, true⟩]) r
    simp only [List.append_assoc, List.cons_append, List.nil_append, List.length_append, List.length_cons, List.length_nil, Nat.zero_add] at this
    rw [hH0]; exact .inr ⟨_, _, _, rfl, this⟩
  have o1 := great45 _ hv1 hw (by simp)
  have ra : ∀ {T}, Ext H0 T → rd T H.length 0 6 = some r.cells := fun h => rd_six' (h.get (by rw [hH0]; simp))
  unfold RR.cells at hH0 ra
  unfold RR.val rV
  by_cases hg : (greatB l || [r].any RR.long) = true
  · rw [hg, hH0] at o1
    refine sxA tok mixed Tryz.func7 ?_
    simp -implicitDefEqProofs only [go_sem, simprocAttr, UU, build22_1]
    refine kv o1 ?_
    simp -implicitDefEqProofs only [go_sem, simprocAttr, UU, wa_cond, axC_t, axC_f]
    refine kw (aw _) ?_
    simp -implicitDefEqProofs only [go_sem, simprocAttr, UU, res7]
    first | exact .app _ _ | exact ⟨.app _ _, rfl⟩ | exact .refl _ | exact ⟨.refl _, rfl⟩
  simp only [Bool.not_eq_true] at hg
  rw [hg] at o1
  simp only [Bool.or_eq_false_iff] at hg
  obtain ⟨hle, hlen⟩ := great_le hg.1
  have hrl := any_long hg.2 r (by simp)
  have h66 := lenBad_le hlen
  have hl1 : l.length ≤ 1000 := by omega
  have i1 := InsertS H0 hv1 hle hrl (by decide) hl1
  have i2 := fun {T} (h : Ext H0 T) => Insert45 T (hv1.ext h) hle hrl (by decide) hl1
  have i3 := fun {T} (h : Ext H0 T) => RefineX T (hv1.ext h) hle hl1
  have i4 := fun {T} (h : Ext H0 T) => Refine45 T (hv1.ext h) hle hl1
  have hil := insO_len l r
  have r0 := ra (.refl H0)
  unfold RR.val rV at i1 i2
  rw [hH0] at o1 i1 r0
  refine sxA tok mixed Tryz.func7 ?_
  simp -implicitDefEqProofs only [go_sem, simprocAttr, UU, build22_1]
  refine kv o1 ?_
  simp -implicitDefEqProofs only [go_sem, simprocAttr, UU, wa_cond, axC_t, axC_f]
  refine kt i1 ?_
  rintro _ T1 hE1 ⟨x, rfl, hx⟩
  rw [← hH0] at hE1
  clear o1 i1 r0
  have r1 := ra hE1
  simp -implicitDefEqProofs only [go_sem, simprocAttr, UU, r1]
  refine kt (i2 hE1) ?_
  rintro _ T2 hE2 ⟨y, rfl, hy⟩
  have hE02 := hE1.trans hE2
  simp -implicitDefEqProofs only [go_sem, simprocAttr, UU]
  refine kt (i3 hE02) ?_
  rintro _ T3 hE3 ⟨z, L, rfl, hz, hL⟩
  have hE03 := hE02.trans hE3
  simp -implicitDefEqProofs only [go_sem, simprocAttr, UU]
  refine kt (i4 hE03) ?_
  rintro _ T4 hE4 ⟨w, M, rfl, hw2, hM⟩
  have hE04 := hE03.trans hE4
  have := refO_one hle hL hM
  subst this
  have hLl := refO_len hL
  have q1 := equalR T4 (hx.ext ((hE2.trans hE3).trans hE4)) (hy.ext (hE3.trans hE4)) (by omega)
  have q2 := equalR T4 (hz.ext hE4) hw2 (by omega)
  rw [decide_eq_true rfl] at q1 q2
  generalize insE l r = E1 at *
  generalize refE l = E2 at *
  simp -implicitDefEqProofs only [go_sem, simprocAttr, UU]
  refine kw q1 ?_
  refine kw q2 ?_
  refine kw (aw _) ?_
  simp -implicitDefEqProofs only [go_sem, simprocAttr, res7]
  exact hE0.trans hE04
end Go.Proofs.YthhmkaikopdmjaaGreat
namespace Go.Proofs.YthhmkaikopdmjaaGreat
open Go Go.Fw Go.ChangeShapes Go.WideShapes Go.ChangeAt Go.RowKit Go.Deep
set_option linter.unusedVariables false
set_option maxRecDepth 100000
theorem own : ownKnob Tryz.prog.godebug = none := by kernel_rfl
theorem laid : laidOutB Tryz.prog = true := by kernel_rfl
theorem cells24 : Tryz.prog.cellsOf 24 = 3 := by kernel_rfl
theorem cells26 : Tryz.prog.cellsOf 26 = 6 := by kernel_rfl
theorem cells4 : Tryz.prog.cellsOf 4 = 1 := by kernel_rfl
theorem cells9 : Tryz.prog.cellsOf 9 = 1 := by kernel_rfl
theorem under4 : Tryz.prog.underlying 4 = some .bool := Tryz.underlying4
theorem under9 : Tryz.prog.underlying 9 = some .string := Tryz.underlying9
section
variable {H : Type} {enc : TypeId × Value → H} {w : World} {base : Nat} {spare : Nat → Bool} {held : Bool}
theorem open_rat {n : Nat} {cs : List Value} {x : DataW H × List MemPlace} (h : DataW.trod enc Tryz.prog w base spare held n 24 cs = some x) : ∃ g a b, cs = [.bool g, .string (bs a), .string (bs b)] := by
  obtain ⟨xs, m, _, _, hl, _, hf⟩ := DataW.trod_struct Tryz.underlying24 h
  rw [cells24] at hl
  match cs, hl with
  | [v0, v1, v2], _ =>
    have f0 : DataW.trod enc Tryz.prog w base spare held m 4 (([v0, v1, v2].drop 0).take (Tryz.prog.cellsOf 4)) = xs[0]? := hf 0 _ rfl
    have f1 : DataW.trod enc Tryz.prog w base spare held m 9 (([v0, v1, v2].drop 1).take (Tryz.prog.cellsOf 9)) = xs[1]? := hf 1 _ rfl
    have f2 : DataW.trod enc Tryz.prog w base spare held m 9 (([v0, v1, v2].drop 2).take (Tryz.prog.cellsOf 9)) = xs[2]? := hf 2 _ rfl
    rw [cells4] at f0
    rw [cells9] at f1 f2
    simp only [List.drop_zero, List.drop_succ_cons, List.take_succ_cons, List.take_zero] at f0 f1 f2
    have e0 : ∃ y, DataW.trod enc Tryz.prog w base spare held m 4 [v0] = some y := by rw [f0]; exact ⟨_, List.getElem?_eq_getElem (by simp_all)⟩
    have e1 : ∃ y, DataW.trod enc Tryz.prog w base spare held m 9 [v1] = some y := by rw [f1]; exact ⟨_, List.getElem?_eq_getElem (by simp_all)⟩
    have e2 : ∃ y, DataW.trod enc Tryz.prog w base spare held m 9 [v2] = some y := by rw [f2]; exact ⟨_, List.getElem?_eq_getElem (by simp_all)⟩
    obtain ⟨y0, e0⟩ := e0
    obtain ⟨y1, e1⟩ := e1
    obtain ⟨y2, e2⟩ := e2
    obtain ⟨g, h0, _⟩ := DataW.trod_bool under4 e0
    obtain ⟨s1, h1, _, _⟩ := DataW.trod_string under9 e1
    obtain ⟨s2, h2, _, _⟩ := DataW.trod_string under9 e2
    injection h0 with h0
    injection h1 with h1
    injection h2 with h2
    subst h0 h1 h2
    exact ⟨g, bl s1, bl s2, by rw [bs_bl, bs_bl]⟩
theorem open_rot {n : Nat} {cs : List Value} {x : DataW H × List MemPlace} (h : DataW.trod enc Tryz.prog w base spare held n 26 cs = some x) : ∃ r : RR, cs = r.cells := by
  obtain ⟨xs, m, _, _, hl, hxl, hf⟩ := DataW.trod_struct Tryz.underlying26 h
  rw [cells26] at hl
  match cs, hl with
  | [v0, v1, v2, v3, v4, v5], _ =>
    have f0 : DataW.trod enc Tryz.prog w base spare held m 24 (([v0, v1, v2, v3, v4, v5].drop 0).take (Tryz.prog.cellsOf 24)) = xs[0]? := hf 0 _ rfl
    have f1 : DataW.trod enc Tryz.prog w base spare held m 24 (([v0, v1, v2, v3, v4, v5].drop 3).take (Tryz.prog.cellsOf 24)) = xs[1]? := hf 1 _ rfl
    rw [cells24] at f0 f1
    simp only [List.drop_zero, List.drop_succ_cons, List.take_succ_cons, List.take_zero] at f0 f1
    have e0 : ∃ y, DataW.trod enc Tryz.prog w base spare held m 24 [v0, v1, v2] = some y := by rw [f0]; exact ⟨_, List.getElem?_eq_getElem (by simp_all)⟩
    have e1 : ∃ y, DataW.trod enc Tryz.prog w base spare held m 24 [v3, v4, v5] = some y := by rw [f1]; exact ⟨_, List.getElem?_eq_getElem (by simp_all)⟩
    obtain ⟨y0, e0⟩ := e0
    obtain ⟨y1, e1⟩ := e1
    obtain ⟨g, a, b, h0⟩ := open_rat e0
    obtain ⟨g', a', b', h1⟩ := open_rat e1
    simp only [List.cons.injEq, and_true] at h0 h1
    obtain ⟨rfl, rfl, rfl⟩ := h0
    obtain ⟨rfl, rfl, rfl⟩ := h1
    exact ⟨⟨g, a, b, g', a', b'⟩, rfl⟩
end
theorem vr_cells {ρ : Inj} (r : RR) : ∀ (i : Nat) (v : Value), r.cells[i]? = some v → VR ρ v v := by
  intro i v h
  unfold RR.cells at h
  match i with
  | 0 => cases h; exact .bool _
  | 1 => cases h; exact .str _
  | 2 => cases h; exact .str _
  | 3 => cases h; exact .bool _
  | 4 => cases h; exact .str _
  | 5 => cases h; exact .str _
  | i + 6 => cases h
theorem vr_rot (ρ : Inj) (r : RR) : VR ρ r.val r.val := by
  refine .agg _ _ rfl fun i h1 h2 => ?_
  exact vr_cells r i _ (by rw [← List.getElem?_toArray]; exact Array.getElem?_eq_getElem h1)
theorem arg_rot {H : Type} {enc : TypeId × Value → H} {w : World} {base : Nat} {spare : Nat → Bool} {held : Bool} {r : Reach} {b0 : Nat} {v : Value} {d : DataW H} {ps : List MemPlace} (hv : Value.okWide Tryz.prog w r b0 26 v) (h : DataW.Trod enc Tryz.prog w base spare held 26 v d ps) : ∃ x : RR, v = x.val := by
  obtain ⟨n, h⟩ := h
  simp only [Value.okWide, Tryz.underlying26] at hv
  obtain ⟨cs, rfl, _⟩ := hv
  obtain ⟨x, hx⟩ := open_rot h
  refine ⟨x, ?_⟩
  have : cs.toList = x.cells := hx
  show Value.agg cs = _
  unfold RR.val rV
  rw [← Array.toArray_toList (xs := cs), this]
  rfl
def Safe (ρ : Inj) (H : Heap) : Prop := ∀ b p B, ρ b = some (.lies p) → H[b]? = some B → B.own = false
theorem below_of {ρ ρ' : Inj} {H H' : Heap} {W W' : World} (hs : Safe ρ H) (s : Step ρ H W ρ' H' W') : Below W.heap.size W W' :=
  ⟨s.frame.os, s.frame.tape, s.frame.output, s.frame.size, fun k hk => s.frame.block k hk (fun ⟨b, p, B, h1, h2, h3, _⟩ => by rw [hs b p B h1 h2] at h3; cases h3)⟩
theorem mem_nil (W : World) : Mem (fun _ => Option.none) [] W :=
  ⟨(fun b h => absurd rfl h), (fun b h => by cases h), (fun b p h => by cases h), (fun b b' p p' B _ h => by cases h)⟩
theorem flat_get : ∀ {l : List RR} {i : Nat} {v : Value}, (l.map RR.cells).flatten[i]? = some v → ∃ j, ∃ h : j < l.length, ∃ q, q < 6 ∧ i = j * 6 + q ∧ l[j].cells[q]? = some v := by
  intro l
  induction l with
  | nil => intro i v h; simp at h
  | cons r l ih =>
    intro i v h
    simp only [List.map_cons, List.flatten_cons] at h
    by_cases hi : i < 6
    · rw [List.getElem?_append_left (by rw [RR.cells_len]; exact hi)] at h
      exact ⟨0, by simp, i, hi, by omega, h⟩
    · rw [List.getElem?_append_right (by rw [RR.cells_len]; omega), RR.cells_len] at h
      obtain ⟨j, hj, q, hq, e, hv⟩ := ih h
      exact ⟨j + 1, by simpa using hj, q, hq, by omega, hv⟩
theorem choose_below {n : Nat} {α : Type} (d : α) {p : Nat → α → Prop} (h : ∀ i, i < n → ∃ a, p i a) : ∃ f : Nat → α, ∀ i, i < n → p i (f i) :=
  ⟨fun i => if hi : i < n then (h i hi).choose else d, fun i hi => by simp only [dif_pos hi]; exact (h i hi).choose_spec⟩
theorem arg_list {H : Type} {enc : TypeId × Value → H} {W : World} {base : Nat} {held : Bool} {r : Reach} {b0 : Nat} {v : Value} {d : DataW H} {ps : List MemPlace} (hv : Value.okWide Tryz.prog W r b0 22 v)
    (h : DataW.Trod enc Tryz.prog W base (fun _ => true) held 22 v d ps) : ∃ (ρ : Inj) (T : Heap) (u : Value) (l : List RR), Mem ρ T W ∧ Safe ρ T ∧ VR ρ u v ∧ RL T u l := by
  obtain ⟨n, h⟩ := h
  obtain ⟨a, len, cap, rfl⟩ := okWide_slice Tryz.underlying22 hv
  rcases open_slice Tryz.underlying22 h with ⟨hcs, _⟩ | ⟨a, len, cap, m, n, D, Pl, hcs, hb, hl, hm, hmm, _, hx⟩
  · simp [Value.cells] at hcs
    obtain ⟨rfl, rfl, rfl⟩ := hcs
    exact ⟨_, [], .slice none 0 0, [], mem_nil W, (fun b p B h => by cases h), .nilslice, .inl ⟨.inl rfl, rfl⟩⟩
  · simp [Value.cells] at hcs
    obtain ⟨rfl, rfl, rfl⟩ := hcs
    simp only [if_true] at hmm
    subst hmm
    rw [cells26] at hx
    by_cases hc : m = 0
    · subst hc
      obtain rfl : len = 0 := by omega
      refine ⟨fun b => if b = 0 then some .dead else none, [deadBlk], .slice (some ⟨0, 0, none⟩) 0 0, [], ⟨fun b h => ?_, fun b h => ?_, fun b p h => ?_, fun b b' p p' B _ h => ?_⟩, fun b p B h => ?_, .sliceNone _ _ _ (by simp), .inl ⟨.inr ⟨_, _, _, rfl⟩, rfl⟩⟩
      · by_cases h0 : b = 0
        · subst h0; simp
        · simp [h0] at h
      · by_cases h0 : b = 0
        · subst h0; rfl
        · simp [h0] at h
      · by_cases h0 : b = 0 <;> simp [h0] at h
      · by_cases h0 : b = 0 <;> simp [h0] at h
      · by_cases h0 : b = 0 <;> simp [h0] at h
    · obtain ⟨f, hf⟩ := choose_below (⟨false, [], [], false, [], []⟩ : RR) (p := fun i r => W.cells? base (a.add (i * 6)) 6 = some r.cells) (fun i hi => by
        obtain ⟨cs', h1, h2⟩ := hx i hi
        obtain ⟨r, hr⟩ := open_rot h2
        exact ⟨r, by rw [h1, hr]⟩)
      have hcell : ∀ j, j < m → ∀ q, q < 6 → W.cell? (a.add (j * 6 + q)) = (f j).cells[q]? := fun j hj q hq => by
        obtain ⟨_, _, h3⟩ := World.cells?_some (hf j hj)
        have := h3 q hq
        rw [← this, add_add]
      have h00 := hcell 0 (by omega) 0 (by decide)
      have hsp : a.spot = none ∧ a.block < W.heap.size := by
        simp only [Nat.zero_mul, Nat.zero_add] at h00
        have e : (f 0).cells[0]? = some (.bool (f 0).g) := rfl
        rw [e] at h00
        unfold World.cell? at h00
        split at h00
        · rename_i c _ _ hb
          constructor
          · by_cases h1 : a.spot.isSome = true
            · have : (a.add 0).spot = a.spot := rfl
              rw [this, if_pos h1] at h00; cases h00
            · simpa using h1
          · have : (a.add 0).block = a.block := rfl
            rw [this] at hb
            exact (Array.getElem?_eq_some_iff.1 hb).1
        · cases h00
      obtain ⟨blk, off, spot⟩ := a
      simp only at hsp
      obtain ⟨rfl, hlt⟩ := hsp
      have hll : ((List.range len).map f).length = len := by simp
      have hfl : (((List.range len).map f).map RR.cells).flatten.length = len * 6 := by
        rw [flatten_len (RR.cells_all _)]; simp; omega
      refine ⟨fun b => if b = 0 then some (.lies ⟨blk, off, len * 6, 6⟩) else none, [⟨(((List.range len).map f).map RR.cells).flatten, 6, false⟩], .slice (some ⟨0, 0, none⟩) len m, (List.range len).map f,
        ⟨fun b h => ?_, fun b h => ?_, fun b p h => ?_, fun b b' p p' B hne h h' => ?_⟩, fun b p B h hB => ?_, ?_, ?_⟩
      · by_cases h0 : b = 0
        · subst h0; simp
        · simp [h0] at h
      · by_cases h0 : b = 0 <;> simp [h0] at h
      · by_cases h0 : b = 0
        · subst h0
          simp only [if_true, Option.some.injEq, Spot.lies.injEq] at h
          subst h
          refine ⟨_, rfl, hlt, rfl, (show 0 < 6 by decide), by rw [hfl]; exact Nat.le_refl _, fun i v hv => ?_, (fun h => by cases h), (fun h => by cases h), (fun h => by cases h)⟩
          obtain ⟨j, hj, q, hq, rfl, hv2⟩ := flat_get hv
          rw [hll] at hj
          have := hcell j (by omega) q hq
          simp only [List.getElem_map, List.getElem_range] at hv2
          rw [hv2, add_plain] at this
          exact ⟨v, this, vr_cells _ _ _ hv2⟩
        · simp [h0] at h
      · by_cases h0 : b = 0
        · by_cases h1 : b' = 0
          · exact absurd (h0.trans h1.symm) hne
          · simp [h1] at h'
        · simp [h0] at h
      · by_cases h0 : b = 0
        · subst h0; cases hB; rfl
        · simp [h0] at h
      · have := VR.slice (ρ := fun b => if b = 0 then some (.lies ⟨blk, off, len * 6, 6⟩) else none) 0 0 len m ⟨blk, off, len * 6, 6⟩ m rfl hl (.inr rfl) (fun h => absurd h hc)
        simpa using this
      · refine .inr ⟨0, 0, m, by simp, .inr (by simpa using hl), by decide, RR.cells_all _, ⟨_, rfl, rfl, ?_, ?_⟩, RR.cells_ok _⟩
        · rw [hfl]; simp; omega
        · simp only [List.drop_zero, List.length_map, List.length_range]
          exact List.take_of_length_le (by rw [hfl]; omega)
end Go.Proofs.YthhmkaikopdmjaaGreat
