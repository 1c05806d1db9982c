/- turned hulls: as many points, the same area; turned: the same excess; what Canonical makes of a turned arc; segment: Check, wrong, direction; segment.meet, where there is no point in common; segment.Meet, where there is no point in common; edges of a hull that are no neighbours have no point in common; ring.Edges; ring.crossing, where no edges meet; slices.Grow of nothing, slices.Concat of rows of points; ring.Canonical of a ring that is convex; law46 awake: its numbers and points; law46 awake; the law SweptTurned: plain parts; the law SweptTurned: the walk; Arguments of a law, as abstract values: rotations and lists of points. Conditions: none. -/
import Derived.Test.YthhmkaikopdmjaaGreatMf
import Derived.WalkKit
import Derived.ProofKit
import Derived.OpenShut
import Derived.Deep.Slices
import Derived.Carry
set_option linter.unusedSimpArgs false
set_option linter.unusedVariables false
set_option maxRecDepth 8000
namespace Go.Proofs.YthhmkaikopdmjaaGreat
open Go Go.Fw
theorem least_ex (g : Nat → Rot) : ∀ n, 0 < n → ∃ k, k < n ∧ ∀ i, i < n → g k = g i ∨ (g k).plt (g i) := by
  intro n
  induction n with
  | zero => intro h; omega
  | succ n ih =>
    intro _
    by_cases h : n = 0
    · subst h
      exact ⟨0, by omega, fun i hi => .inl (by rw [show i = 0 by omega])⟩
    · obtain ⟨k, hk, hm⟩ := ih (by omega)
      rcases plt_cases (g k) (g n) with c | c | c
      · exact ⟨k, by omega, fun i hi => by
          by_cases e : i = n
          · subst e; exact .inr c
          · exact hm i (by omega)⟩
      · exact ⟨k, by omega, fun i hi => by
          by_cases e : i = n
          · subst e; exact .inl c
          · exact hm i (by omega)⟩
      · exact ⟨n, by omega, fun i hi => by
          by_cases e : i = n
          · subst e; exact .inl rfl
          · rcases hm i (by omega) with q | q
            · rw [← q]; exact .inr c
            · exact .inr (plt_trans c q)⟩
theorem least_cy {H : List Rot} (h0 : H ≠ []) (f : Rot → Rot) : ∃ k, k < H.length ∧ ∀ i, f (cy H k) = f (cy H i) ∨ (f (cy H k)).plt (f (cy H i)) := by
  have hn := List.length_pos_iff.2 h0
  obtain ⟨k, hk, hm⟩ := least_ex (fun i => f (cy H i)) H.length hn
  refine ⟨k, hk, fun i => ?_⟩
  have := hm (i % H.length) (Nat.mod_lt _ hn)
  rw [cy_mod] at this
  exact this
theorem hull_both {l l' D D' : List RR} (hd : Dist l D) (hd' : Dist l' D') (hf : flatB D = false) {r : Rot} (hr : r.ok) (e : l'.map RR.rot = (l.map RR.rot).map r.thn) :
    (hullL D').length = (hullL D).length ∧ areaR ((hullL D').map RR.rot) = areaR ((hullL D).map RR.rot) := by
  have h0 : (hullL D).map RR.rot ≠ [] := by simpa using hullL_ne hf
  obtain ⟨k, hk, hl⟩ := least_cy h0 r.thn
  have hk' : k < (hullL D).length := by rw [List.length_map] at hk; exact hk
  have h := hull_turn hd hd' hf hr e hk' hl
  constructor
  · have := congrArg List.length h
    rw [rotL_len, List.length_map, List.length_map, List.length_map] at this
    exact this
  · rw [h, area_rotL (by rw [List.length_map]; omega) (by simpa using h0), area_map (cross_turn hr) h0]
theorem bad_turn {l l' D D' : List RR} (hd : Dist l D) (hd' : Dist l' D') {r : Rot} (hr : r.ok) (e : l'.map RR.rot = (l.map RR.rot).map r.thn) : badH D' ↔ badH D := by
  have h1 := flat_turn hd hd' (ori_turn hr) e
  unfold badH
  rw [h1]
  cases hf : flatB D
  · rw [(hull_both hd hd' hf hr e).1]
  · simp
end Go.Proofs.YthhmkaikopdmjaaGreat
namespace Go.Proofs.YthhmkaikopdmjaaGreat
open Go Go.Fw
theorem badH_not {D : List RR} (h : ¬ badH D) : flatB D = false := by
  cases hf : flatB D
  · rfl
  · exact absurd (.inl hf) h
theorem exc_turn {e : Int} {S S2 S' S2' : List RR} {w w' : Value} (h : ExcOut e S S2 w) (h' : ExcOut e S' S2' w') {r : Rot} (hr : r.ok) (e1 : S'.map RR.rot = (S.map RR.rot).map r.thn) (e2 : S2'.map RR.rot = (S2.map RR.rot).map r.thn) : w' = w := by
  rcases h with ⟨hz, rfl⟩ | ⟨rfl, D, hd, h⟩
  · rcases h' with ⟨_, rfl⟩ | ⟨h0, _⟩
    · rfl
    · exact absurd h0 hz
  · rcases h' with ⟨h0, _⟩ | ⟨_, D', hd', h'⟩
    · exact absurd rfl h0
    · have hb := bad_turn hd hd' hr e1
      rcases h with ⟨hb1, rfl⟩ | ⟨hg, D2, hd2, h⟩
      · rcases h' with ⟨_, rfl⟩ | ⟨hg', _⟩
        · rfl
        · exact absurd (hb.2 hb1) hg'
      · rcases h' with ⟨hb1, rfl⟩ | ⟨hg', D2', hd2', h'⟩
        · exact absurd (hb.1 hb1) hg
        · have hb2 := bad_turn hd2 hd2' hr e2
          rcases h with ⟨hx, rfl⟩ | ⟨hx, rfl⟩
          · rcases h' with ⟨_, rfl⟩ | ⟨hy, _⟩
            · rfl
            · exact absurd (hb2.2 hx) hy
          · rcases h' with ⟨hy, _⟩ | ⟨_, rfl⟩
            · exact absurd (hb2.1 hy) hx
            · rw [(hull_both hd hd' (badH_not hg) hr e1).2, (hull_both hd2 hd2' (badH_not hx) hr e2).2]
theorem arcE_turn {a b a' b' : RR} {l : List RR} {r : Rot} (hr : r.ok) (h : arcE a b l = 0) (ea : a'.err = 0) (eb : b'.err = 0) (ha : a'.rot = a.rot.thn r) (hb : b'.rot = b.rot.thn r) : arcE a' b' l = 0 := by
  obtain ⟨h1, h2, h3, h4⟩ := arcE_zero h
  unfold arcE chkT
  rw [if_neg (by simp [h1, ea, eb]), ha, hb, turnB_turn hr, if_pos h4]
theorem rr_ext {L M : List RR} (hL : ∀ r ∈ L, r.can = true) (hM : ∀ r ∈ M, r.can = true) (h : L.map RR.rot = M.map RR.rot) : L = M := by
  induction L generalizing M with
  | nil => cases M with
    | nil => rfl
    | cons m M => cases h
  | cons x L ih =>
    cases M with
    | nil => cases h
    | cons m M =>
      simp only [List.map_cons, List.cons.injEq] at h
      rw [can_eq (hL x (by simp)) (hM m (by simp)) h.1, ih (fun r hr => hL r (List.mem_cons_of_mem _ hr)) (fun r hr => hM r (List.mem_cons_of_mem _ hr)) h.2]
theorem arc_turn {l l' D D' : List RR} (hd : Dist l D) (hd' : Dist l' D') (hc' : ∀ r ∈ l', r.can = true) (hf : flatB D = false) {r : Rot} (hr : r.ok) (e : l'.map RR.rot = (l.map RR.rot).map r.thn) {k : Nat} (hk : k < (hullL D).length)
    (hl : ∀ i (hi : i < (turnL r (hullL D)).length), ¬ ((turnL r (hullL D))[i]).rot.plt ((turnL r (hullL D)).getD k rr0).rot) :
    hullL D' = (turnL r (hullL D)).drop k ++ (turnL r (hullL D)).take k := by
  have hc : ∀ x ∈ turnL r (hullL D), x.can = true := by
    intro x hx
    obtain ⟨p, _, rfl⟩ := List.mem_map.1 hx
    exact can_of _
  have hlen : (turnL r (hullL D)).length = (hullL D).length := by simp [turnL]
  have hm : (turnL r (hullL D)).map RR.rot = ((hullL D).map RR.rot).map r.thn := by
    unfold turnL
    rw [List.map_map, List.map_map]
    congr 1
    funext p
    simp only [Function.comp, RR.of_rot]
  have h0 : (hullL D).map RR.rot ≠ [] := by simpa using hullL_ne hf
  have hcy : ∀ i, r.thn (cy ((hullL D).map RR.rot) i) = ((turnL r (hullL D)).getD (i % (hullL D).length) rr0).rot := by
    intro i
    have hi : i % (hullL D).length < (hullL D).length := Nat.mod_lt _ (by omega)
    rw [← cy_map (f := r.thn) h0, ← hm, ← cy_mod, cy_lt (by rw [List.length_map, hlen]; exact hi), List.getElem_map]
    simp only [List.length_map, hlen]
    rw [getD_eq (by rw [hlen]; exact hi)]
  have := hull_turn hd hd' hf hr e hk (fun i => by
    have hi : i % (hullL D).length < (hullL D).length := Nat.mod_lt _ (by omega)
    rw [hcy, hcy, Nat.mod_eq_of_lt hk]
    have h1 := hl (i % (hullL D).length) (by rw [hlen]; exact hi)
    rw [← getD_eq (by rw [hlen]; exact hi)] at h1
    rcases plt_cases ((turnL r (hullL D)).getD k rr0).rot ((turnL r (hullL D)).getD (i % (hullL D).length) rr0).rot with c | c | c
    · exact .inr c
    · exact .inl c
    · exact absurd c h1)
  refine rr_ext (fun x hx => hc' x ((hd'.mem x).1 (hullL_sub x hx))) (fun x hx => ?_) ?_
  · rcases List.mem_append.1 hx with h | h
    · exact hc x (List.mem_of_mem_drop h)
    · exact hc x (List.mem_of_mem_take h)
  · rw [this, ← hm]
    unfold rotL
    rw [List.map_append, List.map_drop, List.map_take]
end Go.Proofs.YthhmkaikopdmjaaGreat
namespace Go.Proofs.YthhmkaikopdmjaaGreat
open Go Go.Fw
def segV (p q : RR) : Value := .agg #[.bool p.g, .string (bs p.n), .string (bs p.d), .bool p.g', .string (bs p.n'), .string (bs p.d'), .bool q.g, .string (bs q.n), .string (bs q.d), .bool q.g', .string (bs q.n'), .string (bs q.d')]
theorem segCheck (H : Heap) {p q : RR} {k : Nat} (hp : p.le k) (hq : q.le k) (hk : k ≤ 1100000) : Sim Tryz.prog 250 #[segV p q] H (.int .i64 (if pcmp p.rot q.rot = 0 then 12 else 0)) H := by
  refine flat_ex rfl ?_
  have o1 := fun H => compareP H hp hq hk
  generalize pcmp p.rot q.rot = z at *
  unfold RR.val rV at o1
  unfold segV
  by_cases h : z = 0
  · rw [if_pos h]
    refine sxA tok mixed Tryz.func250 ?_
    simp -implicitDefEqProofs only [go_sem, simprocAttr, UU]
    refine kv (o1 _) ?_
    simp -implicitDefEqProofs only [go_sem, simprocAttr, UU, h, wa_cond, axC_t, axC_f]
    simp -implicitDefEqProofs only [go_sem, simprocAttr, UU, res250]
    first | exact .app _ _ | exact ⟨.app _ _, rfl⟩ | exact .refl _ | exact ⟨.refl _, rfl⟩
  · rw [if_neg h]
    refine sxA tok mixed Tryz.func250 ?_
    simp -implicitDefEqProofs only [go_sem, simprocAttr, UU]
    refine kv (o1 _) ?_
    simp -implicitDefEqProofs only [go_sem, simprocAttr, UU, h, wa_cond, axC_t, axC_f]
    simp -implicitDefEqProofs only [go_sem, simprocAttr, UU, res250]
    first | exact .app _ _ | exact ⟨.app _ _, rfl⟩ | exact .refl _ | exact ⟨.refl _, rfl⟩
theorem segWrong (H : Heap) {p q p' q' : RR} {k : Nat} (hp : p.le k) (hq : q.le k) (hp' : p'.le k) (hq' : q'.le k) (hk : k ≤ 1100000) (h1 : p.rot ≠ q.rot) (h2 : p'.rot ≠ q'.rot) : Sim Tryz.prog 206 #[segV p q, segV p' q'] H (.bool false) H := by
  refine flat_ex rfl ?_
  have o1 := fun H => segCheck H hp hq hk
  have o2 := fun H => segCheck H hp' hq' hk
  rw [if_neg (fun h => h1 (pcmp_zero.1 h))] at o1
  rw [if_neg (fun h => h2 (pcmp_zero.1 h))] at o2
  unfold segV at *
  refine sxA tok mixed Tryz.func206 ?_
  simp -implicitDefEqProofs only [go_sem, simprocAttr, UU]
  refine kw (o1 _) ?_
  refine kw (o2 _) ?_
  simp -implicitDefEqProofs only [go_sem, simprocAttr, UU, res206]
  first | exact .app _ _ | exact ⟨.app _ _, rfl⟩ | exact .refl _ | exact ⟨.refl _, rfl⟩
theorem segDir (H : Heap) {p q : RR} {k : Nat} (hp : p.le k) (hq : q.le k) (hk : k ≤ 1100000) : Sim Tryz.prog 251 #[segV p q] H (RR.of (q.rot.sub p.rot)).val H := by
  refine flat_ex rfl ?_
  have o1 := fun H => subP H hq hp hk
  generalize q.rot.sub p.rot = z at *
  rw [RR.of_val] at o1 ⊢
  unfold RR.val rV at o1
  unfold segV
  refine sxA tok mixed Tryz.func251 ?_
  simp -implicitDefEqProofs only [go_sem, simprocAttr, UU]
  refine kw (o1 _) ?_
  simp -implicitDefEqProofs only [go_sem, simprocAttr, UU, res251]
  first | exact .app _ _ | exact ⟨.app _ _, rfl⟩ | exact .refl _ | exact ⟨.refl _, rfl⟩
def unitB (t : Rat) : Bool := decide (0 ≤ cmpQ t 0) && decide (cmpQ t 1 ≤ 0)
theorem unitP (H : Heap) {g : Bool} {n d : List UInt8} {t : Rat} {k : Nat} (ht : QV (qV g n d) t k) (hk : k ≤ 1100000) : Sim Tryz.prog 252 #[qV g n d] H (.bool (unitB t)) H := by
  refine flat_ex rfl ?_
  have o1 := fun H => signQ H ht hk
  have o2 := fun H => ofN_sim H (n := 1) (by decide) (by decide)
  rw [show ((1 : Int) : Rat) = 1 from rfl] at o2
  have one : Fw.Sz (1 : Rat) 2 := sz_one (by decide)
  have o3 := fun H => cmpR H ht one.qv hk (by omega)
  unfold unitB
  generalize cmpQ t 0 = z at *
  generalize cmpQ t 1 = y at *
  unfold mkQ at o2 o3
  unfold qV at o1 o2 o3 ⊢
  by_cases h : 0 ≤ z
  · rw [decide_eq_true h]
    refine sxA tok mixed Tryz.func252 ?_
    simp -implicitDefEqProofs only [go_sem, simprocAttr, UU]
    refine ax_quiet (by kernel_rfl) ?_
    simp -implicitDefEqProofs only [go_sem, simprocAttr, UU]
    refine kv (o1 _) ?_
    simp -implicitDefEqProofs only [go_sem, simprocAttr, UU, h]
    refine kw (o2 _) ?_
    refine kv (o3 _) ?_
    simp -implicitDefEqProofs only [go_sem, simprocAttr, UU, Bool.true_and]
    simp -implicitDefEqProofs only [go_sem, simprocAttr, UU, res252]
    first | exact .app _ _ | exact ⟨.app _ _, rfl⟩ | exact .refl _ | exact ⟨.refl _, rfl⟩
  · rw [decide_eq_false h]
    refine sxA tok mixed Tryz.func252 ?_
    simp -implicitDefEqProofs only [go_sem, simprocAttr, UU]
    refine ax_quiet (by kernel_rfl) ?_
    simp -implicitDefEqProofs only [go_sem, simprocAttr, UU]
    refine kv (o1 _) ?_
    simp -implicitDefEqProofs only [go_sem, simprocAttr, UU, h, Bool.false_and]
    simp -implicitDefEqProofs only [go_sem, simprocAttr, UU, res252]
    first | exact .app _ _ | exact ⟨.app _ _, rfl⟩ | exact .refl _ | exact ⟨.refl _, rfl⟩
end Go.Proofs.YthhmkaikopdmjaaGreat
namespace Go.Proofs.YthhmkaikopdmjaaGreat
open Go Go.Fw
theorem meetB (H : Heap) {p q p' q' : RR} {k : Nat} (hp : p.le k) (hq : q.le k) (hp' : p'.le k) (hq' : q'.le k) (hk : k ≤ 20000)
    (hx : cmpQ ((q.rot.sub p.rot).cross (q'.rot.sub p'.rot)) 0 = 0) (hy : cmpQ ((q.rot.sub p.rot).cross (p'.rot.sub p.rot)) 0 ≠ 0) :
    Sim Tryz.prog 207 #[segV p q, segV p' q'] H (.tuple #[segV rr0 rr0, .bool false]) H := by
  refine flat_ex rfl ?_
  have o1 := fun H => segDir H hp hq (by omega)
  have o2 := fun H => segDir H hp' hq' (by omega)
  have o3 := fun H => subP H hp' hp (by omega)
  have l1 : (RR.of (q.rot.sub p.rot)).le (2 * k + 10) := (hq.sz.sub hp.sz).le.mono (by omega)
  have l2 : (RR.of (q'.rot.sub p'.rot)).le (2 * k + 10) := (hq'.sz.sub hp'.sz).le.mono (by omega)
  have l3 : (RR.of (p'.rot.sub p.rot)).le (2 * k + 10) := (hp'.sz.sub hp.sz).le.mono (by omega)
  have o4 := fun H => crossP H l1 l2 (by omega)
  have o5 := fun H => crossP H l1 l3 (by omega)
  have z4 := ((l1.c.sz.mul l2.s.sz).sub (l1.s.sz.mul l2.c.sz)).qv
  have z5 := ((l1.c.sz.mul l3.s.sz).sub (l1.s.sz.mul l3.c.sz)).qv
  rw [RR.of_rot, RR.of_rot] at o4 o5 z4 z5
  have e4 : (q.rot.sub p.rot).c * (q'.rot.sub p'.rot).s - (q.rot.sub p.rot).s * (q'.rot.sub p'.rot).c = (q.rot.sub p.rot).cross (q'.rot.sub p'.rot) := rfl
  have e5 : (q.rot.sub p.rot).c * (p'.rot.sub p.rot).s - (q.rot.sub p.rot).s * (p'.rot.sub p.rot).c = (q.rot.sub p.rot).cross (p'.rot.sub p.rot) := rfl
  rw [e4] at z4
  rw [e5] at z5
  have o6 := fun H => signQ H z4 (by omega)
  have o7 := fun H => signQ H z5 (by omega)
  rw [hx] at o6
  generalize (q.rot.sub p.rot).cross (q'.rot.sub p'.rot) = c4 at *
  generalize (q.rot.sub p.rot).cross (p'.rot.sub p.rot) = c5 at *
  generalize cmpQ c5 0 = s5 at *
  clear l1 l2 l3 z4 z5 e4 e5 hx
  generalize q.rot.sub p.rot = u at *
  generalize q'.rot.sub p'.rot = w at *
  generalize p'.rot.sub p.rot = d at *
  simp only [RR.of_val] at o1 o2 o3 o4 o5
  unfold mkQ qV at o4 o5 o6 o7
  unfold RR.val rV at o3
  unfold segV at *
  refine sxA tok mixed Tryz.func207 ?_
  simp -implicitDefEqProofs only [go_sem, simprocAttr, UU]
  refine ax_quiet (by kernel_rfl) ?_
  simp -implicitDefEqProofs only [go_sem, simprocAttr, UU]
  refine kw (o1 _) ?_
  refine kw (o2 _) ?_
  refine kw (o3 _) ?_
  refine kw (o4 _) ?_
  refine kv (o6 _) ?_
  simp -implicitDefEqProofs only [go_sem, simprocAttr, UU, wa_cond, axC_t, axC_f]
  refine kw (o5 _) ?_
  refine kv (o7 _) ?_
  simp -implicitDefEqProofs only [go_sem, simprocAttr, UU, hy, wa_cond, axC_t, axC_f]
  simp -implicitDefEqProofs only [go_sem, simprocAttr, UU, res207]
  first | exact .app _ _ | exact ⟨.app _ _, rfl⟩ | exact .refl _ | exact ⟨.refl _, rfl⟩
theorem meetA (H : Heap) {p q p' q' : RR} {k : Nat} (hp : p.le k) (hq : q.le k) (hp' : p'.le k) (hq' : q'.le k) (hk : k ≤ 20000)
    (hx : (q.rot.sub p.rot).cross (q'.rot.sub p'.rot) ≠ 0)
    (hy : unitB ((p'.rot.sub p.rot).cross (q'.rot.sub p'.rot) / (q.rot.sub p.rot).cross (q'.rot.sub p'.rot)) = false ∨ unitB ((p'.rot.sub p.rot).cross (q.rot.sub p.rot) / (q.rot.sub p.rot).cross (q'.rot.sub p'.rot)) = false) :
    Sim Tryz.prog 207 #[segV p q, segV p' q'] H (.tuple #[segV rr0 rr0, .bool false]) H := by
  refine flat_ex rfl ?_
  have o1 := fun H => segDir H hp hq (by omega)
  have o2 := fun H => segDir H hp' hq' (by omega)
  have o3 := fun H => subP H hp' hp (by omega)
  have l1 : (RR.of (q.rot.sub p.rot)).le (2 * k + 10) := (hq.sz.sub hp.sz).le.mono (by omega)
  have l2 : (RR.of (q'.rot.sub p'.rot)).le (2 * k + 10) := (hq'.sz.sub hp'.sz).le.mono (by omega)
  have l3 : (RR.of (p'.rot.sub p.rot)).le (2 * k + 10) := (hp'.sz.sub hp.sz).le.mono (by omega)
  have o4 := fun H => crossP H l1 l2 (by omega)
  have o5 := fun H => crossP H l3 l2 (by omega)
  have o6 := fun H => crossP H l3 l1 (by omega)
  have z4 := (l1.c.sz.mul l2.s.sz).sub (l1.s.sz.mul l2.c.sz)
  have z5 := (l3.c.sz.mul l2.s.sz).sub (l3.s.sz.mul l2.c.sz)
  have z6 := (l3.c.sz.mul l1.s.sz).sub (l3.s.sz.mul l1.c.sz)
  simp only [RR.of_rot] at o4 o5 o6 z4 z5 z6
  have e4 : (q.rot.sub p.rot).c * (q'.rot.sub p'.rot).s - (q.rot.sub p.rot).s * (q'.rot.sub p'.rot).c = (q.rot.sub p.rot).cross (q'.rot.sub p'.rot) := rfl
  have e5 : (p'.rot.sub p.rot).c * (q'.rot.sub p'.rot).s - (p'.rot.sub p.rot).s * (q'.rot.sub p'.rot).c = (p'.rot.sub p.rot).cross (q'.rot.sub p'.rot) := rfl
  have e6 : (p'.rot.sub p.rot).c * (q.rot.sub p.rot).s - (p'.rot.sub p.rot).s * (q.rot.sub p.rot).c = (p'.rot.sub p.rot).cross (q.rot.sub p.rot) := rfl
  rw [e4] at z4
  rw [e5] at z5
  rw [e6] at z6
  have o7 := fun H => signQ H z4.qv (by omega)
  have o8 := fun H => quoQ H z5.qv z4.qv (by omega) (by omega)
  have o9 := fun H => quoQ H z6.qv z4.qv (by omega) (by omega)
  rw [if_neg hx] at o8 o9
  have oa := fun H => unitP H (z5.div z4 (by omega)).qv (by omega)
  have ob := fun H => unitP H (z6.div z4 (by omega)).qv (by omega)
  have hs : cmpQ ((q.rot.sub p.rot).cross (q'.rot.sub p'.rot)) 0 ≠ 0 := fun h => hx (cmp_zero.1 h)
  generalize (q.rot.sub p.rot).cross (q'.rot.sub p'.rot) = c4 at *
  generalize (p'.rot.sub p.rot).cross (q'.rot.sub p'.rot) = c5 at *
  generalize (p'.rot.sub p.rot).cross (q.rot.sub p.rot) = c6 at *
  generalize cmpQ c4 0 = s4 at *
  generalize c5 / c4 = t1 at *
  generalize c6 / c4 = t2 at *
  generalize unitB t1 = b1 at *
  generalize unitB t2 = b2 at *
  clear l1 l2 l3 z4 z5 z6 e4 e5 e6 hx
  generalize q.rot.sub p.rot = u at *
  generalize q'.rot.sub p'.rot = w at *
  generalize p'.rot.sub p.rot = d at *
  simp only [RR.of_val] at o1 o2 o3 o4 o5 o6
  unfold mkQ qV at o4 o5 o6 o7 o8 o9
  unfold qV at oa ob
  unfold RR.val rV at o3
  unfold segV at *
  cases b1 with
  | false =>
    refine sxA tok mixed Tryz.func207 ?_
    simp -implicitDefEqProofs only [go_sem, simprocAttr, UU]
    refine ax_quiet (by kernel_rfl) ?_
    simp -implicitDefEqProofs only [go_sem, simprocAttr, UU]
    refine kw (o1 _) ?_
    refine kw (o2 _) ?_
    refine kw (o3 _) ?_
    refine kw (o4 _) ?_
    refine kv (o7 _) ?_
    simp -implicitDefEqProofs only [go_sem, simprocAttr, UU, hs, wa_cond, axC_t, axC_f]
    refine ax_quiet (by kernel_rfl) ?_
    simp -implicitDefEqProofs only [go_sem, simprocAttr, UU]
    refine kw (o5 _) ?_
    refine kw (o8 _) ?_
    refine ax_quiet (by kernel_rfl) ?_
    simp -implicitDefEqProofs only [go_sem, simprocAttr, UU]
    refine kw (o6 _) ?_
    refine kw (o9 _) ?_
    refine kv (oa _) ?_
    simp -implicitDefEqProofs only [go_sem, simprocAttr, UU, wa_cond, axC_t, axC_f]
    simp -implicitDefEqProofs only [go_sem, simprocAttr, UU, res207]
    first | exact .app _ _ | exact ⟨.app _ _, rfl⟩ | exact .refl _ | exact ⟨.refl _, rfl⟩
  | true =>
    have hb2 : b2 = false := by simpa using hy
    subst hb2
    refine sxA tok mixed Tryz.func207 ?_
    simp -implicitDefEqProofs only [go_sem, simprocAttr, UU]
    refine ax_quiet (by kernel_rfl) ?_
    simp -implicitDefEqProofs only [go_sem, simprocAttr, UU]
    refine kw (o1 _) ?_
    refine kw (o2 _) ?_
    refine kw (o3 _) ?_
    refine kw (o4 _) ?_
    refine kv (o7 _) ?_
    simp -implicitDefEqProofs only [go_sem, simprocAttr, UU, hs, wa_cond, axC_t, axC_f]
    refine ax_quiet (by kernel_rfl) ?_
    simp -implicitDefEqProofs only [go_sem, simprocAttr, UU]
    refine kw (o5 _) ?_
    refine kw (o8 _) ?_
    refine ax_quiet (by kernel_rfl) ?_
    simp -implicitDefEqProofs only [go_sem, simprocAttr, UU]
    refine kw (o6 _) ?_
    refine kw (o9 _) ?_
    refine kw (oa _) ?_
    refine kv (ob _) ?_
    simp -implicitDefEqProofs only [go_sem, simprocAttr, UU, wa_cond, axC_t, axC_f]
    simp -implicitDefEqProofs only [go_sem, simprocAttr, UU, res207]
    first | exact .app _ _ | exact ⟨.app _ _, rfl⟩ | exact .refl _ | exact ⟨.refl _, rfl⟩
end Go.Proofs.YthhmkaikopdmjaaGreat
namespace Go.Proofs.YthhmkaikopdmjaaGreat
open Go Go.Fw
def Apart (p q p' q' : Rot) : Prop := p ≠ q ∧ p' ≠ q' ∧ (((q.sub p).cross (q'.sub p') = 0 ∧ (q.sub p).cross (p'.sub p) ≠ 0) ∨ ((q.sub p).cross (q'.sub p') ≠ 0 ∧
  (unitB ((p'.sub p).cross (q'.sub p') / (q.sub p).cross (q'.sub p')) = false ∨ unitB ((p'.sub p).cross (q.sub p) / (q.sub p).cross (q'.sub p')) = false)))
theorem MeetP (H : Heap) {p q p' q' : RR} {k : Nat} (hp : p.le k) (hq : q.le k) (hp' : p'.le k) (hq' : q'.le k) (hk : k ≤ 20000) (ha : Apart p.rot q.rot p'.rot q'.rot) :
    Sim Tryz.prog 148 #[segV p q, segV p' q'] H (.tuple #[segV rr0 rr0, .bool false, .int .i64 0]) H := by
  refine flat_ex rfl ?_
  obtain ⟨h1, h2, h3⟩ := ha
  have o1 := fun H => segWrong H hp hq hp' hq' (by omega) h1 h2
  have o2 : ∀ H, Sim Tryz.prog 207 #[segV p q, segV p' q'] H (.tuple #[segV rr0 rr0, .bool false]) H := by
    intro H
    rcases h3 with ⟨x, y⟩ | ⟨x, y⟩
    · exact meetB H hp hq hp' hq' hk (cmp_zero.2 x) (fun h => y (cmp_zero.1 h))
    · exact meetA H hp hq hp' hq' hk x y
  unfold segV at *
  refine sxA tok mixed Tryz.func148 ?_
  simp -implicitDefEqProofs only [go_sem, simprocAttr, UU]
  refine kv (o1 _) ?_
  simp -implicitDefEqProofs only [go_sem, simprocAttr, UU, wa_cond, axC_t, axC_f]
  refine kw (o2 _) ?_
  simp -implicitDefEqProofs only [go_sem, simprocAttr, UU, res148]
  first | exact .app _ _ | exact ⟨.app _ _, rfl⟩ | exact .refl _ | exact ⟨.refl _, rfl⟩
end Go.Proofs.YthhmkaikopdmjaaGreat
namespace Go.Proofs.YthhmkaikopdmjaaGreat
open Go Go.Fw
theorem unitB_neg {t : Rat} (h : t < 0) : unitB t = false := by
  unfold unitB
  have : cmpQ t 0 = -1 := by unfold cmpQ; rw [if_pos h]
  rw [this]; rfl
theorem unitB_big {t : Rat} (h : 1 < t) : unitB t = false := by
  unfold unitB
  have : cmpQ t 1 = 1 := by
    unfold cmpQ
    rw [if_neg (by grind), if_pos h]
  rw [this]
  simp
theorem apart_of {p q p' q' : Rot} (h1 : 0 < ori p q p') (h2 : 0 < ori p q q') (hn : p' ≠ q') : Apart p q p' q' := by
  have hpq : p ≠ q := (ori_ne h1).1
  refine ⟨hpq, hn, ?_⟩
  have e1 : ori p q p' = (q.sub p).cross (p'.sub p) := rfl
  have e2 : ori p q q' = (q.sub p).cross (p'.sub p) + (q.sub p).cross (q'.sub p') := by unfold ori Rot.cross Rot.sub; grind
  have e3 : (p'.sub p).cross (q.sub p) = -((q.sub p).cross (p'.sub p)) := by unfold Rot.cross; grind
  rw [e3]
  rw [e1] at h1
  rw [e2] at h2
  generalize (q.sub p).cross (p'.sub p) = x at *
  generalize (q.sub p).cross (q'.sub p') = y at *
  by_cases hy : y = 0
  · exact .inl ⟨hy, by grind⟩
  · refine .inr ⟨hy, .inr ?_⟩
    have ht : (-x / y) * y = -x := Rat.div_mul_cancel hy
    generalize -x / y = t at *
    have hor : y < 0 ∨ 0 < y := by grind
    rcases hor with h | h
    · refine unitB_big ?_
      refine Classical.byContradiction fun hle => ?_
      have h3 : t ≤ 1 := Rat.not_lt.1 hle
      have := Rat.mul_nonneg (a := 1 - t) (b := -y) (by grind) (by grind)
      grind
    · refine unitB_neg ?_
      refine Classical.byContradiction fun hle => ?_
      have := Rat.mul_nonneg (a := t) (b := y) (by grind) (by grind)
      grind
end Go.Proofs.YthhmkaikopdmjaaGreat
namespace Go.Proofs.YthhmkaikopdmjaaGreat
open Go Go.Fw
def segC (p q : RR) : List Value := p.cells ++ q.cells
def edgL (l : List RR) (i : Nat) : List (List Value) := (List.range i).map fun j => segC (l.getD j rr0) (l.getD (nextR l j) rr0)
theorem edgL_len (l : List RR) (i : Nat) : (edgL l i).length = i := by simp [edgL]
theorem edgL_succ (l : List RR) (i : Nat) : edgL l (i + 1) = edgL l i ++ [segC (l.getD i rr0) (l.getD (nextR l i) rr0)] := by simp [edgL, List.range_succ]
theorem edgL_at (l : List RR) {i n : Nat} (h : i < n) : (edgL l n)[i]'(by rw [edgL_len]; exact h) = segC (l.getD i rr0) (l.getD (nextR l i) rr0) := by simp [edgL]
theorem seg_at (T : Heap) (p q : RR) : ElAt 12 (T ++ [⟨segC p q, 12, true⟩]) T.length 0 1 [segC p q] :=
  ⟨.inr (by simp), by decide, fun x hx => by simp at hx; subst hx; rfl, ⟨_, by simp; rfl, rfl, by simp [segC, RR.cells], by simp [segC, RR.cells]⟩, rfl⟩
theorem row144 (T : Heap) (p q : RR) : aBuildSlice tt T 144 1 [(0, segV p q)] = some (.slice (some ⟨T.length, 0, none⟩) 1 1, T ++ [⟨segC p q, 12, true⟩]) := rfl
def SegS (T : Heap) (L0 : Nat) (x : Value) (C : List (List Value)) : Prop := (x = .slice none 0 0 ∧ C = []) ∨ ∃ b', L0 ≤ b' ∧ x = .slice (some ⟨b', 0, none⟩) C.length 0 ∧ Own 12 T b' C
theorem SegS.app {T : Heap} {L0 : Nat} {x : Value} {C : List (List Value)} (h : SegS T L0 x C) (G : Heap) : SegS (T ++ G) L0 x C := by
  rcases h with h | ⟨b', h1, h2, h3⟩
  · exact .inl h
  · exact .inr ⟨b', h1, h2, h3.app G⟩
theorem SegS.cell {T : Heap} {L0 : Nat} {x : Value} {C : List (List Value)} (h : SegS T L0 x C) : isCell x = true := by
  rcases h with ⟨rfl, rfl⟩ | ⟨b', h1, rfl, h3⟩ <;> rfl
theorem SegS.push {T : Heap} {L0 : Nat} {x : Value} {C : List (List Value)} (p q : RR) (h : SegS T L0 x C) (hC : C.length ≤ 10000) (hL : L0 ≤ T.length) :
    ∃ T', aAppend tt (T ++ [⟨segC p q, 12, true⟩]) [144, 144] x (.slice (some ⟨T.length, 0, none⟩) 1 1) = some (.slice (some ⟨T.length + 1, 0, none⟩) (C.length + 1) 0, T') ∧ SegS T' L0 (.slice (some ⟨T.length + 1, 0, none⟩) (C.length + 1) 0) (C ++ [segC p q]) ∧
      (∀ H, H.length ≤ L0 → Ext H T → Ext H T') ∧ ∀ j, j < L0 → T'[j]? = T[j]? := by
  have hx := seg_at T p q
  rcases h with ⟨rfl, rfl⟩ | ⟨b', h1, rfl, h3⟩
  · have h := append_none tt144 tt147 rfl (by decide) (by decide) hx (by simp) (by simp)
    have hn := Own.new (k := 12) (T ++ [⟨segC p q, 12, true⟩]) (l := [segC p q]) (by decide) (fun x hx => by simp at hx; subst hx; rfl) rfl
    simp only [List.length_append, List.length_cons, List.length_nil, Nat.zero_add] at h hn
    refine ⟨_, h, .inr ⟨T.length + 1, by omega, by simp, hn⟩, fun H _ hE => (hE.trans (.app _ _)).trans (.app _ _), fun j hj => ?_⟩
    rw [List.append_assoc, List.getElem?_append_left (by omega)]
  · have ho := h3.app [(⟨segC p q, 12, true⟩ : Blk)]
    have h := append_own tt144 tt147 rfl (by decide) (by decide) ho hx (by simp) (by simp; omega)
    have hn := Own.new (k := 12) ((T ++ [(⟨segC p q, 12, true⟩ : Blk)]).set b' deadBlk) (l := C ++ [segC p q]) (by decide) (all_app h3.all hx.all) (by rw [List.flatten_append, List.all_append, h3.cell]; rfl)
    simp only [List.length_append, List.length_cons, List.length_nil, Nat.zero_add, List.length_set] at h hn
    refine ⟨_, h, .inr ⟨T.length + 1, by omega, by simp, hn⟩, fun H hH hE => ((hE.trans (.app _ _)).set (by omega) _).trans (.app _ _), fun j hj => ?_⟩
    rw [List.getElem?_append_left (by simp; omega), List.getElem?_set_ne (by omega), List.getElem?_append_left (by omega)]
def EdgInv (H : Heap) (v : Value) (l : List RR) (i : Nat) (T : Heap) : Prop := ∃ x, T[H.length]? = some ⟨[x], 1, true⟩ ∧ SegS T (H.length + 2) x (edgL l i) ∧ T[H.length + 1]? = some ⟨[v], 1, true⟩ ∧ Ext H T
theorem EdgesP (H : Heap) {v : Value} {l : List RR} (hv : RL H v l) (h0 : l ≠ []) (hl : l.length ≤ 64) :
    ∃ w H', Sim Tryz.prog 147 #[v] H w H' ∧ Ext H H' ∧ ∃ b', H.length ≤ b' ∧ w = .slice (some ⟨b', 0, none⟩) l.length 0 ∧ Own 12 H' b' (edgL l l.length) := by
  obtain ⟨b, i0, c, rfl, hA⟩ := hv.at h0
  have hn := List.length_pos_iff.2 h0
  have oe := redgesS (H ++ [(⟨[.slice none 0 0], 1, true⟩ : Blk)]) (some ⟨b, i0, none⟩) l.length c
  simp only [List.length_append, List.length_cons, List.length_nil, Nat.reduceAdd, Nat.zero_add, List.append_assoc, List.cons_append, List.nil_append] at oe
  refine sim_exR tok mixed Tryz.func147 ?_
  simp -implicitDefEqProofs only [go_sem, simprocAttr, wr_seq, wr_block, wr_region, wr_scope, wr_label, wr_skip, wr_exit, wr_ret, wr_cond, axCR_t, axCR_f]
  refine kl oe ?_
  simp -implicitDefEqProofs only [go_sem, simprocAttr, wr_seq, wr_block, wr_region, wr_scope, wr_label, wr_skip, wr_exit, wr_ret, wr_cond, axCR_t, axCR_f]
  refine axR_range (EdgInv H (.slice (some ⟨b, i0, none⟩) l.length c) l l.length) (by simp -implicitDefEqProofs only [go_sem, simprocAttr]; rfl) ?_ ?_
  · refine redgesY (v := .slice (some ⟨b, i0, none⟩) l.length c) l.length (Nat.le_refl _) (EdgInv H (.slice (some ⟨b, i0, none⟩) l.length c) l) h0 (by omega) ?_ ?_ ?_ ?_ (fun T hi => absurd hi (by omega)) (fun T _ h => h) (by rw [decide_eq_true rfl])
    · exact ⟨_, by simp, .inl ⟨rfl, rfl⟩, by simp, .app _ _⟩
    · rintro i T ⟨x, g1, g2, g3, g4⟩
      exact ⟨g3, hv.ext g4⟩
    · rintro i T B ⟨x, g1, g2, g3, g4⟩
      have l3 := (List.getElem?_eq_some_iff.1 g3).1
      exact ⟨x, by rw [List.getElem?_append_left (by omega)]; exact g1, g2.app _, by rw [List.getElem?_append_left l3]; exact g3, g4.trans (.app _ _)⟩
    · rintro i T hi _ ⟨xv, g1, g2, g3, g4⟩
      refine yr_ex rfl ?_
      have hj := nextR_lt h0 i
      have hsu := edgL_succ l i
      rw [getD_eq hi, getD_eq hj] at hsu
      have hle := edgL_len l i
      generalize l[nextR l i]'(nextR_lt h0 i) = z at *
      generalize l[i] = x at *
      obtain ⟨T1, hT1⟩ : ∃ T1, T1 = T ++ [(⟨x.cells, 1, true⟩ : Blk), ⟨z.cells, 1, true⟩] := ⟨_, rfl⟩
      have hTl := (List.getElem?_eq_some_iff.1 g3).1
      have k1 : SegS T1 (H.length + 2) xv (edgL l i) := by rw [hT1]; exact g2.app _
      have hl1 : T.length + 2 = T1.length := by rw [hT1]; simp
      have hE1 : Ext H T1 := by rw [hT1]; exact g4.trans (.app _ _)
      have f1 : T1[H.length]? = some ⟨[xv], 1, true⟩ := by rw [hT1, List.getElem?_append_left (by omega)]; exact g1
      have f3 : T1[H.length + 1]? = some ⟨[.slice (some ⟨b, i0, none⟩) l.length c], 1, true⟩ := by rw [hT1, List.getElem?_append_left (by omega)]; exact g3
      obtain ⟨T2, p1, p2, p3, p4⟩ := k1.push x z (by omega) (by omega)
      rw [hle] at p1 p2
      rw [← hsu] at p2
      have row := row144 T1 x z
      have r0 : rd T1 H.length 0 1 = some [xv] := by unfold rd; rw [f1]; rfl
      have rx : rd T1 T.length 0 6 = some x.cells := by rw [hT1]; unfold rd; simp [RR.cells]
      have rz : rd T1 (T.length + 1) 0 6 = some z.cells := by rw [hT1]; unfold rd; simp [RR.cells]
      have f2 : T2[H.length]? = some ⟨[xv], 1, true⟩ := by rw [p4 _ (by omega)]; exact f1
      have f4 : T2[H.length + 1]? = some ⟨[.slice (some ⟨b, i0, none⟩) l.length c], 1, true⟩ := by rw [p4 _ (by omega)]; exact f3
      have hw : wr T2 H.length 0 [.slice (some ⟨T1.length + 1, 0, none⟩) (i + 1) 0] = some (T2.set H.length ⟨[.slice (some ⟨T1.length + 1, 0, none⟩) (i + 1) 0], 1, true⟩) := by
        rw [wr_at f2 rfl (by simp) rfl]
        rfl
      have hfin : EdgInv H (.slice (some ⟨b, i0, none⟩) l.length c) l (i + 1) (T2.set H.length ⟨[.slice (some ⟨T1.length + 1, 0, none⟩) (i + 1) 0], 1, true⟩) := by
        have hl2 : H.length < T2.length := (List.getElem?_eq_some_iff.1 f2).1
        refine ⟨_, List.getElem?_set_self hl2, ?_, ?_, (p3 H (by omega) hE1).set (Nat.le_refl _) _⟩
        · rcases p2 with ⟨h, _⟩ | ⟨b', q1, q2, q3⟩
          · cases h
          · exact .inr ⟨b', q1, q2, q3.other (by omega) _⟩
        · rw [List.getElem?_set_ne (by omega)]; exact f4
      generalize T2.set H.length ⟨[.slice (some ⟨T1.length + 1, 0, none⟩) (i + 1) 0], 1, true⟩ = T3 at *
      generalize T1 ++ [(⟨segC x z, 12, true⟩ : Blk)] = T1' at *
      unfold segV at row
      unfold RR.cells at hT1 rx rz
      unfold RR.val rV
      simp -implicitDefEqProofs only [go_sem, simprocAttr, putPs_two]
      rw [← hT1]
      simp -implicitDefEqProofs only [go_sem, simprocAttr, r0, rx, rz, row, p1, hw]
      exact hfin
  · rintro T ⟨x, g1, g2, g3, g4⟩
    have r2 : rd T H.length 0 1 = some [x] := by unfold rd; rw [g1]; rfl
    simp -implicitDefEqProofs only [go_sem, simprocAttr, wr_seq, wr_block, wr_region, wr_scope, wr_label, wr_skip, wr_exit, wr_ret, wr_cond, axCR_t, axCR_f, r2, res147]
    refine ⟨g4, ?_⟩
    rcases g2 with ⟨rfl, h⟩ | ⟨b', q1, rfl, q3⟩
    · have := congrArg List.length h
      rw [edgL_len, List.length_nil] at this
      omega
    · exact ⟨b', by omega, by rw [edgL_len], q3⟩
end Go.Proofs.YthhmkaikopdmjaaGreat
namespace Go.Proofs.YthhmkaikopdmjaaGreat
open Go Go.Fw
theorem crossingP (H : Heap) {v : Value} {l : List RR} {k : Nat} (hv : RL H v l) (h0 : l ≠ []) (hl : l.length ≤ 64) (hle : ∀ r ∈ l, r.le k) (hk : k ≤ 20000)
    (hap : ∀ i j, i < l.length → j < l.length → i + 2 ≤ j → ¬ (i = 0 ∧ j = l.length - 1) → Apart (l.getD i rr0).rot (l.getD (nextR l i) rr0).rot (l.getD j rr0).rot (l.getD (nextR l j) rr0).rot) :
    ∃ w H', Sim Tryz.prog 87 #[v] H w H' ∧ Ext H H' ∧ w = .bool false := by
  obtain ⟨w1, T1, o1, hE1, b', hb', rfl, hown⟩ := EdgesP H hv h0 hl
  have hA := hown.at (c := 0) (.inl rfl)
  have e1 : aLen tt [144] (.slice (some ⟨b', 0, none⟩) l.length 0) = some (.int .i64 (l.length : Nat)) := rfl
  have hn := List.length_pos_iff.2 h0
  refine sxA tok mixed Tryz.func87 ?_
  simp -implicitDefEqProofs only [go_sem, simprocAttr]
  refine kl o1 ?_
  simp -implicitDefEqProofs only [go_sem, simprocAttr, e1]
  refine ax_loopx (fun (i : Nat) s T => s 3 = .slice (some ⟨b', 0, none⟩) l.length 0 ∧ s 4 = .int .i64 (l.length : Nat) ∧ s 15 = .int .i64 (l.length : Nat) ∧ s 16 = .int .i64 (i : Nat) ∧ i ≤ l.length ∧ Ext T1 T) (fun i => l.length - i) 0 ?_ ?_
  · simp -implicitDefEqProofs only [go_sem, simprocAttr]
    exact .refl _
  rintro i s T ⟨s3, s4, s15, s16, hi, hT⟩
  simp -implicitDefEqProofs only [go_sem, simprocAttr, s15, s16]
  refine ax_cond2 ?_
  simp only [ev_tmp, ev_const, ev_func, upd_at, put_some, put_none, bndB_bool, Nat.reduceEqDiff, if_true, if_false, ↓reduceIte, reduceCtorEq]
  refine ⟨fun hc0 => have hlt := of_decide_eq_true hc0; ?_, fun hc0 => have hlt := of_decide_eq_false hc0; ?_⟩
  · have hil : i < l.length := by omega
    have m1 : IntKind.i64.wrap ((i : Int) + 1) = ((i + 1 : Nat) : Int) := by rw [w64 (by omega) (by omega)]; rfl
    have m2 : IntKind.i64.wrap ((i : Int) + 2) = ((i + 2 : Nat) : Int) := by rw [w64 (by omega) (by omega)]; rfl
    simp -implicitDefEqProofs only [go_sem, simprocAttr, s3, s4, s15, s16, m2]
    refine ax_loopx (fun (j : Nat) s T => s 3 = .slice (some ⟨b', 0, none⟩) l.length 0 ∧ s 4 = .int .i64 (l.length : Nat) ∧ s 5 = .int .i64 (i : Nat) ∧ s 6 = .int .i64 (j : Nat) ∧ s 15 = .int .i64 (l.length : Nat) ∧ s 16 = .int .i64 (i : Nat) ∧ i + 2 ≤ j ∧ Ext T1 T) (fun j => l.length - j) (i + 2) ?_ ?_
    · simp -implicitDefEqProofs only [go_sem, simprocAttr, s3, s4, s15, s16]
      exact hT
    clear hT s3 s4 s15 s16
    rintro j s T ⟨s3, s4, s5, s6, s15, s16, hj, hT⟩
    simp -implicitDefEqProofs only [go_sem, simprocAttr, s4, s6]
    refine ax_cond2 ?_
    simp only [ev_tmp, ev_const, ev_func, upd_at, put_some, put_none, bndB_bool, Nat.reduceEqDiff, if_true, if_false, ↓reduceIte, reduceCtorEq]
    refine ⟨fun hc0 => have hltj := of_decide_eq_true hc0; ?_, fun hc0 => have hltj := of_decide_eq_false hc0; ?_⟩
    · have hjl : j < l.length := by omega
      have m3 : IntKind.i64.wrap ((j : Int) + 1) = ((j + 1 : Nat) : Int) := by rw [w64 (by omega) (by omega)]; rfl
      have m4 : IntKind.i64.wrap ((l.length : Int) - 1) = ((l.length - 1 : Nat) : Int) := by rw [w64 (by omega) (by omega)]; omega
      have hnn : (0 : Int) ≤ (i : Int) := by omega
      have hnn2 : (0 : Int) ≤ (j : Int) := by omega
      have hlt2 : (i : Int) < (l.length : Int) := by omega
      have hlt3 : (j : Int) < (l.length : Int) := by omega
      have r1 := (hA.ext hT).rd (j := i) (by rw [edgL_len]; exact hil)
      have r2 := (hA.ext hT).rd (j := j) (by rw [edgL_len]; exact hjl)
      rw [edgL_at l hil] at r1
      rw [edgL_at l hjl] at r2
      have o2 : ¬ (i = 0 ∧ j = l.length - 1) → ∀ H, Sim Tryz.prog 148 #[segV (l.getD i rr0) (l.getD (nextR l i) rr0), segV (l.getD j rr0) (l.getD (nextR l j) rr0)] H (.tuple #[segV rr0 rr0, .bool false, .int .i64 0]) H := by
        intro hne H
        have hi' := nextR_lt h0 i
        have hj' := nextR_lt h0 j
        have := hap i j hil hjl hj hne
        rw [getD_eq hil, getD_eq hjl, getD_eq hi', getD_eq hj'] at this ⊢
        exact MeetP H (hle _ (List.getElem_mem hil)) (hle _ (List.getElem_mem hi')) (hle _ (List.getElem_mem hjl)) (hle _ (List.getElem_mem hj')) hk this
      generalize l.getD i rr0 = x at *
      generalize l.getD j rr0 = y at *
      generalize l.getD (nextR l i) rr0 = x' at *
      generalize l.getD (nextR l j) rr0 = y' at *
      unfold segC RR.cells at r1 r2
      simp only [List.cons_append, List.nil_append, Nat.zero_add] at r1 r2
      unfold segV at o2
      clear hap hle
      by_cases hne : i = 0 ∧ j = l.length - 1
      · obtain ⟨h1, h2⟩ := hne
        have d1 : (i : Int) = 0 := by omega
        have d2 : (j : Int) = ((l.length - 1 : Nat) : Int) := by omega
        have q1 := decide_eq_true d1
        have q2 := decide_eq_true d2
        clear o2
        simp -implicitDefEqProofs only [go_sem, simprocAttr, wa_cond, axC_t, axC_f, s3, s4, s5, s6, s15, s16, q1, q2, m3, m4]
        exact ⟨j + 1, ⟨rfl, by omega, hT⟩, by omega⟩
      · have o3 := o2 hne
        clear o2
        by_cases d1 : (i : Int) = 0
        · have d2 : ¬ (j : Int) = ((l.length - 1 : Nat) : Int) := by omega
          have q1 := decide_eq_true d1
          simp -implicitDefEqProofs only [go_sem, simprocAttr, wa_cond, axC_t, axC_f, s3, s4, s5, s6, q1, d2, m3, m4]
          refine ax_quiet (by kernel_rfl) ?_
          simp -implicitDefEqProofs only [go_sem, simprocAttr, s3, s5, s6, aIndexAddr, hnn, hnn2, hlt2, hlt3, r1, r2]
          refine kv (o3 _) ?_
          simp -implicitDefEqProofs only [go_sem, simprocAttr, wa_cond, axC_t, axC_f, s3, s4, s5, s6, s15, s16, m3]
          exact ⟨j + 1, ⟨rfl, by omega, hT.trans (.app _ _)⟩, by omega⟩
        · simp -implicitDefEqProofs only [go_sem, simprocAttr, wa_cond, axC_t, axC_f, s3, s4, s5, s6, d1, m3, m4]
          refine ax_quiet (by kernel_rfl) ?_
          simp -implicitDefEqProofs only [go_sem, simprocAttr, s3, s5, s6, aIndexAddr, hnn, hnn2, hlt2, hlt3, r1, r2]
          refine kv (o3 _) ?_
          simp -implicitDefEqProofs only [go_sem, simprocAttr, wa_cond, axC_t, axC_f, s3, s4, s5, s6, s15, s16, m3]
          exact ⟨j + 1, ⟨rfl, by omega, hT.trans (.app _ _)⟩, by omega⟩
    · simp -implicitDefEqProofs only [go_sem, simprocAttr, s3, s4, s15, s16, m1]
      exact ⟨i + 1, ⟨rfl, by omega, hT⟩, by omega⟩
  · simp -implicitDefEqProofs only [go_sem, simprocAttr, res87]
    exact hE1.trans hT
end Go.Proofs.YthhmkaikopdmjaaGreat
namespace Go.Proofs.YthhmkaikopdmjaaGreat
open Go Go.Fw
theorem zeros_rr (n : Nat) : zerosL (Value.agg #[.bool false, .string (bs []), .string (bs []), .bool false, .string (bs []), .string (bs [])]).cells.toList (n * 6) = ((List.replicate n rr0).map RR.cells).flatten := by
  induction n with
  | zero => rfl
  | succ n ih =>
    have e : (n + 1) * 6 = 6 + n * 6 := by omega
    rw [List.replicate_succ, List.map_cons, List.flatten_cons, ← ih, e]
    unfold zerosL
    rw [List.range_add, List.map_append, List.map_map]
    have h1 : (Value.agg #[.bool false, .string (bs []), .string (bs []), .bool false, .string (bs []), .string (bs [])]).cells.toList.length = 6 := rfl
    refine congr (congrArg _ rfl) (List.map_congr_left fun j _ => ?_)
    simp only [Function.comp, h1, Nat.add_mod_left]
theorem GrowP (H : Heap) {n : Nat} (h0 : 0 < n) (hn : n ≤ 10000) : ∃ w H', Sim Tryz.prog 152 #[.slice none 0 0, .int .i64 (n : Nat)] H w H' ∧ Ext H H' ∧ w = .slice (some ⟨H.length, 0, none⟩) 0 0 ∧ Top H' H.length [] := by
  have d1 : ¬ (n : Int) < 0 := by omega
  have m1 : IntKind.i64.wrap (0 : Int) = 0 := by decide
  have m2 : IntKind.i64.wrap ((n : Int)) = (n : Int) := by rw [w64 (by omega) (by omega)]
  have d2 : 0 < (n : Int) := by omega
  have c1 : aCap tt [52] (.slice none 0 0) = some (.int .i64 0) := rfl
  have e1 : aLen tt [52] (.slice none 0 0) = some (.int .i64 0) := rfl
  have s1 : ∀ G, aSlice tt G 52 (.slice none 0 0) none (some (.int .i64 0)) none = some (.slice none 0 0) := fun _ => rfl
  have a1 : aAppend tt H [52, 3] (.slice none 0 0) (.int .i64 (n : Nat)) = some (.slice (some ⟨H.length, 0, none⟩) n 0, H ++ [⟨((List.replicate n rr0).map RR.cells).flatten, 6, true⟩]) := by
    rw [← zeros_rr]
    unfold aAppend
    simp only [tt52, tt90, tt3, srcLen, aAppMake, Int.toNat_natCast]
    rw [if_pos ⟨by decide, rfl, by decide, by decide, rfl, d2, by omega⟩]
    rfl
  have s2 : aSlice tt (H ++ [⟨((List.replicate n rr0).map RR.cells).flatten, 6, true⟩]) 52 (.slice (some ⟨H.length, 0, none⟩) n 0) none (some (.int .i64 0)) none = some (.slice (some ⟨H.length, 0, none⟩) 0 0) :=
    aSlice_at (s := 6) tt52 rfl ⟨_, by simp; rfl, rfl⟩ (by decide) (.inl rfl) (l := 0) (h := 0) rfl rfl (by omega) (by omega)
  have hE : Ext H (H ++ [⟨((List.replicate n rr0).map RR.cells).flatten, 6, true⟩]) := .app _ _
  have hT : Top (H ++ [⟨((List.replicate n rr0).map RR.cells).flatten, 6, true⟩]) H.length [] := ⟨List.replicate n rr0, OwnR.new _ _⟩
  generalize H ++ [(⟨((List.replicate n rr0).map RR.cells).flatten, 6, true⟩ : Blk)] = T at *
  refine sxA tok mixed Tryz.func152 ?_
  simp -implicitDefEqProofs only [go_sem, simprocAttr, wa_cond, axC_t, axC_f, wl_cap, d1, d2, m1, m2, Int.sub_zero, c1, e1, s1, a1, s2, res152]
  exact ⟨hE, hT⟩
theorem appendAny {T : Heap} {b L0 : Nat} {C m : List RR} {bx ix cx : Nat} (h : Top T b C) (hb : L0 ≤ b) (hx : ElAt 6 T bx ix cx (m.map RR.cells)) (hl : C.length + m.length ≤ 10000) :
    ∃ T' b'', aAppend tt T [52, 52] (.slice (some ⟨b, 0, none⟩) C.length 0) (.slice (some ⟨bx, ix, none⟩) m.length cx) = some (.slice (some ⟨b'', 0, none⟩) (C ++ m).length 0, T') ∧ L0 ≤ b'' ∧ Top T' b'' (C ++ m) ∧ ∀ H, H.length ≤ L0 → Ext H T → Ext H T' := by
  by_cases h0 : m = []
  · subst h0
    refine ⟨T, b, ?_, hb, by rw [List.append_nil]; exact h, fun _ _ h => h⟩
    have hr := hx.rdAll
    simp only [List.map_nil, List.length_nil, List.flatten_nil] at hr
    unfold aAppend
    simp only [tt52, tt90, srcLen, srcKind, srcCells, List.length_nil, hr]
    rw [if_pos ⟨by decide, trivial, by decide, by decide, fun h => absurd h (by omega)⟩, if_pos ⟨by simp, rfl⟩]
    simp
  · have := append_T h hx h0 (by omega)
    have hb' := h.lt
    refine ⟨_, T.length, by rw [List.length_append]; exact this, by omega, ?_, fun H hH hE => (hE.set (by omega) _).trans (.app _ _)⟩
    have h2 := OwnR.new (T.set b deadBlk) (C ++ m)
    rw [List.length_set] at h2
    exact OwnR.top h2
def RA (H : Heap) (v : Value) (l : List RR) : Prop := ∃ b i c, v = .slice (some ⟨b, i, none⟩) l.length c ∧ ElAt 6 H b i c (l.map RR.cells)
theorem RA.ext {H H' : Heap} {v : Value} {l : List RR} (h : RA H v l) (e : Ext H H') : RA H' v l := by
  obtain ⟨b, i, c, h1, h2⟩ := h
  exact ⟨b, i, c, h1, h2.ext e⟩
def catL (rows : List (Value × List RR)) : List RR := rows.flatMap (·.2)
theorem catL_snoc {rows : List (Value × List RR)} {i : Nat} (h : i < rows.length) : catL (rows.take (i + 1)) = catL (rows.take i) ++ rows[i].2 := by
  rw [← List.take_append_getElem h]
  unfold catL
  rw [List.flatMap_append]
  simp
theorem catL_le {rows : List (Value × List RR)} (i : Nat) : (catL (rows.take i)).length ≤ (catL rows).length := by
  conv => rhs; rw [← List.take_append_drop i rows]
  unfold catL
  rw [List.flatMap_append, List.length_append]
  omega
theorem ConcatP (H : Heap) {bb cc : Nat} {rows : List (Value × List RR)} (hb : H[bb]? = some ⟨rows.map (·.1), 1, true⟩) (hr : ∀ p ∈ rows, RA H p.1 p.2) (h0 : 0 < (catL rows).length) (hl : (catL rows).length ≤ 10000) (hrl : rows.length ≤ 10000) :
    ∃ w H', Sim Tryz.prog 92 #[.slice (some ⟨bb, 0, none⟩) rows.length cc] H w H' ∧ Ext H H' ∧ ∃ b', H.length ≤ b' ∧ w = .slice (some ⟨b', 0, none⟩) (catL rows).length 0 ∧ Top H' b' (catL rows) := by
  have e1 : aLen tt [151] (.slice (some ⟨bb, 0, none⟩) rows.length cc) = some (.int .i64 (rows.length : Nat)) := rfl
  have rdv : ∀ T, Ext H T → ∀ i (hi : i < rows.length), rd T bb (i * 1) 1 = some [rows[i].1] := by
    intro T hT i hi
    have := hT.get hb
    unfold rd
    rw [this]
    simp only [List.length_map]
    rw [if_pos ⟨by decide, by omega⟩, Nat.mul_one, List.take_one, List.head?_drop]
    simp [hi]
  refine sxA tok mixed Tryz.func92 ?_
  simp -implicitDefEqProofs only [go_sem, simprocAttr, e1]
  refine ax_midb (fun s T => s 0 = .slice (some ⟨bb, 0, none⟩) rows.length cc ∧ s 3 = .int .i64 ((catL rows).length : Nat) ∧ T = H) ?_ ?_
  · refine ax_loopx (fun (i : Nat) s T => s 0 = .slice (some ⟨bb, 0, none⟩) rows.length cc ∧ s 3 = .int .i64 ((catL (rows.take i)).length : Nat) ∧ s 9 = .slice (some ⟨bb, 0, none⟩) rows.length cc ∧ s 10 = .int .i64 (rows.length : Nat) ∧ s 11 = .int .i64 (i : Nat) ∧ i ≤ rows.length ∧ T = H) (fun i => rows.length - i) 0 ?_ ?_
    · simp -implicitDefEqProofs only [go_sem, simprocAttr]
      simp [catL]
    rintro i s T ⟨s0, s3, s9, s10, s11, hi, rfl⟩
    simp -implicitDefEqProofs only [go_sem, simprocAttr, s10, s11]
    refine ax_cond2 ?_
    simp only [ev_tmp, ev_const, ev_func, upd_at, put_some, put_none, bndB_bool, Nat.reduceEqDiff, if_true, if_false, ↓reduceIte, reduceCtorEq]
    refine ⟨fun hc0 => have hlt := of_decide_eq_true hc0; ?_, fun hc0 => have hlt := of_decide_eq_false hc0; ?_⟩
    · have hil : i < rows.length := by omega
      obtain ⟨b, i0, c, hv, hA⟩ := hr _ (List.getElem_mem hil)
      have r1 := rdv T (.refl _) i hil
      have hs := catL_snoc hil
      have hcl := catL_le (rows := rows) (i + 1)
      rw [hs, List.length_append] at hcl
      rw [hv] at r1
      have e2 : aLen tt [52] (.slice (some ⟨b, i0, none⟩) rows[i].2.length c) = some (.int .i64 (rows[i].2.length : Nat)) := rfl
      have m1 : IntKind.i64.wrap ((i : Int) + 1) = ((i + 1 : Nat) : Int) := by rw [w64 (by omega) (by omega)]; rfl
      have m2 : IntKind.i64.wrap (((catL (rows.take i)).length : Int) + (rows[i].2.length : Int)) = ((catL (rows.take (i + 1))).length : Int) := by rw [w64 (by omega) (by omega), hs, List.length_append]; omega
      have hnn : (0 : Int) ≤ (i : Int) := by omega
      have hlt2 : (i : Int) < (rows.length : Int) := by omega
      have d3 : ¬ ((catL (rows.take (i + 1))).length : Int) < 0 := by omega
      generalize rows[i].2.length = nn at *
      clear hs
      generalize hn1 : (catL (rows.take (i + 1))).length = n1 at *
      generalize (catL (rows.take i)).length = n2 at *
      simp -implicitDefEqProofs only [go_sem, simprocAttr, s0, s3, s9, s10, s11, aIndexAddr, hnn, hlt2, r1, e2, m2]
      simp -implicitDefEqProofs only [go_sem, simprocAttr, wa_cond, axC_t, axC_f, s0, s3, s9, s10, s11, m1, d3]
      exact ⟨i + 1, ⟨by rw [hn1], rfl, by omega⟩, by omega⟩
    · have : i = rows.length := by omega
      subst this
      rw [List.take_length] at s3
      simp -implicitDefEqProofs only [go_sem, simprocAttr, s0, s3]
  rintro s T ⟨s0, s3, rfl⟩
  obtain ⟨w1, T1, o1, hE1, rfl, hT1⟩ := GrowP T h0 hl
  simp -implicitDefEqProofs only [go_sem, simprocAttr, s0, s3]
  refine kl o1 ?_
  simp -implicitDefEqProofs only [go_sem, simprocAttr, s0, s3, e1]
  refine ax_loopx (fun (i : Nat) s T' => ∃ b', s 6 = .slice (some ⟨b', 0, none⟩) (catL (rows.take i)).length 0 ∧ s 25 = .slice (some ⟨bb, 0, none⟩) rows.length cc ∧ s 26 = .int .i64 (rows.length : Nat) ∧ s 27 = .int .i64 (i : Nat) ∧ i ≤ rows.length ∧ T.length ≤ b' ∧ Top T' b' (catL (rows.take i)) ∧ Ext T T') (fun i => rows.length - i) 0 ?_ ?_
  · simp -implicitDefEqProofs only [go_sem, simprocAttr]
    exact ⟨_, rfl, Nat.le_refl _, hT1, hE1⟩
  rintro i s T' ⟨b', s6, s25, s26, s27, hi, hb', htop, hE⟩
  simp -implicitDefEqProofs only [go_sem, simprocAttr, s26, s27]
  refine ax_cond2 ?_
  simp only [ev_tmp, ev_const, ev_func, upd_at, put_some, put_none, bndB_bool, Nat.reduceEqDiff, if_true, if_false, ↓reduceIte, reduceCtorEq]
  refine ⟨fun hc0 => have hlt := of_decide_eq_true hc0; ?_, fun hc0 => have hlt := of_decide_eq_false hc0; ?_⟩
  · have hil : i < rows.length := by omega
    obtain ⟨b, i0, c, hv, hA⟩ := (hr _ (List.getElem_mem hil)).ext hE
    have r1 := rdv T' hE i hil
    have hs := catL_snoc hil
    have hcl := catL_le (rows := rows) (i + 1)
    rw [hs, List.length_append] at hcl
    rw [hv] at r1
    obtain ⟨T2, b2, p1, p2, p3, p4⟩ := appendAny htop hb' hA (by omega)
    rw [← hs] at p1 p3
    have m1 : IntKind.i64.wrap ((i : Int) + 1) = ((i + 1 : Nat) : Int) := by rw [w64 (by omega) (by omega)]; rfl
    have hnn : (0 : Int) ≤ (i : Int) := by omega
    have hlt2 : (i : Int) < (rows.length : Int) := by omega
    have hE2 := p4 T (Nat.le_refl _) hE
    clear hcl hs hv hA
    generalize rows[i].2.length = nn at *
    generalize hn1 : (catL (rows.take (i + 1))).length = n1 at *
    generalize (catL (rows.take i)).length = n2 at *
    simp -implicitDefEqProofs only [go_sem, simprocAttr, s6, s25, s26, s27, aIndexAddr, hnn, hlt2, r1, p1, m1]
    exact ⟨i + 1, ⟨_, by rw [hn1], rfl, by omega, p2, p3, hE2⟩, by omega⟩
  · have : i = rows.length := by omega
    subst this
    rw [List.take_length] at s6 htop
    simp -implicitDefEqProofs only [go_sem, simprocAttr, s6, res92]
    exact ⟨hE, b', hb', rfl, htop⟩
end Go.Proofs.YthhmkaikopdmjaaGreat
namespace Go.Proofs.YthhmkaikopdmjaaGreat
open Go Go.Fw
structure Cvx (P : List Rot) : Prop where
  n3 : 3 ≤ P.length
  turn : ∀ i, 0 < ori (cy P i) (cy P (i + 1)) (cy P (i + 2))
  strict : ∀ i j, cy P j ≠ cy P i → cy P j ≠ cy P (i + 1) → 0 < ori (cy P i) (cy P (i + 1)) (cy P j)
  nd : P.Nodup
  ar : 0 ≤ areaR P
theorem Hl.cvx {S H : List Rot} (h : Hl S H) : Cvx H := ⟨h.n3, h.turn, fun i j a b => h.strict a b, h.nd, by have := h.area; grind⟩
theorem Cvx.map {H : List Rot} (h : Cvx H) {f : Rot → Rot} (hf : ∀ a b c, ori (f a) (f b) (f c) = ori a b c) (hi : ∀ a b, f a = f b → a = b) (hc : ∀ a b : Rot, (f a).cross (f b) = a.cross b) : Cvx (H.map f) := by
  have h0 : H ≠ [] := by intro e; have := h.n3; rw [e] at this; simp at this
  refine ⟨by rw [List.length_map]; exact h.n3, fun i => ?_, fun i j a b => ?_, ?_, by rw [area_map hc h0]; exact h.ar⟩
  · rw [cy_map h0, cy_map h0, cy_map h0, hf]; exact h.turn i
  · rw [cy_map h0, cy_map h0] at a b
    rw [cy_map h0, cy_map h0, cy_map h0, hf]
    exact h.strict i j (fun e => a (by rw [e])) (fun e => b (by rw [e]))
  · exact List.Pairwise.map f (fun a b hab e => hab (hi _ _ e)) h.nd
theorem cyG {l : List RR} (h0 : l ≠ []) (i : Nat) : cy (l.map RR.rot) i = (l.getD (i % l.length) rr0).rot := by
  have hi : i % l.length < l.length := Nat.mod_lt _ (List.length_pos_iff.2 h0)
  rw [← cy_mod, cy_lt (by rw [List.length_map]; exact hi), List.getElem_map]
  simp only [List.length_map]
  rw [getD_eq hi]
theorem Cvx.ne {P : List Rot} (h : Cvx P) {i j : Nat} (hij : i % P.length ≠ j % P.length) : cy P i ≠ cy P j := by
  have h0 : P ≠ [] := by intro e; have := h.n3; rw [e] at this; simp at this
  exact fun e => hij (nodup_cy h.nd h0 e)
theorem Cvx.corner {l : List RR} (h : Cvx (l.map RR.rot)) (i : Nat) (hi : i < l.length) : l.getD i rr0 ≠ l.getD (nextR l i) rr0 ∧ cmpQ (ori (l.getD (prevI l i) rr0).rot (l.getD i rr0).rot (l.getD (nextR l i) rr0).rot) 0 ≠ 0 := by
  have h3 := h.n3
  rw [List.length_map] at h3
  have h0 : l ≠ [] := by rintro rfl; simp at h3
  have e0 : (l.getD i rr0).rot = cy (l.map RR.rot) i := by rw [cyG h0, Nat.mod_eq_of_lt hi]
  have e1 : (l.getD (nextR l i) rr0).rot = cy (l.map RR.rot) (i + 1) := by rw [cyG h0]; rfl
  have e2 : (l.getD (prevI l i) rr0).rot = cy (l.map RR.rot) (i + l.length - 1) := by rw [cyG h0]; rfl
  constructor
  · intro e
    have e' := congrArg RR.rot e
    rw [e0, e1] at e'
    refine h.ne ?_ e'
    rw [List.length_map, Nat.mod_eq_of_lt hi]
    by_cases hl : i + 1 < l.length
    · rw [Nat.mod_eq_of_lt hl]; omega
    · have : i + 1 = l.length := by omega
      rw [this, Nat.mod_self]; omega
  · rw [e0, e1, e2]
    have ht := h.turn (i + l.length - 1)
    have a1 : i + l.length - 1 + 1 = i + l.length := by omega
    have a2 : i + l.length - 1 + 2 = i + 1 + l.length := by omega
    have c1 := cy_add (l.map RR.rot) i
    have c2 := cy_add (l.map RR.rot) (i + 1)
    rw [List.length_map] at c1 c2
    rw [a1, a2, c1, c2] at ht
    intro hz
    rw [cmp_zero] at hz
    rw [hz] at ht
    exact absurd ht (by decide)
theorem Cvx.apart {l : List RR} (h : Cvx (l.map RR.rot)) (i j : Nat) (hi : i < l.length) (hj : j < l.length) (hij : i + 2 ≤ j) (hne : ¬ (i = 0 ∧ j = l.length - 1)) :
    Apart (l.getD i rr0).rot (l.getD (nextR l i) rr0).rot (l.getD j rr0).rot (l.getD (nextR l j) rr0).rot := by
  have h3 := h.n3
  rw [List.length_map] at h3
  have h0 : l ≠ [] := by rintro rfl; simp at h3
  have e0 : (l.getD i rr0).rot = cy (l.map RR.rot) i := by rw [cyG h0, Nat.mod_eq_of_lt hi]
  have e1 : (l.getD (nextR l i) rr0).rot = cy (l.map RR.rot) (i + 1) := by rw [cyG h0]; rfl
  have f0 : (l.getD j rr0).rot = cy (l.map RR.rot) j := by rw [cyG h0, Nat.mod_eq_of_lt hj]
  have f1 : (l.getD (nextR l j) rr0).rot = cy (l.map RR.rot) (j + 1) := by rw [cyG h0]; rfl
  rw [e0, e1, f0, f1]
  have m0 : i % l.length = i := Nat.mod_eq_of_lt hi
  have m1 : (i + 1) % l.length = i + 1 := Nat.mod_eq_of_lt (by omega)
  have m2 : j % l.length = j := Nat.mod_eq_of_lt hj
  have m3 : (j + 1) % l.length ≠ i ∧ (j + 1) % l.length ≠ i + 1 ∧ (j + 1) % l.length ≠ j := by
    by_cases hl : j + 1 < l.length
    · rw [Nat.mod_eq_of_lt hl]; omega
    · have : j + 1 = l.length := by omega
      rw [this, Nat.mod_self]; omega
  have nn : ∀ a b, a % l.length ≠ b % l.length → cy (l.map RR.rot) a ≠ cy (l.map RR.rot) b := fun a b hab => h.ne (by rw [List.length_map]; exact hab)
  refine apart_of (h.strict i j (nn _ _ (by rw [m0, m2]; omega)) (nn _ _ (by rw [m1, m2]; omega))) (h.strict i (j + 1) (nn _ _ (by rw [m0]; exact m3.1)) (nn _ _ (by rw [m1]; exact m3.2.1))) (nn _ _ (by rw [m2]; exact fun e => m3.2.2 e.symm))
def CanRes (H H' : Heap) (l : List RR) (w : Value) : Prop := ∃ b' j, H.length ≤ b' ∧ j < l.length ∧ (∀ i (hi : i < l.length), ¬ (l[i]).rot.plt (l.getD j rr0).rot) ∧ w = .tuple #[.slice (some ⟨b', 0, none⟩) l.length 0, .int .i64 0] ∧ Top H' b' (l.drop j ++ l.take j)
theorem CanonicalP (H : Heap) {v : Value} {l : List RR} {k : Nat} (hv : RL H v l) (hl : l.length ≤ 64) (hle : ∀ r ∈ l, r.le k) (hk : k ≤ 3700) (hc : ∀ r ∈ l, r.can = true) (h : Cvx (l.map RR.rot)) :
    ∃ w H', Sim Tryz.prog 37 #[v] H w H' ∧ Ext H H' ∧ CanRes H H' l w := by
  have h3 := h.n3
  rw [List.length_map] at h3
  have h0 : l ≠ [] := by rintro rfl; simp at h3
  have e1 := hv.len (tt := tt) tt52
  have o1 := rcanonicalP H hv hle (by omega) (by omega)
  rw [List.all_eq_true.2 hc] at o1
  obtain ⟨w2, T2, o2, hE2, b2, hb2, rfl, hown⟩ := simplifyP H hv h3 (by omega) hle (by omega) h.corner
  have hrl := OwnR.rl hown
  obtain ⟨w3, T3, o3, hE3, rfl⟩ := crossingP T2 hrl h0 hl hle (by omega) h.apart
  have o4 := AreaP T3 (hrl.ext hE3) h0 hl hle hk
  have hsz : Fw.Sz (areaR (l.map RR.rot) / 2) 1000000 := by
    have hs := smR_sz (crs_sz h0 hle) l.length
    have s2 : Fw.Sz (2 : Rat) 3 := ⟨by decide, by decide⟩
    have e : areaR (l.map RR.rot) = smR (crs l) l.length := by
      unfold areaR
      rw [List.length_map]
      rfl
    rw [e]
    have hn : l.length * (4 * k + 5 + 1) ≤ 64 * (4 * k + 5 + 1) := Nat.mul_le_mul_right _ hl
    exact (hs.div s2 (by omega)).mono (by omega)
  have o5 := signQ T3 hsz.qv (by omega)
  have d5 : ¬ cmpQ (areaR (l.map RR.rot) / 2) 0 < 0 := by
    have := h.ar
    unfold cmpQ
    have h2 : (0 : Rat) ≤ areaR (l.map RR.rot) / 2 := by rw [Rat.div_def]; exact Rat.mul_nonneg this (by decide +kernel)
    rw [if_neg (by grind)]
    split <;> omega
  obtain ⟨w6, T6, o6, hE6, j, rfl, hj, hmin⟩ := firstP T3 (hrl.ext hE3) h0 (by omega) hle (by omega)
  have e2 : aLen tt [52] (.slice (some ⟨b2, 0, none⟩) l.length 0) = some (.int .i64 (l.length : Nat)) := rfl
  have hown6 : OwnR T6 b2 l := by
    obtain ⟨G, rfl⟩ := hE3
    obtain ⟨G', rfl⟩ := hE6
    exact Own.app (Own.app hown _) _
  have hA := Own.at hown6 (c := 0) (.inl rfl)
  have bj : ∀ d, bnd (some (.int .i64 (j : Nat))) d = some j := fun d => by simp [bnd]
  have s1 : aSlice tt T6 52 (.slice (some ⟨b2, 0, none⟩) l.length 0) (some (.int .i64 (j : Nat))) none none = some (.slice (some ⟨b2, 0 + j * 6, none⟩) (l.length - j) 0) := by
    have := aSlice_at (s := 6) (n := l.length) (i := 0) (c := 0) (hi := none) tt52 rfl ⟨_, hown6.blk, rfl⟩ (by decide) (.inl rfl) (l := j) (h := l.length) (bj _) rfl (by omega) (by omega)
    rw [Nat.zero_sub] at this
    exact this
  have s2 : aSlice tt T6 52 (.slice (some ⟨b2, 0, none⟩) l.length 0) none (some (.int .i64 (j : Nat))) none = some (.slice (some ⟨b2, 0 + 0 * 6, none⟩) (j - 0) 0) :=
    aSlice_at (s := 6) tt52 rfl ⟨_, hown6.blk, rfl⟩ (by decide) (.inl rfl) (l := 0) (h := j) rfl (bj _) (by omega) (by omega)
  simp only [Nat.zero_add, Nat.zero_mul, Nat.sub_zero] at s1 s2
  have k1 : RA T6 (.slice (some ⟨b2, j * 6, none⟩) (l.length - j) 0) (l.drop j) := ⟨b2, j * 6, 0, by rw [List.length_drop], by have := hA.dropR j (by omega); rw [Nat.zero_add, Nat.zero_sub] at this; exact this⟩
  have k2 : RA T6 (.slice (some ⟨b2, 0, none⟩) j 0) (l.take j) := ⟨b2, 0, 0, by rw [List.length_take, Nat.min_eq_left (by omega)], (Top.cut (M := l.drop j) (C := l.take j) ⟨[], by rw [List.append_nil, List.take_append_drop]; exact hown6⟩).at⟩
  have hlen : (l.drop j ++ l.take j).length = l.length := by simp; omega
  have hE7 : Ext T6 (T6 ++ [(⟨[.slice (some ⟨b2, j * 6, none⟩) (l.length - j) 0, .slice (some ⟨b2, 0, none⟩) j 0], 1, true⟩ : Blk)]) := .app _ _
  have row : aBuildSlice tt T6 151 2 [(0, .slice (some ⟨b2, j * 6, none⟩) (l.length - j) 0), (1, .slice (some ⟨b2, 0, none⟩) j 0)] = some (.slice (some ⟨T6.length, 0, none⟩) 2 2, T6 ++ [⟨[.slice (some ⟨b2, j * 6, none⟩) (l.length - j) 0, .slice (some ⟨b2, 0, none⟩) j 0], 1, true⟩]) := rfl
  obtain ⟨w8, T8, o8, hE8, b8, hb8, rfl, htop⟩ := ConcatP (T6 ++ [⟨[.slice (some ⟨b2, j * 6, none⟩) (l.length - j) 0, .slice (some ⟨b2, 0, none⟩) j 0], 1, true⟩]) (bb := T6.length) (cc := 2) (rows := [(.slice (some ⟨b2, j * 6, none⟩) (l.length - j) 0, l.drop j), (.slice (some ⟨b2, 0, none⟩) j 0, l.take j)])
    (by simp) (by
      intro p hp
      simp only [List.mem_cons, List.not_mem_nil, or_false] at hp
      rcases hp with rfl | rfl
      · exact k1.ext hE7
      · exact k2.ext hE7) (by simp [catL]; omega) (by simp [catL]; omega) (by simp)
  have ecat : catL [(Value.slice (some ⟨b2, j * 6, none⟩) (l.length - j) 0, l.drop j), (.slice (some ⟨b2, 0, none⟩) j 0, l.take j)] = l.drop j ++ l.take j := by simp [catL]
  rw [ecat] at o8 htop
  rw [hlen] at o8
  have hfin : Ext H T8 ∧ CanRes H T8 l (.tuple #[.slice (some ⟨b8, 0, none⟩) l.length 0, .int .i64 0]) :=
    ⟨hE2.trans (hE3.trans (hE6.trans (hE7.trans hE8))), b8, j, by have := (hE2.trans (hE3.trans (hE6.trans hE7))).len; omega, hj, hmin, rfl, htop⟩
  simp only [List.length_cons, List.length_nil, Nat.zero_add, Nat.reduceAdd] at o8
  have d1 : ¬ (64 : Int) < (l.length : Int) := by omega
  have d2 : ¬ (l.length : Int) < 3 := by omega
  clear k1 k2 hE7 htop ecat hlen hA hown6 hmin
  generalize T6 ++ [(⟨[.slice (some ⟨b2, j * 6, none⟩) (l.length - j) 0, .slice (some ⟨b2, 0, none⟩) j 0], 1, true⟩ : Blk)] = T7 at *
  generalize areaR (l.map RR.rot) / 2 = ar at *
  unfold mkQ qV at o4 o5
  refine sxA tok mixed Tryz.func37 ?_
  simp -implicitDefEqProofs only [go_sem, simprocAttr, wa_cond, axC_t, axC_f, e1, d1]
  refine kv o1 ?_
  simp -implicitDefEqProofs only [go_sem, simprocAttr, wa_cond, axC_t, axC_f, Bool.not_true]
  refine kl o2 ?_
  simp -implicitDefEqProofs only [go_sem, simprocAttr, wa_cond, axC_t, axC_f, e2, d2]
  refine kl o3 ?_
  simp -implicitDefEqProofs only [go_sem, simprocAttr, wa_cond, axC_t, axC_f]
  refine kv o4 ?_
  simp -implicitDefEqProofs only [go_sem, simprocAttr, wa_cond, axC_t, axC_f]
  refine kv o5 ?_
  simp -implicitDefEqProofs only [go_sem, simprocAttr, wa_cond, axC_t, axC_f, d5]
  refine kl o6 ?_
  simp -implicitDefEqProofs only [go_sem, simprocAttr, wa_cond, axC_t, axC_f]
  refine ax_quiet (by kernel_rfl) ?_
  simp -implicitDefEqProofs only [go_sem, simprocAttr, wa_cond, axC_t, axC_f, s1, s2, row]
  refine kf o8 (fun _ => hE8) ?_
  simp -implicitDefEqProofs only [go_sem, simprocAttr, wa_cond, axC_t, axC_f, res37]
  exact hfin
end Go.Proofs.YthhmkaikopdmjaaGreat
namespace Go.Proofs.YthhmkaikopdmjaaGreat
open Go Go.Fw
theorem vecOf (H : Heap) {a b : Int} (h1 : -9223372036854775808 ≤ a) (h2 : a < 9223372036854775808) (h3 : -9223372036854775808 ≤ b) (h4 : b < 9223372036854775808) :
    Sim Tryz.prog 78 #[.int .i64 a, .int .i64 b] H (RR.of ⟨(a : Rat), (b : Rat)⟩).val H := by
  refine flat_ex rfl ?_
  have o1 := fun H => ofN_sim H h1 h2
  have o2 := fun H => ofN_sim H h3 h4
  rw [RR.of_val]
  dsimp only
  unfold mkR
  unfold mkQ qV at o1 o2
  generalize (a : Rat) = x at *
  generalize (b : Rat) = y at *
  refine sxA tok mixed Tryz.func78 ?_
  simp -implicitDefEqProofs only [go_sem, simprocAttr, UU]
  refine kw (o1 _) ?_
  refine kw (o2 _) ?_
  simp -implicitDefEqProofs only [go_sem, simprocAttr, UU, res78]
  first | exact .app _ _ | exact ⟨.app _ _, rfl⟩ | exact .refl _ | exact ⟨.refl _, rfl⟩
theorem awRat (H : Heap) {n d : Int} (h1 : -9223372036854775808 ≤ n) (h2 : n < 9223372036854775808) (h3 : 0 < d) (h4 : d < 9223372036854775808) :
    Sim Tryz.prog 77 #[.int .i64 n, .int .i64 d] H (mkQ (Rat.divInt n d)) H := by
  refine flat_ex rfl ?_
  have o1 := fun H => ratioI_sim H h1 h2 (show -9223372036854775808 ≤ d by omega) h4
  rw [if_neg (show ¬ d = 0 by omega)] at o1
  generalize Rat.divInt n d = q at *
  unfold mkQ qV at o1 ⊢
  refine sxA tok mixed Tryz.func77 ?_
  simp -implicitDefEqProofs only [go_sem, simprocAttr, UU]
  refine kw (o1 _) ?_
  simp -implicitDefEqProofs only [go_sem, simprocAttr, UU, res77]
  first | exact .app _ _ | exact ⟨.app _ _, rfl⟩ | exact .refl _ | exact ⟨.refl _, rfl⟩
def awL : List RR := [RR.of ⟨((0 : Int) : Rat), ((0 : Int) : Rat)⟩, RR.of ⟨((5 : Int) : Rat), ((0 : Int) : Rat)⟩, RR.of ⟨((5 : Int) : Rat), ((5 : Int) : Rat)⟩, RR.of ⟨((0 : Int) : Rat), ((5 : Int) : Rat)⟩]
def awA : Rot := ⟨Rat.divInt 1 1, 0⟩
def awB : Rot := ⟨Rat.divInt 3 5, Rat.divInt 4 5⟩
def awH : List Rot := [⟨((-4 : Int) : Rat), ((3 : Int) : Rat)⟩, ⟨((0 : Int) : Rat), ((0 : Int) : Rat)⟩, ⟨((5 : Int) : Rat), ((0 : Int) : Rat)⟩, ⟨((5 : Int) : Rat), ((5 : Int) : Rat)⟩, ⟨Rat.divInt 5 2, Rat.divInt 15 2⟩, ⟨((-1 : Int) : Rat), ((7 : Int) : Rat)⟩]
theorem aw_arc : arcE (RR.of awA) (RR.of awB) awL = 0 := by decide +kernel
def awS : List Rot := (awL.map RR.rot).flatMap fun p => [awA.thn p, awB.thn p, corn awA awB p]
theorem aw_S : (sweptL awA awB awL).map RR.rot = awS := by decide +kernel
theorem aw_turn : ∀ i, i < 6 → 0 < ori (cy awH i) (cy awH (i + 1)) (cy awH (i + 2)) := by decide +kernel
theorem aw_edge : ∀ i, i < 6 → ∀ s ∈ awS, 0 ≤ ori (cy awH i) (cy awH (i + 1)) s := by decide +kernel
theorem aw_low : ∀ s ∈ awS, cy awH 0 = s ∨ (cy awH 0).plt s := by unfold Rot.plt; decide +kernel
theorem aw_sub : ∀ h ∈ awH, h ∈ awS := by decide +kernel
theorem aw_nd : awH.Nodup := by decide +kernel
theorem aw_hl : Hl awS awH := by
  have hm : ∀ i, i % awH.length < 6 := fun i => Nat.mod_lt _ (by decide)
  refine ⟨by decide, aw_sub, fun i s hs => ?_, fun i => ?_, aw_low, aw_nd⟩
  · have := aw_edge _ (hm i) s hs
    rw [cy_mod, cy_mod1] at this
    exact this
  · have := aw_turn _ (hm i)
    rw [cy_mod, cy_mod1, cy_mod1] at this
    exact this
theorem aw_le : (RR.of awA).le 200 ∧ (RR.of awB).le 200 ∧ ∀ p ∈ awL, p.le 200 := by
  have h : ∀ r : Rot, r.c.num.natAbs < 2 ^ 190 → r.c.den < 2 ^ 190 → r.s.num.natAbs < 2 ^ 190 → r.s.den < 2 ^ 190 → (RR.of r).le 200 := fun r a b c d => (Rot.Sz.le (k := 190) ⟨⟨a, b⟩, ⟨c, d⟩⟩).mono (by decide)
  refine ⟨h _ (by decide +kernel) (by decide +kernel) (by decide +kernel) (by decide +kernel), h _ (by decide +kernel) (by decide +kernel) (by decide +kernel) (by decide +kernel), fun p hp => ?_⟩
  simp only [awL, List.mem_cons, List.not_mem_nil, or_false] at hp
  rcases hp with rfl | rfl | rfl | rfl <;> exact h _ (by decide +kernel) (by decide +kernel) (by decide +kernel) (by decide +kernel)
theorem aw_hull {D : List RR} (hd : Dist (sweptL awA awB awL) D) : flatB D = false ∧ hullL D = awH.map RR.of := by
  have hf : flatB D = false := by
    cases h : flatB D
    · rfl
    · have h2 := (flat_iff hd).1 h (cy awH 0) (by rw [aw_S]; exact aw_sub _ (by decide +kernel)) (cy awH 1) (by rw [aw_S]; exact aw_sub _ (by decide +kernel)) (cy awH 2) (by rw [aw_S]; exact aw_sub _ (by decide +kernel))
      have := aw_turn 0 (by decide)
      rw [show (0 : Nat) + 1 = 1 from rfl, show (0 : Nat) + 2 = 2 from rfl, h2] at this
      exact absurd this (by decide)
  refine ⟨hf, ?_⟩
  have h1 := hull_hl hd hf
  rw [aw_S] at h1
  have h2 := h1.one aw_hl
  refine rr_ext (fun x hx => ?_) (fun x hx => ?_) ?_
  · have hm := (hd.mem x).1 (hullL_sub x hx)
    unfold sweptL at hm
    rw [List.mem_flatMap] at hm
    obtain ⟨p, _, hp⟩ := hm
    simp only [List.mem_cons, List.not_mem_nil, or_false] at hp
    rcases hp with rfl | rfl | rfl <;> exact can_of _
  · obtain ⟨p, _, rfl⟩ := List.mem_map.1 hx
    exact can_of _
  · rw [h2, List.map_map]
    simp [Function.comp_def, RR.of_rot]
theorem aw_buildL (H : Heap) : aBuildSlice tt H 52 4 [(0, (RR.of ⟨((0 : Int) : Rat), ((0 : Int) : Rat)⟩).val), (1, (RR.of ⟨((5 : Int) : Rat), ((0 : Int) : Rat)⟩).val), (2, (RR.of ⟨((5 : Int) : Rat), ((5 : Int) : Rat)⟩).val), (3, (RR.of ⟨((0 : Int) : Rat), ((5 : Int) : Rat)⟩).val)] =
    some (.slice (some ⟨H.length, 0, none⟩) 4 4, H ++ [⟨(awL.map RR.cells).flatten, 6, true⟩]) := rfl
theorem aw_buildH (H : Heap) : aBuildSlice tt H 52 6 [(0, (RR.of ⟨((-4 : Int) : Rat), ((3 : Int) : Rat)⟩).val), (1, (RR.of ⟨((0 : Int) : Rat), ((0 : Int) : Rat)⟩).val), (2, (RR.of ⟨((5 : Int) : Rat), ((0 : Int) : Rat)⟩).val), (3, (RR.of ⟨((5 : Int) : Rat), ((5 : Int) : Rat)⟩).val), (4, (RR.of ⟨Rat.divInt 5 2, Rat.divInt 15 2⟩).val), (5, (RR.of ⟨((-1 : Int) : Rat), ((7 : Int) : Rat)⟩).val)] =
    some (.slice (some ⟨H.length, 0, none⟩) 6 6, H ++ [⟨((awH.map RR.of).map RR.cells).flatten, 6, true⟩]) := rfl
end Go.Proofs.YthhmkaikopdmjaaGreat
namespace Go.Proofs.YthhmkaikopdmjaaGreat
open Go Go.Fw
theorem awA_val : (RR.of awA).val = .agg #[.bool (decide ((Rat.divInt 1 1).num < 0)), .string (bs (digB (Rat.divInt 1 1).num.natAbs)), .string (bs (denB (Rat.divInt 1 1).den)), .bool false, .string (bs []), .string (bs [])] := by
  rw [RR.of_val]
  unfold mkR awA
  have := mkQ_zero
  unfold mkQ at this
  obtain ⟨a, b, c⟩ := qV_inj.1 this
  dsimp only
  rw [a, b, c]
  rfl
theorem row_RL {T : Heap} {l : List RR} {n : Nat} (hn : n = l.length) : RL (T ++ [⟨(l.map RR.cells).flatten, 6, true⟩]) (.slice (some ⟨T.length, 0, none⟩) n n) l := by
  subst hn
  exact .inr ⟨T.length, 0, l.length, by rw [List.length_map], Own.at (OwnR.new T l) (.inr (by rw [List.length_map]; exact Nat.le_refl _))⟩
theorem awake46 (H : Heap) : Sim Tryz.prog 35 #[] H (.bool true) H := by
  refine flat_ex rfl ?_
  obtain ⟨la, lb, lp⟩ := aw_le
  obtain ⟨w, T, oA, hE, hout⟩ := ArcP (H ++ [⟨(awL.map RR.cells).flatten, 6, true⟩]) (v := .slice (some ⟨H.length, 0, none⟩) 4 4) (row_RL rfl) (by decide) la lb lp (by decide)
  rw [aw_arc] at hout
  rcases hout with ⟨h, _⟩ | ⟨_, D, hd, hout⟩
  · exact absurd rfl h
  rw [RR.of_rot, RR.of_rot] at hd
  obtain ⟨hf, hh⟩ := aw_hull hd
  rw [hf, hh] at hout
  rcases hout with ⟨h | h, _⟩ | ⟨_, _, b', hb', rfl, htop⟩
  · cases h
  · exact absurd h (by decide)
  have hlen : (awH.map RR.of).length = 6 := rfl
  have hrl := htop.rl
  rw [hlen] at oA hrl
  have oE := equalP (T ++ [⟨((awH.map RR.of).map RR.cells).flatten, 6, true⟩]) (hrl.ext (.app _ _)) (row_RL (n := 6) (T := T) (l := awH.map RR.of) rfl) (by decide)
  rw [decide_eq_true rfl] at oE
  have bL := aw_buildL H
  have bH := aw_buildH T
  have hE2 : Ext H (T ++ [⟨((awH.map RR.of).map RR.cells).flatten, 6, true⟩]) := (Ext.app _ _).trans (hE.trans (.app _ _))
  have v00 := fun H => vecOf H (a := 0) (b := 0) (by decide) (by decide) (by decide) (by decide)
  have v50 := fun H => vecOf H (a := 5) (b := 0) (by decide) (by decide) (by decide) (by decide)
  have v55 := fun H => vecOf H (a := 5) (b := 5) (by decide) (by decide) (by decide) (by decide)
  have v05 := fun H => vecOf H (a := 0) (b := 5) (by decide) (by decide) (by decide) (by decide)
  have v43 := fun H => vecOf H (a := -4) (b := 3) (by decide) (by decide) (by decide) (by decide)
  have v17 := fun H => vecOf H (a := -1) (b := 7) (by decide) (by decide) (by decide) (by decide)
  have r11 := fun H => awRat H (n := 1) (d := 1) (by decide) (by decide) (by decide) (by decide)
  have r35 := fun H => awRat H (n := 3) (d := 5) (by decide) (by decide) (by decide) (by decide)
  have r45 := fun H => awRat H (n := 4) (d := 5) (by decide) (by decide) (by decide) (by decide)
  have r52 := fun H => awRat H (n := 5) (d := 2) (by decide) (by decide) (by decide) (by decide)
  have r152 := fun H => awRat H (n := 15) (d := 2) (by decide) (by decide) (by decide) (by decide)
  have eB : (RR.of awB).val = .agg #[.bool (decide ((Rat.divInt 3 5).num < 0)), .string (bs (digB (Rat.divInt 3 5).num.natAbs)), .string (bs (denB (Rat.divInt 3 5).den)), .bool (decide ((Rat.divInt 4 5).num < 0)), .string (bs (digB (Rat.divInt 4 5).num.natAbs)), .string (bs (denB (Rat.divInt 4 5).den))] := rfl
  have eP : (RR.of ⟨Rat.divInt 5 2, Rat.divInt 15 2⟩).val = .agg #[.bool (decide ((Rat.divInt 5 2).num < 0)), .string (bs (digB (Rat.divInt 5 2).num.natAbs)), .string (bs (denB (Rat.divInt 5 2).den)), .bool (decide ((Rat.divInt 15 2).num < 0)), .string (bs (digB (Rat.divInt 15 2).num.natAbs)), .string (bs (denB (Rat.divInt 15 2).den))] := rfl
  rw [awA_val, eB] at oA
  rw [eP] at bH
  generalize (RR.of ⟨((0 : Int) : Rat), ((0 : Int) : Rat)⟩).val = p00 at *
  generalize (RR.of ⟨((5 : Int) : Rat), ((0 : Int) : Rat)⟩).val = p50 at *
  generalize (RR.of ⟨((5 : Int) : Rat), ((5 : Int) : Rat)⟩).val = p55 at *
  generalize (RR.of ⟨((0 : Int) : Rat), ((5 : Int) : Rat)⟩).val = p05 at *
  generalize (RR.of ⟨((-4 : Int) : Rat), ((3 : Int) : Rat)⟩).val = p43 at *
  generalize (RR.of ⟨((-1 : Int) : Rat), ((7 : Int) : Rat)⟩).val = p17 at *
  generalize Rat.divInt 1 1 = q11 at *
  generalize Rat.divInt 3 5 = q35 at *
  generalize Rat.divInt 4 5 = q45 at *
  generalize Rat.divInt 5 2 = q52 at *
  generalize Rat.divInt 15 2 = q152 at *
  clear hrl htop hE hd hh la lb lp eB eP
  generalize T ++ [(⟨((awH.map RR.of).map RR.cells).flatten, 6, true⟩ : Blk)] = T2 at *
  generalize H ++ [(⟨(awL.map RR.cells).flatten, 6, true⟩ : Blk)] = H1 at *
  unfold mkQ qV at r11 r35 r45 r52 r152
  refine sxA tok mixed Tryz.func35 ?_
  simp -implicitDefEqProofs only [go_sem, simprocAttr]
  refine kv (v00 _) ?_
  simp -implicitDefEqProofs only [go_sem, simprocAttr]
  refine kv (v50 _) ?_
  simp -implicitDefEqProofs only [go_sem, simprocAttr]
  refine kv (v55 _) ?_
  simp -implicitDefEqProofs only [go_sem, simprocAttr]
  refine kv (v05 _) ?_
  simp -implicitDefEqProofs only [go_sem, simprocAttr, bL]
  refine wl_callC 77 #[] (by simp -implicitDefEqProofs only [go_sem, simprocAttr]) _ (by simp -implicitDefEqProofs only [go_sem, simprocAttr]) (r11 _) ?_
  simp -implicitDefEqProofs only [go_sem, simprocAttr]
  refine wl_callC 77 #[] (by simp -implicitDefEqProofs only [go_sem, simprocAttr]) _ (by simp -implicitDefEqProofs only [go_sem, simprocAttr]) (r35 _) ?_
  simp -implicitDefEqProofs only [go_sem, simprocAttr]
  refine wl_callC 77 #[] (by simp -implicitDefEqProofs only [go_sem, simprocAttr]) _ (by simp -implicitDefEqProofs only [go_sem, simprocAttr]) (r45 _) ?_
  simp -implicitDefEqProofs only [go_sem, simprocAttr]
  refine kl oA ?_
  simp -implicitDefEqProofs only [go_sem, simprocAttr]
  refine kv (v43 _) ?_
  simp -implicitDefEqProofs only [go_sem, simprocAttr]
  refine kv (v00 _) ?_
  simp -implicitDefEqProofs only [go_sem, simprocAttr]
  refine kv (v50 _) ?_
  simp -implicitDefEqProofs only [go_sem, simprocAttr]
  refine kv (v55 _) ?_
  simp -implicitDefEqProofs only [go_sem, simprocAttr]
  refine wl_callC 77 #[] (by simp -implicitDefEqProofs only [go_sem, simprocAttr]) _ (by simp -implicitDefEqProofs only [go_sem, simprocAttr]) (r52 _) ?_
  simp -implicitDefEqProofs only [go_sem, simprocAttr]
  refine wl_callC 77 #[] (by simp -implicitDefEqProofs only [go_sem, simprocAttr]) _ (by simp -implicitDefEqProofs only [go_sem, simprocAttr]) (r152 _) ?_
  simp -implicitDefEqProofs only [go_sem, simprocAttr]
  refine kv (v17 _) ?_
  simp -implicitDefEqProofs only [go_sem, simprocAttr, bH]
  refine kv oE ?_
  simp -implicitDefEqProofs only [go_sem, simprocAttr, wa_cond, axC_t, axC_f, res35]
  exact hE2
end Go.Proofs.YthhmkaikopdmjaaGreat
namespace Go.Proofs.YthhmkaikopdmjaaGreat
open Go Go.Fw
theorem nodup_len {α : Type} [DecidableEq α] : ∀ {D l : List α}, D.Nodup → (∀ x ∈ D, x ∈ l) → D.length ≤ l.length := by
  intro D
  induction D with
  | nil => intro l _ _; simp
  | cons x D ih =>
    intro l hn hs
    rw [List.nodup_cons] at hn
    have hx := hs x (by simp)
    have h := ih (l := l.erase x) hn.2 (fun y hy => by
      have hne : y ≠ x := fun e => hn.1 (e ▸ hy)
      exact (List.mem_erase_of_ne hne).2 (hs y (by simp [hy])))
    rw [List.length_erase_of_mem hx] at h
    have := List.length_pos_of_mem hx
    simp only [List.length_cons]
    omega
theorem dist_len {l D : List RR} (hd : Dist l D) : D.length ≤ l.length :=
  nodup_len (hd.ord.imp fun {a b} h e => by rw [e] at h; exact plt_irrefl _ h) (fun x hx => (hd.mem x).1 hx)
theorem hullL_len {D : List RR} : (hullL D).length ≤ 2 * D.length := by
  unfold hullL
  have h1 := chainP_len D []
  have h2 := chainP_len D.reverse []
  simp only [List.length_append, List.length_dropLast, List.length_reverse, List.length_nil] at *
  omega
theorem chk_corner {l : List RR} (h : chkC l = 0) : ∃ a ∈ l, ∃ b ∈ l, ∃ c ∈ l, ori a.rot b.rot c.rot ≠ 0 := by
  unfold chkC at h
  split at h
  · cases h
  split at h
  · cases h
  split at h
  · cases h
  split at h
  · cases h
  rename_i h3 _ hlow hoff
  have hn : 3 ≤ l.length := by omega
  have low : ∀ i (hi : i < l.length), 0 < i → l[0] ≠ l[i] := by
    intro i hi h0 e
    refine hlow ?_
    unfold lowB
    rw [List.any_eq_true]
    refine ⟨l[i], ?_, ?_⟩
    · rw [List.mem_drop_iff_getElem]
      exact ⟨i - 1, by omega, by congr 1; omega⟩
    · rw [getD_eq (show 0 < l.length by omega), e, decide_eq_true_eq, pcmp_zero.2 rfl]
      exact Int.le_refl _
  refine ⟨l[1], List.getElem_mem _, l[2], List.getElem_mem _, l[0], List.getElem_mem _, fun hz => hoff ?_⟩
  unfold offA
  rw [List.any_eq_true]
  refine ⟨1, List.mem_range.2 (by omega), ?_⟩
  unfold offI
  rw [List.any_eq_true]
  refine ⟨l[0], List.getElem_mem _, ?_⟩
  have hx : nextR l 1 = 2 := by unfold nextR; exact Nat.mod_eq_of_lt (by omega)
  rw [hx, getD_eq (show 1 < l.length by omega), getD_eq (show 2 < l.length by omega)]
  unfold offE
  rw [hz, decide_eq_true (low 1 (by omega) (by omega)), decide_eq_true (low 2 (by omega) (by omega)), decide_eq_true (cmp_le.2 (Rat.le_refl))]
  rfl
theorem bad_ends {l D : List RR} {a b : Rot} (ha : a.ok) (hchk : chkC l = 0) (hd : Dist (endsL a b l) D) (hb : badH D) : 6 < l.length := by
  rcases hb with hf | h64
  · exfalso
    obtain ⟨x, hx, y, hy, z, hz, hne⟩ := chk_corner hchk
    have hm : ∀ p ∈ l, a.thn p.rot ∈ (endsL a b l).map RR.rot := fun p hp => by
      refine List.mem_map.2 ⟨RR.of (a.thn p.rot), ?_, RR.of_rot _⟩
      unfold endsL
      exact List.mem_flatMap.2 ⟨p, hp, by simp⟩
    have := (flat_iff hd).1 hf _ (hm x hx) _ (hm y hy) _ (hm z hz)
    rw [ori_turn ha] at this
    exact hne this
  · have h1 := dist_len hd
    have h2 := hullL_len (D := D)
    rw [endsL_len] at h1
    omega
theorem eq24_self (q : Rat) : aBin tt .eql 24 (.agg #[.bool (decide (q.num < 0)), .string (bs (digB q.num.natAbs)), .string (bs (denB q.den))]) (.agg #[.bool (decide (q.num < 0)), .string (bs (digB q.num.natAbs)), .string (bs (denB q.den))]) = some (.bool true) := by
  have e : aBin tt .eql 24 (.agg #[.bool (decide (q.num < 0)), .string (bs (digB q.num.natAbs)), .string (bs (denB q.den))]) (.agg #[.bool (decide (q.num < 0)), .string (bs (digB q.num.natAbs)), .string (bs (denB q.den))]) =
    some (.bool ((decide (q.num < 0) == decide (q.num < 0)) && ((bs (digB q.num.natAbs) == bs (digB q.num.natAbs)) && ((bs (denB q.den) == bs (denB q.den)) && true)))) := rfl
  rw [e]
  simp only [bs_beq]
  simp
theorem turn_le {l D : List RR} {a b c d r : RR} {k : Nat} (hd : Dist (sweptL a.rot b.rot l) D) (hr : r.rot.ok) (hc : c.rot = a.rot.thn r.rot) (hd' : d.rot = b.rot.thn r.rot) (lc : c.le k) (ld : d.le k) (ll : ∀ p ∈ l, p.le k) (hk : k ≤ 210) :
    ∀ x ∈ turnL r.rot (hullL D), x.le 2567 := by
  intro x hx
  obtain ⟨p, hp, rfl⟩ := List.mem_map.1 hx
  have hm := (hd.mem p).1 (hullL_sub p hp)
  have hin : r.rot.thn p.rot ∈ (sweptL c.rot d.rot l).map RR.rot := by
    rw [hc, hd', swept_turn hr]
    exact List.mem_map_of_mem (List.mem_map_of_mem hm)
  obtain ⟨q, hq, e⟩ := List.mem_map.1 hin
  obtain ⟨h1, h2⟩ := swept_le lc ld ll hk q hq
  rw [← e]
  have : RR.of q.rot = q := can_eq (can_of _) h2 (RR.of_rot _)
  rw [this]
  exact h1
theorem turn_cvx {l D : List RR} (hd : Dist l D) (hf : flatB D = false) {r : Rot} (hr : r.ok) : Cvx ((turnL r (hullL D)).map RR.rot) := by
  have hm : (turnL r (hullL D)).map RR.rot = ((hullL D).map RR.rot).map r.thn := by
    unfold turnL
    rw [List.map_map, List.map_map]
    congr 1
    funext p
    simp only [Function.comp, RR.of_rot]
  rw [hm]
  exact (Hl.cvx (hull_hl hd hf)).map (ori_turn hr) (fun a b h => thn_inj hr h) (cross_turn hr)
theorem thn_one (p : Rot) : (⟨1, 0⟩ : Rot).thn p = p := by
  cases p
  unfold Rot.thn
  simp only [Rot.mk.injEq]
  constructor <;> grind
theorem bad_same {l D D' : List RR} (hd : Dist l D) (hd' : Dist l D') : badH D' ↔ badH D := by
  refine bad_turn hd hd' (r := ⟨1, 0⟩) (by unfold Rot.ok; decide +kernel) ?_
  rw [List.map_map]
  refine List.map_congr_left fun x _ => ?_
  simp only [Function.comp, thn_one]
theorem exc_form {l : List RR} {a b : Rot} {w : Value} {D : List RR} (ha : a.ok) (hchk : chkC l = 0) (hd : Dist (sweptL a b l) D) (hg : ¬ badH D) (h : ExcOut 0 (sweptL a b l) (endsL a b l) w) : ∃ (q : Rat) (z : Int), w = .tuple #[mkQ q, .int .i64 z] ∧ (z = 0 ∨ (z = 4 ∧ 6 < l.length)) := by
  rcases h with ⟨h, _⟩ | ⟨_, D1, hd1, ⟨h, _⟩ | ⟨_, D2, hd2, ⟨h, rfl⟩ | ⟨_, rfl⟩⟩⟩
  · exact absurd rfl h
  · exact absurd ((bad_same hd hd1).1 h) hg
  · exact ⟨0, 4, rfl, .inr ⟨rfl, bad_ends ha hchk hd2 h⟩⟩
  · exact ⟨_, 0, rfl, .inl rfl⟩
end Go.Proofs.YthhmkaikopdmjaaGreat
namespace Go.Proofs.YthhmkaikopdmjaaGreat
open Go Go.Fw
theorem great46_parts {l : List RR} (h : great46B l = false) : l.length ≤ 66 ∧ ∀ p ∈ l, p.le 96 := by
  unfold great46B greatP lenBad13 at h
  simp only [Bool.or_eq_false_iff, decide_eq_false_iff_not, List.any_eq_false, Bool.not_eq_true] at h
  exact ⟨by omega, fun p hp => (RR.over_le (h.2.2 p hp)).mono (by decide)⟩
theorem sweptTurnedS (H : Heap) {v : Value} {l : List RR} (hv : RL H v l) (a b r : RR) : Sim Tryz.prog 9 #[v, a.val, b.val, r.val] H (.bool true) H := by
  refine flat_ex rfl ?_
  have aw := awake46
  obtain ⟨H0, hH0⟩ : ∃ H0, H0 = H ++ [(⟨a.cells, 1, true⟩ : Blk), ⟨b.cells, 1, true⟩, ⟨r.cells, 1, true⟩] := ⟨_, rfl⟩
  have hE0 : Ext H H0 := by rw [hH0]; exact .app _ _
  have o1 := great46 H0 (hv.ext hE0)
  have ra : ∀ T, Ext H0 T → rd T H.length 0 6 = some [.bool a.g, .string (bs a.n), .string (bs a.d), .bool a.g', .string (bs a.n'), .string (bs a.d')] := fun T hT => by
    unfold rd; rw [hT.get (by rw [hH0]; simp : H0[H.length]? = some ⟨a.cells, 1, true⟩)]; rfl
  have rb : ∀ T, Ext H0 T → rd T (H.length + 1) 0 6 = some [.bool b.g, .string (bs b.n), .string (bs b.d), .bool b.g', .string (bs b.n'), .string (bs b.d')] := fun T hT => by
    unfold rd; rw [hT.get (by rw [hH0]; simp : H0[H.length + 1]? = some ⟨b.cells, 1, true⟩)]; rfl
  have rr : ∀ T, Ext H0 T → rd T (H.length + 2) 0 6 = some [.bool r.g, .string (bs r.n), .string (bs r.d), .bool r.g', .string (bs r.n'), .string (bs r.d')] := fun T hT => by
    unfold rd; rw [hT.get (by rw [hH0]; simp : H0[H.length + 2]? = some ⟨r.cells, 1, true⟩)]; rfl
  have ra0 := ra H0 (.refl _)
  have rb0 := rb H0 (.refl _)
  have rr0' := rr H0 (.refl _)
  by_cases hg : great46B l = true
  · rw [hg] at o1
    clear ra rb rr
    unfold RR.cells at hH0
    unfold RR.val rV
    refine sxA tok mixed Tryz.func9 ?_
    simp -implicitDefEqProofs only [go_sem, simprocAttr]
    rw [← hH0]
    refine kv o1 ?_
    simp -implicitDefEqProofs only [go_sem, simprocAttr, wa_cond, axC_t, axC_f, Bool.true_or]
    refine kv (aw _) ?_
    simp -implicitDefEqProofs only [go_sem, simprocAttr, wa_cond, axC_t, axC_f, res9]
    exact hE0
  simp only [Bool.not_eq_true] at hg
  rw [hg] at o1
  obtain ⟨hl66, hle⟩ := great46_parts hg
  obtain ⟨H1, hH1⟩ : ∃ H1, H1 = H0 ++ [(⟨([a, b, r].map RR.cells).flatten, 6, true⟩ : Blk)] := ⟨_, rfl⟩
  have hE1 : Ext H0 H1 := by rw [hH1]; exact .app _ _
  have o2 := large46 H1 (v := .slice (some ⟨H0.length, 0, none⟩) 3 3) (l := [a, b, r]) (by rw [hH1]; exact row_RL rfl) (by simp)
  have row := build22_3 H0 (.bool a.g) (.string (bs a.n)) (.string (bs a.d)) (.bool a.g') (.string (bs a.n')) (.string (bs a.d')) (.bool b.g) (.string (bs b.n)) (.string (bs b.d)) (.bool b.g') (.string (bs b.n')) (.string (bs b.d')) (.bool r.g) (.string (bs r.n)) (.string (bs r.d)) (.bool r.g') (.string (bs r.n')) (.string (bs r.d'))
  have hrow : [(⟨([a, b, r].map RR.cells).flatten, 6, true⟩ : Blk)] = [⟨[.bool a.g, .string (bs a.n), .string (bs a.d), .bool a.g', .string (bs a.n'), .string (bs a.d'), .bool b.g, .string (bs b.n), .string (bs b.d), .bool b.g', .string (bs b.n'), .string (bs b.d'), .bool r.g, .string (bs r.n), .string (bs r.d), .bool r.g', .string (bs r.n'), .string (bs r.d')], 6, true⟩] := rfl
  rw [hrow] at hH1
  rw [← hH1] at row
  have rr1 := rr H1 hE1
  by_cases hlg : ([a, b, r].any fun x => x.over 6) = true
  · rw [hlg] at o2
    clear ra rb rr
    unfold RR.cells at hH0
    unfold RR.val rV
    refine sxA tok mixed Tryz.func9 ?_
    simp -implicitDefEqProofs only [go_sem, simprocAttr]
    rw [← hH0]
    refine kv o1 ?_
    simp -implicitDefEqProofs only [go_sem, simprocAttr, wa_cond, axC_t, axC_f, ra0, rb0, rr0', row]
    refine kv o2 ?_
    simp -implicitDefEqProofs only [go_sem, simprocAttr, wa_cond, axC_t, axC_f, Bool.true_or, Bool.false_or]
    refine kv (aw _) ?_
    simp -implicitDefEqProofs only [go_sem, simprocAttr, wa_cond, axC_t, axC_f, res9]
    exact hE0.trans hE1
  simp only [Bool.not_eq_true] at hlg
  rw [hlg] at o2
  simp only [List.any_cons, List.any_nil, Bool.or_false, Bool.or_eq_false_iff] at hlg
  have la : a.le 48 := RR.over_le hlg.1
  have lb : b.le 48 := RR.over_le hlg.2.1
  have lr : r.le 48 := RR.over_le hlg.2.2
  have o3 := checkR H1 lr (by decide)
  by_cases er : r.err = 0
  case neg =>
    clear ra rb rr
    unfold RR.cells at hH0
    generalize r.err = z at *
    unfold RR.val rV at *
    refine sxA tok mixed Tryz.func9 ?_
    simp -implicitDefEqProofs only [go_sem, simprocAttr]
    rw [← hH0]
    refine kv o1 ?_
    simp -implicitDefEqProofs only [go_sem, simprocAttr, wa_cond, axC_t, axC_f, ra0, rb0, rr0', row]
    refine kv o2 ?_
    simp -implicitDefEqProofs only [go_sem, simprocAttr, wa_cond, axC_t, axC_f, Bool.true_or, Bool.false_or, rr1]
    refine kv o3 ?_
    simp -implicitDefEqProofs only [go_sem, simprocAttr, wa_cond, axC_t, axC_f, Bool.false_or, er]
    refine kv (aw _) ?_
    simp -implicitDefEqProofs only [go_sem, simprocAttr, wa_cond, axC_t, axC_f, res9]
    exact hE0.trans hE1
  rw [er] at o3
  obtain ⟨w2, T1, o4, hE2, hout⟩ := ArcP H1 (hv.ext (hE0.trans hE1)) (by omega) (la.mono (show 48 ≤ 210 by decide)) (lb.mono (show 48 ≤ 210 by decide)) (fun p hp => (hle p hp).mono (by decide)) (by decide)
  have ra1 := ra H1 hE1
  have rb1 := rb H1 hE1
  have hE01 := hE1.trans hE2
  have hbad : (∃ z : Int, z ≠ 0 ∧ w2 = .tuple #[.slice none 0 0, .int .i64 z]) ∨ (arcE a b l = 0 ∧ ∃ D, Dist (sweptL a.rot b.rot l) D ∧ flatB D = false ∧ (hullL D).length ≤ 64 ∧ ∃ b', H1.length ≤ b' ∧ w2 = .tuple #[.slice (some ⟨b', 0, none⟩) (hullL D).length 0, .int .i64 0] ∧ Top T1 b' (hullL D)) := by
    rcases hout with ⟨h, hw⟩ | ⟨h, D, hd, ⟨_, hw⟩ | ⟨hf, h64, b', hb', hw, ht⟩⟩
    · exact .inl ⟨_, h, hw⟩
    · exact .inl ⟨4, by decide, hw⟩
    · exact .inr ⟨h, D, hd, hf, h64, b', hb', hw, ht⟩
  clear hout
  rcases hbad with ⟨z, hz, rfl⟩ | ⟨hz, D, hd, hf, h64, b1, hb1, rfl, htop⟩
  · clear ra rb rr
    unfold RR.cells at hH0
    unfold RR.val rV at *
    refine sxA tok mixed Tryz.func9 ?_
    simp -implicitDefEqProofs only [go_sem, simprocAttr]
    rw [← hH0]
    refine kv o1 ?_
    simp -implicitDefEqProofs only [go_sem, simprocAttr, wa_cond, axC_t, axC_f, ra0, rb0, rr0', row]
    refine kv o2 ?_
    simp -implicitDefEqProofs only [go_sem, simprocAttr, wa_cond, axC_t, axC_f, Bool.true_or, Bool.false_or, rr1]
    refine kv o3 ?_
    simp -implicitDefEqProofs only [go_sem, simprocAttr, wa_cond, axC_t, axC_f, Bool.false_or, ra1, rb1]
    refine kl o4 ?_
    simp -implicitDefEqProofs only [go_sem, simprocAttr, wa_cond, axC_t, axC_f, hz]
    refine kv (aw _) ?_
    simp -implicitDefEqProofs only [go_sem, simprocAttr, wa_cond, axC_t, axC_f, res9]
    exact hE0.trans hE01
  obtain ⟨hchk, ea, eb, ht⟩ := arcE_zero hz
  have aok := (RR.err_zero.1 ea).2
  have bok := (RR.err_zero.1 eb).2
  have rok := (RR.err_zero.1 er).2
  have hgood : ¬ badH D := by
    rintro (h | h)
    · rw [hf] at h; cases h
    · omega
  have o5 := fun T => ThenR T la lr (by decide)
  have o6 := fun T => ThenR T lb lr (by decide)
  simp only [ea, eb, er, ne_eq, not_true_eq_false, or_self, if_false] at o5 o6
  have ec : (RR.of (a.rot.thn r.rot)).err = 0 := by rw [RR.err_of, if_pos (Rot.thn_ok aok rok)]
  have ed : (RR.of (b.rot.thn r.rot)).err = 0 := by rw [RR.err_of, if_pos (Rot.thn_ok bok rok)]
  have lc : (RR.of (a.rot.thn r.rot)).le 210 := (la.sz.thn lr.sz).le.mono (by decide)
  have ld : (RR.of (b.rot.thn r.rot)).le 210 := (lb.sz.thn lr.sz).le.mono (by decide)
  have hc := RR.of_rot (a.rot.thn r.rot)
  have hd0 := RR.of_rot (b.rot.thn r.rot)
  generalize RR.of (a.rot.thn r.rot) = c at *
  generalize RR.of (b.rot.thn r.rot) = d at *
  have ll : ∀ p ∈ l, p.le 210 := fun p hp => (hle p hp).mono (by decide)
  have hz' : arcE c d l = 0 := arcE_turn rok hz ec ed hc hd0
  obtain ⟨T2, hT2⟩ : ∃ T2, T2 = T1 ++ [(⟨c.cells, 1, true⟩ : Blk), ⟨d.cells, 1, true⟩] := ⟨_, rfl⟩
  have hE12 : Ext T1 T2 := by rw [hT2]; exact .app _ _
  have hE02 := hE01.trans hE12
  obtain ⟨w3, T3, o7, hE3, hout⟩ := ArcP T2 (hv.ext (hE0.trans hE02)) (by omega) lc ld ll (by decide)
  rw [hz'] at hout
  have et := swept_turn rok a.rot b.rot l
  rw [← hc, ← hd0] at et
  obtain ⟨D', hd', b3, hb3, rfl, htop3⟩ : ∃ D', Dist (sweptL c.rot d.rot l) D' ∧ ∃ b', T2.length ≤ b' ∧ w3 = .tuple #[.slice (some ⟨b', 0, none⟩) (hullL D').length 0, .int .i64 0] ∧ Top T3 b' (hullL D') := by
    rcases hout with ⟨h, _⟩ | ⟨_, D', hd', ⟨h, _⟩ | ⟨_, _, b', hb', hw, ht⟩⟩
    · exact absurd rfl h
    · exact absurd ((bad_turn hd hd' rok et).1 h) hgood
    · exact ⟨D', hd', b', hb', hw, ht⟩
  clear hout
  have hlD : ∀ p ∈ hullL D, p.le 2567 := fun p hp => (swept_le (la.mono (show 48 ≤ 210 by decide)) (lb.mono (show 48 ≤ 210 by decide)) ll (by decide) p ((hd.mem p).1 (hullL_sub p hp))).1
  have hrl3 := htop.rl.ext (hE12.trans hE3)
  obtain ⟨w4, T4, o8, hE4, hstk⟩ := turnedP T3 hrl3 (by omega) (lr.mono (show 48 ≤ 2567 by decide)) hlD (by decide) er
  have htl : (turnL r.rot (hullL D)).length = (hullL D).length := by simp [turnL]
  have htc : ∀ x ∈ turnL r.rot (hullL D), x.can = true := fun x hx => by
    obtain ⟨p, _, rfl⟩ := List.mem_map.1 hx
    exact can_of _
  obtain ⟨w5, T5, o9, hE5, b5, j, hb5, hj, hmin, rfl, htop5⟩ := CanonicalP T4 hstk.rl (by omega) (turn_le hd rok hc hd0 lc ld ll (by decide)) (by decide) htc (turn_cvx hd hf rok)
  have hsame := arc_turn hd hd' (fun x hx => (swept_le lc ld ll (by decide) x hx).2) hf rok et (by rw [← htl]; exact hj) hmin
  rw [← hsame] at htop5
  have hlen5 : (turnL r.rot (hullL D)).length = (hullL D').length := by rw [hsame]; simp; omega
  rw [hlen5] at o9
  have hE35 := hE3.trans (hE4.trans hE5)
  have hE05 := hE02.trans hE35
  obtain ⟨w6, T6, oa, hE6, hex⟩ := ExcessP T5 (hv.ext (hE0.trans hE05)) (by omega) (la.mono (show 48 ≤ 210 by decide)) (lb.mono (show 48 ≤ 210 by decide)) ll (by decide)
  rw [hz] at hex
  obtain ⟨q, z, rfl, hzz⟩ := exc_form aok hchk hd hgood hex
  obtain ⟨T7, hT7⟩ : ∃ T7, T7 = T6 ++ [(⟨qC q, 1, true⟩ : Blk)] := ⟨_, rfl⟩
  have hE67 : Ext T6 T7 := by rw [hT7]; exact .app _ _
  have hE07 := hE05.trans (hE6.trans hE67)
  obtain ⟨w8, T8, ob, hE8, hex'⟩ := ExcessP T7 (hv.ext (hE0.trans hE07)) (by omega) lc ld ll (by decide)
  rw [hz'] at hex'
  have e2t := ends_turn r.rot a.rot b.rot l
  rw [← hc, ← hd0] at e2t
  obtain rfl := exc_turn hex hex' rok et e2t
  obtain ⟨T9, hT9⟩ : ∃ T9, T9 = T8 ++ [(⟨qC q, 1, true⟩ : Blk)] := ⟨_, rfl⟩
  have hE89 : Ext T8 T9 := by rw [hT9]; exact .app _ _
  have hE09 := hE07.trans (hE8.trans hE89)
  have oc := SameP T9 (htop3.rl.ext (hE4.trans (hE5.trans (hE6.trans (hE67.trans (hE8.trans hE89)))))) (htop5.rl.ext (hE6.trans (hE67.trans (hE8.trans hE89)))) (by omega)
  rw [decide_eq_true rfl] at oc
  have rc : ∀ T, Ext T2 T → rd T T1.length 0 6 = some [.bool c.g, .string (bs c.n), .string (bs c.d), .bool c.g', .string (bs c.n'), .string (bs c.d')] := fun T hT => by
    unfold rd; rw [hT.get (by rw [hT2]; simp : T2[T1.length]? = some ⟨c.cells, 1, true⟩)]; rfl
  have rd' : ∀ T, Ext T2 T → rd T (T1.length + 1) 0 6 = some [.bool d.g, .string (bs d.n), .string (bs d.d), .bool d.g', .string (bs d.n'), .string (bs d.d')] := fun T hT => by
    unfold rd; rw [hT.get (by rw [hT2]; simp : T2[T1.length + 1]? = some ⟨d.cells, 1, true⟩)]; rfl
  have x1 := ra T1 hE01
  have x2 := rr T1 hE01
  have x3 : ∀ B, rd (T1 ++ B) (H.length + 1) 0 6 = _ := fun B => rb _ (hE01.trans (.app _ _))
  have x4 : ∀ B, rd (T1 ++ B) (H.length + 2) 0 6 = _ := fun B => rr _ (hE01.trans (.app _ _))
  have x5 := rc T2 (.refl _)
  have x6 := rd' T2 (.refl _)
  have x7 := rr T3 (hE02.trans hE3)
  have x8 := ra T5 hE05
  have x9 := rb T5 hE05
  have y1 := rc T7 (hE35.trans (hE6.trans hE67))
  have y2 := rd' T7 (hE35.trans (hE6.trans hE67))
  have y3 : rd T9 T6.length 0 3 = some (qC q) := by
    unfold rd; rw [(hE8.trans hE89).get (by rw [hT7]; simp : T7[T6.length]? = some ⟨qC q, 1, true⟩)]; rfl
  have y4 : rd T9 T8.length 0 3 = some (qC q) := by
    unfold rd; rw [hT9]; simp [qC]
  have e1 : aLen tt [52] v = some (.int .i64 (l.length : Nat)) := hv.len tt52
  have eqq := eq24_self q
  have hfin := hE0.trans hE09
  clear ra rb rr rc rd' hex hex' htop htop3 htop5 hstk hmin hsame hd hd' hlD et e2t hrl3 htl htc hE0 hE01 hE02 hE05 hE07 hE09 hE1 hE2 hE3 hE4 hE5 hE6 hE8 hE12 hE35 hE67 hE89
  unfold RR.cells at hH0 hT2
  unfold qC at hT7 hT9 y3 y4
  unfold mkQ qV at oa ob
  generalize hullL D' = L' at *
  generalize (hullL D).length = nD at *
  generalize turnL r.rot (hullL D) = L5 at *
  unfold RR.val rV at *
  refine sxA tok mixed Tryz.func9 ?_
  simp -implicitDefEqProofs only [go_sem, simprocAttr]
  rw [← hH0]
  refine kv o1 ?_
  simp -implicitDefEqProofs only [go_sem, simprocAttr, wa_cond, axC_t, axC_f, ra0, rb0, rr0', row]
  refine kv o2 ?_
  simp -implicitDefEqProofs only [go_sem, simprocAttr, wa_cond, axC_t, axC_f, Bool.true_or, Bool.false_or, rr1]
  refine kv o3 ?_
  simp -implicitDefEqProofs only [go_sem, simprocAttr, wa_cond, axC_t, axC_f, Bool.false_or, ra1, rb1]
  refine kl o4 ?_
  simp -implicitDefEqProofs only [go_sem, simprocAttr, wa_cond, axC_t, axC_f, x1, x2]
  refine kv (o5 _) ?_
  simp -implicitDefEqProofs only [go_sem, simprocAttr, wa_cond, axC_t, axC_f, x3, x4]
  refine kv (o6 _) ?_
  simp -implicitDefEqProofs only [go_sem, simprocAttr, wa_cond, axC_t, axC_f]
  rw [← hT2]
  refine kl o7 ?_
  simp -implicitDefEqProofs only [go_sem, simprocAttr, wa_cond, axC_t, axC_f, x7]
  refine kl o8 ?_
  simp -implicitDefEqProofs only [go_sem, simprocAttr, wa_cond, axC_t, axC_f]
  refine kl o9 ?_
  simp -implicitDefEqProofs only [go_sem, simprocAttr, wa_cond, axC_t, axC_f, x8, x9]
  refine kl oa ?_
  simp -implicitDefEqProofs only [go_sem, simprocAttr, wa_cond, axC_t, axC_f]
  rw [← hT7]
  simp -implicitDefEqProofs only [go_sem, simprocAttr, wa_cond, axC_t, axC_f, y1, y2]
  refine kl ob ?_
  simp -implicitDefEqProofs only [go_sem, simprocAttr, wa_cond, axC_t, axC_f]
  rw [← hT9]
  rcases hzz with rfl | ⟨rfl, h6⟩
  · simp -implicitDefEqProofs only [go_sem, simprocAttr, wa_cond, axC_t, axC_f, e1]
    refine kv oc ?_
    simp -implicitDefEqProofs only [go_sem, simprocAttr, wa_cond, axC_t, axC_f, y3, y4, eqq]
    refine kv (aw _) ?_
    simp -implicitDefEqProofs only [go_sem, simprocAttr, wa_cond, axC_t, axC_f, res9]
    exact hfin
  · have d6 : (6 : Int) < (l.length : Int) := by omega
    simp -implicitDefEqProofs only [go_sem, simprocAttr, wa_cond, axC_t, axC_f, e1, d6]
    refine kv oc ?_
    simp -implicitDefEqProofs only [go_sem, simprocAttr, wa_cond, axC_t, axC_f, y3, y4, eqq]
    refine kv (aw _) ?_
    simp -implicitDefEqProofs only [go_sem, simprocAttr, wa_cond, axC_t, axC_f, res9]
    exact hfin
end Go.Proofs.YthhmkaikopdmjaaGreat
namespace Go.Proofs.YthhmkaikopdmjaaGreat
open Go Go.Fw Go.ChangeShapes Go.WideShapes Go.ChangeAt Go.RowKit Go.Deep
set_option linter.unusedVariables false
set_option maxRecDepth 100000
theorem own : ownKnob Tryz.prog.godebug = none := by kernel_rfl
theorem laid : laidOutB Tryz.prog = true := by kernel_rfl
theorem cells24 : Tryz.prog.cellsOf 24 = 3 := by kernel_rfl
theorem cells26 : Tryz.prog.cellsOf 26 = 6 := by kernel_rfl
theorem cells90 : Tryz.prog.cellsOf 90 = 6 := by kernel_rfl
theorem cells4 : Tryz.prog.cellsOf 4 = 1 := by kernel_rfl
theorem cells9 : Tryz.prog.cellsOf 9 = 1 := by kernel_rfl
theorem under4 : Tryz.prog.underlying 4 = some .bool := Tryz.underlying4
theorem under9 : Tryz.prog.underlying 9 = some .string := Tryz.underlying9
section
variable {H : Type} {enc : TypeId × Value → H} {w : World} {base : Nat} {spare : Nat → Bool} {held : Bool}
theorem open_rat {n : Nat} {cs : List Value} {x : DataW H × List MemPlace} (h : DataW.trod enc Tryz.prog w base spare held n 24 cs = some x) : ∃ g a b, cs = [.bool g, .string (bs a), .string (bs b)] := by
  obtain ⟨xs, m, _, _, hl, _, hf⟩ := DataW.trod_struct Tryz.underlying24 h
  rw [cells24] at hl
  match cs, hl with
  | [v0, v1, v2], _ =>
    have f0 : DataW.trod enc Tryz.prog w base spare held m 4 (([v0, v1, v2].drop 0).take (Tryz.prog.cellsOf 4)) = xs[0]? := hf 0 _ rfl
    have f1 : DataW.trod enc Tryz.prog w base spare held m 9 (([v0, v1, v2].drop 1).take (Tryz.prog.cellsOf 9)) = xs[1]? := hf 1 _ rfl
    have f2 : DataW.trod enc Tryz.prog w base spare held m 9 (([v0, v1, v2].drop 2).take (Tryz.prog.cellsOf 9)) = xs[2]? := hf 2 _ rfl
    rw [cells4] at f0
    rw [cells9] at f1 f2
    simp only [List.drop_zero, List.drop_succ_cons, List.take_succ_cons, List.take_zero] at f0 f1 f2
    have e0 : ∃ y, DataW.trod enc Tryz.prog w base spare held m 4 [v0] = some y := by rw [f0]; exact ⟨_, List.getElem?_eq_getElem (by simp_all)⟩
    have e1 : ∃ y, DataW.trod enc Tryz.prog w base spare held m 9 [v1] = some y := by rw [f1]; exact ⟨_, List.getElem?_eq_getElem (by simp_all)⟩
    have e2 : ∃ y, DataW.trod enc Tryz.prog w base spare held m 9 [v2] = some y := by rw [f2]; exact ⟨_, List.getElem?_eq_getElem (by simp_all)⟩
    obtain ⟨y0, e0⟩ := e0
    obtain ⟨y1, e1⟩ := e1
    obtain ⟨y2, e2⟩ := e2
    obtain ⟨g, h0, _⟩ := DataW.trod_bool under4 e0
    obtain ⟨s1, h1, _, _⟩ := DataW.trod_string under9 e1
    obtain ⟨s2, h2, _, _⟩ := DataW.trod_string under9 e2
    injection h0 with h0
    injection h1 with h1
    injection h2 with h2
    subst h0 h1 h2
    exact ⟨g, bl s1, bl s2, by rw [bs_bl, bs_bl]⟩
theorem open_rot {n : Nat} {cs : List Value} {x : DataW H × List MemPlace} (h : DataW.trod enc Tryz.prog w base spare held n 26 cs = some x) : ∃ r : RR, cs = r.cells := by
  obtain ⟨xs, m, _, _, hl, hxl, hf⟩ := DataW.trod_struct Tryz.underlying26 h
  rw [cells26] at hl
  match cs, hl with
  | [v0, v1, v2, v3, v4, v5], _ =>
    have f0 : DataW.trod enc Tryz.prog w base spare held m 24 (([v0, v1, v2, v3, v4, v5].drop 0).take (Tryz.prog.cellsOf 24)) = xs[0]? := hf 0 _ rfl
    have f1 : DataW.trod enc Tryz.prog w base spare held m 24 (([v0, v1, v2, v3, v4, v5].drop 3).take (Tryz.prog.cellsOf 24)) = xs[1]? := hf 1 _ rfl
    rw [cells24] at f0 f1
    simp only [List.drop_zero, List.drop_succ_cons, List.take_succ_cons, List.take_zero] at f0 f1
    have e0 : ∃ y, DataW.trod enc Tryz.prog w base spare held m 24 [v0, v1, v2] = some y := by rw [f0]; exact ⟨_, List.getElem?_eq_getElem (by simp_all)⟩
    have e1 : ∃ y, DataW.trod enc Tryz.prog w base spare held m 24 [v3, v4, v5] = some y := by rw [f1]; exact ⟨_, List.getElem?_eq_getElem (by simp_all)⟩
    obtain ⟨y0, e0⟩ := e0
    obtain ⟨y1, e1⟩ := e1
    obtain ⟨g, a, b, h0⟩ := open_rat e0
    obtain ⟨g', a', b', h1⟩ := open_rat e1
    simp only [List.cons.injEq, and_true] at h0 h1
    obtain ⟨rfl, rfl, rfl⟩ := h0
    obtain ⟨rfl, rfl, rfl⟩ := h1
    exact ⟨⟨g, a, b, g', a', b'⟩, rfl⟩
theorem open_pt {n : Nat} {cs : List Value} {x : DataW H × List MemPlace} (h : DataW.trod enc Tryz.prog w base spare held n 90 cs = some x) : ∃ r : RR, cs = r.cells := by
  obtain ⟨xs, m, _, _, hl, hxl, hf⟩ := DataW.trod_struct Tryz.underlying90 h
  rw [cells90] at hl
  match cs, hl with
  | [v0, v1, v2, v3, v4, v5], _ =>
    have f0 : DataW.trod enc Tryz.prog w base spare held m 24 (([v0, v1, v2, v3, v4, v5].drop 0).take (Tryz.prog.cellsOf 24)) = xs[0]? := hf 0 _ rfl
    have f1 : DataW.trod enc Tryz.prog w base spare held m 24 (([v0, v1, v2, v3, v4, v5].drop 3).take (Tryz.prog.cellsOf 24)) = xs[1]? := hf 1 _ rfl
    rw [cells24] at f0 f1
    simp only [List.drop_zero, List.drop_succ_cons, List.take_succ_cons, List.take_zero] at f0 f1
    have e0 : ∃ y, DataW.trod enc Tryz.prog w base spare held m 24 [v0, v1, v2] = some y := by rw [f0]; exact ⟨_, List.getElem?_eq_getElem (by simp_all)⟩
    have e1 : ∃ y, DataW.trod enc Tryz.prog w base spare held m 24 [v3, v4, v5] = some y := by rw [f1]; exact ⟨_, List.getElem?_eq_getElem (by simp_all)⟩
    obtain ⟨y0, e0⟩ := e0
    obtain ⟨y1, e1⟩ := e1
    obtain ⟨g, a, b, h0⟩ := open_rat e0
    obtain ⟨g', a', b', h1⟩ := open_rat e1
    simp only [List.cons.injEq, and_true] at h0 h1
    obtain ⟨rfl, rfl, rfl⟩ := h0
    obtain ⟨rfl, rfl, rfl⟩ := h1
    exact ⟨⟨g, a, b, g', a', b'⟩, rfl⟩
end
theorem vr_cells {ρ : Inj} (r : RR) : ∀ (i : Nat) (v : Value), r.cells[i]? = some v → VR ρ v v := by
  intro i v h
  unfold RR.cells at h
  match i with
  | 0 => cases h; exact .bool _
  | 1 => cases h; exact .str _
  | 2 => cases h; exact .str _
  | 3 => cases h; exact .bool _
  | 4 => cases h; exact .str _
  | 5 => cases h; exact .str _
  | i + 6 => cases h
theorem vr_rot (ρ : Inj) (r : RR) : VR ρ r.val r.val := by
  refine .agg _ _ rfl fun i h1 h2 => ?_
  exact vr_cells r i _ (by rw [← List.getElem?_toArray]; exact Array.getElem?_eq_getElem h1)
theorem arg_rot {H : Type} {enc : TypeId × Value → H} {w : World} {base : Nat} {spare : Nat → Bool} {held : Bool} {r : Reach} {b0 : Nat} {v : Value} {d : DataW H} {ps : List MemPlace} (hv : Value.okWide Tryz.prog w r b0 26 v) (h : DataW.Trod enc Tryz.prog w base spare held 26 v d ps) : ∃ x : RR, v = x.val := by
  obtain ⟨n, h⟩ := h
  simp only [Value.okWide, Tryz.underlying26] at hv
  obtain ⟨cs, rfl, _⟩ := hv
  obtain ⟨x, hx⟩ := open_rot h
  refine ⟨x, ?_⟩
  have : cs.toList = x.cells := hx
  show Value.agg cs = _
  unfold RR.val rV
  rw [← Array.toArray_toList (xs := cs), this]
  rfl
def Safe (ρ : Inj) (H : Heap) : Prop := ∀ b p B, ρ b = some (.lies p) → H[b]? = some B → B.own = false
theorem below_of {ρ ρ' : Inj} {H H' : Heap} {W W' : World} (hs : Safe ρ H) (s : Step ρ H W ρ' H' W') : Below W.heap.size W W' :=
  ⟨s.frame.os, s.frame.tape, s.frame.output, s.frame.size, fun k hk => s.frame.block k hk (fun ⟨b, p, B, h1, h2, h3, _⟩ => by rw [hs b p B h1 h2] at h3; cases h3)⟩
theorem mem_nil (W : World) : Mem (fun _ => Option.none) [] W :=
  ⟨(fun b h => absurd rfl h), (fun b h => by cases h), (fun b p h => by cases h), (fun b b' p p' B _ h => by cases h)⟩
theorem flat_get : ∀ {l : List RR} {i : Nat} {v : Value}, (l.map RR.cells).flatten[i]? = some v → ∃ j, ∃ h : j < l.length, ∃ q, q < 6 ∧ i = j * 6 + q ∧ l[j].cells[q]? = some v := by
  intro l
  induction l with
  | nil => intro i v h; simp at h
  | cons r l ih =>
    intro i v h
    simp only [List.map_cons, List.flatten_cons] at h
    by_cases hi : i < 6
    · rw [List.getElem?_append_left (by rw [RR.cells_len]; exact hi)] at h
      exact ⟨0, by simp, i, hi, by omega, h⟩
    · rw [List.getElem?_append_right (by rw [RR.cells_len]; omega), RR.cells_len] at h
      obtain ⟨j, hj, q, hq, e, hv⟩ := ih h
      exact ⟨j + 1, by simpa using hj, q, hq, by omega, hv⟩
theorem choose_below {n : Nat} {α : Type} (d : α) {p : Nat → α → Prop} (h : ∀ i, i < n → ∃ a, p i a) : ∃ f : Nat → α, ∀ i, i < n → p i (f i) :=
  ⟨fun i => if hi : i < n then (h i hi).choose else d, fun i hi => by simp only [dif_pos hi]; exact (h i hi).choose_spec⟩
theorem arg_pts {H : Type} {enc : TypeId × Value → H} {W : World} {base : Nat} {held : Bool} {r : Reach} {b0 : Nat} {v : Value} {d : DataW H} {ps : List MemPlace} (hv : Value.okWide Tryz.prog W r b0 52 v)
    (h : DataW.Trod enc Tryz.prog W base (fun _ => true) held 52 v d ps) : ∃ (ρ : Inj) (T : Heap) (u : Value) (l : List RR), Mem ρ T W ∧ Safe ρ T ∧ VR ρ u v ∧ RL T u l := by
  obtain ⟨n, h⟩ := h
  obtain ⟨a, len, cap, rfl⟩ := okWide_slice Tryz.underlying52 hv
  rcases open_slice Tryz.underlying52 h with ⟨hcs, _⟩ | ⟨a, len, cap, m, n, D, Pl, hcs, hb, hl, hm, hmm, _, hx⟩
  · simp [Value.cells] at hcs
    obtain ⟨rfl, rfl, rfl⟩ := hcs
    exact ⟨_, [], .slice none 0 0, [], mem_nil W, (fun b p B h => by cases h), .nilslice, .inl ⟨.inl rfl, rfl⟩⟩
  · simp [Value.cells] at hcs
    obtain ⟨rfl, rfl, rfl⟩ := hcs
    simp only [if_true] at hmm
    subst hmm
    rw [cells90] at hx
    by_cases hc : m = 0
    · subst hc
      obtain rfl : len = 0 := by omega
      refine ⟨fun b => if b = 0 then some .dead else none, [deadBlk], .slice (some ⟨0, 0, none⟩) 0 0, [], ⟨fun b h => ?_, fun b h => ?_, fun b p h => ?_, fun b b' p p' B _ h => ?_⟩, fun b p B h => ?_, .sliceNone _ _ _ (by simp), .inl ⟨.inr ⟨_, _, _, rfl⟩, rfl⟩⟩
      · by_cases h0 : b = 0
        · subst h0; simp
        · simp [h0] at h
      · by_cases h0 : b = 0
        · subst h0; rfl
        · simp [h0] at h
      · by_cases h0 : b = 0 <;> simp [h0] at h
      · by_cases h0 : b = 0 <;> simp [h0] at h
      · by_cases h0 : b = 0 <;> simp [h0] at h
    · obtain ⟨f, hf⟩ := choose_below (⟨false, [], [], false, [], []⟩ : RR) (p := fun i r => W.cells? base (a.add (i * 6)) 6 = some r.cells) (fun i hi => by
        obtain ⟨cs', h1, h2⟩ := hx i hi
        obtain ⟨r, hr⟩ := open_pt h2
        exact ⟨r, by rw [h1, hr]⟩)
      have hcell : ∀ j, j < m → ∀ q, q < 6 → W.cell? (a.add (j * 6 + q)) = (f j).cells[q]? := fun j hj q hq => by
        obtain ⟨_, _, h3⟩ := World.cells?_some (hf j hj)
        have := h3 q hq
        rw [← this, add_add]
      have h00 := hcell 0 (by omega) 0 (by decide)
      have hsp : a.spot = none ∧ a.block < W.heap.size := by
        simp only [Nat.zero_mul, Nat.zero_add] at h00
        have e : (f 0).cells[0]? = some (.bool (f 0).g) := rfl
        rw [e] at h00
        unfold World.cell? at h00
        split at h00
        · rename_i c _ _ hb
          constructor
          · by_cases h1 : a.spot.isSome = true
            · have : (a.add 0).spot = a.spot := rfl
              rw [this, if_pos h1] at h00; cases h00
            · simpa using h1
          · have : (a.add 0).block = a.block := rfl
            rw [this] at hb
            exact (Array.getElem?_eq_some_iff.1 hb).1
        · cases h00
      obtain ⟨blk, off, spot⟩ := a
      simp only at hsp
      obtain ⟨rfl, hlt⟩ := hsp
      have hll : ((List.range len).map f).length = len := by simp
      have hfl : (((List.range len).map f).map RR.cells).flatten.length = len * 6 := by
        rw [flatten_len (RR.cells_all _)]; simp; omega
      refine ⟨fun b => if b = 0 then some (.lies ⟨blk, off, len * 6, 6⟩) else none, [⟨(((List.range len).map f).map RR.cells).flatten, 6, false⟩], .slice (some ⟨0, 0, none⟩) len m, (List.range len).map f,
        ⟨fun b h => ?_, fun b h => ?_, fun b p h => ?_, fun b b' p p' B hne h h' => ?_⟩, fun b p B h hB => ?_, ?_, ?_⟩
      · by_cases h0 : b = 0
        · subst h0; simp
        · simp [h0] at h
      · by_cases h0 : b = 0 <;> simp [h0] at h
      · by_cases h0 : b = 0
        · subst h0
          simp only [if_true, Option.some.injEq, Spot.lies.injEq] at h
          subst h
          refine ⟨_, rfl, hlt, rfl, (show 0 < 6 by decide), by rw [hfl]; exact Nat.le_refl _, fun i v hv => ?_, (fun h => by cases h), (fun h => by cases h), (fun h => by cases h)⟩
          obtain ⟨j, hj, q, hq, rfl, hv2⟩ := flat_get hv
          rw [hll] at hj
          have := hcell j (by omega) q hq
          simp only [List.getElem_map, List.getElem_range] at hv2
          rw [hv2, add_plain] at this
          exact ⟨v, this, vr_cells _ _ _ hv2⟩
        · simp [h0] at h
      · by_cases h0 : b = 0
        · by_cases h1 : b' = 0
          · exact absurd (h0.trans h1.symm) hne
          · simp [h1] at h'
        · simp [h0] at h
      · by_cases h0 : b = 0
        · subst h0; cases hB; rfl
        · simp [h0] at h
      · have := VR.slice (ρ := fun b => if b = 0 then some (.lies ⟨blk, off, len * 6, 6⟩) else none) 0 0 len m ⟨blk, off, len * 6, 6⟩ m rfl hl (.inr rfl) (fun h => absurd h hc)
        simpa using this
      · refine .inr ⟨0, 0, m, by simp, .inr (by simpa using hl), by decide, RR.cells_all _, ⟨_, rfl, rfl, ?_, ?_⟩, RR.cells_ok _⟩
        · rw [hfl]; simp; omega
        · simp only [List.drop_zero, List.length_map, List.length_range]
          exact List.take_of_length_le (by rw [hfl]; omega)
end Go.Proofs.YthhmkaikopdmjaaGreat
