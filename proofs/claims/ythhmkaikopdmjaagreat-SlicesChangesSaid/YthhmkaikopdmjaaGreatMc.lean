/- A range over a function, at the abstract machine: the machine does the same; Functions that hold a range over a function; Rows of elements of several cells; Iterators: walking; Sorting by insertion, in plain lists; Calls whose arguments are walked by themselves; Rotations in cyclic order: what Between says; Sorting in plain lists: exchanges, what stays within a part, heaps; A row of rotations: what a place holds; an exchange; The middle between two rotations; the cyclic order; Rows that are in place: overlaps, spare room, an insertion; Rows that are in place: a deletion. Conditions: none. -/
import Derived.Test.YthhmkaikopdmjaaGreatMb
import Derived.Laws.Externs
import Derived.Lib.Overlaps
set_option linter.unusedSimpArgs false
set_option linter.unusedVariables false
namespace Go.Fw
open Go
section
variable {P : Program} {tt : TT} {m n : Nat} {ds : List Deferred}
def Marks (B : Nat) (ds : List Deferred) (ρ : Inj) (H : Heap) (W : World) : Prop :=
  ∃ ks : List Nat, ds = ks.map (fun k => { target := .collected k, args := #[] }) ∧ ks.Nodup ∧ ∀ k ∈ ks, B ≤ k ∧ W.heap[k]? = some (.deferred (some [])) ∧ ¬ Owned ρ H k
theorem Marks.step {B : Nat} {ρ ρ' : Inj} {H H' : Heap} {W W' : World} (h : Marks B ds ρ H W) (s : Step ρ H W ρ' H' W') : Marks B ds ρ' H' W' := by
  obtain ⟨ks, h1, h2, h3⟩ := h
  refine ⟨ks, h1, h2, fun k hk => ?_⟩
  obtain ⟨g1, g2, g3⟩ := h3 k hk
  have hlt := (Array.getElem?_eq_some_iff.1 g2).1
  exact ⟨g1, (s.frame.block k hlt g3).trans g2, fun ho => g3 (s.owned k hlt ho)⟩
theorem putPs_rel {ρ : Inj} : ∀ (ps : List Tmp) (as AS : List Value) (s : Slots) (tmps : Array Value), (∀ t, VR ρ (s t) (tmps.getD t undef)) → (∀ p ∈ ps, p < tmps.size) → VRl ρ as AS →
    (∀ t, VR ρ (putPs s ps as t) (((ps.zip AS).foldl (fun T (x : Tmp × Value) => T.setIfInBounds x.1 x.2) tmps).getD t undef)) ∧ ((ps.zip AS).foldl (fun T (x : Tmp × Value) => T.setIfInBounds x.1 x.2) tmps).size = tmps.size := by
  intro ps
  induction ps with
  | nil => intro as AS s tmps h _ _; exact ⟨by simpa [putPs] using h, rfl⟩
  | cons p ps ih =>
    intro as AS s tmps h hp hA
    obtain ⟨hl, hv⟩ := hA
    cases as with
    | nil =>
      cases AS with
      | nil => exact ⟨by simpa [putPs] using h, rfl⟩
      | cons _ _ => simp at hl
    | cons a as =>
      cases AS with
      | nil => simp at hl
      | cons A AS =>
        have hput := put_rel (a := { tmps := tmps, defers := [] }) h (dst := some p) (fun d hd => by cases hd; exact hp p (by simp)) (hv 0 (by simp) (by simp))
        simp only [List.getElem_cons_zero, Act.put] at hput
        have := ih as AS (s.put (some p) a) (tmps.setIfInBounds p A) hput (fun q hq => by simpa using hp q (by simp [hq])) ⟨by simpa using hl, fun i h1 h2 => by
          have := hv (i + 1) (by simp; omega) (by simp; omega)
          simp only [List.getElem_cons_succ] at this
          exact this⟩
        refine ⟨this.1, ?_⟩
        rw [List.zip_cons_cons, List.foldl_cons, this.2]; simp
theorem range_sound {f : Operand} {ps : Array Tmp} {x y : Code} {QC : Exit → Act → World → Prop} {s : Slots} {H H' : Heap} {ρ : Inj} {a : Act} {W : World} {g : FuncId} {cap : Array Value} {B : Nat} (hT : TOK P tt) (hmix : P.follows .mixedOrders = true)
    (hf : constOk f = true) (hps : ∀ p ∈ ps.toList, p < n) (hx : codeOk n x = true) (hy : codeOk n y = true) (he : ev s f = .func (.func g) #[] cap) (hI : SimY P g (YR tt P s ps x y) cap H H') (hR : Rel n ds ρ s H a W) (hB : B ≤ W.heap.size) (hmk : Marks B ds ρ H W)
    (hn : ∀ a' ρ' W' ds', Rel n ds' ρ' s H' a' W' → Marks B ds' ρ' H' W' → Step ρ H W ρ' H' W' → QC .normal a' W') : (Code.rangeFunc f ps x y).wpIn (FW none) m P QC a W := by
  obtain ⟨⟨fg, hfg, hname, hbody⟩, hI⟩ := hI
  refine wpIn_rangeFunc ?_
  intro fn hfn
  obtain ⟨rc, hrec⟩ : ∃ rc : Loop, rc = { state := .ready, pending := none, fn, tmps := a.tmps, params := ps, assign := x, body := y, defers := W.heap.size } := ⟨_, rfl⟩
  obtain ⟨W0, hW0⟩ : ∃ W0 : World, W0 = { W with heap := W.heap.push (.deferred (some [])) } := ⟨_, rfl⟩
  obtain ⟨W1, hW1⟩ : ∃ W1 : World, W1 = { W0 with heap := W0.heap.push (.loop rc) } := ⟨_, rfl⟩
  have s0 : Step ρ H W ρ H W0 := by rw [hW0]; exact Step.push hR.mem rfl
  have s1 : Step ρ H W0 ρ H W1 := by rw [hW1]; exact Step.push s0.mem rfl
  have z0 : W0.heap.size = W.heap.size + 1 := by rw [hW0]; simp
  have z1 : W1.heap.size = W.heap.size + 2 := by rw [hW1]; simp [z0]
  have hL1 : W1.heap[W.heap.size + 1]? = some (.loop rc) := by rw [hW1]; simp only [Array.getElem?_push]; rw [if_pos z0.symm]
  have hD1 : W1.heap[W.heap.size]? = some (.deferred (some [])) := by
    rw [hW1]; simp only [Array.getElem?_push]; rw [if_neg (by omega), hW0]; simp
  have hnew : ∀ k, W.heap.size ≤ k → ¬ Owned ρ H k := by
    rintro k hk ⟨b, p, B, h1, h2, _, rfl⟩
    obtain ⟨B', h3, l⟩ := hR.mem.lies b p h1
    have := l.old
    omega
  have hev := ev_rel hR.slots hf
  rw [he] at hev
  obtain ⟨X', CAP, hX⟩ := hev.func_inv
  rw [hX] at hev
  have hXC : X' = #[] ∧ VRs ρ cap CAP := by
    cases hev with
    | func _ _ _ _ _ h1 h2 h3 h4 => exact ⟨Array.eq_empty_of_size_eq_zero (by simpa using h1.symm), h2, h4⟩
  obtain ⟨rfl, hC⟩ := hXC
  let X : Inj → Heap → World → Prop := fun ρ' H' W' => W'.heap[W.heap.size + 1]? = some (.loop rc) ∧ W'.heap[W.heap.size]? = some (.deferred (some [])) ∧ ¬ Owned ρ' H' (W.heap.size + 1) ∧ ¬ Owned ρ' H' W.heap.size ∧ ρ.Le ρ'
  have hst : ∀ {ρ H W ρ' H' W'}, X ρ H W → Step ρ H W ρ' H' W' → X ρ' H' W' := by
    rintro ρ1 H1 W1 ρ2 H2 W2 ⟨g1, g2, g3, g4, g5⟩ s
    have l1 := (Array.getElem?_eq_some_iff.1 g1).1
    have l2 := (Array.getElem?_eq_some_iff.1 g2).1
    exact ⟨(s.frame.block _ l1 g3).trans g1, (s.frame.block _ l2 g4).trans g2, fun ho => g3 (s.owned _ l1 ho), fun ho => g4 (s.owned _ l2 ho), g5.trans s.le⟩
  have hX1 : X ρ H W1 := ⟨hL1, hD1, hnew _ (by omega), hnew _ (by omega), .refl _⟩
  have hround : ∀ as H1 H2, YR tt P s ps x y as H1 H2 → ∀ m ρ W2 ARGS, Mem ρ H1 W2 → X ρ H1 W2 → VRs ρ as ARGS → YieldAt (FW none) m P (W.heap.size + 1) ARGS W2 fun e W' => ∃ ρ', e = .returned (.bool true) ∧ Step ρ H1 W2 ρ' H2 W' := by
    rintro as H1 H2 ⟨hsz, hax⟩ m ρ2 W2 ARGS hM hX hA
    obtain ⟨g1, g2, g3, g4, g5⟩ := id hX
    have hy' := run_yield (P := P) (args := ARGS) g1 (by rw [hrec, ← hsz]; exact hA.1.symm)
    refine ⟨_, _, _, _, hy', ?_⟩
    rw [hrec]
    simp only
    refine roundIn_of_wpIn (F := FW none) trivial ?_
    have hAl : VRl ρ2 as.toList ARGS.toList := ⟨by simpa using hA.1, fun i h1 h2 => by simpa using hA.2 i (by simpa using h1) (by simpa using h2)⟩
    have hpr := putPs_rel ps.toList as.toList ARGS.toList s a.tmps (fun t => (hR.slots t).mono g5) (fun p hp => by rw [hR.size]; exact hps p hp) hAl
    have hfold : (Array.foldl (fun (tmps : Array Value) (x : Tmp × Value) => tmps.setIfInBounds x.1 x.2) a.tmps (ps.zip ARGS)) = ((ps.toList.zip ARGS.toList).foldl (fun T (x : Tmp × Value) => T.setIfInBounds x.1 x.2) a.tmps) := by
      rw [← Array.foldl_toList, Array.toList_zip]
    have hRel : Rel n [] ρ2 (putPs s ps.toList as.toList) H1 { tmps := (ps.zip ARGS).foldl (fun (tmps : Array Value) (x : Tmp × Value) => tmps.setIfInBounds x.1 x.2) a.tmps, defers := [] } W2 := by
      refine ⟨hM, ?_, rfl, ?_⟩
      · rw [hfold, hpr.2]; exact hR.size
      · intro t; rw [hfold]; exact hpr.1 t
    refine ax_sound (r := some (W.heap.size + 1)) (m := m) (ds := []) (snd_sim P _) hT hmix x hx hax trivial hRel ?_
    intro e s3 H3 a3 ρ3 W3 hQ hR3 hs3
    cases e with
    | exit id => exact hQ.elim
    | ret => exact hQ.elim
    | normal =>
      obtain ⟨k1, k2, k3, k4, k5⟩ := hst hX hs3
      refine ⟨_, run_beginRound k1 (by rw [hrec]), ?_⟩
      have hMb := hR3.mem.put (o' := .loop { rc with state := .busy }) k1 rfl rfl
      refine ax_sound (r := some (W.heap.size + 1)) (m := m) (ds := []) (snd_sim P _) hT hmix y hy hQ trivial ⟨hMb, hR3.size, hR3.defers, hR3.slots⟩ ?_
      rintro e s4 H4 a4 ρ4 W4 ⟨rfl, rfl⟩ hR4 hs4
      have hl4 : W4.heap[W.heap.size + 1]? = some (.loop { rc with state := .busy }) := by
        have hlt := (Array.getElem?_eq_some_iff.1 k1).1
        rw [hs4.frame.block _ (by rw [World.putObj_size]; exact hlt) k3]
        exact World.putObj_heap_same hlt
      have hend := run_endRound (P := P) none hl4
      refine ⟨_, _, hend, ρ4, rfl, ?_⟩
      have e1 : ({ { rc with state := .busy } with state := if (none : Option Code).isNone then .ready else .done, pending := none } : Loop) = rc := by rw [hrec]; rfl
      rw [e1]
      exact hs3.trans (hs4.sand k1 rfl rfl k3)
  have hc := hI (W.heap.size + 1) X hst hround (m - 1) ρ W1 CAP s1.mem hX1 hC
  have hname' : ¬ fg.name = "runtime.NumGoroutine" := by simpa using hname
  have hbody' : ¬ fg.body = none := fun e => by rw [e] at hbody; cases hbody
  refine ⟨W.heap.size + 1, [{ target := .collected W.heap.size, args := #[] }], W1, { target := .fn (.func g) CAP, args := #[.func (.yield (W.heap.size + 1)) #[] #[]] }, W1, g,
    #[.func (.yield (W.heap.size + 1)) #[] #[]] ++ CAP, W1, ?_, ?_, fun _ _ => trivial, ?_, fun hd => by simp [FW, Fence.wide] at hd, ?_⟩
  · have := run_enterLoop_outer (P := P) (w := W) fn a.tmps ps x y
    rw [hW1, hW0, hrec]
    exact this
  · simp only [resolve, hX]
    simp [go_sem, Deferred.ofValue]
  · simp [invoke, callFunc, hfg, hname', hbody', program, Sem.run]
  · refine hc.mono ?_
    rintro e W2 ⟨V, ρ2, rfl, hs2⟩
    obtain ⟨k1, k2, k3, k4, k5⟩ := hst hX1 hs2
    have hend := run_endLoop (P := P) k1 (by rw [hrec]; simp)
    have e1 : rc.pending = none := by rw [hrec]
    rw [e1] at hend
    refine ⟨none, _, hend, ?_⟩
    have hs02 := (s0.trans s1).trans hs2
    have hfin := hs02.put_new (k := W.heap.size + 1) (o' := .loop { rc with state := .exhausted }) (by omega) k1 rfl rfl
    have hD : (W2.putObj (W.heap.size + 1) (.loop { rc with state := .exhausted })).heap[W.heap.size]? = some (.deferred (some [])) := (World.putObj_heap_other (by omega)).trans k2
    rw [e1] at hfin hD
    refine hn _ ρ2 _ _ ⟨hfin.mem, hR.size, rfl, fun t => (hR.slots t).mono k5⟩ ?_ hfin
    obtain ⟨ks, q1, q2, q3⟩ := hmk.step hfin
    refine ⟨W.heap.size :: ks, by rw [List.map_cons, ← q1, hR.defers]; rfl, List.nodup_cons.2 ⟨fun hmem => ?_, q2⟩, ?_⟩
    · obtain ⟨ks', p1, p2, p3⟩ := hmk
      have hkk : ks = ks' := by
        have : ks.map (fun k => ({ target := .collected k, args := #[] } : Deferred)) = ks'.map (fun k => { target := .collected k, args := #[] }) := by rw [← q1, ← p1]
        exact List.map_inj_right (fun x y h => by injection h with h _; injection h) |>.1 this
      subst hkk
      have := (Array.getElem?_eq_some_iff.1 (p3 _ hmem).2.1).1
      omega
    · intro k hk
      rcases List.mem_cons.1 hk with rfl | hk
      · exact ⟨hB, hD, k4⟩
      · exact q3 k hk
end
end Go.Fw
namespace Go.Fw
open Go
section
variable {P : Program} {tt : TT} {m n : Nat}
theorem axT_leaf {c : Code} {B : Nat} {Q : APost} {QC : Exit → Act → World → Prop} {s : Slots} {H : Heap} {ρ : Inj} {a : Act} {W : World} {ds : List Deferred} (hT : TOK P tt) (hmix : P.follows .mixedOrders = true) (hk : codeOk n c = true) (h : Ax tt (SimF P) c Q s H) (hR : Rel n ds ρ s H a W) (hM : Marks B ds ρ H W)
    (hn : ∀ e s' H' a' ρ' W' ds', Q e s' H' → Rel n ds' ρ' s' H' a' W' → Marks B ds' ρ' H' W' → Step ρ H W ρ' H' W' → QC e.ex a' W') : c.wpIn (FW none) m P QC a W :=
  ax_sound (r := none) (ds := ds) (snd_sim P none) hT hmix c hk h trivial hR (fun e s' H' a' ρ' W' hQ hR' hs => hn e s' H' a' ρ' W' ds hQ hR' (hM.step hs) hs)
theorem axT_sound {B : Nat} (hT : TOK P tt) (hmix : P.follows .mixedOrders = true) : ∀ (c : Code) {Q : APost} {QC : Exit → Act → World → Prop} {s : Slots} {H : Heap} {ρ : Inj} {a : Act} {W : World} {ds : List Deferred}, codeOkT n c = true →
    AxT tt P c Q s H → Rel n ds ρ s H a W → B ≤ W.heap.size → Marks B ds ρ H W →
    (∀ e s' H' a' ρ' W' ds', Q e s' H' → Rel n ds' ρ' s' H' a' W' → Marks B ds' ρ' H' W' → Step ρ H W ρ' H' W' → QC e.ex a' W') → c.wpIn (FW none) m P QC a W := by
  intro c
  induction c with
  | skip => intro Q QC s H ρ a W ds hk h hR hB hM hn; exact axT_leaf hT hmix hk h hR hM hn
  | region id ops d => intro Q QC s H ρ a W ds hk h hR hB hM hn; exact axT_leaf hT hmix hk h hR hM hn
  | loop b _ => intro Q QC s H ρ a W ds hk h hR hB hM hn; exact axT_leaf hT hmix hk h hR hM hn
  | exit id => intro Q QC s H ρ a W ds hk h hR hB hM hn; exact axT_leaf hT hmix hk h hR hM hn
  | ret => intro Q QC s H ρ a W ds hk h hR hB hM hn; exact axT_leaf hT hmix hk h hR hM hn
  | seq x y ihx ihy =>
    intro Q QC s H ρ a W ds hk h hR hB hM hn
    simp only [codeOkT, Bool.and_eq_true] at hk
    refine wpIn_seq (ihx hk.1 h hR hB hM ?_)
    intro e s' H' a' ρ' W' ds' hQ hR' hM' hs
    cases e with
    | normal => exact ihy hk.2 hQ hR' (Nat.le_trans hB hs.frame.size) hM' (fun e s2 H2 a2 ρ2 W2 ds2 hQ2 hR2 hM2 hs2 => hn e s2 H2 a2 ρ2 W2 ds2 hQ2 hR2 hM2 (hs.trans hs2))
    | exit id => exact hn (.exit id) s' H' a' ρ' W' ds' hQ hR' hM' hs
    | ret => exact hn .ret s' H' a' ρ' W' ds' hQ hR' hM' hs
  | cond c t e iht ihe =>
    intro Q QC s H ρ a W ds hk h hR hB hM hn
    simp only [codeOkT, Bool.and_eq_true] at hk
    obtain ⟨b, hb, h⟩ := h
    have hc := ev_rel hR.slots hk.1.1
    rw [hb] at hc
    refine wpIn_cond hc.bool_inv ?_
    cases b with
    | true => exact iht hk.1.2 (by simpa using h) hR hB hM hn
    | false => exact ihe hk.2 (by simpa using h) hR hB hM hn
  | block id b ih =>
    intro Q QC s H ρ a W ds hk h hR hB hM hn
    refine wpIn_block (ih hk h hR hB hM ?_)
    intro e s' H' a' ρ' W' ds' hQ hR' hM' hs
    cases e with
    | normal => exact hn .normal s' H' a' ρ' W' ds' hQ hR' hM' hs
    | ret => exact hn .ret s' H' a' ρ' W' ds' hQ hR' hM' hs
    | exit id' =>
      simp only [AEx.ex, Exit.inBlock]
      simp only [AEx.inBlock] at hQ
      split at hQ
      · rename_i he; rw [if_pos he]; exact hn .normal s' H' a' ρ' W' ds' hQ hR' hM' hs
      · rename_i he; rw [if_neg he]; exact hn (.exit id') s' H' a' ρ' W' ds' hQ hR' hM' hs
  | rangeFunc f ps x y _ _ =>
    intro Q QC s H ρ a W ds hk h hR hB hM hn
    simp only [codeOkT, Bool.and_eq_true, List.all_eq_true, decide_eq_true_eq] at hk
    obtain ⟨g, cap, H', he, hI, hQ⟩ := h
    exact range_sound hT hmix hk.1.1.1 hk.1.1.2 hk.1.2 hk.2 he hI hR hB hM (fun a' ρ' W' ds' hR' hM' hs => hn .normal s H' a' ρ' W' ds' hQ hR' hM' hs)
  | scope b _ => intro Q QC s H ρ a W ds hk h; exact h.elim
  | label l => intro Q QC s H ρ a W ds hk h; exact h.elim
  | goto l => intro Q QC s H ρ a W ds hk h; exact h.elim
  | refuse w => intro Q QC s H ρ a W ds hk h; exact h.elim
theorem leave_sound {B : Nat} {fn : Func} {R : Ending → World → Prop} {H0 : Heap} {ρ0 : Inj} {W0 : World} (hB : B = W0.heap.size) (hT : TOK P tt) : ∀ (ks : List Nat) {ds : List Deferred} {s : Slots} {H : Heap} {ρ : Inj} {a : Act} {W : World} {vs : List Value}, ks.Nodup → (∀ k ∈ ks, B ≤ k ∧ W.heap[k]? = some (.deferred (some [])) ∧ ¬ Owned ρ H k) →
    Rel n ds ρ s H a W → Step ρ0 H0 W0 ρ H W → resL tt s H fn.results.toList = some vs → (∀ V ρ' W', VR ρ' (resV vs) V → Step ρ0 H0 W0 ρ' H W' → R (.returned V) W') →
    LeavesInM (FW none) m P fn a.tmps R (ks.map fun k => { target := .collected k, args := #[] }) .returning W := by
  intro ks
  induction ks with
  | nil =>
    intro ds s H ρ a W vs _ _ hR hs hv hn
    obtain ⟨V, h2, h3⟩ := results_sim (fn := fn) hT hR hv
    exact ⟨V, h2, hn V ρ W h3 hs⟩
  | cons k ks ih =>
    intro ds s H ρ a W vs hnd hk hR hs hv hn
    obtain ⟨g1, g2, g3⟩ := hk k (by simp)
    have hnd' := List.nodup_cons.1 hnd
    refine ⟨by simp, .inl ⟨k, _, rfl, run_takeDeferred g2, ?_⟩⟩
    have hs' := hs.put_new (k := k) (o' := .deferred none) (by omega) g2 rfl rfl
    refine ih hnd'.2 ?_ ⟨hs'.mem, hR.size, hR.defers, hR.slots⟩ hs' hv hn
    intro j hj
    obtain ⟨q1, q2, q3⟩ := hk j (by simp [hj])
    have hne : j ≠ k := by rintro rfl; exact hnd'.1 hj
    exact ⟨q1, (World.putObj_heap_other hne).trans q2, q3⟩
theorem sim_of_axT {f : FuncId} {fn : Func} {c : Code} {args : Array Value} {H H1 : Heap} {v : Value} (hT : TOK P tt) (hmix : P.follows .mixedOrders = true) (hf : P.funcs[f]? = some fn) (hb : fn.body = some c)
    (hname : (fn.name == "runtime.NumGoroutine") = false) (hok : codeOkT fn.ntmps c = true) (ha : args.size ≤ fn.ntmps)
    (h : AxT tt P c (retP tt fn (fun vs H' => resV vs = v ∧ H' = H1)) (ini args) H) : Sim P f args H v H1 := by
  refine ⟨⟨fn, hf, hname, by rw [hb]; rfl⟩, fun ρ W ARGS hM hA => ?_⟩
  refine (callsIn_wide (n := 0)).1 ?_
  have hR := rel_ini hM hA ha
  refine callsIn_of_wp_marks (F := FW none) hf hb trivial ?_ rfl
  refine axT_sound (B := W.heap.size) (m := 0) hT hmix c hok h hR (Nat.le_refl _) ⟨[], rfl, List.nodup_nil, fun k hk => by cases hk⟩ ?_
  intro e s' H' a' ρ' W' ds' hQ hR' hM' hs
  have fin : (∃ vs, resL tt s' H' fn.results.toList = some vs ∧ resV vs = v ∧ H' = H1) → LeavesInM (FW none) 0 P fn a'.tmps (fun e W' => ∃ V ρ', e = .returned V ∧ VR ρ' v V ∧ Step ρ H W ρ' H1 W') a'.defers .returning W' := by
    rintro ⟨vs, h1, rfl, rfl⟩
    obtain ⟨ks, q1, q2, q3⟩ := hM'
    rw [hR'.defers, q1]
    exact leave_sound rfl hT ks q2 q3 hR' hs h1 (fun V ρ2 W2 h2 h3 => ⟨V, ρ2, rfl, h2, h3⟩)
  cases e with
  | normal => exact fin hQ
  | ret => exact fin hQ
  | exit id => exact hQ.elim
theorem AxT_mono : ∀ (c : Code) {Q Q' : APost} {s : Slots} {H : Heap}, AxT tt P c Q s H → (∀ e s H, Q e s H → Q' e s H) → AxT tt P c Q' s H := by
  intro c
  induction c with
  | skip => intro Q Q' s H h hQ; exact Ax_mono .skip h hQ
  | region id ops d => intro Q Q' s H h hQ; exact Ax_mono (.region id ops d) h hQ
  | loop b _ => intro Q Q' s H h hQ; exact Ax_mono (.loop b) h hQ
  | exit id => intro Q Q' s H h hQ; exact Ax_mono (.exit id) h hQ
  | ret => intro Q Q' s H h hQ; exact Ax_mono .ret h hQ
  | seq x y ihx ihy =>
    intro Q Q' s H h hQ
    refine ihx h ?_
    intro e s' H' h'
    cases e with
    | normal => exact ihy h' hQ
    | exit id => exact hQ _ _ _ h'
    | ret => exact hQ _ _ _ h'
  | cond c t e iht ihe =>
    intro Q Q' s H h hQ
    obtain ⟨b, hb, h⟩ := h
    refine ⟨b, hb, ?_⟩
    cases b with
    | true => exact iht (by simpa using h) hQ
    | false => exact ihe (by simpa using h) hQ
  | block id b ih =>
    intro Q Q' s H h hQ
    refine ih h ?_
    intro e s' H' h'
    cases e with
    | normal => exact hQ _ _ _ h'
    | ret => exact hQ _ _ _ h'
    | exit id' =>
      simp only [AEx.inBlock] at h' ⊢
      split at h'
      · rename_i he; rw [if_pos he]; exact hQ _ _ _ h'
      · rename_i he; rw [if_neg he]; exact hQ _ _ _ h'
  | rangeFunc f ps x y _ _ =>
    intro Q Q' s H h hQ
    obtain ⟨g, cap, H', h1, h2, h3⟩ := h
    exact ⟨g, cap, H', h1, h2, hQ _ _ _ h3⟩
  | scope b _ => intro Q Q' s H h; exact h.elim
  | label l => intro Q Q' s H h; exact h.elim
  | goto l => intro Q Q' s H h; exact h.elim
  | refuse w => intro Q Q' s H h; exact h.elim
theorem axT_path : ∀ (c : Code) {Q : APost} {s : Slots} {H : Heap}, AxT tt P c Q s H → ∃ e s' H', AxT tt P c (exactly e s' H') s H ∧ Q e s' H' := by
  intro c
  induction c with
  | skip => intro Q s H h; exact ax_path .skip h
  | region id ops d => intro Q s H h; exact ax_path (.region id ops d) h
  | loop b _ => intro Q s H h; exact ax_path (.loop b) h
  | exit id => intro Q s H h; exact ax_path (.exit id) h
  | ret => intro Q s H h; exact ax_path .ret h
  | seq x y ihx ihy =>
    intro Q s H h
    obtain ⟨e, s1, H1, h1, h2⟩ := ihx h
    cases e with
    | normal =>
      obtain ⟨e2, s2, H2, h3, h4⟩ := ihy h2
      refine ⟨e2, s2, H2, AxT_mono x h1 ?_, h4⟩
      rintro e s' H' ⟨rfl, rfl, rfl⟩
      exact h3
    | exit id => exact ⟨.exit id, s1, H1, AxT_mono x h1 (by rintro e s' H' ⟨rfl, rfl, rfl⟩; exact ⟨rfl, rfl, rfl⟩), h2⟩
    | ret => exact ⟨.ret, s1, H1, AxT_mono x h1 (by rintro e s' H' ⟨rfl, rfl, rfl⟩; exact ⟨rfl, rfl, rfl⟩), h2⟩
  | cond c t e iht ihe =>
    intro Q s H h
    obtain ⟨b, hb, h⟩ := h
    cases b with
    | true =>
      obtain ⟨e1, s1, H1, h1, h2⟩ := iht (by simpa using h)
      exact ⟨e1, s1, H1, ⟨true, hb, by simpa using h1⟩, h2⟩
    | false =>
      obtain ⟨e1, s1, H1, h1, h2⟩ := ihe (by simpa using h)
      exact ⟨e1, s1, H1, ⟨false, hb, by simpa using h1⟩, h2⟩
  | block id b ih =>
    intro Q s H h
    obtain ⟨e, s1, H1, h1, h2⟩ := ih h
    cases e with
    | normal => exact ⟨.normal, s1, H1, AxT_mono b h1 (by rintro e s' H' ⟨rfl, rfl, rfl⟩; exact ⟨rfl, rfl, rfl⟩), h2⟩
    | ret => exact ⟨.ret, s1, H1, AxT_mono b h1 (by rintro e s' H' ⟨rfl, rfl, rfl⟩; exact ⟨rfl, rfl, rfl⟩), h2⟩
    | exit id' =>
      simp only [AEx.inBlock] at h2
      by_cases he : id' = id
      · rw [if_pos he] at h2
        refine ⟨.normal, s1, H1, AxT_mono b h1 ?_, h2⟩
        rintro e s' H' ⟨rfl, rfl, rfl⟩
        simp only [AEx.inBlock]; rw [if_pos he]; exact ⟨rfl, rfl, rfl⟩
      · rw [if_neg he] at h2
        refine ⟨.exit id', s1, H1, AxT_mono b h1 ?_, h2⟩
        rintro e s' H' ⟨rfl, rfl, rfl⟩
        simp only [AEx.inBlock]; rw [if_neg he]; exact ⟨rfl, rfl, rfl⟩
  | rangeFunc f ps x y _ _ =>
    intro Q s H h
    obtain ⟨g, cap, H', h1, h2, h3⟩ := h
    exact ⟨.normal, s, H', ⟨g, cap, H', h1, h2, rfl, rfl, rfl⟩, h3⟩
  | scope b _ => intro Q s H h; exact h.elim
  | label l => intro Q s H h; exact h.elim
  | goto l => intro Q s H h; exact h.elim
  | refuse w => intro Q s H h; exact h.elim
theorem sim_exT {f : FuncId} {fn : Func} {c : Code} {args : Array Value} {H : Heap} {R : Value → Heap → Prop} (hT : TOK P tt) (hmix : P.follows .mixedOrders = true) (hf : P.funcs[f]? = some fn) (hb : fn.body = some c)
    (hname : (fn.name == "runtime.NumGoroutine") = false) (hok : codeOkT fn.ntmps c = true) (ha : args.size ≤ fn.ntmps)
    (h : AxT tt P c (retP tt fn (fun vs H' => R (resV vs) H')) (ini args) H) : ∃ v H', Sim P f args H v H' ∧ R v H' := by
  obtain ⟨e, s1, H1, h1, h2⟩ := axT_path c h
  have key : ∃ vs, resL tt s1 H1 fn.results.toList = some vs ∧ R (resV vs) H1 ∧ (e = .normal ∨ e = .ret) := by
    cases e with
    | normal => obtain ⟨vs, a, b⟩ := h2; exact ⟨vs, a, b, .inl rfl⟩
    | ret => obtain ⟨vs, a, b⟩ := h2; exact ⟨vs, a, b, .inr rfl⟩
    | exit id => exact h2.elim
  obtain ⟨vs, a, b, he⟩ := key
  refine ⟨resV vs, H1, sim_of_axT hT hmix hf hb hname hok ha (AxT_mono c h1 ?_), b⟩
  rintro e' s' H' ⟨rfl, rfl, rfl⟩
  rcases he with rfl | rfl
  · exact ⟨vs, a, rfl, rfl⟩
  · exact ⟨vs, a, rfl, rfl⟩
section
variable {Q : APost} {s : Slots} {H : Heap}
theorem wt_seq {a b : Code} : AxT tt P (.seq a b) Q s H = AxT tt P a (AEx.thn (AxT tt P b Q) Q) s H := rfl
theorem wt_block {id : Nat} {b : Code} : AxT tt P (.block id b) Q s H = AxT tt P b (AEx.inBlock id Q) s H := rfl
theorem wt_region {id : Nat} {ops : Array Oper} {d : Bool} : AxT tt P (.region id ops d) Q s H = Ax tt (SimF P) (.region id ops d) Q s H := rfl
theorem wt_loop {b : Code} : AxT tt P (.loop b) Q s H = Ax tt (SimF P) (.loop b) Q s H := rfl
theorem wt_skip : AxT tt P .skip Q s H = Q .normal s H := rfl
theorem wt_exit {id : Nat} : AxT tt P (.exit id) Q s H = Q (.exit id) s H := rfl
theorem wt_ret : AxT tt P .ret Q s H = Q .ret s H := rfl
def AxCT (tt : TT) (P : Program) (x y : Code) (Q : APost) (s : Slots) (H : Heap) (v : Value) : Prop := ∃ b, v = .bool b ∧ if b = true then AxT tt P x Q s H else AxT tt P y Q s H
theorem wt_cond {c : Operand} {x y : Code} : AxT tt P (.cond c x y) Q s H = AxCT tt P x y Q s H (ev s c) := rfl
theorem axCT_t {x y : Code} : AxCT tt P x y Q s H (.bool true) = AxT tt P x Q s H := by
  apply propext
  constructor
  · rintro ⟨b, hb, h⟩
    injection hb with hb
    subst hb
    simpa using h
  · intro h; exact ⟨true, rfl, by simpa using h⟩
theorem axCT_f {x y : Code} : AxCT tt P x y Q s H (.bool false) = AxT tt P y Q s H := by
  apply propext
  constructor
  · rintro ⟨b, hb, h⟩
    injection hb with hb
    subst hb
    simpa using h
  · intro h; exact ⟨false, rfl, by simpa using h⟩
end
end
end Go.Fw
namespace Go.Fw
open Go
structure ElAt (k : Nat) (H : Heap) (b i c : Nat) (l : List (List Value)) : Prop where
  cap : c = 0 ∨ l.length ≤ c
  pos : 0 < k
  all : ∀ x ∈ l, x.length = k
  blk : ∃ B, H[b]? = some B ∧ B.esz = k ∧ i + k * l.length ≤ B.cells.length ∧ (B.cells.drop i).take (k * l.length) = l.flatten
  cell : l.flatten.all isCell = true
def El (k : Nat) (H : Heap) (v : Value) (l : List (List Value)) : Prop := ((v = .slice none 0 0 ∨ ∃ b i c, v = .slice (some ⟨b, i, none⟩) 0 c) ∧ l = []) ∨ ∃ b i c, v = .slice (some ⟨b, i, none⟩) l.length c ∧ ElAt k H b i c l
theorem flatten_len {k : Nat} {l : List (List Value)} (h : ∀ x ∈ l, x.length = k) : l.flatten.length = k * l.length := by
  induction l with
  | nil => simp
  | cons x l ih =>
    simp only [List.flatten_cons, List.length_append, List.length_cons]
    rw [ih (fun y hy => h y (by simp [hy])), h x (by simp), Nat.mul_add]; omega
theorem flatten_at {k : Nat} : ∀ {l : List (List Value)} (h : ∀ x ∈ l, x.length = k) {j : Nat} (hj : j < l.length), (l.flatten.drop (j * k)).take k = l[j] := by
  intro l
  induction l with
  | nil => intro h j hj; simp at hj
  | cons x l ih =>
    intro h j hj
    cases j with
    | zero => simp [h x (by simp)]
    | succ j =>
      have hx := h x (by simp)
      rw [List.flatten_cons, List.drop_append, List.drop_eq_nil_of_le (by rw [hx, Nat.add_mul]; omega), List.nil_append]
      have e : (j + 1) * k - x.length = j * k := by rw [hx, Nat.add_mul]; omega
      rw [e]
      exact ih (fun y hy => h y (by simp [hy])) (by simpa using hj)
theorem ElAt.rd {k : Nat} {H : Heap} {b i c : Nat} {l : List (List Value)} (h : ElAt k H b i c l) {j : Nat} (hj : j < l.length) : Fw.rd H b (i + j * k) k = some l[j] := by
  obtain ⟨B, h1, h2, h3, h4⟩ := h.blk
  have hk := h.pos
  have hle : (j + 1) * k ≤ k * l.length := by rw [Nat.mul_comm k]; exact Nat.mul_le_mul_right _ hj
  rw [Nat.add_mul] at hle
  unfold Fw.rd
  rw [h1]
  simp only
  rw [if_pos (by omega)]
  congr 1
  rw [← flatten_at h.all hj, ← h4, List.drop_take, List.take_take, List.drop_drop]
  congr 1
  omega
theorem ElAt.rdAll {k : Nat} {H : Heap} {b i c : Nat} {l : List (List Value)} (h : ElAt k H b i c l) : Fw.rd H b i (l.length * k) = some l.flatten := by
  obtain ⟨B, h1, h2, h3, h4⟩ := h.blk
  have hk := h.pos
  unfold Fw.rd
  rw [h1]
  simp only
  rw [Nat.mul_comm k] at h3 h4
  rw [if_pos (by omega), h4]
theorem ElAt.app {k : Nat} {H : Heap} {b i c : Nat} {l : List (List Value)} (h : ElAt k H b i c l) (G : Heap) : ElAt k (H ++ G) b i c l := by
  obtain ⟨B, h1, h2⟩ := h.blk
  have : b < H.length := by rcases List.getElem?_eq_some_iff.1 h1 with ⟨h, _⟩; exact h
  exact ⟨h.cap, h.pos, h.all, ⟨B, by rw [List.getElem?_append_left this]; exact h1, h2⟩, h.cell⟩
theorem El.app {k : Nat} {H : Heap} {v : Value} {l : List (List Value)} (h : El k H v l) (G : Heap) : El k (H ++ G) v l := by
  rcases h with h | ⟨b, i, c, h1, h2⟩
  · exact .inl h
  · exact .inr ⟨b, i, c, h1, h2.app G⟩
theorem El.ext {k : Nat} {H H' : Heap} {v : Value} {l : List (List Value)} (h : El k H v l) (e : Ext H H') : El k H' v l := by obtain ⟨G, rfl⟩ := e; exact h.app G
theorem ElAt.ext {k : Nat} {H H' : Heap} {b i c : Nat} {l : List (List Value)} (h : ElAt k H b i c l) (e : Ext H H') : ElAt k H' b i c l := by obtain ⟨G, rfl⟩ := e; exact h.app G
theorem ElAt.lt {k : Nat} {H : Heap} {b i c : Nat} {l : List (List Value)} (h : ElAt k H b i c l) : b < H.length := by
  obtain ⟨B, h1, _⟩ := h.blk
  rcases List.getElem?_eq_some_iff.1 h1 with ⟨h, _⟩; exact h
theorem ElAt.set {k : Nat} {H : Heap} {b i c : Nat} {l : List (List Value)} (h : ElAt k H b i c l) {b' : Nat} (hb : b ≠ b') (B : Blk) : ElAt k (H.set b' B) b i c l := by
  obtain ⟨X, h1, h2⟩ := h.blk
  exact ⟨h.cap, h.pos, h.all, ⟨X, by rw [List.getElem?_set_ne (Ne.symm hb)]; exact h1, h2⟩, h.cell⟩
theorem El.at {k : Nat} {H : Heap} {v : Value} {l : List (List Value)} (h : El k H v l) (h0 : l ≠ []) : ∃ b i c, v = .slice (some ⟨b, i, none⟩) l.length c ∧ ElAt k H b i c l := by
  rcases h with ⟨_, h⟩ | h
  · exact absurd h h0
  · exact h
theorem El.len {k : Nat} {tt : TT} {H : Heap} {v : Value} {l : List (List Value)} (h : El k H v l) {t e : TypeId} {sz by_ : Nat} {z : Value} {q : Option (List TD)} (ht : tt t = some ⟨.slice e, sz, by_, z, q⟩) : aLen tt [t] v = some (.int .i64 (l.length : Nat)) := by
  rcases h with ⟨rfl | ⟨b, i, c, rfl⟩, rfl⟩ | ⟨b, i, c, rfl, h⟩ <;> simp [aLen, ht]
structure Own (k : Nat) (T : Heap) (b : Nat) (l : List (List Value)) : Prop where
  pos : 0 < k
  all : ∀ x ∈ l, x.length = k
  blk : T[b]? = some ⟨l.flatten, k, true⟩
  cell : l.flatten.all isCell = true
theorem Own.at {k : Nat} {T : Heap} {b : Nat} {l : List (List Value)} (h : Own k T b l) {c : Nat} (hc : c = 0 ∨ l.length ≤ c) : ElAt k T b 0 c l :=
  ⟨hc, h.pos, h.all, ⟨_, h.blk, rfl, by simp only [flatten_len h.all]; omega, by simp only [List.drop_zero]; exact List.take_of_length_le (by rw [flatten_len h.all]; exact Nat.le_refl _)⟩, h.cell⟩
theorem Own.lt {k : Nat} {T : Heap} {b : Nat} {l : List (List Value)} (h : Own k T b l) : b < T.length := by rcases List.getElem?_eq_some_iff.1 h.blk with ⟨h, _⟩; exact h
theorem Own.app {k : Nat} {T : Heap} {b : Nat} {l : List (List Value)} (h : Own k T b l) (G : Heap) : Own k (T ++ G) b l :=
  ⟨h.pos, h.all, by rw [List.getElem?_append_left h.lt]; exact h.blk, h.cell⟩
theorem Own.other {k : Nat} {T : Heap} {b b' : Nat} {l : List (List Value)} (h : Own k T b l) (hb : b' ≠ b) (B : Blk) : Own k (T.set b' B) b l :=
  ⟨h.pos, h.all, by rw [List.getElem?_set_ne hb]; exact h.blk, h.cell⟩
theorem Own.new {k : Nat} (T : Heap) {l : List (List Value)} (hk : 0 < k) (ha : ∀ x ∈ l, x.length = k) (hc : l.flatten.all isCell = true) : Own k (T ++ [⟨l.flatten, k, true⟩]) T.length l :=
  ⟨hk, ha, by simp, hc⟩
section
variable {tt : TT} {T : Heap} {t e : TypeId} {sz by_ k : Nat} {z : Value} {q : Option (List TD)} {d : TD} {ez : Value} {eq : Option (List TD)} {eb : Nat} {l m : List (List Value)} {b bx ix cx : Nat}
theorem append_own (ht : tt t = some ⟨.slice e, sz, by_, z, q⟩) (he : tt e = some ⟨d, k, eb, ez, eq⟩) (hez : ez.cells.size = k) (hb1 : 0 < eb) (hb2 : eb ≤ 1048576)
    (h : Own k T b l) (hx : ElAt k T bx ix cx m) (h0 : m ≠ []) (hs : (l.length + m.length) * eb ≤ 1099511627776) :
    aAppend tt T [t, t] (.slice (some ⟨b, 0, none⟩) l.length 0) (.slice (some ⟨bx, ix, none⟩) m.length cx) = some (.slice (some ⟨T.length, 0, none⟩) (l.length + m.length) 0, T.set b deadBlk ++ [⟨(l ++ m).flatten, k, true⟩]) := by
  have hold := (h.at (c := 0) (.inl rfl)).rdAll
  have hnew := hx.rdAll
  have hm : 0 < m.length := List.length_pos_iff.2 h0
  have hlen := flatten_len hx.all
  have hd : l.flatten.drop (0 + l.length * k) = [] := by
    rw [List.drop_eq_nil_iff, flatten_len h.all, Nat.zero_add, Nat.mul_comm]
    exact Nat.le_refl _
  unfold aAppend
  simp only [ht, he, srcLen, srcKind, srcCells, hnew, hold, h.blk]
  rw [if_pos ⟨h.pos, trivial, hb1, hb2, fun _ => hez⟩, if_pos ⟨by rw [hlen, Nat.mul_comm], hx.cell⟩, if_neg (by omega), if_pos hs, if_neg (by simp), hd]
  simp
theorem append_none (ht : tt t = some ⟨.slice e, sz, by_, z, q⟩) (he : tt e = some ⟨d, k, eb, ez, eq⟩) (hez : ez.cells.size = k) (hb1 : 0 < eb) (hb2 : eb ≤ 1048576)
    (hx : ElAt k T bx ix cx m) (h0 : m ≠ []) (hs : m.length * eb ≤ 1099511627776) :
    aAppend tt T [t, t] (.slice none 0 0) (.slice (some ⟨bx, ix, none⟩) m.length cx) = some (.slice (some ⟨T.length, 0, none⟩) m.length 0, T ++ [⟨m.flatten, k, true⟩]) := by
  have hnew := hx.rdAll
  have hm : 0 < m.length := List.length_pos_iff.2 h0
  have hlen := flatten_len hx.all
  unfold aAppend
  simp only [ht, he, srcLen, srcKind, srcCells, hnew]
  rw [if_pos ⟨hx.pos, trivial, hb1, hb2, fun _ => hez⟩, if_pos ⟨by rw [hlen, Nat.mul_comm], hx.cell⟩, if_neg (by omega), if_pos hs]
end
theorem splice_el {k : Nat} : ∀ {l : List (List Value)} {x : List Value} (h : ∀ y ∈ l, y.length = k) (hx : x.length = k) {j : Nat} (hj : j < l.length), splice l.flatten (j * k) x = (l.set j x).flatten := by
  intro l x
  induction l with
  | nil => intro h hx j hj; simp at hj
  | cons y l ih =>
    intro h hx j hj
    have hy := h y (by simp)
    cases j with
    | zero =>
      unfold splice
      simp [hy, hx]
    | succ j =>
      have := ih (fun y hy => h y (by simp [hy])) hx (j := j) (by simpa using hj)
      unfold splice at this ⊢
      have e : (j + 1) * k = y.length + j * k := by rw [hy, Nat.add_mul]; omega
      have e2 : y.length + j * k + x.length = y.length + (j * k + x.length) := by omega
      simp only [List.flatten_cons, List.set_cons_succ]
      rw [e, List.take_length_add_append, e2, List.drop_length_add_append, ← this]
      simp
theorem Own.wr {k : Nat} {T : Heap} {b : Nat} {l : List (List Value)} (h : Own k T b l) {j : Nat} (hj : j < l.length) {x : List Value} (hx : x.length = k) (hc : x.all isCell = true) : Fw.wr T b (j * k) x = some (T.set b ⟨(l.set j x).flatten, k, true⟩) := by
  rw [wr_eq, h.blk]
  simp only
  have hle : (j + 1) * k ≤ k * l.length := by rw [Nat.mul_comm k]; exact Nat.mul_le_mul_right _ hj
  rw [Nat.add_mul] at hle
  rw [if_pos ⟨trivial, by rw [flatten_len h.all, hx]; omega, by rw [← allC_eq]; exact hc⟩, splice_el h.all hx hj]
theorem set_all {k : Nat} {l : List (List Value)} (h : ∀ y ∈ l, y.length = k) {j : Nat} {x : List Value} (hx : x.length = k) : ∀ y ∈ l.set j x, y.length = k := by
  intro y hy
  rcases List.mem_or_eq_of_mem_set hy with hy | rfl
  · exact h y hy
  · exact hx
theorem flat_cell {l : List (List Value)} : l.flatten.all isCell = true ↔ ∀ x ∈ l, x.all isCell = true := by
  simp only [List.all_eq_true, List.mem_flatten]
  constructor
  · intro h x hx y hy; exact h y ⟨x, hx, hy⟩
  · rintro h y ⟨x, hx, hy⟩; exact h x hx y hy
theorem Own.set {k : Nat} {T : Heap} {b : Nat} {l : List (List Value)} (h : Own k T b l) {j : Nat} {x : List Value} (hx : x.length = k) (hc : x.all isCell = true) : Own k (T.set b ⟨(l.set j x).flatten, k, true⟩) b (l.set j x) := by
  refine ⟨h.pos, set_all h.all hx, by rw [List.getElem?_set_self h.lt], ?_⟩
  rw [flat_cell]
  intro y hy
  rcases List.mem_or_eq_of_mem_set hy with hy | rfl
  · exact flat_cell.1 h.cell y hy
  · exact hc
def RL (H : Heap) (v : Value) (l : List RR) : Prop := El 6 H v (l.map RR.cells)
theorem RR.cells_len (r : RR) : r.cells.length = 6 := rfl
theorem RR.cells_cell (r : RR) : r.cells.all isCell = true := rfl
theorem RR.cells_all (l : List RR) : ∀ x ∈ l.map RR.cells, x.length = 6 := by
  intro x hx
  obtain ⟨r, _, rfl⟩ := List.mem_map.1 hx
  rfl
theorem RR.cells_ok (l : List RR) : (l.map RR.cells).flatten.all isCell = true := by
  rw [flat_cell]
  intro x hx
  obtain ⟨r, _, rfl⟩ := List.mem_map.1 hx
  rfl
theorem RL.ext {H H' : Heap} {v : Value} {l : List RR} (h : RL H v l) (e : Ext H H') : RL H' v l := El.ext h e
theorem RL.len {tt : TT} {H : Heap} {v : Value} {l : List RR} (h : RL H v l) {t e : TypeId} {sz by_ : Nat} {z : Value} {q : Option (List TD)} (ht : tt t = some ⟨.slice e, sz, by_, z, q⟩) : aLen tt [t] v = some (.int .i64 (l.length : Nat)) := by
  have := El.len h ht
  simpa using this
theorem RL.at {H : Heap} {v : Value} {l : List RR} (h : RL H v l) (h0 : l ≠ []) : ∃ b i c, v = .slice (some ⟨b, i, none⟩) l.length c ∧ ElAt 6 H b i c (l.map RR.cells) := by
  obtain ⟨b, i, c, h1, h2⟩ := El.at h (by simpa using h0)
  exact ⟨b, i, c, by simpa using h1, h2⟩
theorem ElAt.rdR {H : Heap} {b i c : Nat} {l : List RR} (h : ElAt 6 H b i c (l.map RR.cells)) {j : Nat} (hj : j < l.length) : Fw.rd H b (i + j * 6) 6 = some l[j].cells := by
  have := h.rd (j := j) (by simpa using hj)
  simpa using this
def OwnR (T : Heap) (b : Nat) (l : List RR) : Prop := Own 6 T b (l.map RR.cells)
theorem OwnR.rl {T : Heap} {b : Nat} {l : List RR} (h : OwnR T b l) : RL T (.slice (some ⟨b, 0, none⟩) l.length 0) l := by
  have := h.at (c := 0) (.inl rfl)
  exact .inr ⟨b, 0, 0, by simp, this⟩
theorem OwnR.new (T : Heap) (l : List RR) : OwnR (T ++ [⟨(l.map RR.cells).flatten, 6, true⟩]) T.length l := Own.new T (by decide) (RR.cells_all l) (RR.cells_ok l)
end Go.Fw
namespace Go.Fw
open Go
section
variable {tt : TT} {S : ACall} {ops : Array Oper} {K : Slots → Heap → Prop} {l : List Oper} {s : Slots} {H : Heap} {dst : Option Tmp} {ty : TypeId} {pos : String} {af : Array Edge}
theorem wl_yield {f : Operand} {args : Array Operand} {tys : Array TypeId} {v : Value} {H' : Heap} (i : Nat) (as : Array Value) (hf : ev s f = .func (.yield i) #[] #[]) (ha : args.map (ev s) = as) (hS : S (.yield i) as H v H')
    (k : AxL tt S 0 ops K l (s.put dst v) H') : AxL tt S 0 ops K (⟨dst, .call { callee := .value f, args := args, argTypes := tys }, ty, pos, af, none⟩ :: l) s H :=
  ⟨_, H', by unfold AOp; rw [if_pos (show wantedA ops s _ = true from rfl)]; unfold AStep; exact .inr ⟨rfl, i, v, hf, by rw [ha]; exact hS, rfl⟩, k⟩
end
def chainH (add : Nat → Blk) (nxt : Nat → Heap → Heap) (H : Heap) : Nat → Heap
  | 0 => H
  | i + 1 => nxt i (chainH add nxt H i ++ [add i])
theorem chain_ex {Inv : Nat → Heap → Prop} {Y : Nat → Heap → Heap → Prop} {n : Nat} {H : Heap} (add : Nat → Blk) (h0 : Inv 0 H) (happ : ∀ i T B, Inv i T → Inv i (T ++ [B])) (hY : ∀ i T, i < n → Inv i T → ∃ T', Y i T T' ∧ Inv (i + 1) T') :
    ∃ G : Nat → Heap, G 0 = H ∧ (∀ i, i ≤ n → Inv i (G i)) ∧ ∀ i, i < n → Y i (G i ++ [add i]) (G (i + 1)) := by
  obtain ⟨nxt, hn⟩ : ∃ nxt : Nat → Heap → Heap, ∀ i T, i < n → Inv i T → Y i T (nxt i T) ∧ Inv (i + 1) (nxt i T) := by
    refine ⟨fun i T => Classical.epsilon fun T' => Y i T T' ∧ Inv (i + 1) T', fun i T hi h => ?_⟩
    exact Classical.epsilon_spec (p := fun T' => Y i T T' ∧ Inv (i + 1) T') (hY i T hi h)
  have hinv : ∀ i, i ≤ n → Inv i (chainH add nxt H i) := by
    intro i
    induction i with
    | zero => intro _; exact h0
    | succ i ih => intro hi; exact (hn i _ (by omega) (happ i _ _ (ih (by omega)))).2
  exact ⟨chainH add nxt H, rfl, hinv, fun i hi => (hn i _ hi (happ i _ _ (hinv i (by omega)))).1⟩
end Go.Fw
namespace Go.Fw
open Go
structure Tot {α : Type} (ok : α → Prop) (le : α → α → Prop) : Prop where
  refl : ∀ x, ok x → le x x
  trans : ∀ x y z, ok x → ok y → ok z → le x y → le y z → le x z
  total : ∀ x y, ok x → ok y → le x y ∨ le y x
  anti : ∀ x y, ok x → ok y → le x y → le y x → x = y
section
variable {α : Type} {ok : α → Prop} {le : α → α → Prop}
def InsI (le : α → α → Prop) (L : List α) (a i j : Nat) : Prop := ∀ p q, a ≤ p → p < q → q ≤ i → q ≠ j → ∀ (hp : p < L.length) (hq : q < L.length), le L[p] L[q]
def SrtTo (le : α → α → Prop) (L : List α) (a n : Nat) : Prop := ∀ p q, a ≤ p → p < q → q < n → ∀ (hp : p < L.length) (hq : q < L.length), le L[p] L[q]
theorem SrtTo.one (L : List α) {a n : Nat} (h : n ≤ a + 1) : SrtTo le L a n := fun p q h0 h1 h2 => by omega
theorem SrtTo.ins {L : List α} {a i : Nat} (h : SrtTo le L a i) : InsI le L a i i := fun p q h0 h1 h2 h3 hp hq => h p q h0 h1 (by omega) hp hq
theorem SrtTo.pairwise {L : List α} (h : SrtTo le L 0 L.length) : L.Pairwise le := by
  rw [List.pairwise_iff_getElem]
  intro p q hp hq hpq
  exact h p q (Nat.zero_le _) hpq hq hp hq
theorem InsI.zero {L : List α} {a i : Nat} (h : InsI le L a i a) : SrtTo le L a (i + 1) := fun p q h0 h1 h2 hp hq => h p q h0 h1 (by omega) (by omega) hp hq
theorem InsI.stop (T : Tot ok le) {L : List α} {a i j : Nat} (hok : ∀ x ∈ L, ok x) (h : InsI le L a i j) (hj : a < j) (hi : j ≤ i) (hjl : j < L.length) (hle : le (L[j - 1]'(by omega)) L[j]) : SrtTo le L a (i + 1) := by
  intro p q h0 h1 h2 hp hq
  by_cases hqj : q = j
  · subst hqj
    by_cases hp1 : p = q - 1
    · subst hp1; exact hle
    · exact T.trans _ _ _ (hok _ (List.getElem_mem hp)) (hok _ (List.getElem_mem (by omega))) (hok _ (List.getElem_mem hq)) (h p (q - 1) h0 (by omega) (by omega) (by omega) hp (by omega)) hle
  · exact h p q h0 h1 (by omega) hqj hp hq
def swp (L : List α) (j : Nat) (h : j + 1 < L.length) : List α := (L.set (j + 1) L[j]).set j L[j + 1]
theorem swp_len (L : List α) (j : Nat) (h : j + 1 < L.length) : (swp L j h).length = L.length := by simp [swp]
theorem swp_perm (L : List α) (j : Nat) (h : j + 1 < L.length) : (swp L j h).Perm L := List.set_set_perm (i := j + 1) (j := j) h (by omega)
theorem swp_at (L : List α) (j : Nat) (h : j + 1 < L.length) (q : Nat) (hq : q < L.length) : (swp L j h)[q]'(by rw [swp_len]; exact hq) = if q = j then L[j + 1] else if q = j + 1 then L[j] else L[q] := by
  unfold swp
  rw [List.getElem_set]
  by_cases h1 : j = q
  · rw [if_pos h1, if_pos h1.symm]
  · rw [if_neg h1, if_neg (Ne.symm h1), List.getElem_set]
    by_cases h2 : j + 1 = q
    · rw [if_pos h2, if_pos h2.symm]
    · rw [if_neg h2, if_neg (Ne.symm h2)]
theorem InsI.step {L : List α} {a i j : Nat} (h : InsI le L a i (j + 1)) (haj : a ≤ j) (hjl : j + 1 < L.length) (hi : j + 1 ≤ i) (hlt : le L[j + 1] L[j]) : InsI le (swp L j hjl) a i j := by
  intro p q h0 h1 h2 h3 hp hq
  rw [swp_len] at hp hq
  rw [swp_at L j hjl p hp, swp_at L j hjl q hq, if_neg h3]
  by_cases hq1 : q = j + 1
  · rw [if_pos hq1]
    by_cases hp1 : p = j
    · rw [if_pos hp1]; exact hlt
    · rw [if_neg hp1, if_neg (by omega)]
      exact h p j h0 (by omega) (by omega) (by omega) hp (by omega)
  · rw [if_neg hq1]
    by_cases hp1 : p = j
    · rw [if_pos hp1]
      exact h (j + 1) q (by omega) (by omega) h2 hq1 hjl hq
    · rw [if_neg hp1]
      by_cases hp2 : p = j + 1
      · rw [if_pos hp2]
        exact h j q haj (by omega) h2 hq1 (by omega) hq
      · rw [if_neg hp2]
        exact h p q h0 h1 h2 hq1 hp hq
structure Within (L0 L : List α) (a b : Nat) : Prop where
  perm : L.Perm L0
  out : ∀ q, (q < a ∨ b ≤ q) → L[q]? = L0[q]?
theorem Within.refl (L : List α) (a b : Nat) : Within L L a b := ⟨.refl _, fun _ _ => rfl⟩
theorem Within.len {L0 L : List α} {a b : Nat} (h : Within L0 L a b) : L.length = L0.length := h.perm.length_eq
theorem Within.trans {L0 L1 L2 : List α} {a b : Nat} (h : Within L0 L1 a b) (h2 : Within L1 L2 a b) : Within L0 L2 a b := ⟨h2.perm.trans h.perm, fun q hq => (h2.out q hq).trans (h.out q hq)⟩
theorem Within.mono {L0 L : List α} {a b a' b' : Nat} (h : Within L0 L a b) (h1 : a' ≤ a) (h2 : b ≤ b') : Within L0 L a' b' := ⟨h.perm, fun q hq => h.out q (by omega)⟩
theorem Within.swp (L : List α) {a b : Nat} (j : Nat) (h : j + 1 < L.length) (h1 : a ≤ j) (h2 : j + 1 < b) : Within L (swp L j h) a b := by
  refine ⟨swp_perm L j h, fun q hq => ?_⟩
  unfold Fw.swp
  rw [List.getElem?_set_ne (by omega), List.getElem?_set_ne (by omega)]
theorem Within.oks {L0 L : List α} {a b : Nat} (h : Within L0 L a b) (hok : ∀ x ∈ L0, ok x) : ∀ x ∈ L, ok x := fun x hx => hok x (h.perm.mem_iff.1 hx)
theorem srt_unique (T : Tot ok le) {L M : List α} (h : L.Perm M) (hok : ∀ x ∈ M, ok x) (h1 : L.Pairwise le) (h2 : M.Pairwise le) : L = M :=
  List.Perm.eq_of_pairwise (fun a b ha hb => T.anti a b (hok a (h.mem_iff.1 ha)) (hok b hb)) h1 h2 h
end
def RR.leq (a b : RR) : Prop := ¬ b.rot.lt a.rot
theorem RR.tot : Tot (fun r : RR => r.err = 0) RR.leq := by
  refine ⟨fun x hx => Rot.lt_irrefl (RR.err_zero.1 hx).2, fun x y z hx hy hz h1 h2 h3 => ?_, fun x y hx hy => ?_, fun x y hx hy h1 h2 => ?_⟩
  · have ox := (RR.err_zero.1 hx).2
    have oy := (RR.err_zero.1 hy).2
    have oz := (RR.err_zero.1 hz).2
    rcases Rot.lt_cases oy oz with h | h | h
    · exact h1 (Rot.lt_trans oy oz ox h h3)
    · exact h1 (by rw [h]; exact h3)
    · exact h2 h
  · refine Classical.byContradiction fun hn => ?_
    have ox := (RR.err_zero.1 hx).2
    have oy := (RR.err_zero.1 hy).2
    unfold RR.leq at hn
    have a : y.rot.lt x.rot := Classical.byContradiction fun h => hn (.inl h)
    have b : x.rot.lt y.rot := Classical.byContradiction fun h => hn (.inr h)
    exact Rot.lt_irrefl ox (Rot.lt_trans ox oy ox b a)
  · have ox := (RR.err_zero.1 hx).2
    have oy := (RR.err_zero.1 hy).2
    have : x.rot = y.rot := by
      rcases Rot.lt_cases ox oy with h | h | h
      · exact absurd h h2
      · exact h
      · exact absurd h h1
    rw [(RR.err_zero.1 hx).1, (RR.err_zero.1 hy).1, this]
theorem RR.lt_leq {a b : RR} (ha : a.err = 0) (hb : b.err = 0) (h : a.rot.lt b.rot) : a.leq b := by
  intro h2
  exact Rot.lt_irrefl (RR.err_zero.1 ha).2 (Rot.lt_trans (RR.err_zero.1 ha).2 (RR.err_zero.1 hb).2 (RR.err_zero.1 ha).2 h h2)
def putR (T : Heap) (b : Nat) (L : List RR) : Heap := T.set b ⟨(L.map RR.cells).flatten, 6, true⟩
theorem putR_own (T : Heap) {b : Nat} (L : List RR) (h : b < T.length) : OwnR (putR T b L) b L := by
  refine ⟨by decide, RR.cells_all L, ?_, RR.cells_ok L⟩
  unfold putR
  rw [List.getElem?_set_self h]
theorem putR_put (T : Heap) (b : Nat) (L M : List RR) : putR (putR T b L) b M = putR T b M := by simp [putR]
theorem putR_self {T : Heap} {b : Nat} {L : List RR} (h : OwnR T b L) : putR T b L = T := by
  have h1 := Own.blk h
  have hl := Own.lt h
  rw [List.getElem?_eq_some_iff] at h1
  obtain ⟨_, h2⟩ := h1
  unfold putR
  rw [← h2, List.set_getElem_self]
theorem putR_len (T : Heap) (b : Nat) (L : List RR) : (putR T b L).length = T.length := by simp [putR]
theorem OwnR.wr {T : Heap} {b : Nat} {L : List RR} (h : OwnR T b L) {j : Nat} (hj : j < L.length) (x : RR) : Fw.wr T b (j * 6) x.cells = some (putR T b (L.set j x)) := by
  have := Own.wr h (j := j) (by simpa using hj) (x := x.cells) rfl rfl
  rw [this]
  unfold putR
  rw [List.map_set]
section
variable {tt : TT} {S : ACall} {Q : APost} {s : Slots} {H : Heap}
theorem ax_midl2 (M : Slots → Heap → Prop) {b : Code} {id id2 : Nat} {K : Slots → Heap → Prop} (h1 : Ax tt S (.loop b) (AEx.inBlock id (AEx.inBlock id2 (AEx.thn M Q))) s H) (h2 : ∀ s H, M s H → K s H) : Ax tt S (.loop b) (AEx.inBlock id (AEx.inBlock id2 (AEx.thn K Q))) s H := by
  refine Ax_mono (.loop b) h1 ?_
  intro e s H h
  cases e with
  | normal => exact h2 s H h
  | exit i =>
    by_cases hi : i = id
    · subst hi
      simp only [inb_exit, if_true] at h ⊢
      exact h2 s H h
    · simp only [inb_exit, hi, if_false] at h ⊢
      by_cases hi2 : i = id2
      · subst hi2
        simp only [inb_exit, if_true] at h ⊢
        exact h2 s H h
      · simp only [inb_exit, hi2, if_false] at h ⊢
        exact h
  | ret => exact h
end
theorem putPs_two (s : Slots) (p q : Tmp) (a b : Value) : putPs s [p, q] [a, b] = upd (upd s p a) q b := rfl
theorem yr_ex {tt : TT} {P : Program} {s : Slots} {ps : Array Tmp} {x y : Code} {as : Array Value} {H1 : Heap} {R : Heap → Prop} (ha : as.size = ps.size)
    (h : Ax tt (SimF P) x (AEx.thn (fun s1 H1' => Ax tt (SimF P) y (fun e _ H' => e = .normal ∧ R H') s1 H1') (fun _ _ _ => False)) (putPs s ps.toList as.toList) H1) : ∃ H2, YR tt P s ps x y as H1 H2 ∧ R H2 := by
  have h2 : Ax tt (SimF P) (.seq x y) (fun e _ H' => e = .normal ∧ R H') (putPs s ps.toList as.toList) H1 := by
    refine Ax_mono x h ?_
    intro e s H h
    cases e with
    | normal => exact h
    | exit i => exact h.elim
    | ret => exact h.elim
  obtain ⟨e, s', H', h3, rfl, hR⟩ := ax_path (.seq x y) h2
  refine ⟨H', ⟨ha, Ax_mono x h3 ?_⟩, hR⟩
  intro e s H h
  cases e with
  | normal =>
    refine Ax_mono y h ?_
    rintro e s H ⟨rfl, rfl, rfl⟩
    exact ⟨rfl, rfl⟩
  | exit i => exact absurd h.1 (fun h => by cases h)
  | ret => exact absurd h.1 (fun h => by cases h)
theorem axT_range {tt : TT} {P : Program} {Q : APost} {s : Slots} {H : Heap} {f : Operand} {ps : Array Tmp} {x y : Code} {g : FuncId} {cap : Array Value} (R : Heap → Prop) (he : ev s f = .func (.func g) #[] cap) (hs : ∃ H', SimY P g (YR tt P s ps x y) cap H H' ∧ R H')
    (k : ∀ H', R H' → Q .normal s H') : AxT tt P (.rangeFunc f ps x y) Q s H := by
  obtain ⟨H', h1, h2⟩ := hs
  exact ⟨g, cap, H', he, h1, k H' h2⟩
section
variable {tt : TT} {S : ACall} {q : Nat} {ops : Array Oper} {K : Slots → Heap → Prop} {l : List Oper} {s : Slots} {H : Heap} {dst : Option Tmp} {ty : TypeId} {pos : String} {af : Array Edge}
theorem wl_callC {f : Operand} {args : Array Operand} {tys : Array TypeId} {v : Value} (g : FuncId) (cap : Array Value) (hf : ev s f = .func (.func g) #[] cap) (as : Array Value) (ha : args.map (ev s) = as) (hS : S (.func g) (as ++ cap) H v H)
    (k : AxL tt S q ops K l (s.put dst v) H) : AxL tt S q ops K (⟨dst, .call { callee := .value f, args := args, argTypes := tys }, ty, pos, af, none⟩ :: l) s H :=
  wl_call (first := #[]) (cap := cap) hf (by rw [ha]; simpa using hS) (fun _ => ⟨[], by simp⟩) k
end
end Go.Fw
namespace Go.Fw
open Go
theorem UU : (∀ z : Int, mkI z = iV (decide (z < 0)) (digB z.natAbs)) ∧ (∀ (g : Bool) (m : List UInt8), iV g m = .agg #[.bool g, .string (bs m)]) ∧ (∀ q : Rat, mkQ q = qV (decide (q.num < 0)) (digB q.num.natAbs) (denB q.den)) ∧
    (∀ (g : Bool) (n d : List UInt8), qV g n d = .agg #[.bool g, .string (bs n), .string (bs d)]) ∧ (∀ (g : Bool) (n : List UInt8) (g' : Bool) (d : List UInt8), fV g n g' d = .agg #[.bool g, .string (bs n), .bool g', .string (bs d)]) ∧
    (∀ (g : Bool) (n d : List UInt8), ofV g n d = fV g n false (if valB d = 0 then digB 1 else d)) ∧ (∀ (g : Bool) (n d : List UInt8) (g' : Bool) (n' d' : List UInt8), rV g n d g' n' d' = .agg #[.bool g, .string (bs n), .string (bs d), .bool g', .string (bs n'), .string (bs d')]) ∧
    (∀ c s : Rat, mkR c s = rV (decide (c.num < 0)) (digB c.num.natAbs) (denB c.den) (decide (s.num < 0)) (digB s.num.natAbs) (denB s.den)) :=
  ⟨fun _ => rfl, fun _ _ => rfl, fun _ => rfl, fun _ _ _ => rfl, fun _ _ _ _ => rfl, fun _ _ _ => rfl, fun _ _ _ _ _ _ => rfl, fun _ _ => rfl⟩
section
variable {tt : TT} {S : ACall} {q : Nat} {ops : Array Oper} {K : Slots → Heap → Prop} {l : List Oper} {s : Slots} {H : Heap} {dst : Option Tmp} {ty : TypeId} {pos : String} {af : Array Edge}
theorem kv {args : Array Operand} {tys : Array TypeId} {g : FuncId} {v : Value} {as : Array Value} (hS : S (.func g) as H v H) (k : AxL tt S q ops K l (s.put dst v) H)
    (ha : args.map (ev s) = as := by simp -implicitDefEqProofs only [go_sem, simprocAttr, UU]) : AxL tt S q ops K (⟨dst, .call { callee := .value (.func g), args := args, argTypes := tys }, ty, pos, af, none⟩ :: l) s H :=
  wl_callV as ha hS k
theorem kf {args : Array Operand} {tys : Array TypeId} {g : FuncId} {v : Value} {as : Array Value} {H' : Heap} (hS : S (.func g) as H v H') (hq : lq q dst = true → ∃ G, H' = H ++ G) (k : AxL tt S q ops K l (s.put dst v) H')
    (ha : args.map (ev s) = as := by simp -implicitDefEqProofs only [go_sem, simprocAttr, UU]) : AxL tt S q ops K (⟨dst, .call { callee := .value (.func g), args := args, argTypes := tys }, ty, pos, af, none⟩ :: l) s H :=
  wl_callF as ha hS hq k
theorem kt {args : Array Operand} {tys : Array TypeId} {g : FuncId} {R : Value → Heap → Prop} {as : Array Value} (hS : ∃ v H', S (.func g) as H v H' ∧ Ext H H' ∧ R v H') (k : ∀ v T, Ext H T → R v T → AxL tt S q ops K l (s.put dst v) T)
    (ha : args.map (ev s) = as := by simp -implicitDefEqProofs only [go_sem, simprocAttr, UU]) : AxL tt S q ops K (⟨dst, .call { callee := .value (.func g), args := args, argTypes := tys }, ty, pos, af, none⟩ :: l) s H :=
  wl_callT as ha hS k
theorem kl {args : Array Operand} {tys : Array TypeId} {g : FuncId} {v : Value} {as : Array Value} {H' : Heap} (hS : S (.func g) as H v H') (k : AxL tt S 0 ops K l (s.put dst v) H')
    (ha : args.map (ev s) = as := by simp -implicitDefEqProofs only [go_sem, simprocAttr, UU]) : AxL tt S 0 ops K (⟨dst, .call { callee := .value (.func g), args := args, argTypes := tys }, ty, pos, af, none⟩ :: l) s H :=
  wl_callF as ha hS (fun h => by cases h) k
theorem kw {args : Array Operand} {tys : Array TypeId} {g : FuncId} {v : Value} {as : Array Value} {G : Prop} (hS : S (.func g) as H v H) (k : G)
    (ha : args.map (ev s) = as := by simp -implicitDefEqProofs only [go_sem, simprocAttr, UU]) (hG : AxL tt S q ops K l (s.put dst v) H = G := by (simp -implicitDefEqProofs only [go_sem, simprocAttr, UU]; rfl)) : AxL tt S q ops K (⟨dst, .call { callee := .value (.func g), args := args, argTypes := tys }, ty, pos, af, none⟩ :: l) s H :=
  wl_callV as ha hS (hG ▸ k)
end
section
variable {P : Program} {tt : TT} {f : FuncId} {fn : Func} {c : Code} {args : Array Value} {H H1 : Heap} {v : Value} {R : Value → Heap → Prop}
theorem sxA (hT : TOK P tt) (hmix : P.follows .mixedOrders = true) (hf : P.funcs[f]? = some fn) (h : Ax tt (SimF P) c (retP tt fn (fun vs H' => R (resV vs) H')) (ini args) H)
    (hb : fn.body = some c := by exact rfl) (hname : (fn.name == "runtime.NumGoroutine") = false := by kernel_rfl) (hok : codeOk fn.ntmps c = true := by kernel_rfl) (ha : Nat.ble args.size fn.ntmps = true := by kernel_rfl) : ∃ v H', Sim P f args H v H' ∧ R v H' :=
  sim_ex hT hmix hf hb hname hok (Nat.le_of_ble_eq_true ha) h
theorem stA (hT : TOK P tt) (hmix : P.follows .mixedOrders = true) (hf : P.funcs[f]? = some fn) (h : AxT tt P c (retP tt fn (fun vs H' => R (resV vs) H')) (ini args) H)
    (hb : fn.body = some c := by exact rfl) (hname : (fn.name == "runtime.NumGoroutine") = false := by kernel_rfl) (hok : codeOkT fn.ntmps c = true := by kernel_rfl) (ha : Nat.ble args.size fn.ntmps = true := by kernel_rfl) : ∃ v H', Sim P f args H v H' ∧ R v H' :=
  sim_exT hT hmix hf hb hname hok (Nat.le_of_ble_eq_true ha) h
theorem soA (hT : TOK P tt) (hmix : P.follows .mixedOrders = true) (hf : P.funcs[f]? = some fn) (h : Ax tt (SimF P) c (retP tt fn (fun vs H' => resV vs = v ∧ H' = H1)) (ini args) H)
    (hb : fn.body = some c := by exact rfl) (hname : (fn.name == "runtime.NumGoroutine") = false := by kernel_rfl) (hok : codeOk fn.ntmps c = true := by kernel_rfl) (ha : Nat.ble args.size fn.ntmps = true := by kernel_rfl) : Sim P f args H v H1 :=
  sim_of_ax hT hmix hf hb hname hok (Nat.le_of_ble_eq_true ha) h
end
end Go.Fw
namespace Go.Fw
open Go
theorem nn_of_mul {u p : Rat} (h : 0 ≤ u * p) (hp : 0 < p) : 0 ≤ u := by
  refine Classical.byContradiction fun hn => ?_
  have h1 : 0 < -u := by grind
  have h2 := Rat.mul_pos h1 hp
  grind
theorem np_of_mul {u p : Rat} (h : u * p ≤ 0) (hp : p < 0) : 0 ≤ u := by
  have h1 : 0 ≤ u * -p := by grind
  exact nn_of_mul h1 (by grind)
theorem mul_nn {u p : Rat} (h : 0 ≤ u) (hp : 0 ≤ p) : 0 ≤ u * p := Rat.mul_nonneg h hp
theorem mul_np {u p : Rat} (h : u ≤ 0) (hp : 0 ≤ p) : u * p ≤ 0 := by
  have := Rat.mul_nonneg (show 0 ≤ -u by grind) hp
  grind
theorem mul_pn {u p : Rat} (h : 0 ≤ u) (hp : p ≤ 0) : u * p ≤ 0 := by
  have := Rat.mul_nonneg h (show 0 ≤ -p by grind)
  grind
theorem mul_pp {u p : Rat} (h : u ≤ 0) (hp : p ≤ 0) : 0 ≤ u * p := by
  have := Rat.mul_nonneg (show 0 ≤ -u by grind) (show 0 ≤ -p by grind)
  grind
theorem Rot.s0 {z : Rot} (hz : z.ok) (h : z.s = 0) : z.c = 1 ∨ z.c = -1 := by
  unfold Rot.ok at hz
  rw [h] at hz
  have : (z.c - 1) * (z.c + 1) = 0 := by grind
  rcases Rat.mul_eq_zero.1 this with h | h
  · left; grind
  · right; grind
theorem Rot.h0 {z : Rot} (hz : z.ok) (h : z.half = 0) : 0 ≤ z.s ∧ (z.s = 0 → z.c = 1) := by
  rcases z.half_cases with ⟨_, h1⟩ | ⟨h1, _⟩
  · refine ⟨by grind, fun h2 => ?_⟩
    rcases Rot.s0 hz h2 with h3 | h3 <;> grind
  · omega
theorem Rot.h1 {z : Rot} (hz : z.ok) (h : z.half = 1) : z.s ≤ 0 ∧ (z.s = 0 → z.c = -1) := by
  rcases z.half_cases with ⟨h1, _⟩ | ⟨_, h1⟩
  · omega
  · refine ⟨by grind, fun h2 => ?_⟩
    rcases Rot.s0 hz h2 with h3 | h3 <;> grind
theorem Rot.lt_iff {a b : Rot} : a.lt b ↔ (a.half = b.half ∧ 0 < a.cross b) ∨ (a.half = 0 ∧ b.half = 1) := by
  unfold Rot.lt
  have h1 := a.half_le
  have h2 := b.half_le
  by_cases h : a.half = b.half
  · rw [Rot.cmp_same h, cmpQ_zero_neg]
    constructor
    · intro h3; left; exact ⟨h, by grind⟩
    · rintro (⟨_, h3⟩ | ⟨h3, h4⟩)
      · grind
      · omega
  · rw [Rot.cmp_diff h]
    constructor
    · intro h3; right; omega
    · rintro (⟨h3, _⟩ | ⟨h3, h4⟩)
      · exact absurd h3 h
      · omega
theorem Rot.cross_id (a x b : Rot) : a.cross x * b.s + x.cross b * a.s + b.cross a * x.s = 0 := by unfold Rot.cross; grind
theorem Rot.cyc_signs {a x b : Rot} (ha : a.ok) (hx : x.ok) (hb : b.ok) (h : (a.lt x ∧ x.lt b) ∨ (x.lt b ∧ b.lt a) ∨ (b.lt a ∧ a.lt x)) :
    ¬ (a.cross x ≤ 0 ∧ b.cross a < 0) ∧ (0 < a.cross x → b.cross a < 0 → 0 ≤ x.cross b) ∧ (a.cross x ≤ 0 → 0 ≤ b.cross a → 0 ≤ x.cross b) := by
  have id := Rot.cross_id a x b
  have fa := a.half_le
  have fx := x.half_le
  have fb := b.half_le
  have a0 := Rot.h0 ha
  have a1 := Rot.h1 ha
  have x0 := Rot.h0 hx
  have x1 := Rot.h1 hx
  have b0 := Rot.h0 hb
  have b1 := Rot.h1 hb
  have dA : a.cross x = a.c * x.s - a.s * x.c := rfl
  have dB : x.cross b = x.c * b.s - x.s * b.c := rfl
  have dC : b.cross a = b.c * a.s - b.s * a.c := rfl
  have t1 := @Rot.cross_trans a x b ha hx hb
  have t2 := @Rot.cross_trans x b a hx hb ha
  have t3 := @Rot.cross_trans b a x hb ha hx
  have c1 := Rot.cross_anti a b
  have c2 := Rot.cross_anti x a
  have c3 := Rot.cross_anti b x
  simp only [Rot.lt_iff] at h
  generalize hA : a.cross x = A at *
  generalize hB : x.cross b = B at *
  generalize hC : b.cross a = C at *
  rcases h with ⟨h1, h2⟩ | ⟨h1, h2⟩ | ⟨h1, h2⟩
  · -- a < x < b
    rcases h1 with ⟨e1, p1⟩ | ⟨e1, e2⟩
    · rcases h2 with ⟨e3, p2⟩ | ⟨e3, e4⟩
      · have := t1 e1 e3 p1 p2
        refine ⟨by grind, by grind, by grind⟩
      · obtain ⟨pa, qa⟩ := a0 (by omega)
        obtain ⟨px, qx⟩ := x0 e3
        obtain ⟨pb, qb⟩ := b1 e4
        refine ⟨by grind, fun _ hc => ?_, by grind⟩
        have m1 := mul_pn (Rat.le_of_lt p1) pb
        have m2 := mul_np (Rat.le_of_lt hc) px
        by_cases hz : a.s = 0
        · have := qa hz; rw [hz, this] at dC; grind
        · exact nn_of_mul (p := a.s) (by grind) (by grind)
    · rcases h2 with ⟨e3, p2⟩ | ⟨e3, e4⟩
      · obtain ⟨pa, qa⟩ := a0 e1
        obtain ⟨px, qx⟩ := x1 e2
        obtain ⟨pb, qb⟩ := b1 (by omega)
        refine ⟨?_, by grind, by grind⟩
        rintro ⟨h1, hc⟩
        have m1 := mul_pp h1 pb
        have m2 := mul_nn (Rat.le_of_lt p2) pa
        have m3 := mul_pp (Rat.le_of_lt hc) px
        have z2 : B * a.s = 0 := by grind
        have z3 : C * x.s = 0 := by grind
        have ya : a.s = 0 := by rcases Rat.mul_eq_zero.1 z2 with h | h <;> grind
        have := qa ya
        rw [ya, this] at dC
        grind
      · omega
  · -- x < b < a
    rcases h1 with ⟨e1, p1⟩ | ⟨e1, e2⟩
    · rcases h2 with ⟨e3, p2⟩ | ⟨e3, e4⟩
      · have := t2 e1 e3 p1 p2
        refine ⟨by grind, by grind, by grind⟩
      · obtain ⟨px, qx⟩ := x0 (by omega)
        obtain ⟨pb, qb⟩ := b0 e3
        obtain ⟨pa, qa⟩ := a1 e4
        refine ⟨?_, by grind, by grind⟩
        rintro ⟨h1, hc⟩
        have m1 := mul_np h1 pb
        have m2 := mul_pn (Rat.le_of_lt p1) pa
        have m3 := mul_np (Rat.le_of_lt hc) px
        have z2 : B * a.s = 0 := by grind
        have ya : a.s = 0 := by rcases Rat.mul_eq_zero.1 z2 with h | h <;> grind
        have := qa ya
        rw [ya, this] at dC
        grind
    · rcases h2 with ⟨e3, p2⟩ | ⟨e3, e4⟩
      · obtain ⟨px, qx⟩ := x0 e1
        obtain ⟨pb, qb⟩ := b1 e2
        obtain ⟨pa, qa⟩ := a1 (by omega)
        refine ⟨by grind, by grind, fun h1 _ => ?_⟩
        have m1 := mul_pp h1 pb
        have m3 := mul_nn (Rat.le_of_lt p2) px
        by_cases hz : a.s = 0
        · have := qa hz; rw [hz, this] at dC; grind
        · exact np_of_mul (p := a.s) (by grind) (by grind)
      · omega
  · -- b < a < x
    rcases h1 with ⟨e1, p1⟩ | ⟨e1, e2⟩
    · rcases h2 with ⟨e3, p2⟩ | ⟨e3, e4⟩
      · have := t3 e1 e3 p1 p2
        refine ⟨by grind, by grind, by grind⟩
      · obtain ⟨pb, qb⟩ := b0 (by omega)
        obtain ⟨pa, qa⟩ := a0 e3
        obtain ⟨px, qx⟩ := x1 e4
        refine ⟨by grind, by grind, fun h1 _ => ?_⟩
        have m1 := mul_np h1 pb
        have m3 := mul_pn (Rat.le_of_lt p1) px
        by_cases hz : a.s = 0
        · have := qa hz; rw [hz, this] at dC; grind
        · exact nn_of_mul (p := a.s) (by grind) (by grind)
    · rcases h2 with ⟨e3, p2⟩ | ⟨e3, e4⟩
      · obtain ⟨pb, qb⟩ := b0 e1
        obtain ⟨pa, qa⟩ := a1 e2
        obtain ⟨px, qx⟩ := x1 (by omega)
        refine ⟨by grind, fun _ hc => ?_, by grind⟩
        have m1 := mul_nn (Rat.le_of_lt p2) pb
        have m3 := mul_pp (Rat.le_of_lt hc) px
        by_cases hz : a.s = 0
        · have := qa hz; rw [hz, this] at dC; grind
        · exact np_of_mul (p := a.s) (by grind) (by grind)
      · omega
theorem Rot.rel_half {a x : Rot} (ha : a.ok) (hx : x.ok) (hne : a ≠ x) : (a.back.thn x).half = if 0 < a.cross x then 0 else 1 := by
  have ho : (a.back.thn x).ok := Rot.thn_ok (Rot.back_ok ha) hx
  have e : (a.back.thn x).s = a.cross x := by unfold Rot.thn Rot.back Rot.cross; grind
  have ec : (a.back.thn x).c = a.c * x.c + a.s * x.s := by unfold Rot.thn Rot.back; grind
  rcases (a.back.thn x).half_cases with ⟨h1, h2⟩ | ⟨h1, h2⟩
  · rw [h1]
    rw [e] at h2
    by_cases h3 : 0 < a.cross x
    · rw [if_pos h3]
    · exfalso
      have h4 : a.cross x = 0 := by grind
      have := Rot.s0 ho (by rw [e]; exact h4)
      have hc : a.c * x.c + a.s * x.s = 1 := by grind
      refine hne ?_
      unfold Rot.cross at h4
      unfold Rot.ok at ha hx
      obtain ⟨ac, asn⟩ := a
      obtain ⟨xc, xs⟩ := x
      simp only at ha hx h4 hc
      refine Rot.ext' ?_ ?_ <;> grind
  · rw [h1]
    rw [e] at h2
    rw [if_neg (by grind)]
theorem Rot.between {a x b : Rot} (ha : a.ok) (hx : x.ok) (hb : b.ok) (hax : a ≠ x) (hab : a ≠ b) (h : (a.lt x ∧ x.lt b) ∨ (x.lt b ∧ b.lt a) ∨ (b.lt a ∧ a.lt x)) :
    (a.back.thn x).cmp (a.back.thn b) ≤ 0 := by
  obtain ⟨g1, g2, g3⟩ := Rot.cyc_signs ha hx hb h
  have h1 := Rot.rel_half ha hx hax
  have h2 := Rot.rel_half ha hb hab
  have c1 := Rot.cross_anti a b
  have hcr : (a.back.thn x).cross (a.back.thn b) = x.cross b := by
    unfold Rot.ok at ha
    unfold Rot.cross Rot.thn Rot.back
    simp only
    have : x.c * b.s - x.s * b.c = (a.c * a.c + a.s * a.s) * (x.c * b.s - x.s * b.c) := by rw [ha, Rat.one_mul]
    rw [this]
    grind
  by_cases p1 : 0 < a.cross x
  · rw [if_pos p1] at h1
    by_cases p2 : 0 < a.cross b
    · rw [if_pos p2] at h2
      rw [Rot.cmp_same (by omega), hcr]
      have := g2 p1 (by grind)
      rw [cmpQ_le]; grind
    · rw [if_neg p2] at h2
      rw [Rot.cmp_diff (by omega)]; omega
  · rw [if_neg p1] at h1
    by_cases p2 : 0 < a.cross b
    · exact absurd ⟨by grind, by grind⟩ g1
    · rw [if_neg p2] at h2
      rw [Rot.cmp_same (by omega), hcr]
      have := g3 (by grind) (by grind)
      rw [cmpQ_le]; grind
end Go.Fw
namespace Go.Fw
open Go
theorem shareK {G : Prop} {M K : Slots → Heap → Prop} (h1 : (∀ s T, M s T → K s T) → G) (h2 : ∀ s T, M s T → K s T) : G := h1 h2
section
variable {α : Type} {ok : α → Prop} {le : α → α → Prop}
def sw (L : List α) (i j : Nat) (hi : i < L.length) (hj : j < L.length) : List α := (L.set i L[j]).set j L[i]
theorem sw_len (L : List α) (i j : Nat) (hi : i < L.length) (hj : j < L.length) : (sw L i j hi hj).length = L.length := by simp [sw]
theorem sw_perm (L : List α) (i j : Nat) (hi : i < L.length) (hj : j < L.length) : (sw L i j hi hj).Perm L := List.set_set_perm hi hj
theorem sw_at (L : List α) (i j : Nat) (hi : i < L.length) (hj : j < L.length) (q : Nat) (hq : q < L.length) : (sw L i j hi hj)[q]'(by rw [sw_len]; exact hq) = if q = j then L[i] else if q = i then L[j] else L[q] := by
  unfold sw
  rw [List.getElem_set]
  by_cases h1 : j = q
  · rw [if_pos h1, if_pos h1.symm]
  · rw [if_neg h1, if_neg (Ne.symm h1), List.getElem_set]
    by_cases h2 : i = q
    · rw [if_pos h2, if_pos h2.symm]
    · rw [if_neg h2, if_neg (Ne.symm h2)]
theorem Within.sw (L : List α) {a b : Nat} (i j : Nat) (hi : i < L.length) (hj : j < L.length) (h1 : a ≤ i ∧ i < b) (h2 : a ≤ j ∧ j < b) : Within L (sw L i j hi hj) a b := by
  refine ⟨sw_perm L i j hi hj, fun q hq => ?_⟩
  unfold Fw.sw
  rw [List.getElem?_set_ne (by omega), List.getElem?_set_ne (by omega)]
theorem Within.at {L0 L : List α} {a b q : Nat} (h : Within L0 L a b) (hq : q < L.length) (ho : q < a ∨ b ≤ q) : L[q] = L0[q]'(by have := h.len; omega) := by
  have := h.out q ho
  rw [List.getElem?_eq_getElem hq, List.getElem?_eq_getElem (by have := h.len; omega)] at this
  exact Option.some.inj this
theorem Within.seg {L0 L : List α} {a b : Nat} (h : Within L0 L a b) (hb : b ≤ L0.length) (hab : a ≤ b) : ((L.drop a).take (b - a)).Perm ((L0.drop a).take (b - a)) := by
  have hlen := h.len
  have e1 : L.take a = L0.take a := by
    apply List.ext_getElem?
    intro q
    simp only [List.getElem?_take]
    split
    · exact h.out q (.inl ‹_›)
    · rfl
  have e2 : L.drop b = L0.drop b := by
    apply List.ext_getElem?
    intro q
    simp only [List.getElem?_drop]
    exact h.out (b + q) (.inr (by omega))
  have sp : ∀ M : List α, M = M.take a ++ ((M.drop a).take (b - a) ++ M.drop b) := fun M => by
    conv => lhs; rw [← List.take_append_drop a M]
    congr 1
    conv => lhs; rw [← List.take_append_drop (b - a) (M.drop a)]
    rw [List.drop_drop, show a + (b - a) = b by omega]
  have hp := h.perm
  rw [sp L, sp L0, e1, e2] at hp
  exact (List.perm_append_right_iff _).1 ((List.perm_append_left_iff _).1 hp)
theorem Within.from {L0 L : List α} {a b q : Nat} (h : Within L0 L a b) (hb : b ≤ L0.length) (h1 : a ≤ q) (h2 : q < b) (hq : q < L.length) : ∃ q', a ≤ q' ∧ q' < b ∧ ∃ h' : q' < L0.length, L[q] = L0[q'] := by
  have hs := h.seg hb (by omega)
  have hm : L[q] ∈ (L.drop a).take (b - a) := by
    rw [List.mem_iff_getElem]
    refine ⟨q - a, by simp; omega, ?_⟩
    simp only [List.getElem_take, List.getElem_drop]
    congr 1; omega
  have := (hs.mem_iff).1 hm
  rw [List.mem_iff_getElem] at this
  obtain ⟨i, hi, he⟩ := this
  simp only [List.length_take, List.length_drop] at hi
  simp only [List.getElem_take, List.getElem_drop] at he
  exact ⟨a + i, by omega, by omega, by omega, he.symm⟩
theorem InsI.stop2 (tr : ∀ x y z, ok x → ok y → ok z → le x y → le y z → le x z) {L : List α} {a i j : Nat} (hok : ∀ x ∈ L, ok x) (h : InsI le L a i j) (hj : a < j) (hi : j ≤ i) (hjl : j < L.length) (hle : le (L[j - 1]'(by omega)) L[j]) : SrtTo le L a (i + 1) := by
  intro p q h0 h1 h2 hp hq
  by_cases hqj : q = j
  · subst hqj
    by_cases hp1 : p = q - 1
    · subst hp1; exact hle
    · exact tr _ _ _ (hok _ (List.getElem_mem hp)) (hok _ (List.getElem_mem (by omega))) (hok _ (List.getElem_mem hq)) (h p (q - 1) h0 (by omega) (by omega) (by omega) hp (by omega)) hle
  · exact h p q h0 h1 (by omega) hqj hp hq
def Outs (le : α → α → Prop) (L : List α) (lo hi lo' hi' : Nat) : Prop := ∀ p q, lo ≤ p → p < q → q < hi → ¬ (lo' ≤ p ∧ q < hi') → ∀ (hp : p < L.length) (hq : q < L.length), le L[p] L[q]
theorem Outs.start (L : List α) (lo hi : Nat) : Outs le L lo hi lo hi := fun p q h0 h1 h2 h3 => absurd ⟨h0, h2⟩ h3
theorem Outs.srt {L : List α} {lo hi lo' hi' : Nat} (h : Outs le L lo hi lo' hi') (hs : SrtTo le L lo' hi') : SrtTo le L lo hi := fun p q h0 h1 h2 hp hq => by
  by_cases h3 : lo' ≤ p ∧ q < hi'
  · exact hs p q h3.1 h1 h3.2 hp hq
  · exact h p q h0 h1 h2 h3 hp hq
def Lb (le : α → α → Prop) (L : List α) (lo hi : Nat) : Prop := ∀ p q, p < lo → lo ≤ q → q < hi → ∀ (hp : p < L.length) (hq : q < L.length), le L[p] L[q]
theorem Lb.within {L0 L : List α} {lo hi a b : Nat} (h : Lb le L0 lo hi) (hw : Within L0 L a b) (ha : lo ≤ a) (hb : b ≤ hi) (hab : a ≤ b) (hl : b ≤ L0.length) : Lb le L lo hi := fun p q h0 h1 h2 hp hq => by
  rw [hw.at hp (.inl (by omega))]
  by_cases hin : a ≤ q ∧ q < b
  · obtain ⟨q', h3, h4, h5, he⟩ := hw.from hl hin.1 hin.2 hq
    rw [he]
    exact h p q' h0 (by omega) (by omega) _ h5
  · rw [hw.at hq (by omega)]
    exact h p q h0 h1 h2 _ _
theorem Lb.sub {L : List α} {lo hi lo' hi' : Nat} (h : Lb le L lo hi) (ho : Outs le L lo hi lo' hi') (h1 : lo ≤ lo') (h2 : hi' ≤ hi) (h3 : lo' ≤ hi') : Lb le L lo' hi' := fun p q g0 g1 g2 hp hq => by
  by_cases hpl : p < lo
  · exact h p q hpl (by omega) (by omega) hp hq
  · exact ho p q (by omega) (by omega) (by omega) (by omega) hp hq
theorem Outs.within {L0 L : List α} {lo hi lo' hi' a b : Nat} (h : Outs le L0 lo hi lo' hi') (hw : Within L0 L a b) (h1 : lo ≤ lo') (h2 : hi' ≤ hi) (ha : lo' ≤ a) (hb : b ≤ hi') (hab : a ≤ b) (hl : hi ≤ L0.length) : Outs le L lo hi lo' hi' := fun p q g0 g1 g2 g3 hp hq => by
  have key : ∀ r, ∀ hr : r < L.length, ∃ r', ∃ hr' : r' < L0.length, L[r] = L0[r'] ∧ ((a ≤ r ∧ r < b ∧ a ≤ r' ∧ r' < b) ∨ ((r < a ∨ b ≤ r) ∧ r' = r)) := fun r hr => by
    by_cases hin : a ≤ r ∧ r < b
    · obtain ⟨r', h3, h4, h5, he⟩ := hw.from (by omega) hin.1 hin.2 hr
      exact ⟨r', h5, he, .inl ⟨hin.1, hin.2, h3, h4⟩⟩
    · exact ⟨r, by have := hw.len; omega, hw.at hr (by omega), .inr ⟨by omega, rfl⟩⟩
  obtain ⟨p', hp', ep, cp⟩ := key p hp
  obtain ⟨q', hq', eq, cq⟩ := key q hq
  rw [ep, eq]
  exact h p' q' (by omega) (by omega) (by omega) (by omega) hp' hq'
theorem Outs.left {L : List α} {lo hi lo' hi' m : Nat} (h : Outs le L lo hi lo' hi') (hs : SrtTo le L lo' m) (hm : m < hi')
    (hp : ∀ p q, lo' ≤ p → p ≤ m → m ≤ q → q < hi' → p < q → ∀ (h1 : p < L.length) (h2 : q < L.length), le L[p] L[q]) : Outs le L lo hi (m + 1) hi' := fun p q g0 g1 g2 g3 hp' hq' => by
  by_cases h3 : lo' ≤ p ∧ q < hi'
  · by_cases h4 : q < m
    · exact hs p q h3.1 g1 h4 hp' hq'
    · exact hp p q h3.1 (by omega) (by omega) h3.2 g1 hp' hq'
  · exact h p q g0 g1 g2 h3 hp' hq'
theorem Outs.right {L : List α} {lo hi lo' hi' m : Nat} (h : Outs le L lo hi lo' hi') (hs : SrtTo le L (m + 1) hi') (hm : lo' ≤ m)
    (hp : ∀ p q, lo' ≤ p → p ≤ m → m ≤ q → q < hi' → p < q → ∀ (h1 : p < L.length) (h2 : q < L.length), le L[p] L[q]) : Outs le L lo hi lo' m := fun p q g0 g1 g2 g3 hp' hq' => by
  by_cases h3 : lo' ≤ p ∧ q < hi'
  · by_cases h4 : m < p
    · exact hs p q (by omega) g1 h3.2 hp' hq'
    · exact hp p q h3.1 (by omega) (by omega) h3.2 g1 hp' hq'
  · exact h p q g0 g1 g2 h3 hp' hq'
theorem Outs.equal {L : List α} {lo hi lo' hi' m : Nat} (h : Outs le L lo hi lo' hi') (hm : lo' ≤ m)
    (hp : ∀ p q, lo' ≤ p → p < m → p < q → q < hi' → ∀ (h1 : p < L.length) (h2 : q < L.length), le L[p] L[q]) : Outs le L lo hi m hi' := fun p q g0 g1 g2 g3 hp' hq' => by
  by_cases h3 : lo' ≤ p ∧ q < hi'
  · exact hp p q h3.1 (by omega) g1 h3.2 hp' hq'
  · exact h p q g0 g1 g2 h3 hp' hq'
end
end Go.Fw
namespace Go.Fw
open Go
theorem rdF (T0 : Heap) {b : Nat} {L : List RR} {j : Nat} (hb : b < T0.length) (hj : j < L.length) : ∃ x : RR, x = L[j] ∧ rd (putR T0 b L) b (j * 6) 6 = some [.bool x.g, .string (bs x.n), .string (bs x.d), .bool x.g', .string (bs x.n'), .string (bs x.d')] := by
  have r1 := ((putR_own T0 L hb).at (c := 0) (.inl rfl)).rdR (j := j) hj
  unfold RR.cells at r1
  simp only [Nat.zero_add] at r1
  exact ⟨_, rfl, r1⟩
theorem swF (T0 : Heap) {b : Nat} {L : List RR} {i j : Nat} (hb : b < T0.length) (hi : i < L.length) (hj : j < L.length) : ∃ (x y : RR) (L1 L2 : List RR), x = L[i] ∧ y = L[j] ∧ L2 = sw L i j hi hj ∧
    rd (putR T0 b L) b (i * 6) 6 = some [.bool x.g, .string (bs x.n), .string (bs x.d), .bool x.g', .string (bs x.n'), .string (bs x.d')] ∧
    rd (putR T0 b L) b (j * 6) 6 = some [.bool y.g, .string (bs y.n), .string (bs y.d), .bool y.g', .string (bs y.n'), .string (bs y.d')] ∧
    wr (putR T0 b L) b (i * 6) [.bool y.g, .string (bs y.n), .string (bs y.d), .bool y.g', .string (bs y.n'), .string (bs y.d')] = some (putR T0 b L1) ∧
    wr (putR T0 b L1) b (j * 6) [.bool x.g, .string (bs x.n), .string (bs x.d), .bool x.g', .string (bs x.n'), .string (bs x.d')] = some (putR T0 b L2) := by
  have ho := putR_own T0 L hb
  have r1 := (ho.at (c := 0) (.inl rfl)).rdR (j := i) hi
  have r2 := (ho.at (c := 0) (.inl rfl)).rdR (j := j) hj
  have w1 := ho.wr (j := i) hi L[j]
  have w2 := (putR_own T0 (L.set i L[j]) hb).wr (j := j) (by simp; omega) L[i]
  rw [putR_put] at w1 w2
  unfold RR.cells at r1 r2 w1 w2
  simp only [Nat.zero_add] at r1 r2
  exact ⟨_, _, _, _, rfl, rfl, rfl, r1, r2, w1, w2⟩
theorem RR.cells_plain (L : List RR) : (L.map RR.cells).flatten.all plain = true := by
  rw [List.all_flatten]
  simp only [List.all_map, List.all_eq_true]
  intro r _
  rfl
theorem putR_calm (T : Heap) (b : Nat) (L : List RR) : Calm T (putR T b L) := by
  refine ⟨putR_len T b L, fun q B h => ?_⟩
  unfold putR at h
  by_cases e : b = q
  · subst e
    by_cases hl : b < T.length
    · rw [List.getElem?_set_self hl] at h
      cases h
      exact .inr (RR.cells_plain L)
    · rw [List.getElem?_eq_none (by simp; omega)] at h; cases h
  · rw [List.getElem?_set_ne e] at h; exact .inl h
theorem andI_le {x : Int} {m : Nat} (hm : m < 18446744073709551616) : ∃ r : Nat, andI .u64 x (m : Int) = (r : Int) ∧ r ≤ m := by
  unfold andI
  have e : (BitVec.ofInt IntKind.u64.bits x &&& BitVec.ofInt IntKind.u64.bits (m : Int)).toNat ≤ m := by
    rw [BitVec.toNat_and]
    refine Nat.le_trans Nat.and_le_right ?_
    simp only [BitVec.toNat_ofInt]
    have : IntKind.u64.bits = 64 := rfl
    rw [this]
    have : (m : Int) % ((2 ^ 64 : Nat) : Int) = m := Int.emod_eq_of_lt (by omega) (by simp; omega)
    rw [this]; simp
  exact ⟨_, wu64n (by omega), e⟩
theorem ax_midb {tt : TT} {S : ACall} {Q : APost} {s : Slots} {H : Heap} (M : Slots → Heap → Prop) {a : Code} {id : Nat} {K : Slots → Heap → Prop} (h1 : Ax tt S a (AEx.inBlock id (AEx.thn M Q)) s H) (h2 : ∀ s H, M s H → K s H) : Ax tt S a (AEx.inBlock id (AEx.thn K Q)) s H := by
  refine Ax_mono a h1 ?_
  intro e s H h
  cases e with
  | normal => exact h2 s H h
  | exit i =>
    by_cases hi : i = id
    · subst hi
      simp only [inb_exit, if_true] at h ⊢
      exact h2 s H h
    · simp only [inb_exit, hi, if_false] at h ⊢
      exact h
  | ret => exact h
variable {tt : TT} {S : ACall} {q : Nat} {ops : Array Oper} {K : Slots → Heap → Prop} {l : List Oper} {s : Slots} {H : Heap} {dst : Option Tmp} {ty : TypeId} {pos : String} {af : Array Edge}
end Go.Fw
namespace Go.Fw
open Go
theorem Rot.mid_ok {a b : Rot} (ha : a.ok) : (Rot.mid a b).ok := by
  unfold Rot.mid
  split
  · exact Rot.thn_ok ha (by unfold Rot.ok; simp only; grind)
  · exact Rot.thn_ok ha (Rot.ofT_ok _)
theorem Rot.Sz.ofT2 {t : Rat} {k : Nat} (h : Fw.Sz t k) (h2 : 0 < k) : (Rot.ofT t).Sz (4 * k + 6) := by
  have h1 := (sz_one (k := 2) (by decide)).sub (h.mul h)
  have h3 := (sz_one (k := 2) (by decide)).add (h.mul h)
  have h4 : Fw.Sz (t + t) (k + 2) := by
    have h2' := Sz.int (z := 2) (k := 2) (by decide) (by decide)
    rw [show ((2 : Int) : Rat) = 2 from rfl] at h2'
    have := h2'.mul h
    rw [show (2 : Rat) * t = t + t by grind] at this
    exact this.mono (by omega)
  exact ⟨(h1.div h3 (by omega)).mono (by omega), (h4.div h3 (by omega)).mono (by omega)⟩
end Go.Fw
namespace Go.Fw
open Go
theorem shape_of {W : World} {a : Addr} {V : Value} (h : W.cell? a = some V) : ∃ t k, W.shape? a.block = some (t, k) ∧ k ≠ 0 := by
  unfold World.cell? at h
  unfold World.shape?
  split at h
  · rename_i c e f hk
    split at h
    · cases h
    · refine ⟨e, c.size, rfl, fun h0 => ?_⟩
      have := (Array.getElem?_eq_some_iff.1 h).1
      omega
  · cases h
section
variable {P : Program}
theorem VR.slice_own {ρ : Inj} {H : Heap} {W : World} {b i n c : Nat} {B : Blk} {V : Value} (hM : Mem ρ H W) (h : VR ρ (.slice (some ⟨b, i, none⟩) n c) V) (hB : H[b]? = some B) (ho : B.own = true) (hn : n ≠ 0) :
    ∃ p C, ρ b = some (.lies p) ∧ V = .slice (some ⟨p.blk, p.off + i, none⟩) n C ∧ n ≤ C ∧ (c = 0 ∨ C = c) ∧ (c = 0 → i + C * p.esz ≤ p.ext) ∧ Lies ρ B p W := by
  cases h with
  | slice _ _ _ _ p C hp h1 h2 h3 =>
    obtain ⟨B', hB', l⟩ := hM.lies b p hp
    rw [hB] at hB'; cases hB'
    exact ⟨p, C, hp, rfl, h1, h2, h3, l⟩
  | sliceNone _ _ A hp => exact absurd rfl hn
  | sliceDead _ _ _ _ A C hp h1 h2 =>
    have := hM.gone b hp
    rw [hB] at this; cases this
    cases ho
theorem overlaps_simX {f : FuncId} {fn : Func} {tS tR e : TypeId} {size : Nat} (hf : P.funcs[f]? = some fn) (hname : (fn.name == "runtime.NumGoroutine") = false) (hb : fn.body.isNone = true) (hn : Extern.findNext fn = none)
    (he : Extern.find fn = some (Extern.SlicesOverlaps.overlaps #[tS, tS] #[tR])) (ht : P.underlying tS = some (.slice e)) (hz : ∀ w, (sizeOf e).run P w = .ok size w)
    {H : Heap} {q b i j n m c d : Nat} {Q B : Blk} (hqb : q ≠ b) (hQ : H[q]? = some Q) (hQo : Q.own = true) (hQ0 : Q.cells ≠ []) (hB : H[b]? = some B) (hBo : B.own = true) (hB0 : B.cells ≠ []) (hn0 : n ≠ 0) (hm0 : m ≠ 0) :
    SimX P f #[.slice (some ⟨q, i, none⟩) n c, .slice (some ⟨b, j, none⟩) m d] H (.bool false) H := by
  intro ρ W ARGS hM hA
  have hs := hA.1
  obtain ⟨A0, A1, rfl⟩ : ∃ A0 A1, ARGS = #[A0, A1] := by
    match ARGS, hs with
    | ⟨[x, y]⟩, _ => exact ⟨x, y, rfl⟩
  have v0 := hA.2 0 (by simp) (by simp)
  have v1 := hA.2 1 (by simp) (by simp)
  simp only [List.getElem_toArray, List.getElem_cons_zero, List.getElem_cons_succ] at v0 v1
  obtain ⟨p, C, hp, rfl, _, _, _, l⟩ := VR.slice_own hM v0 hQ hQo hn0
  obtain ⟨p', C', hp', rfl, _, _, _, l'⟩ := VR.slice_own hM v1 hB hBo hm0
  have hne := hM.apart q b p p' Q hqb hp hp' hQ hQo
  obtain ⟨x, xs, hx⟩ := List.exists_cons_of_ne_nil hQ0
  obtain ⟨y, ys, hy⟩ := List.exists_cons_of_ne_nil hB0
  obtain ⟨V, hV, _⟩ := l.cell 0 x (by rw [hx]; rfl)
  obtain ⟨U, hU, _⟩ := l'.cell 0 y (by rw [hy]; rfl)
  obtain ⟨tA, kA, hsa, _⟩ := shape_of hV
  obtain ⟨tB, kB, hsb, hkB⟩ := shape_of hU
  refine ⟨.bool false, ρ, W, ?_, .bool _, .refl hM⟩
  rw [run_callFunc_extern hf hname hb hn he, Lib.run_overlaps_apart W tS tR e ht size hz ⟨p.blk, p.off + i, none⟩ ⟨p'.blk, p'.off + j, none⟩ n C m C' hne tA tB kA kB hsa hsb hkB (l.hot hQo _) (l.hot hQo _)]
  rfl
theorem Step.widen {ρ : Inj} {H : Heap} {W : World} (hM : Mem ρ H W) {b : Nat} {p : Place} {B : Blk} {J : List Value} (hp : ρ b = some (.lies p)) (hB : H[b]? = some B) (ho : B.own = true)
    (hJ : ∀ i v, J[i]? = some v → W.cell? ⟨p.blk, p.off + (B.cells.length + i), none⟩ = some v ∧ plain v = true) (hl : B.cells.length + J.length ≤ p.ext) :
    Step ρ H W ρ (H.set b { B with cells := B.cells ++ J }) W := by
  have hbl : b < H.length := hM.dom b (by simp [hp])
  refine ⟨⟨fun x hx => by simp; exact hM.dom x hx, fun x hx => ?_, fun x q hx => ?_, fun x y q q' B' hne hx hy hB' ho' => ?_⟩, by simp, .refl _, fun _ _ h => h, fun x q B' hx hB' _ => ?_, ⟨rfl, rfl, rfl, Nat.le_refl _, fun _ _ _ => rfl⟩⟩
  · have e : x ≠ b := fun e => by subst e; rw [hp] at hx; cases hx
    rw [List.getElem?_set_ne (Ne.symm e)]; exact hM.gone x hx
  · obtain ⟨B', hB', l⟩ := hM.lies x q hx
    by_cases e : x = b
    · subst e
      rw [hp] at hx; cases hx
      rw [hB] at hB'; cases hB'
      refine ⟨{ B with cells := B.cells ++ J }, by rw [List.getElem?_set_self hbl], ⟨l.old, l.esz, l.pos, by simp; exact hl, fun i v hv => ?_, l.mine, fun ho i V h1 h2 h3 => ?_, l.hot⟩⟩
      · dsimp only at hv
        by_cases h : i < B.cells.length
        · rw [List.getElem?_append_left h] at hv; exact l.cell i v hv
        · rw [List.getElem?_append_right (by omega)] at hv
          obtain ⟨h1, h2⟩ := hJ _ _ hv
          rw [show B.cells.length + (i - B.cells.length) = i by omega] at h1
          exact ⟨v, h1, VR.plain h2⟩
      · dsimp only at h1
        rw [List.length_append] at h1
        exact l.spare ho i V (by omega) h2 h3
    · exact ⟨B', by rw [List.getElem?_set_ne (Ne.symm e)]; exact hB', l⟩
  · by_cases e : x = b
    · subst e
      exact hM.apart x y q q' B hne hx hy hB ho
    · rw [List.getElem?_set_ne (Ne.symm e)] at hB'
      exact hM.apart x y q q' B' hne hx hy hB' ho'
  · by_cases e : x = b
    · subst e; exact ⟨x, q, B, hx, hB, rfl, fun _ => ho⟩
    · rw [List.getElem?_set_ne (Ne.symm e)] at hB'
      exact ⟨x, q, B', hx, hB', rfl, id⟩
end
section
variable {tt : TT} {S : ACall} {q : Nat} {ops : Array Oper} {K : Slots → Heap → Prop} {l : List Oper} {s : Slots} {H : Heap} {dst : Option Tmp} {ty : TypeId} {pos : String} {af : Array Edge}
theorem wl_copy {x y : Operand} {tys : Array TypeId} : AxL tt S q ops K (⟨dst, .call { callee := .builtin .copy, args := #[x, y], argTypes := tys }, ty, pos, af, none⟩ :: l) s H = AxW tt S q ops K l s dst (aCopy tt H tys.toList (ev s x) (ev s y)) := wl_builtin
theorem wl_cap {x : Operand} {tys : Array TypeId} : AxL tt S q ops K (⟨dst, .call { callee := .builtin .cap, args := #[x], argTypes := tys }, ty, pos, af, none⟩ :: l) s H = AxW tt S q ops K l s dst ((aCap tt tys.toList (ev s x)).map (fun v => (v, H))) := wl_builtin
end
section
variable {tt : TT} {T T' : Heap} {t u e : TypeId} {sz by_ : Nat} {z : Value} {q : Option (List TD)} {E U : TI} {b i n c b2 j m d k : Nat} {new old : List Value}
theorem rd_lenL (h : rd T b i n = some new) : new.length = n := by
  unfold rd at h
  split at h
  · split at h
    · rename_i hc
      cases h
      simp; omega
    · cases h
  · cases h
theorem aCopy_at {tys : List TypeId} (ht : tt t = some ⟨.slice e, sz, by_, z, q⟩) (he : tt e = some E) (hk : min m n = k) (hr : rd T b2 j (k * E.size) = some new) (hw : wr T b i new = some T') :
    aCopy tt T (t :: tys) (.slice (some ⟨b, i, none⟩) n c) (.slice (some ⟨b2, j, none⟩) m d) = some (.int .i64 (k : Nat), T') := by
  unfold aCopy
  simp only [ht, he, srcLen, srcCells, hk, hr]
  rw [if_pos ⟨rd_lenL hr, rfl⟩, hw]
  rfl
theorem aMake_at (ht : tt t = some ⟨.slice e, sz, by_, z, q⟩) (hu : tt u = some U) (hU : U.d.isI64 = true) (he : tt e = some E) (h0 : 0 < E.size) (h1 : 0 < E.bytes ∧ E.bytes ≤ 1048576) (h2 : E.zero.cells.size = E.size)
    (hc : c ≠ 0) (hk : c < n + k) (hs : (n + k) * E.bytes ≤ 1099511627776) (hr : rd T b i (n * E.size) = some old) :
    aAppend tt T [t, u] (.slice (some ⟨b, i, none⟩) n c) (.int .i64 (k : Nat)) = some (.slice (some ⟨T.length, 0, none⟩) (n + k) 0, T ++ [⟨old ++ zerosL E.zero.cells.toList (k * E.size), E.size, true⟩]) := by
  unfold aAppend
  simp only [ht, hu, he, srcLen, aAppMake, Int.toNat_natCast, hr]
  rw [if_pos ⟨h0, hU, h1.1, h1.2, h2, hc, by omega, hk, hs⟩]
end
def rowF (L : List RR) : List Value := (L.map RR.cells).flatten
theorem rowF_len (L : List RR) : (rowF L).length = L.length * 6 := by
  unfold rowF; rw [flatten_len (RR.cells_all L)]; simp; omega
theorem rowF_app (L M : List RR) : rowF (L ++ M) = rowF L ++ rowF M := by simp [rowF]
theorem rowF_cons (r : RR) (M : List RR) : rowF (r :: M) = r.cells ++ rowF M := by simp [rowF]
theorem rowF_take (L : List RR) (i : Nat) (h : i ≤ L.length) : (rowF L).take (i * 6) = rowF (L.take i) := by
  have e : L = L.take i ++ L.drop i := (List.take_append_drop i L).symm
  conv => lhs; rw [e]
  rw [rowF_app, List.take_append_of_le_length (by rw [rowF_len, List.length_take]; omega), List.take_of_length_le (by rw [rowF_len, List.length_take]; omega)]
theorem rowF_drop (L : List RR) (i : Nat) (h : i ≤ L.length) : (rowF L).drop (i * 6) = rowF (L.drop i) := by
  have e : L = L.take i ++ L.drop i := (List.take_append_drop i L).symm
  conv => lhs; rw [e]
  rw [rowF_app, List.drop_append_of_le_length (by rw [rowF_len, List.length_take]; omega), List.drop_of_length_le (by rw [rowF_len, List.length_take]; omega), List.nil_append]
theorem rowF_ok (L : List RR) : (rowF L).all isCell = true := RR.cells_ok L
theorem rd_at {T : Heap} {b i n : Nat} {B : Blk} (hB : T[b]? = some B) (he : 0 < B.esz) (hl : i + n ≤ B.cells.length) : rd T b i n = some ((B.cells.drop i).take n) := by
  unfold rd; rw [hB]; simp only; rw [if_pos ⟨he, hl⟩]
theorem wr_at {T : Heap} {b i : Nat} {B : Blk} {vs : List Value} (hB : T[b]? = some B) (ho : B.own = true) (hl : i + vs.length ≤ B.cells.length) (hc : vs.all isCell = true) : wr T b i vs = some (T.set b { B with cells := splice B.cells i vs }) := by
  unfold wr; rw [hB]; simp only; rw [if_pos ⟨ho, hl, hc⟩]
theorem aSlice_cap {tt : TT} {H : Heap} {t e : TypeId} {sz by_ : Nat} {z : Value} {q : Option (List TD)} {s b i n c l h : Nat} {lo hi : Option Value} (ht : tt t = some ⟨.slice e, sz, by_, z, q⟩) (he : sizeT tt e = some s)
    (hc : c ≠ 0) (hlo : bnd lo 0 = some l) (hhi : bnd hi n = some h) (h1 : l ≤ h) (h2 : h ≤ c) :
    aSlice tt H t (.slice (some ⟨b, i, none⟩) n c) lo hi none = some (.slice (some ⟨b, i + l * s, none⟩) (h - l) (c - l)) := by
  cases c with
  | zero => exact absurd rfl hc
  | succ c =>
    unfold aSlice
    rw [ht]
    have hm : bnd none (c + 1) = some (c + 1) := rfl
    simp only [he, hlo, hhi, hm]
    rw [if_pos ⟨h1, h2, Nat.le_refl _, by simp⟩]
end Go.Fw
namespace Go.Fw
open Go
section
variable {tt : TT} {S : ACall} {q : Nat} {ops : Array Oper} {K : Slots → Heap → Prop} {l : List Oper} {s : Slots} {H : Heap} {dst : Option Tmp} {ty : TypeId} {pos : String} {af : Array Edge}
end
section
variable {tt : TT} {T T' : Heap} {t e : TypeId} {sz by_ : Nat} {z : Value} {q : Option (List TD)} {E : TI} {b i n c : Nat}
theorem app_no2 (ht : tt t = some ⟨.slice e, sz, by_, z, q⟩) (he : tt e = some E) (h0 : 0 < E.size) (hb1 : 0 < E.bytes) (hb2 : E.bytes ≤ 1048576) {b' j d : Nat} (hr : rd T b' j (0 * E.size) = some []) :
    aAppend tt T [t, t] (.slice (some ⟨b, i, none⟩) n c) (.slice (some ⟨b', j, none⟩) 0 d) = some (.slice (some ⟨b, i, none⟩) n c, T) := by
  unfold aAppend
  simp only [ht, he, srcLen, srcCells, hr]
  rw [if_pos ⟨h0, by simp [srcKind], hb1, hb2, fun h => absurd h (by decide)⟩]
  simp
end
theorem rd_six' {T : Heap} {p : Nat} {x : RR} (h : T[p]? = some ⟨x.cells, 1, true⟩) : rd T p 0 6 = some x.cells := by
  unfold rd
  rw [h]; rfl
theorem ElAt.dropR {T : Heap} {b i c : Nat} {l : List RR} (h : ElAt 6 T b i c (l.map RR.cells)) (k : Nat) (hk : k ≤ l.length) : ElAt 6 T b (i + k * 6) (c - k) ((l.drop k).map RR.cells) := by
  obtain ⟨B, h1, h2, h3, h4⟩ := h.blk
  have hc := h.cap
  simp only [List.length_map] at h3 h4 hc
  refine ⟨?_, by decide, RR.cells_all _, ⟨B, h1, h2, by rw [List.length_map, List.length_drop]; omega, ?_⟩, RR.cells_ok _⟩
  · rw [List.length_map, List.length_drop]; omega
  · have e : (List.map RR.cells l).flatten = rowF l := rfl
    have e2 : (List.map RR.cells (l.drop k)).flatten = rowF (l.drop k) := rfl
    rw [e2, ← rowF_drop l k hk, ← e, ← h4, List.drop_take, List.drop_drop, List.length_map, List.length_drop]
    congr 1
    omega
end Go.Fw
