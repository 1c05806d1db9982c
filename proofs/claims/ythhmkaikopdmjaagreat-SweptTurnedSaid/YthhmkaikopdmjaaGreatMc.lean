/- Rotations as values; A range over a function, at the abstract machine; A range over a function, at the abstract machine: the machine does the same; Functions that hold a range over a function; Rows of elements of several cells; Iterators: walking; Sorting by insertion, in plain lists; Calls whose arguments are walked by themselves; The plane: sides, the order of points, chains that turn to the left; Convex hulls: what they are, and that there is one only; Convex hulls: two chains make one; Convex hulls: of points in order; of points that are turned; their area; Convex hulls that are turned; area; Sizes of points; the order of points as a number; Sorting in plain lists: exchanges, what stays within a part, heaps; Iterators whose loop may be left early; Ranges over functions, wherever they stand, and left early or not: the machine does the same; Functions that hold ranges over functions, wherever they stand; Walking iterators whose loop may be left; A row of rotations: what a place holds; an exchange; Rotations in cyclic order: what Between says; The middle between two rotations; the cyclic order; Rows that are in place: overlaps, spare room, an insertion; Rows that are in place: a deletion. Conditions: none. -/
import Derived.Test.YthhmkaikopdmjaaGreatMb
import Derived.RangeFuncLeaves
import Derived.Laws.Externs
import Derived.Lib.Overlaps
set_option linter.unusedSimpArgs false
set_option linter.unusedVariables false
namespace Go.Fw
open Go
structure RR where
  g : Bool
  n : List UInt8
  d : List UInt8
  g' : Bool
  n' : List UInt8
  d' : List UInt8
deriving DecidableEq
def RR.val (r : RR) : Value := rV r.g r.n r.d r.g' r.n' r.d'
def RR.cells (r : RR) : List Value := [.bool r.g, .string (bs r.n), .string (bs r.d), .bool r.g', .string (bs r.n'), .string (bs r.d')]
def RR.rot (r : RR) : Rot := ⟨qval r.g r.n r.d, qval r.g' r.n' r.d'⟩
def RR.err (r : RR) : Int := if (isCan r.g r.n r.d && isCan r.g' r.n' r.d') = true then (if r.rot.ok then 0 else 2) else 1
def RR.of (r : Rot) : RR := ⟨decide (r.c.num < 0), digB r.c.num.natAbs, denB r.c.den, decide (r.s.num < 0), digB r.s.num.natAbs, denB r.s.den⟩
structure RR.le (r : RR) (k : Nat) : Prop where
  n : 8 * r.n.length ≤ k
  d : 8 * r.d.length ≤ k
  n' : 8 * r.n'.length ≤ k
  d' : 8 * r.d'.length ≤ k
theorem RR.le.c {r : RR} {k : Nat} (h : r.le k) : QV (qV r.g r.n r.d) r.rot.c k := ⟨_, _, _, rfl, rfl, h.n, h.d⟩
theorem RR.le.s {r : RR} {k : Nat} (h : r.le k) : QV (qV r.g' r.n' r.d') r.rot.s k := ⟨_, _, _, rfl, rfl, h.n', h.d'⟩
theorem RR.le.mono {r : RR} {k k' : Nat} (h : r.le k) (hk : k ≤ k') : r.le k' := ⟨by have := h.n; omega, by have := h.d; omega, by have := h.n'; omega, by have := h.d'; omega⟩
theorem RR.of_rot (r : Rot) : (RR.of r).rot = r := by
  unfold RR.rot RR.of
  simp only [qval_mk]
theorem RR.of_val (r : Rot) : (RR.of r).val = mkR r.c r.s := rfl
structure Rot.Sz (r : Rot) (k : Nat) : Prop where
  c : Fw.Sz r.c k
  s : Fw.Sz r.s k
theorem Rot.Sz.le {r : Rot} {k : Nat} (h : r.Sz k) : (RR.of r).le (k + 7) := ⟨digB_len2 h.c.num, denB_len h.c.den, digB_len2 h.s.num, denB_len h.s.den⟩
theorem RR.le.sz {r : RR} {k : Nat} (h : r.le k) : r.rot.Sz (k + 1) := ⟨h.c.sz, h.s.sz⟩
theorem Rot.Sz.mono {r : Rot} {k k' : Nat} (h : r.Sz k) (hk : k ≤ k') : r.Sz k' := ⟨h.c.mono hk, h.s.mono hk⟩
theorem Rot.Sz.back {r : Rot} {k : Nat} (h : r.Sz k) : r.back.Sz k := ⟨h.c, h.s.neg⟩
theorem Rot.Sz.thn {a b : Rot} {j k : Nat} (h : a.Sz j) (h' : b.Sz k) : (a.thn b).Sz (2 * j + 2 * k + 1) :=
  ⟨((h.c.mul h'.c).sub (h.s.mul h'.s)).mono (by omega), ((h.s.mul h'.c).add (h.c.mul h'.s)).mono (by omega)⟩
theorem RR.err_of (r : Rot) : (RR.of r).err = if r.ok then 0 else 2 := by
  unfold RR.err
  rw [RR.of_rot]
  unfold RR.of
  simp only [isCan_mk, Bool.and_self, if_true]
theorem RR.err_zero {r : RR} : r.err = 0 ↔ r = RR.of r.rot ∧ r.rot.ok := by
  unfold RR.err
  constructor
  · intro h
    split at h
    · rename_i hc
      split at h
      · rename_i ho
        refine ⟨?_, ho⟩
        rw [Bool.and_eq_true] at hc
        have h1 := (isCan_iff _ _ _).1 hc.1
        have h2 := (isCan_iff _ _ _).1 hc.2
        obtain ⟨x1, x2, x3⟩ := qV_inj.1 h1
        obtain ⟨y1, y2, y3⟩ := qV_inj.1 h2
        unfold RR.of RR.rot
        cases r
        simp only [RR.mk.injEq] at *
        exact ⟨x1, x2, x3, y1, y2, y3⟩
      · omega
    · omega
  · rintro ⟨h, ho⟩
    have e : (isCan r.g r.n r.d && isCan r.g' r.n' r.d') = true := by
      rw [h]
      unfold RR.of
      simp only [isCan_mk, Bool.and_self]
    rw [if_pos e, if_pos ho]
theorem rd_more {H : Heap} {b i n : Nat} {x : List Value} (h : rd H b i n = some x) (G : Heap) : rd (H ++ G) b i n = some x := by
  unfold rd at h ⊢
  cases hb : H[b]? with
  | none => rw [hb] at h; cases h
  | some B =>
    have : b < H.length := by rcases List.getElem?_eq_some_iff.1 hb with ⟨h, _⟩; exact h
    rw [List.getElem?_append_left this, hb]
    rw [hb] at h
    exact h
theorem cmpQ_cases (a b : Rat) : (cmpQ a b = -1 ∧ a < b) ∨ (cmpQ a b = 0 ∧ a = b) ∨ (cmpQ a b = 1 ∧ b < a) := by
  unfold cmpQ
  by_cases h1 : a < b
  · rw [if_pos h1]; exact .inl ⟨rfl, h1⟩
  · rw [if_neg h1]
    by_cases h2 : b < a
    · rw [if_pos h2]; exact .inr (.inr ⟨rfl, h2⟩)
    · rw [if_neg h2]; exact .inr (.inl ⟨rfl, by grind⟩)
def Rot.zero : Rot := ⟨0, 0⟩
theorem sz_one {k : Nat} (hk : 2 ≤ k) : Fw.Sz (1 : Rat) k := by
  have h2 : 2 ^ 1 ≤ 2 ^ k := Nat.pow_le_pow_right (by decide) (by omega)
  have h4 : 2 ^ 2 ≤ 2 ^ k := Nat.pow_le_pow_right (by decide) (by omega)
  have h : (1 : Rat).num = 1 := rfl
  have h' : (1 : Rat).den = 1 := rfl
  exact ⟨by rw [h]; simp; omega, by rw [h']; omega⟩
end Go.Fw
namespace Go.Fw
open Go
def noCells : Obj → Bool | .cells .. => false | _ => true
theorem cell_none {W : World} {a : Addr} {o : Obj} (h : W.heap[a.block]? = some o) (ho : noCells o = true) : W.cell? a = none := by
  unfold World.cell?
  rw [h]
  cases o <;> first | rfl | (exact Bool.noConfusion (show false = true from ho))
theorem frozen_none {W : World} {a : Addr} {o : Obj} (h : W.heap[a.block]? = some o) (ho : noCells o = true) : W.frozen? a = false := by
  unfold World.frozen?
  rw [h]
  cases o <;> first | rfl | (exact Bool.noConfusion (show false = true from ho))
theorem cell_put {W : World} {k : Nat} {o o' : Obj} (h : W.heap[k]? = some o) (h1 : noCells o = true) (h2 : noCells o' = true) (a : Addr) : (W.putObj k o').cell? a = W.cell? a := by
  by_cases e : a.block = k
  · rw [cell_none (W := W.putObj k o') (o := o') (by rw [e, World.putObj_heap_same (Array.getElem?_eq_some_iff.1 h).1]) h2, cell_none (by rw [e]; exact h) h1]
  · unfold World.cell?
    rw [World.putObj_heap_other e]
theorem frozen_put {W : World} {k : Nat} {o o' : Obj} (h : W.heap[k]? = some o) (h1 : noCells o = true) (h2 : noCells o' = true) (a : Addr) : (W.putObj k o').frozen? a = W.frozen? a := by
  by_cases e : a.block = k
  · rw [frozen_none (W := W.putObj k o') (o := o') (by rw [e, World.putObj_heap_same (Array.getElem?_eq_some_iff.1 h).1]) h2, frozen_none (by rw [e]; exact h) h1]
  · unfold World.frozen?
    rw [World.putObj_heap_other e]
theorem Mem.put {ρ : Inj} {H : Heap} {W : World} (hM : Mem ρ H W) {k : Nat} {o o' : Obj} (h : W.heap[k]? = some o) (h1 : noCells o = true) (h2 : noCells o' = true) : Mem ρ H (W.putObj k o') := by
  refine ⟨hM.dom, hM.gone, fun b p hb => ?_, hM.apart⟩
  obtain ⟨B, hB, l⟩ := hM.lies b p hb
  exact ⟨B, hB, ⟨by rw [World.putObj_size]; exact l.old, l.esz, l.pos, l.len, fun i v hv => by rw [cell_put h h1 h2]; exact l.cell i v hv, fun ho i hi => by rw [cell_put h h1 h2, frozen_put h h1 h2]; exact l.mine ho i hi, fun ho i V g1 g2 g3 => l.spare ho i V g1 g2 (by rw [cell_put h h1 h2] at g3; exact g3), fun ho i => by rw [frozen_put h h1 h2]; exact l.hot ho i⟩⟩
theorem cell_push {W : World} {o : Obj} (ho : noCells o = true) (a : Addr) (ha : a.block < W.heap.size) : (World.cell? { W with heap := W.heap.push o } a) = W.cell? a := cell_old ha
theorem frozen_push {W : World} {o : Obj} (ho : noCells o = true) (a : Addr) (ha : a.block < W.heap.size) : (World.frozen? { W with heap := W.heap.push o } a) = W.frozen? a := frozen_old ha
theorem Mem.push {ρ : Inj} {H : Heap} {W : World} (hM : Mem ρ H W) {o : Obj} (ho : noCells o = true) : Mem ρ H { W with heap := W.heap.push o } := by
  refine ⟨hM.dom, hM.gone, fun b p hb => ?_, hM.apart⟩
  obtain ⟨B, hB, l⟩ := hM.lies b p hb
  exact ⟨B, hB, ⟨by simp; have := l.old; omega, l.esz, l.pos, l.len, fun i v hv => by rw [cell_push ho _ l.old]; exact l.cell i v hv, fun h i hi => by rw [cell_push ho _ l.old, frozen_push ho _ l.old]; exact l.mine h i hi, fun h i V g1 g2 g3 => l.spare h i V g1 g2 (by rw [cell_push ho _ l.old] at g3; exact g3), fun h i => by rw [frozen_push ho _ l.old]; exact l.hot h i⟩⟩
theorem Step.push {ρ : Inj} {H : Heap} {W : World} (hM : Mem ρ H W) {o : Obj} (ho : noCells o = true) : Step ρ H W ρ H { W with heap := W.heap.push o } :=
  ⟨hM.push ho, Nat.le_refl _, .refl _, fun _ _ h => h, fun b p B h1 h2 _ => ⟨b, p, B, h1, h2, rfl, id⟩, ⟨rfl, rfl, rfl, by simp, fun k hk _ => by simp [Array.getElem?_push, show k ≠ W.heap.size by omega]⟩⟩
theorem Step.put_new {ρ ρ' : Inj} {H H' : Heap} {W W' : World} (s : Step ρ H W ρ' H' W') {k : Nat} {o o' : Obj} (hk : W.heap.size ≤ k) (h : W'.heap[k]? = some o) (h1 : noCells o = true) (h2 : noCells o' = true) : Step ρ H W ρ' H' (W'.putObj k o') :=
  ⟨s.mem.put h h1 h2, s.len, s.le, s.fresh, s.placed, ⟨s.frame.os, s.frame.tape, s.frame.output, by rw [World.putObj_size]; exact s.frame.size, fun j hj hn => by rw [World.putObj_heap_other (by omega)]; exact s.frame.block j hj hn⟩⟩
theorem Step.sand {ρ ρ' : Inj} {H H' : Heap} {W W' : World} {k : Nat} {o o1 : Obj} (h : W.heap[k]? = some o) (h1 : noCells o = true) (h2 : noCells o1 = true) (hn : ¬ Owned ρ H k) (s : Step ρ H (W.putObj k o1) ρ' H' W') : Step ρ H W ρ' H' (W'.putObj k o) := by
  have hlt := (Array.getElem?_eq_some_iff.1 h).1
  have hk' : W'.heap[k]? = some o1 := by
    rw [s.frame.block k (by rw [World.putObj_size]; exact hlt) hn]
    exact World.putObj_heap_same hlt
  refine ⟨s.mem.put hk' h2 h1, s.len, s.le, s.fresh, fun b p B g1 g2 g3 => s.placed b p B g1 g2 (by rw [World.putObj_size]; exact g3), ⟨s.frame.os, s.frame.tape, s.frame.output, ?_, fun j hj hnj => ?_⟩⟩
  · have := s.frame.size
    rw [World.putObj_size] at this ⊢; exact this
  · by_cases e : j = k
    · subst e
      rw [World.putObj_heap_same (Array.getElem?_eq_some_iff.1 hk').1, h]
    · rw [World.putObj_heap_other e, s.frame.block j (by rw [World.putObj_size]; exact hj) hnj, World.putObj_heap_other e]
def SY (P : Program) (l : Nat) (Y : Array Value → Heap → Heap → Prop) : ACall := fun fn => match fn with
  | .func g => Sim P g
  | .yield l' => fun as H v H' => l' = l ∧ v = .bool true ∧ Y as H H'
  | _ => fun _ _ _ _ => False
def SimY (P : Program) (g : FuncId) (Y : Array Value → Heap → Heap → Prop) (cap : Array Value) (H H' : Heap) : Prop :=
  (∃ fn, P.funcs[g]? = some fn ∧ (fn.name == "runtime.NumGoroutine") = false ∧ fn.body.isNone = false) ∧
  ∀ (l : Nat) (X : Inj → Heap → World → Prop), (∀ {ρ H W ρ' H' W'}, X ρ H W → Step ρ H W ρ' H' W' → X ρ' H' W') →
    (∀ as H1 H2, Y as H1 H2 → ∀ m ρ W ARGS, Mem ρ H1 W → X ρ H1 W → VRs ρ as ARGS → YieldAt (FW none) m P l ARGS W fun e W' => ∃ ρ', e = .returned (.bool true) ∧ Step ρ H1 W ρ' H2 W') →
    ∀ (m : Nat) (ρ : Inj) (W : World) (CAP : Array Value), Mem ρ H W → X ρ H W → VRs ρ cap CAP → CallsIn (FW none) m P g (#[.func (.yield l) #[] #[]] ++ CAP) W fun e W' => ∃ V ρ', e = .returned V ∧ Step ρ H W ρ' H' W'
section
variable {P : Program} {tt : TT} {m n : Nat} {ds : List Deferred} {S : ACall} {X : Inj → Heap → World → Prop}
theorem rel_ini {args ARGS : Array Value} {ρ : Inj} {H : Heap} {W : World} {k : Nat} (hM : Mem ρ H W) (hA : VRs ρ args ARGS) (ha : args.size ≤ k) :
    Rel k [] ρ (ini args) H { tmps := ARGS ++ Array.replicate (k - ARGS.size) undef, defers := [] } W := by
  have hsz := hA.1
  refine ⟨hM, by simp; omega, rfl, fun t => ?_⟩
  unfold ini
  by_cases hlt : t < args.size
  · have e1 : args.getD t undef = args[t] := by simp [Array.getD_eq_getD_getElem?, hlt]
    have e2 : (ARGS ++ Array.replicate (k - ARGS.size) undef).getD t undef = ARGS[t] := by
      rw [Array.getD_eq_getD_getElem?, Array.getElem?_append_left (by omega), Array.getElem?_eq_getElem (by omega)]; rfl
    rw [e1]
    simp only
    rw [e2]; exact hA.2 t hlt (by omega)
  · have e1 : args.getD t undef = undef := by simp [Array.getD_eq_getD_getElem?, Array.getElem?_eq_none (by omega : args.size ≤ t)]
    have e2 : (ARGS ++ Array.replicate (k - ARGS.size) undef).getD t undef = undef := by
      rw [Array.getD_eq_getD_getElem?, Array.getElem?_append_right (by omega)]
      by_cases h2 : t - ARGS.size < k - ARGS.size
      · simp [Array.getElem?_replicate, h2]
      · simp [Array.getElem?_replicate, h2]
    rw [e1]
    simp only
    rw [e2]; exact VR.undef ρ
theorem simY_of_ax {g : FuncId} {fn : Func} {c : Code} {cap : Array Value} {H H1 : Heap} {Y : Array Value → Heap → Heap → Prop} (hT : TOK P tt) (hmix : P.follows .mixedOrders = true) (hf : P.funcs[g]? = some fn) (hb : fn.body = some c)
    (hname : (fn.name == "runtime.NumGoroutine") = false) (hok : codeOk fn.ntmps c = true) (ha : cap.size + 1 ≤ fn.ntmps)
    (h : ∀ l, Ax tt (SY P l Y) c (retP tt fn (fun _ H' => H' = H1)) (ini (#[.func (.yield l) #[] #[]] ++ cap)) H) : SimY P g Y cap H H1 := by
  refine ⟨⟨fn, hf, hname, by rw [hb]; rfl⟩, fun l X hst hy m ρ W CAP hM hX hC => ?_⟩
  have hS : Snd P none (SY P l Y) X := by
    refine ⟨hst, fun h => .inl h, fun {l'} {as} {H} {v} {H'} hl m ρ W ARGS hM hX hA => ?_⟩
    obtain ⟨rfl, rfl, hY⟩ := hl
    obtain ⟨fn, tmps, assign, body, h1, h2⟩ := hy as H H' hY m ρ W ARGS hM hX hA
    exact ⟨fn, tmps, assign, body, h1, h2.mono (fun e W' ⟨ρ', he, hs⟩ => ⟨_, ρ', he, .bool _, hs⟩)⟩
  have hA : VRs ρ (#[.func (.yield l) #[] #[]] ++ cap) (#[.func (.yield l) #[] #[]] ++ CAP) := by
    refine ⟨by simp [hC.1], fun i h1 h2 => ?_⟩
    cases i with
    | zero => simpa using VR.yield l
    | succ i =>
      have e1 : (#[Value.func (.yield l) #[] #[]] ++ cap)[i + 1] = cap[i]'(by simp at h1; omega) := by simp [Array.getElem_append]
      have e2 : (#[Value.func (.yield l) #[] #[]] ++ CAP)[i + 1] = CAP[i]'(by simp at h2; omega) := by simp [Array.getElem_append]
      rw [e1, e2]; exact hC.2 i _ _
  have hR := rel_ini hM hA (show (#[Value.func (.yield l) #[] #[]] ++ cap).size ≤ fn.ntmps by simp; omega)
  refine callsIn_of_wp hf hb trivial ?_ rfl
  refine ax_sound (r := none) (m := m) (ds := []) (QC := bodyPost P fn fun e W' => ∃ V ρ', e = .returned V ∧ Step ρ H W ρ' H1 W') hS hT hmix c hok (h l) hX hR ?_
  intro e s' H' a' ρ' W' hQ hR' hs
  have fin : (∃ vs, resL tt s' H' fn.results.toList = some vs ∧ H' = H1) → a'.defers = [] ∧ ∃ V, (results fn a'.tmps).run P W' = .ok V W' ∧ ∃ V' ρ'', Ending.returned V = .returned V' ∧ Step ρ H W ρ'' H1 W' := by
    rintro ⟨vs, h1, rfl⟩
    obtain ⟨V, h2, h3⟩ := results_sim (fn := fn) hT hR' h1
    exact ⟨hR'.defers, V, h2, V, ρ', rfl, hs⟩
  cases e with
  | normal => exact fin hQ
  | ret => exact fin hQ
  | exit id => exact hQ.elim
def putPs (s : Slots) (ps : List Tmp) (as : List Value) : Slots := (ps.zip as).foldl (fun s x => s.put (some x.1) x.2) s
def YR (tt : TT) (P : Program) (s : Slots) (ps : Array Tmp) (x y : Code) : Array Value → Heap → Heap → Prop := fun as H1 H2 => as.size = ps.size ∧
  Ax tt (SimF P) x (AEx.thn (fun s1 H1' => Ax tt (SimF P) y (fun e _ H' => e = .normal ∧ H' = H2) s1 H1') (fun _ _ _ => False)) (putPs s ps.toList as.toList) H1
end
end Go.Fw
namespace Go.Fw
open Go
section
variable {P : Program} {tt : TT} {m n : Nat} {ds : List Deferred}
def Marks (B : Nat) (ds : List Deferred) (ρ : Inj) (H : Heap) (W : World) : Prop :=
  ∃ ks : List Nat, ds = ks.map (fun k => { target := .collected k, args := #[] }) ∧ ks.Nodup ∧ ∀ k ∈ ks, B ≤ k ∧ W.heap[k]? = some (.deferred (some [])) ∧ ¬ Owned ρ H k
theorem Marks.step {B : Nat} {ρ ρ' : Inj} {H H' : Heap} {W W' : World} (h : Marks B ds ρ H W) (s : Step ρ H W ρ' H' W') : Marks B ds ρ' H' W' := by
  obtain ⟨ks, h1, h2, h3⟩ := h
  refine ⟨ks, h1, h2, fun k hk => ?_⟩
  obtain ⟨g1, g2, g3⟩ := h3 k hk
  have hlt := (Array.getElem?_eq_some_iff.1 g2).1
  exact ⟨g1, (s.frame.block k hlt g3).trans g2, fun ho => g3 (s.owned k hlt ho)⟩
theorem putPs_rel {ρ : Inj} : ∀ (ps : List Tmp) (as AS : List Value) (s : Slots) (tmps : Array Value), (∀ t, VR ρ (s t) (tmps.getD t undef)) → (∀ p ∈ ps, p < tmps.size) → VRl ρ as AS →
    (∀ t, VR ρ (putPs s ps as t) (((ps.zip AS).foldl (fun T (x : Tmp × Value) => T.setIfInBounds x.1 x.2) tmps).getD t undef)) ∧ ((ps.zip AS).foldl (fun T (x : Tmp × Value) => T.setIfInBounds x.1 x.2) tmps).size = tmps.size := by
  intro ps
  induction ps with
  | nil => intro as AS s tmps h _ _; exact ⟨by simpa [putPs] using h, rfl⟩
  | cons p ps ih =>
    intro as AS s tmps h hp hA
    obtain ⟨hl, hv⟩ := hA
    cases as with
    | nil =>
      cases AS with
      | nil => exact ⟨by simpa [putPs] using h, rfl⟩
      | cons _ _ => simp at hl
    | cons a as =>
      cases AS with
      | nil => simp at hl
      | cons A AS =>
        have hput := put_rel (a := { tmps := tmps, defers := [] }) h (dst := some p) (fun d hd => by cases hd; exact hp p (by simp)) (hv 0 (by simp) (by simp))
        simp only [List.getElem_cons_zero, Act.put] at hput
        have := ih as AS (s.put (some p) a) (tmps.setIfInBounds p A) hput (fun q hq => by simpa using hp q (by simp [hq])) ⟨by simpa using hl, fun i h1 h2 => by
          have := hv (i + 1) (by simp; omega) (by simp; omega)
          simp only [List.getElem_cons_succ] at this
          exact this⟩
        refine ⟨this.1, ?_⟩
        rw [List.zip_cons_cons, List.foldl_cons, this.2]; simp
end
end Go.Fw
namespace Go.Fw
open Go
section
variable {P : Program} {tt : TT} {m n : Nat}
theorem axT_leaf {c : Code} {B : Nat} {Q : APost} {QC : Exit → Act → World → Prop} {s : Slots} {H : Heap} {ρ : Inj} {a : Act} {W : World} {ds : List Deferred} (hT : TOK P tt) (hmix : P.follows .mixedOrders = true) (hk : codeOk n c = true) (h : Ax tt (SimF P) c Q s H) (hR : Rel n ds ρ s H a W) (hM : Marks B ds ρ H W)
    (hn : ∀ e s' H' a' ρ' W' ds', Q e s' H' → Rel n ds' ρ' s' H' a' W' → Marks B ds' ρ' H' W' → Step ρ H W ρ' H' W' → QC e.ex a' W') : c.wpIn (FW none) m P QC a W :=
  ax_sound (r := none) (ds := ds) (snd_sim P none) hT hmix c hk h trivial hR (fun e s' H' a' ρ' W' hQ hR' hs => hn e s' H' a' ρ' W' ds hQ hR' (hM.step hs) hs)
theorem leave_sound {B : Nat} {fn : Func} {R : Ending → World → Prop} {H0 : Heap} {ρ0 : Inj} {W0 : World} (hB : B = W0.heap.size) (hT : TOK P tt) : ∀ (ks : List Nat) {ds : List Deferred} {s : Slots} {H : Heap} {ρ : Inj} {a : Act} {W : World} {vs : List Value}, ks.Nodup → (∀ k ∈ ks, B ≤ k ∧ W.heap[k]? = some (.deferred (some [])) ∧ ¬ Owned ρ H k) →
    Rel n ds ρ s H a W → Step ρ0 H0 W0 ρ H W → resL tt s H fn.results.toList = some vs → (∀ V ρ' W', VR ρ' (resV vs) V → Step ρ0 H0 W0 ρ' H W' → R (.returned V) W') →
    LeavesInM (FW none) m P fn a.tmps R (ks.map fun k => { target := .collected k, args := #[] }) .returning W := by
  intro ks
  induction ks with
  | nil =>
    intro ds s H ρ a W vs _ _ hR hs hv hn
    obtain ⟨V, h2, h3⟩ := results_sim (fn := fn) hT hR hv
    exact ⟨V, h2, hn V ρ W h3 hs⟩
  | cons k ks ih =>
    intro ds s H ρ a W vs hnd hk hR hs hv hn
    obtain ⟨g1, g2, g3⟩ := hk k (by simp)
    have hnd' := List.nodup_cons.1 hnd
    refine ⟨by simp, .inl ⟨k, _, rfl, run_takeDeferred g2, ?_⟩⟩
    have hs' := hs.put_new (k := k) (o' := .deferred none) (by omega) g2 rfl rfl
    refine ih hnd'.2 ?_ ⟨hs'.mem, hR.size, hR.defers, hR.slots⟩ hs' hv hn
    intro j hj
    obtain ⟨q1, q2, q3⟩ := hk j (by simp [hj])
    have hne : j ≠ k := by rintro rfl; exact hnd'.1 hj
    exact ⟨q1, (World.putObj_heap_other hne).trans q2, q3⟩
section
variable {Q : APost} {s : Slots} {H : Heap}
end
end
end Go.Fw
namespace Go.Fw
open Go
structure ElAt (k : Nat) (H : Heap) (b i c : Nat) (l : List (List Value)) : Prop where
  cap : c = 0 ∨ l.length ≤ c
  pos : 0 < k
  all : ∀ x ∈ l, x.length = k
  blk : ∃ B, H[b]? = some B ∧ B.esz = k ∧ i + k * l.length ≤ B.cells.length ∧ (B.cells.drop i).take (k * l.length) = l.flatten
  cell : l.flatten.all isCell = true
def El (k : Nat) (H : Heap) (v : Value) (l : List (List Value)) : Prop := ((v = .slice none 0 0 ∨ ∃ b i c, v = .slice (some ⟨b, i, none⟩) 0 c) ∧ l = []) ∨ ∃ b i c, v = .slice (some ⟨b, i, none⟩) l.length c ∧ ElAt k H b i c l
theorem flatten_len {k : Nat} {l : List (List Value)} (h : ∀ x ∈ l, x.length = k) : l.flatten.length = k * l.length := by
  induction l with
  | nil => simp
  | cons x l ih =>
    simp only [List.flatten_cons, List.length_append, List.length_cons]
    rw [ih (fun y hy => h y (by simp [hy])), h x (by simp), Nat.mul_add]; omega
theorem flatten_at {k : Nat} : ∀ {l : List (List Value)} (h : ∀ x ∈ l, x.length = k) {j : Nat} (hj : j < l.length), (l.flatten.drop (j * k)).take k = l[j] := by
  intro l
  induction l with
  | nil => intro h j hj; simp at hj
  | cons x l ih =>
    intro h j hj
    cases j with
    | zero => simp [h x (by simp)]
    | succ j =>
      have hx := h x (by simp)
      rw [List.flatten_cons, List.drop_append, List.drop_eq_nil_of_le (by rw [hx, Nat.add_mul]; omega), List.nil_append]
      have e : (j + 1) * k - x.length = j * k := by rw [hx, Nat.add_mul]; omega
      rw [e]
      exact ih (fun y hy => h y (by simp [hy])) (by simpa using hj)
theorem ElAt.rd {k : Nat} {H : Heap} {b i c : Nat} {l : List (List Value)} (h : ElAt k H b i c l) {j : Nat} (hj : j < l.length) : Fw.rd H b (i + j * k) k = some l[j] := by
  obtain ⟨B, h1, h2, h3, h4⟩ := h.blk
  have hk := h.pos
  have hle : (j + 1) * k ≤ k * l.length := by rw [Nat.mul_comm k]; exact Nat.mul_le_mul_right _ hj
  rw [Nat.add_mul] at hle
  unfold Fw.rd
  rw [h1]
  simp only
  rw [if_pos (by omega)]
  congr 1
  rw [← flatten_at h.all hj, ← h4, List.drop_take, List.take_take, List.drop_drop]
  congr 1
  omega
theorem ElAt.rdAll {k : Nat} {H : Heap} {b i c : Nat} {l : List (List Value)} (h : ElAt k H b i c l) : Fw.rd H b i (l.length * k) = some l.flatten := by
  obtain ⟨B, h1, h2, h3, h4⟩ := h.blk
  have hk := h.pos
  unfold Fw.rd
  rw [h1]
  simp only
  rw [Nat.mul_comm k] at h3 h4
  rw [if_pos (by omega), h4]
theorem ElAt.app {k : Nat} {H : Heap} {b i c : Nat} {l : List (List Value)} (h : ElAt k H b i c l) (G : Heap) : ElAt k (H ++ G) b i c l := by
  obtain ⟨B, h1, h2⟩ := h.blk
  have : b < H.length := by rcases List.getElem?_eq_some_iff.1 h1 with ⟨h, _⟩; exact h
  exact ⟨h.cap, h.pos, h.all, ⟨B, by rw [List.getElem?_append_left this]; exact h1, h2⟩, h.cell⟩
theorem El.app {k : Nat} {H : Heap} {v : Value} {l : List (List Value)} (h : El k H v l) (G : Heap) : El k (H ++ G) v l := by
  rcases h with h | ⟨b, i, c, h1, h2⟩
  · exact .inl h
  · exact .inr ⟨b, i, c, h1, h2.app G⟩
theorem El.ext {k : Nat} {H H' : Heap} {v : Value} {l : List (List Value)} (h : El k H v l) (e : Ext H H') : El k H' v l := by obtain ⟨G, rfl⟩ := e; exact h.app G
theorem ElAt.ext {k : Nat} {H H' : Heap} {b i c : Nat} {l : List (List Value)} (h : ElAt k H b i c l) (e : Ext H H') : ElAt k H' b i c l := by obtain ⟨G, rfl⟩ := e; exact h.app G
theorem ElAt.lt {k : Nat} {H : Heap} {b i c : Nat} {l : List (List Value)} (h : ElAt k H b i c l) : b < H.length := by
  obtain ⟨B, h1, _⟩ := h.blk
  rcases List.getElem?_eq_some_iff.1 h1 with ⟨h, _⟩; exact h
theorem ElAt.set {k : Nat} {H : Heap} {b i c : Nat} {l : List (List Value)} (h : ElAt k H b i c l) {b' : Nat} (hb : b ≠ b') (B : Blk) : ElAt k (H.set b' B) b i c l := by
  obtain ⟨X, h1, h2⟩ := h.blk
  exact ⟨h.cap, h.pos, h.all, ⟨X, by rw [List.getElem?_set_ne (Ne.symm hb)]; exact h1, h2⟩, h.cell⟩
theorem El.at {k : Nat} {H : Heap} {v : Value} {l : List (List Value)} (h : El k H v l) (h0 : l ≠ []) : ∃ b i c, v = .slice (some ⟨b, i, none⟩) l.length c ∧ ElAt k H b i c l := by
  rcases h with ⟨_, h⟩ | h
  · exact absurd h h0
  · exact h
theorem El.len {k : Nat} {tt : TT} {H : Heap} {v : Value} {l : List (List Value)} (h : El k H v l) {t e : TypeId} {sz by_ : Nat} {z : Value} {q : Option (List TD)} (ht : tt t = some ⟨.slice e, sz, by_, z, q⟩) : aLen tt [t] v = some (.int .i64 (l.length : Nat)) := by
  rcases h with ⟨rfl | ⟨b, i, c, rfl⟩, rfl⟩ | ⟨b, i, c, rfl, h⟩ <;> simp [aLen, ht]
structure Own (k : Nat) (T : Heap) (b : Nat) (l : List (List Value)) : Prop where
  pos : 0 < k
  all : ∀ x ∈ l, x.length = k
  blk : T[b]? = some ⟨l.flatten, k, true⟩
  cell : l.flatten.all isCell = true
theorem Own.at {k : Nat} {T : Heap} {b : Nat} {l : List (List Value)} (h : Own k T b l) {c : Nat} (hc : c = 0 ∨ l.length ≤ c) : ElAt k T b 0 c l :=
  ⟨hc, h.pos, h.all, ⟨_, h.blk, rfl, by simp only [flatten_len h.all]; omega, by simp only [List.drop_zero]; exact List.take_of_length_le (by rw [flatten_len h.all]; exact Nat.le_refl _)⟩, h.cell⟩
theorem Own.lt {k : Nat} {T : Heap} {b : Nat} {l : List (List Value)} (h : Own k T b l) : b < T.length := by rcases List.getElem?_eq_some_iff.1 h.blk with ⟨h, _⟩; exact h
theorem Own.app {k : Nat} {T : Heap} {b : Nat} {l : List (List Value)} (h : Own k T b l) (G : Heap) : Own k (T ++ G) b l :=
  ⟨h.pos, h.all, by rw [List.getElem?_append_left h.lt]; exact h.blk, h.cell⟩
theorem Own.other {k : Nat} {T : Heap} {b b' : Nat} {l : List (List Value)} (h : Own k T b l) (hb : b' ≠ b) (B : Blk) : Own k (T.set b' B) b l :=
  ⟨h.pos, h.all, by rw [List.getElem?_set_ne hb]; exact h.blk, h.cell⟩
theorem Own.new {k : Nat} (T : Heap) {l : List (List Value)} (hk : 0 < k) (ha : ∀ x ∈ l, x.length = k) (hc : l.flatten.all isCell = true) : Own k (T ++ [⟨l.flatten, k, true⟩]) T.length l :=
  ⟨hk, ha, by simp, hc⟩
theorem all_app {k : Nat} {l m : List (List Value)} (h : ∀ x ∈ l, x.length = k) (h' : ∀ x ∈ m, x.length = k) : ∀ x ∈ l ++ m, x.length = k := by
  intro x hx
  rcases List.mem_append.1 hx with hx | hx
  · exact h x hx
  · exact h' x hx
section
variable {tt : TT} {T : Heap} {t e : TypeId} {sz by_ k : Nat} {z : Value} {q : Option (List TD)} {d : TD} {ez : Value} {eq : Option (List TD)} {eb : Nat} {l m : List (List Value)} {b bx ix cx : Nat}
theorem append_own (ht : tt t = some ⟨.slice e, sz, by_, z, q⟩) (he : tt e = some ⟨d, k, eb, ez, eq⟩) (hez : ez.cells.size = k) (hb1 : 0 < eb) (hb2 : eb ≤ 1048576)
    (h : Own k T b l) (hx : ElAt k T bx ix cx m) (h0 : m ≠ []) (hs : (l.length + m.length) * eb ≤ 1099511627776) :
    aAppend tt T [t, t] (.slice (some ⟨b, 0, none⟩) l.length 0) (.slice (some ⟨bx, ix, none⟩) m.length cx) = some (.slice (some ⟨T.length, 0, none⟩) (l.length + m.length) 0, T.set b deadBlk ++ [⟨(l ++ m).flatten, k, true⟩]) := by
  have hold := (h.at (c := 0) (.inl rfl)).rdAll
  have hnew := hx.rdAll
  have hm : 0 < m.length := List.length_pos_iff.2 h0
  have hlen := flatten_len hx.all
  have hd : l.flatten.drop (0 + l.length * k) = [] := by
    rw [List.drop_eq_nil_iff, flatten_len h.all, Nat.zero_add, Nat.mul_comm]
    exact Nat.le_refl _
  unfold aAppend
  simp only [ht, he, srcLen, srcKind, srcCells, hnew, hold, h.blk]
  rw [if_pos ⟨h.pos, trivial, hb1, hb2, fun _ => hez⟩, if_pos ⟨by rw [hlen, Nat.mul_comm], hx.cell⟩, if_neg (by omega), if_pos hs, if_neg (by simp), hd]
  simp
theorem append_none (ht : tt t = some ⟨.slice e, sz, by_, z, q⟩) (he : tt e = some ⟨d, k, eb, ez, eq⟩) (hez : ez.cells.size = k) (hb1 : 0 < eb) (hb2 : eb ≤ 1048576)
    (hx : ElAt k T bx ix cx m) (h0 : m ≠ []) (hs : m.length * eb ≤ 1099511627776) :
    aAppend tt T [t, t] (.slice none 0 0) (.slice (some ⟨bx, ix, none⟩) m.length cx) = some (.slice (some ⟨T.length, 0, none⟩) m.length 0, T ++ [⟨m.flatten, k, true⟩]) := by
  have hnew := hx.rdAll
  have hm : 0 < m.length := List.length_pos_iff.2 h0
  have hlen := flatten_len hx.all
  unfold aAppend
  simp only [ht, he, srcLen, srcKind, srcCells, hnew]
  rw [if_pos ⟨hx.pos, trivial, hb1, hb2, fun _ => hez⟩, if_pos ⟨by rw [hlen, Nat.mul_comm], hx.cell⟩, if_neg (by omega), if_pos hs]
end
theorem splice_el {k : Nat} : ∀ {l : List (List Value)} {x : List Value} (h : ∀ y ∈ l, y.length = k) (hx : x.length = k) {j : Nat} (hj : j < l.length), splice l.flatten (j * k) x = (l.set j x).flatten := by
  intro l x
  induction l with
  | nil => intro h hx j hj; simp at hj
  | cons y l ih =>
    intro h hx j hj
    have hy := h y (by simp)
    cases j with
    | zero =>
      unfold splice
      simp [hy, hx]
    | succ j =>
      have := ih (fun y hy => h y (by simp [hy])) hx (j := j) (by simpa using hj)
      unfold splice at this ⊢
      have e : (j + 1) * k = y.length + j * k := by rw [hy, Nat.add_mul]; omega
      have e2 : y.length + j * k + x.length = y.length + (j * k + x.length) := by omega
      simp only [List.flatten_cons, List.set_cons_succ]
      rw [e, List.take_length_add_append, e2, List.drop_length_add_append, ← this]
      simp
theorem Own.wr {k : Nat} {T : Heap} {b : Nat} {l : List (List Value)} (h : Own k T b l) {j : Nat} (hj : j < l.length) {x : List Value} (hx : x.length = k) (hc : x.all isCell = true) : Fw.wr T b (j * k) x = some (T.set b ⟨(l.set j x).flatten, k, true⟩) := by
  rw [wr_eq, h.blk]
  simp only
  have hle : (j + 1) * k ≤ k * l.length := by rw [Nat.mul_comm k]; exact Nat.mul_le_mul_right _ hj
  rw [Nat.add_mul] at hle
  rw [if_pos ⟨trivial, by rw [flatten_len h.all, hx]; omega, by rw [← allC_eq]; exact hc⟩, splice_el h.all hx hj]
theorem set_all {k : Nat} {l : List (List Value)} (h : ∀ y ∈ l, y.length = k) {j : Nat} {x : List Value} (hx : x.length = k) : ∀ y ∈ l.set j x, y.length = k := by
  intro y hy
  rcases List.mem_or_eq_of_mem_set hy with hy | rfl
  · exact h y hy
  · exact hx
theorem flat_cell {l : List (List Value)} : l.flatten.all isCell = true ↔ ∀ x ∈ l, x.all isCell = true := by
  simp only [List.all_eq_true, List.mem_flatten]
  constructor
  · intro h x hx y hy; exact h y ⟨x, hx, hy⟩
  · rintro h y ⟨x, hx, hy⟩; exact h x hx y hy
theorem Own.set {k : Nat} {T : Heap} {b : Nat} {l : List (List Value)} (h : Own k T b l) {j : Nat} {x : List Value} (hx : x.length = k) (hc : x.all isCell = true) : Own k (T.set b ⟨(l.set j x).flatten, k, true⟩) b (l.set j x) := by
  refine ⟨h.pos, set_all h.all hx, by rw [List.getElem?_set_self h.lt], ?_⟩
  rw [flat_cell]
  intro y hy
  rcases List.mem_or_eq_of_mem_set hy with hy | rfl
  · exact flat_cell.1 h.cell y hy
  · exact hc
def RL (H : Heap) (v : Value) (l : List RR) : Prop := El 6 H v (l.map RR.cells)
theorem RR.cells_len (r : RR) : r.cells.length = 6 := rfl
theorem RR.cells_all (l : List RR) : ∀ x ∈ l.map RR.cells, x.length = 6 := by
  intro x hx
  obtain ⟨r, _, rfl⟩ := List.mem_map.1 hx
  rfl
theorem RR.cells_ok (l : List RR) : (l.map RR.cells).flatten.all isCell = true := by
  rw [flat_cell]
  intro x hx
  obtain ⟨r, _, rfl⟩ := List.mem_map.1 hx
  rfl
theorem RL.ext {H H' : Heap} {v : Value} {l : List RR} (h : RL H v l) (e : Ext H H') : RL H' v l := El.ext h e
theorem RL.len {tt : TT} {H : Heap} {v : Value} {l : List RR} (h : RL H v l) {t e : TypeId} {sz by_ : Nat} {z : Value} {q : Option (List TD)} (ht : tt t = some ⟨.slice e, sz, by_, z, q⟩) : aLen tt [t] v = some (.int .i64 (l.length : Nat)) := by
  have := El.len h ht
  simpa using this
theorem RL.at {H : Heap} {v : Value} {l : List RR} (h : RL H v l) (h0 : l ≠ []) : ∃ b i c, v = .slice (some ⟨b, i, none⟩) l.length c ∧ ElAt 6 H b i c (l.map RR.cells) := by
  obtain ⟨b, i, c, h1, h2⟩ := El.at h (by simpa using h0)
  exact ⟨b, i, c, by simpa using h1, h2⟩
theorem ElAt.rdR {H : Heap} {b i c : Nat} {l : List RR} (h : ElAt 6 H b i c (l.map RR.cells)) {j : Nat} (hj : j < l.length) : Fw.rd H b (i + j * 6) 6 = some l[j].cells := by
  have := h.rd (j := j) (by simpa using hj)
  simpa using this
def OwnR (T : Heap) (b : Nat) (l : List RR) : Prop := Own 6 T b (l.map RR.cells)
theorem OwnR.rl {T : Heap} {b : Nat} {l : List RR} (h : OwnR T b l) : RL T (.slice (some ⟨b, 0, none⟩) l.length 0) l := by
  have := h.at (c := 0) (.inl rfl)
  exact .inr ⟨b, 0, 0, by simp, this⟩
theorem OwnR.new (T : Heap) (l : List RR) : OwnR (T ++ [⟨(l.map RR.cells).flatten, 6, true⟩]) T.length l := Own.new T (by decide) (RR.cells_all l) (RR.cells_ok l)
end Go.Fw
namespace Go.Fw
open Go
section
variable {tt : TT} {S : ACall} {ops : Array Oper} {K : Slots → Heap → Prop} {l : List Oper} {s : Slots} {H : Heap} {dst : Option Tmp} {ty : TypeId} {pos : String} {af : Array Edge}
theorem wl_yield {f : Operand} {args : Array Operand} {tys : Array TypeId} {v : Value} {H' : Heap} (i : Nat) (as : Array Value) (hf : ev s f = .func (.yield i) #[] #[]) (ha : args.map (ev s) = as) (hS : S (.yield i) as H v H')
    (k : AxL tt S 0 ops K l (s.put dst v) H') : AxL tt S 0 ops K (⟨dst, .call { callee := .value f, args := args, argTypes := tys }, ty, pos, af, none⟩ :: l) s H :=
  ⟨_, H', by unfold AOp; rw [if_pos (show wantedA ops s _ = true from rfl)]; unfold AStep; exact .inr ⟨rfl, i, v, hf, by rw [ha]; exact hS, rfl⟩, k⟩
end
def chainH (add : Nat → Blk) (nxt : Nat → Heap → Heap) (H : Heap) : Nat → Heap
  | 0 => H
  | i + 1 => nxt i (chainH add nxt H i ++ [add i])
theorem chain_ex {Inv : Nat → Heap → Prop} {Y : Nat → Heap → Heap → Prop} {n : Nat} {H : Heap} (add : Nat → Blk) (h0 : Inv 0 H) (happ : ∀ i T B, Inv i T → Inv i (T ++ [B])) (hY : ∀ i T, i < n → Inv i T → ∃ T', Y i T T' ∧ Inv (i + 1) T') :
    ∃ G : Nat → Heap, G 0 = H ∧ (∀ i, i ≤ n → Inv i (G i)) ∧ ∀ i, i < n → Y i (G i ++ [add i]) (G (i + 1)) := by
  obtain ⟨nxt, hn⟩ : ∃ nxt : Nat → Heap → Heap, ∀ i T, i < n → Inv i T → Y i T (nxt i T) ∧ Inv (i + 1) (nxt i T) := by
    refine ⟨fun i T => Classical.epsilon fun T' => Y i T T' ∧ Inv (i + 1) T', fun i T hi h => ?_⟩
    exact Classical.epsilon_spec (p := fun T' => Y i T T' ∧ Inv (i + 1) T') (hY i T hi h)
  have hinv : ∀ i, i ≤ n → Inv i (chainH add nxt H i) := by
    intro i
    induction i with
    | zero => intro _; exact h0
    | succ i ih => intro hi; exact (hn i _ (by omega) (happ i _ _ (ih (by omega)))).2
  exact ⟨chainH add nxt H, rfl, hinv, fun i hi => (hn i _ hi (happ i _ _ (hinv i (by omega)))).1⟩
end Go.Fw
namespace Go.Fw
open Go
section
variable {α : Type} {ok : α → Prop} {le : α → α → Prop}
def InsI (le : α → α → Prop) (L : List α) (a i j : Nat) : Prop := ∀ p q, a ≤ p → p < q → q ≤ i → q ≠ j → ∀ (hp : p < L.length) (hq : q < L.length), le L[p] L[q]
def SrtTo (le : α → α → Prop) (L : List α) (a n : Nat) : Prop := ∀ p q, a ≤ p → p < q → q < n → ∀ (hp : p < L.length) (hq : q < L.length), le L[p] L[q]
theorem SrtTo.one (L : List α) {a n : Nat} (h : n ≤ a + 1) : SrtTo le L a n := fun p q h0 h1 h2 => by omega
theorem SrtTo.ins {L : List α} {a i : Nat} (h : SrtTo le L a i) : InsI le L a i i := fun p q h0 h1 h2 h3 hp hq => h p q h0 h1 (by omega) hp hq
theorem InsI.zero {L : List α} {a i : Nat} (h : InsI le L a i a) : SrtTo le L a (i + 1) := fun p q h0 h1 h2 hp hq => h p q h0 h1 (by omega) (by omega) hp hq
def swp (L : List α) (j : Nat) (h : j + 1 < L.length) : List α := (L.set (j + 1) L[j]).set j L[j + 1]
theorem swp_len (L : List α) (j : Nat) (h : j + 1 < L.length) : (swp L j h).length = L.length := by simp [swp]
theorem swp_perm (L : List α) (j : Nat) (h : j + 1 < L.length) : (swp L j h).Perm L := List.set_set_perm (i := j + 1) (j := j) h (by omega)
theorem swp_at (L : List α) (j : Nat) (h : j + 1 < L.length) (q : Nat) (hq : q < L.length) : (swp L j h)[q]'(by rw [swp_len]; exact hq) = if q = j then L[j + 1] else if q = j + 1 then L[j] else L[q] := by
  unfold swp
  rw [List.getElem_set]
  by_cases h1 : j = q
  · rw [if_pos h1, if_pos h1.symm]
  · rw [if_neg h1, if_neg (Ne.symm h1), List.getElem_set]
    by_cases h2 : j + 1 = q
    · rw [if_pos h2, if_pos h2.symm]
    · rw [if_neg h2, if_neg (Ne.symm h2)]
theorem InsI.step {L : List α} {a i j : Nat} (h : InsI le L a i (j + 1)) (haj : a ≤ j) (hjl : j + 1 < L.length) (hi : j + 1 ≤ i) (hlt : le L[j + 1] L[j]) : InsI le (swp L j hjl) a i j := by
  intro p q h0 h1 h2 h3 hp hq
  rw [swp_len] at hp hq
  rw [swp_at L j hjl p hp, swp_at L j hjl q hq, if_neg h3]
  by_cases hq1 : q = j + 1
  · rw [if_pos hq1]
    by_cases hp1 : p = j
    · rw [if_pos hp1]; exact hlt
    · rw [if_neg hp1, if_neg (by omega)]
      exact h p j h0 (by omega) (by omega) (by omega) hp (by omega)
  · rw [if_neg hq1]
    by_cases hp1 : p = j
    · rw [if_pos hp1]
      exact h (j + 1) q (by omega) (by omega) h2 hq1 hjl hq
    · rw [if_neg hp1]
      by_cases hp2 : p = j + 1
      · rw [if_pos hp2]
        exact h j q haj (by omega) h2 hq1 (by omega) hq
      · rw [if_neg hp2]
        exact h p q h0 h1 h2 hq1 hp hq
structure Within (L0 L : List α) (a b : Nat) : Prop where
  perm : L.Perm L0
  out : ∀ q, (q < a ∨ b ≤ q) → L[q]? = L0[q]?
theorem Within.refl (L : List α) (a b : Nat) : Within L L a b := ⟨.refl _, fun _ _ => rfl⟩
theorem Within.len {L0 L : List α} {a b : Nat} (h : Within L0 L a b) : L.length = L0.length := h.perm.length_eq
theorem Within.trans {L0 L1 L2 : List α} {a b : Nat} (h : Within L0 L1 a b) (h2 : Within L1 L2 a b) : Within L0 L2 a b := ⟨h2.perm.trans h.perm, fun q hq => (h2.out q hq).trans (h.out q hq)⟩
theorem Within.mono {L0 L : List α} {a b a' b' : Nat} (h : Within L0 L a b) (h1 : a' ≤ a) (h2 : b ≤ b') : Within L0 L a' b' := ⟨h.perm, fun q hq => h.out q (by omega)⟩
theorem Within.swp (L : List α) {a b : Nat} (j : Nat) (h : j + 1 < L.length) (h1 : a ≤ j) (h2 : j + 1 < b) : Within L (swp L j h) a b := by
  refine ⟨swp_perm L j h, fun q hq => ?_⟩
  unfold Fw.swp
  rw [List.getElem?_set_ne (by omega), List.getElem?_set_ne (by omega)]
theorem Within.oks {L0 L : List α} {a b : Nat} (h : Within L0 L a b) (hok : ∀ x ∈ L0, ok x) : ∀ x ∈ L, ok x := fun x hx => hok x (h.perm.mem_iff.1 hx)
end
def RR.leq (a b : RR) : Prop := ¬ b.rot.lt a.rot
def putR (T : Heap) (b : Nat) (L : List RR) : Heap := T.set b ⟨(L.map RR.cells).flatten, 6, true⟩
theorem putR_own (T : Heap) {b : Nat} (L : List RR) (h : b < T.length) : OwnR (putR T b L) b L := by
  refine ⟨by decide, RR.cells_all L, ?_, RR.cells_ok L⟩
  unfold putR
  rw [List.getElem?_set_self h]
theorem putR_put (T : Heap) (b : Nat) (L M : List RR) : putR (putR T b L) b M = putR T b M := by simp [putR]
theorem putR_self {T : Heap} {b : Nat} {L : List RR} (h : OwnR T b L) : putR T b L = T := by
  have h1 := Own.blk h
  have hl := Own.lt h
  rw [List.getElem?_eq_some_iff] at h1
  obtain ⟨_, h2⟩ := h1
  unfold putR
  rw [← h2, List.set_getElem_self]
theorem putR_len (T : Heap) (b : Nat) (L : List RR) : (putR T b L).length = T.length := by simp [putR]
theorem OwnR.wr {T : Heap} {b : Nat} {L : List RR} (h : OwnR T b L) {j : Nat} (hj : j < L.length) (x : RR) : Fw.wr T b (j * 6) x.cells = some (putR T b (L.set j x)) := by
  have := Own.wr h (j := j) (by simpa using hj) (x := x.cells) rfl rfl
  rw [this]
  unfold putR
  rw [List.map_set]
section
variable {tt : TT} {S : ACall} {Q : APost} {s : Slots} {H : Heap}
theorem ax_midl2 (M : Slots → Heap → Prop) {b : Code} {id id2 : Nat} {K : Slots → Heap → Prop} (h1 : Ax tt S (.loop b) (AEx.inBlock id (AEx.inBlock id2 (AEx.thn M Q))) s H) (h2 : ∀ s H, M s H → K s H) : Ax tt S (.loop b) (AEx.inBlock id (AEx.inBlock id2 (AEx.thn K Q))) s H := by
  refine Ax_mono (.loop b) h1 ?_
  intro e s H h
  cases e with
  | normal => exact h2 s H h
  | exit i =>
    by_cases hi : i = id
    · subst hi
      simp only [inb_exit, if_true] at h ⊢
      exact h2 s H h
    · simp only [inb_exit, hi, if_false] at h ⊢
      by_cases hi2 : i = id2
      · subst hi2
        simp only [inb_exit, if_true] at h ⊢
        exact h2 s H h
      · simp only [inb_exit, hi2, if_false] at h ⊢
        exact h
  | ret => exact h
end
theorem putPs_two (s : Slots) (p q : Tmp) (a b : Value) : putPs s [p, q] [a, b] = upd (upd s p a) q b := rfl
theorem putPs_one (s : Slots) (p : Tmp) (a : Value) : putPs s [p] [a] = upd s p a := rfl
theorem yr_ex {tt : TT} {P : Program} {s : Slots} {ps : Array Tmp} {x y : Code} {as : Array Value} {H1 : Heap} {R : Heap → Prop} (ha : as.size = ps.size)
    (h : Ax tt (SimF P) x (AEx.thn (fun s1 H1' => Ax tt (SimF P) y (fun e _ H' => e = .normal ∧ R H') s1 H1') (fun _ _ _ => False)) (putPs s ps.toList as.toList) H1) : ∃ H2, YR tt P s ps x y as H1 H2 ∧ R H2 := by
  have h2 : Ax tt (SimF P) (.seq x y) (fun e _ H' => e = .normal ∧ R H') (putPs s ps.toList as.toList) H1 := by
    refine Ax_mono x h ?_
    intro e s H h
    cases e with
    | normal => exact h
    | exit i => exact h.elim
    | ret => exact h.elim
  obtain ⟨e, s', H', h3, rfl, hR⟩ := ax_path (.seq x y) h2
  refine ⟨H', ⟨ha, Ax_mono x h3 ?_⟩, hR⟩
  intro e s H h
  cases e with
  | normal =>
    refine Ax_mono y h ?_
    rintro e s H ⟨rfl, rfl, rfl⟩
    exact ⟨rfl, rfl⟩
  | exit i => exact absurd h.1 (fun h => by cases h)
  | ret => exact absurd h.1 (fun h => by cases h)
section
variable {tt : TT} {S : ACall} {q : Nat} {ops : Array Oper} {K : Slots → Heap → Prop} {l : List Oper} {s : Slots} {H : Heap} {dst : Option Tmp} {ty : TypeId} {pos : String} {af : Array Edge}
theorem wl_callC {f : Operand} {args : Array Operand} {tys : Array TypeId} {v : Value} (g : FuncId) (cap : Array Value) (hf : ev s f = .func (.func g) #[] cap) (as : Array Value) (ha : args.map (ev s) = as) (hS : S (.func g) (as ++ cap) H v H)
    (k : AxL tt S q ops K l (s.put dst v) H) : AxL tt S q ops K (⟨dst, .call { callee := .value f, args := args, argTypes := tys }, ty, pos, af, none⟩ :: l) s H :=
  wl_call (first := #[]) (cap := cap) hf (by rw [ha]; simpa using hS) (fun _ => ⟨[], by simp⟩) k
end
end Go.Fw
namespace Go.Fw
open Go
theorem UU : (∀ z : Int, mkI z = iV (decide (z < 0)) (digB z.natAbs)) ∧ (∀ (g : Bool) (m : List UInt8), iV g m = .agg #[.bool g, .string (bs m)]) ∧ (∀ q : Rat, mkQ q = qV (decide (q.num < 0)) (digB q.num.natAbs) (denB q.den)) ∧
    (∀ (g : Bool) (n d : List UInt8), qV g n d = .agg #[.bool g, .string (bs n), .string (bs d)]) ∧ (∀ (g : Bool) (n : List UInt8) (g' : Bool) (d : List UInt8), fV g n g' d = .agg #[.bool g, .string (bs n), .bool g', .string (bs d)]) ∧
    (∀ (g : Bool) (n d : List UInt8), ofV g n d = fV g n false (if valB d = 0 then digB 1 else d)) ∧ (∀ (g : Bool) (n d : List UInt8) (g' : Bool) (n' d' : List UInt8), rV g n d g' n' d' = .agg #[.bool g, .string (bs n), .string (bs d), .bool g', .string (bs n'), .string (bs d')]) ∧
    (∀ c s : Rat, mkR c s = rV (decide (c.num < 0)) (digB c.num.natAbs) (denB c.den) (decide (s.num < 0)) (digB s.num.natAbs) (denB s.den)) :=
  ⟨fun _ => rfl, fun _ _ => rfl, fun _ => rfl, fun _ _ _ => rfl, fun _ _ _ _ => rfl, fun _ _ _ => rfl, fun _ _ _ _ _ _ => rfl, fun _ _ => rfl⟩
section
variable {tt : TT} {S : ACall} {q : Nat} {ops : Array Oper} {K : Slots → Heap → Prop} {l : List Oper} {s : Slots} {H : Heap} {dst : Option Tmp} {ty : TypeId} {pos : String} {af : Array Edge}
theorem kv {args : Array Operand} {tys : Array TypeId} {g : FuncId} {v : Value} {as : Array Value} (hS : S (.func g) as H v H) (k : AxL tt S q ops K l (s.put dst v) H)
    (ha : args.map (ev s) = as := by simp -implicitDefEqProofs only [go_sem, simprocAttr, UU]) : AxL tt S q ops K (⟨dst, .call { callee := .value (.func g), args := args, argTypes := tys }, ty, pos, af, none⟩ :: l) s H :=
  wl_callV as ha hS k
theorem kf {args : Array Operand} {tys : Array TypeId} {g : FuncId} {v : Value} {as : Array Value} {H' : Heap} (hS : S (.func g) as H v H') (hq : lq q dst = true → ∃ G, H' = H ++ G) (k : AxL tt S q ops K l (s.put dst v) H')
    (ha : args.map (ev s) = as := by simp -implicitDefEqProofs only [go_sem, simprocAttr, UU]) : AxL tt S q ops K (⟨dst, .call { callee := .value (.func g), args := args, argTypes := tys }, ty, pos, af, none⟩ :: l) s H :=
  wl_callF as ha hS hq k
theorem kl {args : Array Operand} {tys : Array TypeId} {g : FuncId} {v : Value} {as : Array Value} {H' : Heap} (hS : S (.func g) as H v H') (k : AxL tt S 0 ops K l (s.put dst v) H')
    (ha : args.map (ev s) = as := by simp -implicitDefEqProofs only [go_sem, simprocAttr, UU]) : AxL tt S 0 ops K (⟨dst, .call { callee := .value (.func g), args := args, argTypes := tys }, ty, pos, af, none⟩ :: l) s H :=
  wl_callF as ha hS (fun h => by cases h) k
theorem kw {args : Array Operand} {tys : Array TypeId} {g : FuncId} {v : Value} {as : Array Value} {G : Prop} (hS : S (.func g) as H v H) (k : G)
    (ha : args.map (ev s) = as := by simp -implicitDefEqProofs only [go_sem, simprocAttr, UU]) (hG : AxL tt S q ops K l (s.put dst v) H = G := by (simp -implicitDefEqProofs only [go_sem, simprocAttr, UU]; rfl)) : AxL tt S q ops K (⟨dst, .call { callee := .value (.func g), args := args, argTypes := tys }, ty, pos, af, none⟩ :: l) s H :=
  wl_callV as ha hS (hG ▸ k)
end
section
variable {P : Program} {tt : TT} {f : FuncId} {fn : Func} {c : Code} {args : Array Value} {H H1 : Heap} {v : Value} {R : Value → Heap → Prop}
theorem sxA (hT : TOK P tt) (hmix : P.follows .mixedOrders = true) (hf : P.funcs[f]? = some fn) (h : Ax tt (SimF P) c (retP tt fn (fun vs H' => R (resV vs) H')) (ini args) H)
    (hb : fn.body = some c := by exact rfl) (hname : (fn.name == "runtime.NumGoroutine") = false := by kernel_rfl) (hok : codeOk fn.ntmps c = true := by kernel_rfl) (ha : Nat.ble args.size fn.ntmps = true := by kernel_rfl) : ∃ v H', Sim P f args H v H' ∧ R v H' :=
  sim_ex hT hmix hf hb hname hok (Nat.le_of_ble_eq_true ha) h
theorem soA (hT : TOK P tt) (hmix : P.follows .mixedOrders = true) (hf : P.funcs[f]? = some fn) (h : Ax tt (SimF P) c (retP tt fn (fun vs H' => resV vs = v ∧ H' = H1)) (ini args) H)
    (hb : fn.body = some c := by exact rfl) (hname : (fn.name == "runtime.NumGoroutine") = false := by kernel_rfl) (hok : codeOk fn.ntmps c = true := by kernel_rfl) (ha : Nat.ble args.size fn.ntmps = true := by kernel_rfl) : Sim P f args H v H1 :=
  sim_of_ax hT hmix hf hb hname hok (Nat.le_of_ble_eq_true ha) h
end
end Go.Fw
namespace Go.Fw
open Go
def Rot.sub (a b : Rot) : Rot := ⟨a.c - b.c, a.s - b.s⟩
def Rot.neg (a : Rot) : Rot := ⟨-a.c, -a.s⟩
def ori (a b p : Rot) : Rat := (b.sub a).cross (p.sub a)
def Rot.plt (a b : Rot) : Prop := a.c < b.c ∨ (a.c = b.c ∧ a.s < b.s)
def Rot.lp (u : Rot) : Prop := 0 < u.c ∨ (u.c = 0 ∧ 0 < u.s)
theorem plt_lp {a b : Rot} : a.plt b ↔ (b.sub a).lp := by unfold Rot.plt Rot.lp Rot.sub; grind
theorem plt_irrefl (a : Rot) : ¬ a.plt a := by unfold Rot.plt; grind
theorem plt_trans {a b c : Rot} (h : a.plt b) (h' : b.plt c) : a.plt c := by unfold Rot.plt at *; grind
theorem plt_cases (a b : Rot) : a.plt b ∨ a = b ∨ b.plt a := by
  cases a; cases b; unfold Rot.plt; simp only [Rot.mk.injEq]; grind
theorem plt_asym {a b : Rot} (h : a.plt b) : ¬ b.plt a := fun h' => plt_irrefl a (plt_trans h h')
theorem ori_self1 (a p : Rot) : ori a a p = 0 := by unfold ori Rot.sub Rot.cross; grind
theorem ori_self2 (a b : Rot) : ori a b a = 0 := by unfold ori Rot.sub Rot.cross; grind
theorem ori_self3 (a b : Rot) : ori a b b = 0 := by unfold ori Rot.sub Rot.cross; grind
theorem ori_swap (a b c : Rot) : ori a b c = -(ori b a c) := by unfold ori Rot.sub Rot.cross; grind
theorem ori_neg (a b c : Rot) : ori a.neg b.neg c.neg = ori a b c := by unfold ori Rot.sub Rot.cross Rot.neg; grind
theorem neg_neg' (a : Rot) : a.neg.neg = a := by cases a; simp [Rot.neg, Rat.neg_neg]
theorem plt_neg {a b : Rot} : a.neg.plt b.neg ↔ b.plt a := by unfold Rot.plt Rot.neg; grind
theorem nonneg_of_mul {a b : Rat} (ha : 0 < a) (h : 0 ≤ a * b) : 0 ≤ b := by
  rcases Rat.le_total (a := 0) (b := b) with h1 | h1
  · exact h1
  · by_cases h2 : b = 0
    · rw [h2]; exact Rat.le_refl
    · have := Rat.mul_pos ha (show 0 < -b by grind)
      grind
theorem lp_cross {u v w : Rot} (hu : u.lp) (hv : v.lp) (hw : w.lp) (h1 : 0 ≤ u.cross v) (h2 : 0 ≤ v.cross w) : 0 ≤ u.cross w ∧ (0 < u.cross v → 0 < u.cross w) ∧ (0 < v.cross w → 0 < u.cross w) := by
  have id : v.c * u.cross w = w.c * u.cross v + u.c * v.cross w := by unfold Rot.cross; grind
  have uc : 0 ≤ u.c := by unfold Rot.lp at hu; grind
  have wc : 0 ≤ w.c := by unfold Rot.lp at hw; grind
  rcases hv with hv | ⟨hv, hv2⟩
  · have p1 := Rat.mul_nonneg wc h1
    have p2 := Rat.mul_nonneg uc h2
    refine ⟨?_, fun h => ?_, fun h => ?_⟩
    · exact nonneg_of_mul hv (by grind)
    · by_cases w0 : 0 < w.c
      · have p3 := Rat.mul_pos w0 h
        exact (Rat.mul_pos_iff_of_pos_left hv).1 (by grind)
      · have w0 : w.c = 0 := by grind
        have ws : 0 < w.s := by unfold Rot.lp at hw; grind
        have e : v.cross w = v.c * w.s := by unfold Rot.cross; rw [w0]; grind
        have p4 := Rat.mul_pos hv ws
        by_cases u0 : 0 < u.c
        · have p3 := Rat.mul_pos u0 (show 0 < v.cross w by grind)
          exact (Rat.mul_pos_iff_of_pos_left hv).1 (by grind)
        · have u0 : u.c = 0 := by grind
          have us : 0 < u.s := by unfold Rot.lp at hu; grind
          have e : u.cross v = -(u.s * v.c) := by unfold Rot.cross; rw [u0]; grind
          have := Rat.mul_pos us hv
          grind
    · by_cases u0 : 0 < u.c
      · have p3 := Rat.mul_pos u0 h
        exact (Rat.mul_pos_iff_of_pos_left hv).1 (by grind)
      · have u0 : u.c = 0 := by grind
        have us : 0 < u.s := by unfold Rot.lp at hu; grind
        have e : u.cross v = -(u.s * v.c) := by unfold Rot.cross; rw [u0]; grind
        have := Rat.mul_pos us hv
        grind
  · have e1 : v.cross w = -(v.s * w.c) := by unfold Rot.cross; rw [hv]; grind
    have e2 : u.cross v = u.c * v.s := by unfold Rot.cross; rw [hv]; grind
    have w0 : w.c = 0 := by
      by_cases w0 : 0 < w.c
      · have := Rat.mul_pos hv2 w0; grind
      · grind
    have ws : 0 < w.s := by unfold Rot.lp at hw; grind
    have e3 : u.cross w = u.c * w.s := by unfold Rot.cross; rw [w0]; grind
    refine ⟨by rw [e3]; exact Rat.mul_nonneg uc (by grind), fun h => ?_, fun h => ?_⟩
    · rw [e3]
      by_cases u0 : 0 < u.c
      · exact Rat.mul_pos u0 ws
      · have : u.c = 0 := by grind
        rw [e2, this] at h; grind
    · rw [e1, w0] at h; grind
theorem ori_A {a b c p : Rot} (h1 : a.plt b) (h2 : b.plt c) (h3 : c.plt p) (k1 : 0 < ori a b c) (k2 : 0 < ori b c p) : 0 < ori a b p := by
  have e1 : ori a b c = (b.sub a).cross (c.sub b) := by unfold ori Rot.cross Rot.sub; grind
  have e2 : ori b c p = (c.sub b).cross (p.sub c) := by unfold ori Rot.cross Rot.sub; grind
  have e3 : ori a b p = (b.sub a).cross (c.sub b) + (b.sub a).cross (p.sub c) := by unfold ori Rot.cross Rot.sub; grind
  have := (lp_cross (plt_lp.1 h1) (plt_lp.1 h2) (plt_lp.1 h3) (by grind) (by grind)).2.1 (by grind)
  grind
theorem ori_C {q0 q1 r p : Rot} (h0 : q0.plt q1) (h1 : q1 = r ∨ q1.plt r) (h2 : r.plt p) (k1 : 0 ≤ ori q1 p r) (k2 : ori q0 q1 p ≤ 0) : 0 ≤ ori q0 p r := by
  have e2 : ori q0 q1 p = -((p.sub q1).cross (q1.sub q0)) := by unfold ori Rot.cross Rot.sub; grind
  rcases h1 with rfl | h1
  · have : ori q0 p q1 = -(ori q0 q1 p) := by unfold ori Rot.cross Rot.sub; grind
    grind
  · have e1 : ori q1 p r = (p.sub r).cross (r.sub q1) := by unfold ori Rot.cross Rot.sub; grind
    have e3 : ori q0 p r = (p.sub r).cross (q1.sub q0) + (p.sub r).cross (r.sub q1) := by unfold ori Rot.cross Rot.sub; grind
    have e4 : (p.sub r).cross (p.sub q1) = (p.sub r).cross (r.sub q1) := by unfold Rot.cross Rot.sub; grind
    have := (lp_cross (plt_lp.1 h2) (plt_lp.1 (plt_trans h1 h2)) (plt_lp.1 h0) (by grind) (by grind)).1
    grind
theorem ori_D {q0 q1 r p : Rot} (h0 : q0 = r ∨ q0.plt r) (h1 : q0.plt q1) (h2 : q1.plt p) (k1 : 0 ≤ ori q0 q1 r) (k2 : ori q0 q1 p ≤ 0) : 0 ≤ ori q0 p r := by
  rcases h0 with rfl | h0
  · rw [ori_self2]; grind
  · have e2 : ori q0 q1 p = -((p.sub q0).cross (q1.sub q0)) := by unfold ori Rot.cross Rot.sub; grind
    exact (lp_cross (plt_lp.1 (plt_trans h1 h2)) (plt_lp.1 h1) (plt_lp.1 h0) (by grind) k1).1
theorem ori_E {q0 q1 r p : Rot} (h0 : q0.plt q1) (h1 : r.plt q1) (h2 : q1.plt p) (k1 : 0 ≤ ori q0 q1 r) (k2 : 0 < ori q0 q1 p) : 0 ≤ ori q1 p r := by
  have e1 : ori q0 q1 p = (q1.sub q0).cross (p.sub q1) := by unfold ori Rot.cross Rot.sub; grind
  have e2 : ori q0 q1 r = (q1.sub r).cross (q1.sub q0) := by unfold ori Rot.cross Rot.sub; grind
  have e3 : ori q1 p r = (q1.sub r).cross (p.sub q1) := by unfold ori Rot.cross Rot.sub; grind
  have := (lp_cross (plt_lp.1 h1) (plt_lp.1 h0) (plt_lp.1 h2) (by grind) (by grind)).1
  grind
def popC (p : Rot) : List Rot → List Rot
  | q1 :: q0 :: l => if ori q0 q1 p ≤ 0 then popC p (q0 :: l) else q1 :: q0 :: l
  | l => l
def chainC : List Rot → List Rot → List Rot
  | C, [] => C
  | C, p :: S => chainC (p :: popC p C) S
def TurnC : List Rot → Prop
  | q2 :: q1 :: q0 :: l => 0 < ori q0 q1 q2 ∧ TurnC (q1 :: q0 :: l)
  | _ => True
def EdgC (P : List Rot) : List Rot → Prop
  | b :: a :: l => (∀ r ∈ P, 0 ≤ ori a b r) ∧ EdgC P (a :: l)
  | _ => True
structure Chn (P C : List Rot) : Prop where
  dec : C.Pairwise (fun a b => b.plt a)
  sub : ∀ q ∈ C, q ∈ P
  turn : TurnC C
  edg : EdgC P C
  low : ∃ z, C.getLast? = some z ∧ ∀ r ∈ P, z = r ∨ z.plt r
theorem EdgC.up {P P' : List Rot} (hP : ∀ r ∈ P', r ∈ P) : ∀ {C : List Rot}, EdgC P C → EdgC P' C
  | [], _ => trivial
  | [_], _ => trivial
  | b :: a :: l, ⟨h1, h2⟩ => ⟨fun r hr => h1 r (hP r hr), EdgC.up hP h2⟩
theorem turn_all {p q1 q0 : Rot} : ∀ {l : List Rot}, (q1 :: q0 :: l).Pairwise (fun a b => b.plt a) → TurnC (q1 :: q0 :: l) → q1.plt p → 0 < ori q0 q1 p → EdgC [p] (q1 :: q0 :: l) := by
  intro l
  induction l generalizing q1 q0 with
  | nil => intro _ _ _ h; exact ⟨fun r hr => by simp at hr; subst hr; grind, trivial⟩
  | cons z l ih =>
    intro hd ht hp h
    refine ⟨fun r hr => by simp at hr; subst hr; grind, ?_⟩
    rw [List.pairwise_cons] at hd
    obtain ⟨hd1, hd2⟩ := hd
    have hd3 := (List.pairwise_cons.1 hd2).1
    have h10 := hd1 q0 (by simp)
    have h0z := hd3 z (by simp)
    obtain ⟨t1, t2⟩ := ht
    refine ih hd2 t2 (plt_trans h10 hp) ?_
    exact ori_A h0z h10 hp t1 h
theorem EdgC.both {P P' : List Rot} : ∀ {C : List Rot}, EdgC P C → EdgC P' C → EdgC (P ++ P') C
  | [], _, _ => trivial
  | [_], _, _ => trivial
  | b :: a :: l, ⟨h1, h2⟩, ⟨k1, k2⟩ => ⟨fun r hr => (List.mem_append.1 hr).elim (h1 r) (k1 r), EdgC.both h2 k2⟩
theorem pop_chn {P : List Rot} {p : Rot} (hp : ∀ r ∈ P, r.plt p) : ∀ {C : List Rot}, Chn P C → (∀ q, C.head? = some q → ∀ r ∈ P, (q = r ∨ q.plt r) → 0 ≤ ori q p r) → Chn (P ++ [p]) (p :: popC p C) := by
  intro C
  induction C with
  | nil =>
    intro h _
    obtain ⟨z, hz, _⟩ := h.low
    cases hz
  | cons q1 C ih =>
    intro h hJ
    cases C with
    | nil =>
      have hq := h.sub q1 (by simp)
      obtain ⟨z, hz, hlow⟩ := h.low
      simp at hz
      subst hz
      refine ⟨by simp [popC]; exact hp _ hq, fun q hm => ?_, trivial, ⟨fun r hr => ?_, trivial⟩, q1, by simp [popC], fun r hr => ?_⟩
      · simp [popC] at hm
        rcases hm with rfl | rfl
        · simp
        · simp [hq]
      · rcases List.mem_append.1 hr with hr | hr
        · exact hJ q1 rfl r hr (hlow r hr)
        · simp at hr; subst hr; rw [ori_self3]; grind
      · rcases List.mem_append.1 hr with hr | hr
        · exact hlow r hr
        · simp at hr; subst hr; exact .inr (hp _ hq)
    | cons q0 l =>
      have hq1 := h.sub q1 (by simp)
      have hq0 := h.sub q0 (by simp)
      have h01 : q0.plt q1 := (List.pairwise_cons.1 h.dec).1 q0 (by simp)
      obtain ⟨he, he2⟩ := h.edg
      by_cases hc : ori q0 q1 p ≤ 0
      · have e : popC p (q1 :: q0 :: l) = popC p (q0 :: l) := by rw [popC, if_pos hc]
        rw [e]
        refine ih ⟨(List.pairwise_cons.1 h.dec).2, fun q hq => h.sub q (by simp at hq ⊢; exact .inr hq), ?_, he2, ?_⟩ ?_
        · have := h.turn
          cases l with
          | nil => trivial
          | cons z l => exact this.2
        · obtain ⟨z, hz, hl⟩ := h.low
          exact ⟨z, by simpa using hz, hl⟩
        · intro q hq r hr hqr
          simp at hq
          subst hq
          rcases plt_cases q1 r with h1 | h1 | h1
          · exact ori_C h01 (.inr h1) (hp r hr) (hJ q1 rfl r hr (.inr h1)) hc
          · exact ori_C h01 (.inl h1) (hp r hr) (hJ q1 rfl r hr (.inl h1)) hc
          · exact ori_D hqr h01 (hp q1 hq1) (he r hr) hc
      · have e : popC p (q1 :: q0 :: l) = q1 :: q0 :: l := by rw [popC, if_neg hc]
        have hc' : 0 < ori q0 q1 p := by grind
        rw [e]
        refine ⟨?_, fun q hm => ?_, ⟨hc', h.turn⟩, ⟨fun r hr => ?_, EdgC.both h.edg (turn_all h.dec h.turn (hp q1 hq1) hc')⟩, ?_⟩
        · rw [List.pairwise_cons]
          exact ⟨fun q hq => hp q (h.sub q hq), h.dec⟩
        · rcases List.mem_cons.1 hm with rfl | hm
          · simp
          · simp [h.sub q hm]
        · rcases List.mem_append.1 hr with hr | hr
          · rcases plt_cases q1 r with h1 | h1 | h1
            · exact hJ q1 rfl r hr (.inr h1)
            · exact hJ q1 rfl r hr (.inl h1)
            · exact ori_E h01 h1 (hp q1 hq1) (he r hr) hc'
          · simp at hr; subst hr; rw [ori_self3]; grind
        · obtain ⟨z, hz, hl⟩ := h.low
          refine ⟨z, by simpa using hz, fun r hr => ?_⟩
          rcases List.mem_append.1 hr with hr | hr
          · exact hl r hr
          · simp at hr; subst hr
            have hzm : z ∈ P := h.sub z (List.mem_of_getLast? hz)
            exact .inr (hp z hzm)
theorem chain_chn : ∀ {S P C : List Rot}, Chn P C → (P ++ S).Pairwise Rot.plt → (∀ q, C.head? = some q → P.getLast? = some q) → Chn (P ++ S) (chainC C S) ∧ ∀ q, (chainC C S).head? = some q → (P ++ S).getLast? = some q := by
  intro S
  induction S with
  | nil => intro P C h _ hl; simpa [chainC] using ⟨h, hl⟩
  | cons p S ih =>
    intro P C h hs hl
    have hp : ∀ r ∈ P, r.plt p := fun r hr => (List.pairwise_append.1 hs).2.2 r hr p (by simp)
    have h1 := pop_chn hp h (fun q hq r hr hqr => by
      have hql := hl q hq
      have : r = q := by
        obtain ⟨P', rfl⟩ := List.getLast?_eq_some_iff.1 hql
        rcases List.mem_append.1 hr with hr' | hr'
        · have := (List.pairwise_append.1 (List.pairwise_append.1 hs).1).2.2 r hr' q (by simp)
          rcases hqr with rfl | h
          · exact absurd this (plt_irrefl _)
          · exact absurd h (plt_asym this)
        · simpa using hr'
      subst this
      rw [ori_self2]; grind)
    have := ih (P := P ++ [p]) (C := p :: popC p C) h1 (by simpa using hs) (by simp)
    simpa [chainC] using this
theorem chain_of {p : Rot} {S : List Rot} (hs : (p :: S).Pairwise Rot.plt) : Chn (p :: S) (chainC [] (p :: S)) ∧ ∀ q, (chainC [] (p :: S)).head? = some q → (p :: S).getLast? = some q := by
  have : Chn [p] [p] := ⟨by simp, fun q hq => hq, trivial, trivial, p, rfl, fun r hr => by simp at hr; exact .inl hr.symm⟩
  exact chain_chn (P := [p]) (S := S) this (by simpa using hs) (fun q hq => by simpa using hq)
end Go.Fw
namespace Go.Fw
open Go
def cy (H : List Rot) (i : Nat) : Rot := H.getD (i % H.length) ⟨0, 0⟩
theorem cy_lt {H : List Rot} {i : Nat} (h : i < H.length) : cy H i = H[i] := by
  unfold cy
  rw [Nat.mod_eq_of_lt h]
  simp [List.getD, List.getElem?_eq_getElem h]
theorem cy_mod (H : List Rot) (i : Nat) : cy H (i % H.length) = cy H i := by unfold cy; rw [Nat.mod_mod]
theorem cy_add (H : List Rot) (i : Nat) : cy H (i + H.length) = cy H i := by unfold cy; rw [Nat.add_mod_right]
theorem cy_mod1 (H : List Rot) (i j : Nat) : cy H (i % H.length + j) = cy H (i + j) := by unfold cy; rw [Nat.mod_add_mod]
theorem cy_mem {H : List Rot} (h : H ≠ []) (i : Nat) : cy H i ∈ H := by
  have hn := List.length_pos_iff.2 h
  rw [← cy_mod, cy_lt (Nat.mod_lt i hn)]
  exact List.getElem_mem _
theorem col_t {u w : Rot} (hu : u.c ≠ 0 ∨ u.s ≠ 0) (h : u.cross w = 0) : ∃ t : Rat, w.c = t * u.c ∧ w.s = t * u.s := by
  unfold Rot.cross at h
  rcases hu with hu | hu
  · refine ⟨w.c / u.c, ?_, ?_⟩
    · rw [Rat.div_mul_cancel hu]
    · have : u.c * (w.s - w.c / u.c * u.s) = 0 := by
        have e : w.c / u.c * u.c = w.c := Rat.div_mul_cancel hu
        grind
      rcases Rat.mul_eq_zero.1 this with h1 | h1
      · exact absurd h1 hu
      · grind
  · refine ⟨w.s / u.s, ?_, ?_⟩
    · have : u.s * (w.c - w.s / u.s * u.c) = 0 := by
        have e : w.s / u.s * u.s = w.s := Rat.div_mul_cancel hu
        grind
      rcases Rat.mul_eq_zero.1 this with h1 | h1
      · exact absurd h1 hu
      · grind
    · rw [Rat.div_mul_cancel hu]
theorem ne_sub {a b : Rot} (h : a ≠ b) : (b.sub a).c ≠ 0 ∨ (b.sub a).s ≠ 0 := by
  cases a; cases b
  simp only [ne_eq, Rot.mk.injEq, Rot.sub] at *
  grind
theorem line_t {a b v : Rot} (h : a ≠ b) (h0 : ori a b v = 0) : ∃ t : Rat, v.c - a.c = t * (b.c - a.c) ∧ v.s - a.s = t * (b.s - a.s) := by
  obtain ⟨t, h1, h2⟩ := col_t (ne_sub h) h0
  exact ⟨t, h1, h2⟩
theorem ori_ne {a b c : Rot} (h : 0 < ori a b c) : a ≠ b ∧ b ≠ c ∧ a ≠ c := by
  refine ⟨?_, ?_, ?_⟩ <;> rintro rfl
  · rw [ori_self1] at h; grind
  · rw [ori_self3] at h; grind
  · rw [ori_self2] at h; grind
theorem beyond {a b c v : Rot} {t : Rat} (h1 : v.c - a.c = t * (b.c - a.c)) (h2 : v.s - a.s = t * (b.s - a.s)) : ori b c v = (1 - t) * ori a b c := by
  have e1 : v.c = a.c + t * (b.c - a.c) := by grind
  have e2 : v.s = a.s + t * (b.s - a.s) := by grind
  unfold ori Rot.cross Rot.sub
  simp only [e1, e2]
  grind
theorem before {z a b v : Rot} {t : Rat} (h1 : v.c - a.c = t * (b.c - a.c)) (h2 : v.s - a.s = t * (b.s - a.s)) : ori z a v = t * ori z a b := by
  have e1 : v.c = a.c + t * (b.c - a.c) := by grind
  have e2 : v.s = a.s + t * (b.s - a.s) := by grind
  unfold ori Rot.cross Rot.sub
  simp only [e1, e2]
  grind
theorem pos_of_mul {a b : Rat} (hb : 0 < b) (h : 0 < a * b) : 0 < a := by
  rw [Rat.mul_comm] at h
  exact (Rat.mul_pos_iff_of_pos_left hb).1 h
theorem nonneg_of_mul' {a b : Rat} (hb : 0 < b) (h : 0 ≤ a * b) : 0 ≤ a := by
  rw [Rat.mul_comm] at h
  exact nonneg_of_mul hb h
theorem pt_eq {a b v : Rot} (h1 : v.c - a.c = 1 * (b.c - a.c)) (h2 : v.s - a.s = 1 * (b.s - a.s)) : b = v := by
  cases a; cases b; cases v
  simp only [Rot.mk.injEq] at *
  grind
structure Hl (S H : List Rot) : Prop where
  n3 : 3 ≤ H.length
  sub : ∀ h ∈ H, h ∈ S
  edge : ∀ i, ∀ s ∈ S, 0 ≤ ori (cy H i) (cy H (i + 1)) s
  turn : ∀ i, 0 < ori (cy H i) (cy H (i + 1)) (cy H (i + 2))
  low : ∀ s ∈ S, cy H 0 = s ∨ (cy H 0).plt s
  nd : H.Nodup
section
variable {S H H' : List Rot}
theorem Hl.ne (h : Hl S H) : H ≠ [] := by intro e; have := h.n3; rw [e] at this; simp at this
theorem Hl.mem (h : Hl S H) (i : Nat) : cy H i ∈ S := h.sub _ (cy_mem h.ne i)
theorem Hl.step (h : Hl S H) (h' : Hl S H') {i j : Nat} (e : cy H i = cy H' j) (hp : (i = 0 ∧ j = 0) ∨ ∃ i' j', i = i' + 1 ∧ j = j' + 1 ∧ cy H i' = cy H' j') : cy H (i + 1) = cy H' (j + 1) := by
  have t1 := h.turn i
  have t2 := h'.turn j
  have n1 := (ori_ne t1).1
  have n2 := (ori_ne t2).1
  have g1 := h.edge i _ (h'.mem (j + 1))
  have g2 := h'.edge j _ (h.mem (i + 1))
  have g3 := h.edge (i + 1) _ (h'.mem (j + 1))
  have g4 := h'.edge (j + 1) _ (h.mem (i + 1))
  have l1 := h.low _ (h.mem (i + 1))
  have l2 := h.low _ (h'.mem (j + 1))
  have hz : (i = 0 ∧ j = 0) ∨ ∃ z, 0 < ori z (cy H i) (cy H (i + 1)) ∧ 0 < ori z (cy H i) (cy H' (j + 1)) := by
    rcases hp with hp | ⟨i', j', rfl, rfl, e'⟩
    · exact .inl hp
    · refine .inr ⟨cy H i', h.turn i', ?_⟩
      rw [e, e']; exact h'.turn j'
  rw [← e] at t2 n2 g2
  have hi0 : i = 0 → cy H 0 = cy H i := fun h => by rw [h]
  generalize cy H i = a at *
  generalize cy H (i + 1) = b at *
  generalize cy H' (j + 1) = b' at *
  generalize cy H (i + 2) = c at *
  generalize cy H' (j + 2) = c' at *
  have s1 : ori a b' b = -(ori a b b') := by unfold ori Rot.cross Rot.sub; grind
  obtain ⟨t, h1, h2⟩ := line_t (v := b') n1 (by grind)
  obtain ⟨r, h3, h4⟩ := line_t (v := b) n2 (by grind)
  have tp : 0 < t := by
    rcases hz with ⟨hz, _⟩ | ⟨z, hz1, hz2⟩
    · have ha := hi0 hz
      rw [ha] at l1 l2
      have l1 : a.plt b := by rcases l1 with l | l; exact absurd l n1; exact l
      have l2 : a.plt b' := by rcases l2 with l | l; exact absurd l n2; exact l
      unfold Rot.plt at l1 l2
      by_cases hc : 0 < b.c - a.c
      · have : 0 < t * (b.c - a.c) ∨ t * (b.c - a.c) = 0 := by rw [← h1]; grind
        rcases this with h | h
        · exact pos_of_mul hc h
        · rcases Rat.mul_eq_zero.1 h with h | h
          · rw [h] at h1 h2; grind
          · grind
      · have hs : 0 < b.s - a.s := by grind
        have e0 : b.c - a.c = 0 := by grind
        rw [e0, Rat.mul_zero] at h1
        exact pos_of_mul hs (by rw [← h2]; grind)
    · have := before (z := z) h1 h2
      exact pos_of_mul hz1 (by grind)
  have tle : t ≤ 1 := by
    have := beyond (c := c) h1 h2
    have := nonneg_of_mul' (a := 1 - t) t1 (by grind)
    grind
  have rle : r ≤ 1 := by
    have := beyond (c := c') h3 h4
    have := nonneg_of_mul' (a := 1 - r) t2 (by grind)
    grind
  have rt : r * t = 1 := by
    have q1 : (1 - r * t) * (b.c - a.c) = 0 := by rw [h1] at h3; grind
    have q2 : (1 - r * t) * (b.s - a.s) = 0 := by rw [h2] at h4; grind
    rcases Rat.mul_eq_zero.1 q1 with h | h
    · grind
    · rcases Rat.mul_eq_zero.1 q2 with h' | h'
      · grind
      · have := ne_sub n1
        unfold Rot.sub at this
        grind
  have t1' : t = 1 := by
    have p := Rat.mul_nonneg (show 0 ≤ 1 - r by grind) (show 0 ≤ t by grind)
    grind
  rw [t1'] at h1 h2
  exact pt_eq h1 h2
theorem Hl.all (h : Hl S H) (h' : Hl S H') : ∀ k, cy H k = cy H' k ∧ cy H (k + 1) = cy H' (k + 1) := by
  have e0 : cy H 0 = cy H' 0 := by
    rcases h.low _ (h'.mem 0) with h1 | h1
    · exact h1
    · rcases h'.low _ (h.mem 0) with h2 | h2
      · exact h2.symm
      · exact absurd h2 (plt_asym h1)
  intro k
  induction k with
  | zero => exact ⟨e0, h.step h' e0 (.inl ⟨rfl, rfl⟩)⟩
  | succ k ih => exact ⟨ih.2, h.step h' ih.2 (.inr ⟨k, k, rfl, rfl, ih.1⟩)⟩
theorem nodup_cy (h : H.Nodup) (h0 : H ≠ []) {i j : Nat} (e : cy H i = cy H j) : i % H.length = j % H.length := by
  have hn := List.length_pos_iff.2 h0
  rw [← cy_mod, ← cy_mod H j, cy_lt (Nat.mod_lt i hn), cy_lt (Nat.mod_lt j hn)] at e
  refine Classical.byContradiction fun hne => ?_
  have := List.pairwise_iff_getElem.1 h
  rcases Nat.lt_or_gt_of_ne hne with hlt | hlt
  · exact this _ _ (Nat.mod_lt i hn) (Nat.mod_lt j hn) hlt e
  · exact this _ _ (Nat.mod_lt j hn) (Nat.mod_lt i hn) hlt e.symm
theorem Hl.one (h : Hl S H) (h' : Hl S H') : H = H' := by
  have ha := fun k => (h.all h' k).1
  have d1 : H.length % H'.length = 0 := by
    have : cy H' H.length = cy H' 0 := by rw [← ha, ← ha, ← Nat.zero_add H.length, cy_add]
    simpa using nodup_cy h'.nd h'.ne this
  have d2 : H'.length % H.length = 0 := by
    have : cy H H'.length = cy H 0 := by rw [ha, ha, ← Nat.zero_add H'.length, cy_add]
    simpa using nodup_cy h.nd h.ne this
  have hl : H.length = H'.length := Nat.dvd_antisymm (Nat.dvd_of_mod_eq_zero d2) (Nat.dvd_of_mod_eq_zero d1)
  refine List.ext_getElem hl fun i h1 h2 => ?_
  rw [← cy_lt h1, ← cy_lt h2]; exact ha i
theorem Hl.strict (h : Hl S H) {i j : Nat} (n1 : cy H j ≠ cy H i) (n2 : cy H j ≠ cy H (i + 1)) : 0 < ori (cy H i) (cy H (i + 1)) (cy H j) := by
  have hn := h.n3
  have t1 := h.turn i
  have ea : cy H (i + H.length - 1 + 1) = cy H i := by rw [show i + H.length - 1 + 1 = i + H.length by omega, cy_add]
  have eb : cy H (i + H.length - 1 + 2) = cy H (i + 1) := by rw [show i + H.length - 1 + 2 = i + 1 + H.length by omega, cy_add]
  have t0 := h.turn (i + H.length - 1)
  have e0 := h.edge (i + H.length - 1) _ (h.mem j)
  have e1 := h.edge i _ (h.mem j)
  have e2 := h.edge (i + 1) _ (h.mem j)
  have ec : cy H (j + H.length - 1 + 1) = cy H j := by rw [show j + H.length - 1 + 1 = j + H.length by omega, cy_add]
  have ed : cy H (j + H.length - 1 + 2) = cy H (j + 1) := by rw [show j + H.length - 1 + 2 = j + 1 + H.length by omega, cy_add]
  have t3 := h.turn (j + H.length - 1)
  have f1 := h.edge j _ (h.mem i)
  have f2 := h.edge j _ (h.mem (i + 1))
  have f3 := h.edge (j + H.length - 1) _ (h.mem i)
  have f4 := h.edge (j + H.length - 1) _ (h.mem (i + 1))
  rw [ea, eb] at t0
  rw [ea] at e0
  rw [ec, ed] at t3
  rw [ec] at f3 f4
  have nab := (ori_ne t1).1
  generalize cy H (j + H.length - 1) = u at *
  generalize cy H (i + H.length - 1) = z at *
  generalize cy H (j + 1) = w at *
  generalize cy H j = v at *
  generalize cy H i = a at *
  generalize cy H (i + 1) = b at *
  generalize cy H (i + 2) = c at *
  rcases Rat.le_iff_lt_or_eq.1 e1 with hlt | h0
  · exact hlt
  exfalso
  obtain ⟨t, h1, h2⟩ := line_t (v := v) nab h0.symm
  have tle : t ≤ 1 := by
    have := beyond (c := c) h1 h2
    have := nonneg_of_mul' (a := 1 - t) t1 (by grind)
    grind
  have tge : 0 ≤ t := by
    have := before (z := z) h1 h2
    exact nonneg_of_mul' t0 (by grind)
  have e3 : v.c = a.c + t * (b.c - a.c) := by grind
  have e4 : v.s = a.s + t * (b.s - a.s) := by grind
  by_cases ht1 : t = 1
  · rw [ht1] at h1 h2; exact n2 (pt_eq h1 h2).symm
  by_cases ht0 : t = 0
  · rw [ht0] at e3 e4
    refine n1 ?_
    cases v; cases a
    simp only [Rot.mk.injEq] at *
    grind
  have tp : 0 < t := by grind
  have tp1 : 0 < 1 - t := by grind
  have c1 : (1 - t) * ori v w a + t * ori v w b = 0 := by
    unfold ori Rot.cross Rot.sub
    simp only [e3, e4]
    grind
  have c2 : (1 - t) * ori u v a + t * ori u v b = 0 := by
    unfold ori Rot.cross Rot.sub
    simp only [e3, e4]
    grind
  have z1 : ori v w a = 0 := by
    have p1 := Rat.mul_nonneg (show 0 ≤ 1 - t by grind) f1
    have p2 := Rat.mul_nonneg tge f2
    rcases Rat.mul_eq_zero.1 (show (1 - t) * ori v w a = 0 by grind) with h | h
    · grind
    · exact h
  have z2 : ori u v a = 0 := by
    have p1 := Rat.mul_nonneg (show 0 ≤ 1 - t by grind) f3
    have p2 := Rat.mul_nonneg tge f4
    rcases Rat.mul_eq_zero.1 (show (1 - t) * ori u v a = 0 by grind) with h | h
    · grind
    · exact h
  obtain ⟨α, a1, a2⟩ := line_t (v := w) n1 (by have : ori v a w = -(ori v w a) := by unfold ori Rot.cross Rot.sub; grind
                                               grind)
  obtain ⟨β, b1, b2⟩ := line_t (v := u) n1 (by have : ori v a u = ori u v a := by unfold ori Rot.cross Rot.sub; grind
                                               grind)
  have : ori u v w = 0 := by
    have a1' : w.c = v.c + α * (a.c - v.c) := by grind
    have a2' : w.s = v.s + α * (a.s - v.s) := by grind
    have b1' : u.c = v.c + β * (a.c - v.c) := by grind
    have b2' : u.s = v.s + β * (a.s - v.s) := by grind
    unfold ori Rot.cross Rot.sub
    simp only [a1', a2', b1', b2']
    grind
  grind
end
end Go.Fw
namespace Go.Fw
open Go
theorem TurnC.at : ∀ {C : List Rot}, TurnC C → ∀ j, ∀ h : j + 2 < C.length, 0 < ori C[j + 2] C[j + 1] C[j] := by
  intro C
  induction C with
  | nil => intro _ j h; simp at h
  | cons q2 C ih =>
    intro ht j h
    match C, ht, h with
    | [], _, h => simp at h
    | [q1], _, h => exact absurd h (by simp)
    | q1 :: q0 :: l, ht, h =>
      cases j with
      | zero => exact ht.1
      | succ j => exact ih ht.2 j (by simpa using h)
theorem EdgC.at {P : List Rot} : ∀ {C : List Rot}, EdgC P C → ∀ j, ∀ h : j + 1 < C.length, ∀ r ∈ P, 0 ≤ ori C[j + 1] C[j] r := by
  intro C
  induction C with
  | nil => intro _ j h; simp at h
  | cons q2 C ih =>
    intro ht j h
    match C, ht, h with
    | [], _, h => simp at h
    | q1 :: l, ht, h =>
      cases j with
      | zero => exact ht.1
      | succ j => exact ih ht.2 j (by simpa using h)
structure ChD (S D : List Rot) (x y : Rot) : Prop where
  len : D ≠ []
  fst : ∀ h : 0 < D.length, D[0] = x
  lst : ∀ h : 0 < D.length, D[D.length - 1] = y
  sub : ∀ q ∈ D, q ∈ S
  edge : ∀ i (h : i + 1 < D.length), ∀ r ∈ S, 0 ≤ ori D[i] D[i + 1] r
  turn : ∀ i (h : i + 2 < D.length), 0 < ori D[i] D[i + 1] D[i + 2]
theorem chd_of {S C : List Rot} {x y : Rot} (h : Chn S C) (hx : C.getLast? = some x) (hy : C.head? = some y) : ChD S C.reverse x y := by
  have h0 : C ≠ [] := by rintro rfl; cases hx
  have hl := List.length_pos_iff.2 h0
  refine ⟨by simpa using h0, fun g => ?_, fun g => ?_, fun q hq => h.sub q (by simpa using hq), fun i g r hr => ?_, fun i g => ?_⟩
  · rw [List.getElem_reverse]
    rw [List.getLast?_eq_getElem?] at hx
    obtain ⟨_, hx⟩ := List.getElem?_eq_some_iff.1 hx
    simpa using hx
  · rw [List.getElem_reverse]
    rw [List.head?_eq_getElem?] at hy
    obtain ⟨_, hy⟩ := List.getElem?_eq_some_iff.1 hy
    have e : C.length - 1 - (C.reverse.length - 1) = 0 := by simp
    simp only [e]; exact hy
  · simp only [List.length_reverse] at g
    have := h.edg.at (C.length - 1 - (i + 1)) (by omega) r hr
    rw [List.getElem_reverse, List.getElem_reverse]
    have e : C.length - 1 - (i + 1) + 1 = C.length - 1 - i := by omega
    simp only [e] at this
    exact this
  · simp only [List.length_reverse] at g
    have := h.turn.at (C.length - 1 - (i + 2)) (by omega)
    rw [List.getElem_reverse, List.getElem_reverse, List.getElem_reverse]
    have e : C.length - 1 - (i + 2) + 1 = C.length - 1 - (i + 1) := by omega
    have e2 : C.length - 1 - (i + 2) + 2 = C.length - 1 - i := by omega
    simp only [e, e2] at this
    exact this
theorem pop_neg (p : Rot) : ∀ C : List Rot, popC p.neg (C.map Rot.neg) = (popC p C).map Rot.neg := by
  intro C
  induction C with
  | nil => rfl
  | cons q1 C ih =>
    cases C with
    | nil => rfl
    | cons q0 l =>
      simp only [List.map_cons] at ih ⊢
      rw [popC, popC, ori_neg]
      split
      · exact ih
      · rfl
theorem chain_neg : ∀ (S C : List Rot), chainC (C.map Rot.neg) (S.map Rot.neg) = (chainC C S).map Rot.neg := by
  intro S
  induction S with
  | nil => intro C; rfl
  | cons p S ih =>
    intro C
    simp only [List.map_cons, chainC]
    rw [pop_neg, ← List.map_cons, ih]
theorem chd_back {S : List Rot} {x y : Rot} (hs : S.Pairwise Rot.plt) (hx : S.head? = some x) (hy : S.getLast? = some y) : ChD S (chainC [] S.reverse).reverse y x := by
  obtain ⟨S', rfl⟩ := List.getLast?_eq_some_iff.1 hy
  have hn : ((y :: S'.reverse).map Rot.neg).Pairwise Rot.plt := by
    rw [List.pairwise_map]
    have : (y :: S'.reverse) = (S' ++ [y]).reverse := by simp
    rw [this, List.pairwise_reverse]
    exact hs.imp fun h => plt_neg.2 h
  have h1 := chain_of (p := y.neg) (S := S'.reverse.map Rot.neg) hn
  have e : chainC [] (y.neg :: S'.reverse.map Rot.neg) = (chainC [] (S' ++ [y]).reverse).map Rot.neg := by
    have := chain_neg ((S' ++ [y]).reverse) []
    simpa using this
  rw [e] at h1
  have hm : ∀ r ∈ S' ++ [y], r.neg ∈ (y.neg :: S'.reverse.map Rot.neg) := fun r hr => by
    rcases List.mem_append.1 hr with hr | hr
    · simp; exact .inr ⟨r, hr, rfl⟩
    · simp at hr; subst hr; simp
  have hm' : ∀ r, r ∈ (y.neg :: S'.reverse.map Rot.neg) → r.neg ∈ S' ++ [y] := fun r hr => by
    rcases List.mem_cons.1 hr with rfl | hr
    · simp [neg_neg']
    · simp at hr
      obtain ⟨a, ha, rfl⟩ := hr
      simp [neg_neg', ha]
  obtain ⟨hc, hh⟩ := h1
  obtain ⟨z, hz, hlow⟩ := hc.low
  generalize chainC [] (S' ++ [y]).reverse = C at *
  have hC0 : C ≠ [] := by rintro rfl; cases hz
  have hd := chd_of hc hz (y := (C.head hC0).neg) (by rw [List.head?_map, List.head?_eq_some_head hC0]; rfl)
  have hhd : C.head? = some (C.head hC0) := List.head?_eq_some_head hC0
  have hx' : x.neg = (C.head hC0).neg := by
    have := hh _ (by rw [List.head?_map, hhd]; rfl)
    have e2 : (y.neg :: S'.reverse.map Rot.neg) = ((S' ++ [y]).reverse).map Rot.neg := by simp
    rw [e2, List.getLast?_map, List.getLast?_reverse, hx] at this
    simpa using this
  have hy' : z = y.neg := by
    rcases hlow y.neg (by simp) with h | h
    · exact h
    · have hzm := hm' z (hc.sub z (List.mem_of_getLast? hz))
      have : ∀ r ∈ S' ++ [y], r = y ∨ r.plt y := fun r hr => by
        rcases List.mem_append.1 hr with hr | hr
        · exact .inr ((List.pairwise_append.1 hs).2.2 r hr y (by simp))
        · simp at hr; exact .inl hr
      rcases this _ hzm with h2 | h2
      · rw [← h2, neg_neg']
      · have : z.plt y.neg := h
        have h3 : y.plt z.neg := by
          have := plt_neg.2 this
          rw [neg_neg'] at this; exact this
        exact absurd h3 (plt_asym h2)
  have inj : ∀ a b : Rot, a.neg = b.neg → a = b := fun a b h => by rw [← neg_neg' a, h, neg_neg']
  have hlen : (List.map Rot.neg C).reverse.length = C.reverse.length := by simp
  have hget : ∀ i (h1 : i < (List.map Rot.neg C).reverse.length) (h2 : i < C.reverse.length), (List.map Rot.neg C).reverse[i] = (C.reverse[i]).neg := fun i h1 h2 => by
    simp
  refine ⟨by simpa using hC0, fun g => ?_, fun g => ?_, fun q hq => ?_, fun i g r hr => ?_, fun i g => ?_⟩
  · have := hd.fst (by simpa using g)
    rw [hget 0 _ g, hy'] at this
    exact inj _ _ this
  · have := hd.lst (by simpa using g)
    simp only [hlen] at this
    rw [hget _ _ (by omega), ← hx'] at this
    exact inj _ _ this
  · have := hm' q.neg (hc.sub q.neg (by simp only [List.mem_map]; exact ⟨q, by simpa using hq, rfl⟩))
    rw [neg_neg'] at this; exact this
  · have := hd.edge i (by rw [hlen]; exact g) r.neg (hm r hr)
    rw [hget i _ (by omega), hget (i + 1) _ g, ori_neg] at this
    exact this
  · have := hd.turn i (by rw [hlen]; exact g)
    rw [hget i _ (by omega), hget (i + 1) _ (by omega), hget (i + 2) _ g, ori_neg] at this
    exact this
theorem line3 {a b x y z : Rot} (h : a ≠ b) (hx : ori a b x = 0) (hy : ori a b y = 0) (hz : ori a b z = 0) : ori x y z = 0 := by
  obtain ⟨r, r1, r2⟩ := line_t h hx
  obtain ⟨s, s1, s2⟩ := line_t h hy
  obtain ⟨t, t1, t2⟩ := line_t h hz
  have e1 : x.c = a.c + r * (b.c - a.c) := by grind
  have e2 : x.s = a.s + r * (b.s - a.s) := by grind
  have e3 : y.c = a.c + s * (b.c - a.c) := by grind
  have e4 : y.s = a.s + s * (b.s - a.s) := by grind
  have e5 : z.c = a.c + t * (b.c - a.c) := by grind
  have e6 : z.s = a.s + t * (b.s - a.s) := by grind
  unfold ori Rot.cross Rot.sub
  simp only [e1, e2, e3, e4, e5, e6]
  grind
theorem corner {S : List Rot} {a b u : Rot} (hab : a ≠ b) (h1 : ∀ r ∈ S, 0 ≤ ori a b r) (h2 : ∀ r ∈ S, 0 ≤ ori b u r) (hu : u ∈ S) (hp : (a.plt b ∧ u.plt b) ∨ (b.plt a ∧ b.plt u))
    (hf : ∃ x ∈ S, ∃ y ∈ S, ∃ z ∈ S, ori x y z ≠ 0) : 0 < ori a b u := by
  rcases Rat.le_iff_lt_or_eq.1 (h1 u hu) with h | h
  · exact h
  exfalso
  have h0 : ori b a u = 0 := by rw [ori_swap]; grind
  obtain ⟨t, t1, t2⟩ := line_t (Ne.symm hab) h0
  have tp : 0 < t := by
    have key : ∀ {p q : Rat}, p = t * q → (0 < p ∧ 0 < q) ∨ (p < 0 ∧ q < 0) → 0 < t := by
      rintro p q e (⟨h3, h4⟩ | ⟨h3, h4⟩)
      · exact pos_of_mul h4 (by rw [← e]; exact h3)
      · exact pos_of_mul (b := -q) (by grind) (by have : t * -q = -p := by rw [e]; grind
                                                  grind)
    unfold Rot.plt at hp
    by_cases hc : a.c = b.c
    · have uc : u.c = b.c := by
        rw [hc] at t1
        grind
      exact key t2 (by grind)
    · by_cases uc : u.c = b.c
      · rcases Rat.mul_eq_zero.1 (show t * (a.c - b.c) = 0 by grind) with h3 | h3
        · rw [h3] at t2; grind
        · grind
      · exact key t1 (by grind)
  have hz : ∀ r ∈ S, ori a b r = 0 := fun r hr => by
    have e : ori b u r = t * -(ori a b r) := by
      have e1 : u.c = b.c + t * (a.c - b.c) := by grind
      have e2 : u.s = b.s + t * (a.s - b.s) := by grind
      unfold ori Rot.cross Rot.sub
      simp only [e1, e2]
      grind
    have := h2 r hr
    rw [e] at this
    have := nonneg_of_mul tp this
    have := h1 r hr
    grind
  obtain ⟨x, hx, y, hy, z, hz', hne⟩ := hf
  exact hne (line3 hab (hz x hx) (hz y hy) (hz z hz'))
end Go.Fw
namespace Go.Fw
open Go
section
variable {S D U : List Rot} {x y : Rot}
theorem apart {a v b c : Rot} (hav : a.plt v) (hvc : v.plt c) (t : 0 < ori a v b) (h1 : 0 ≤ ori a v c) (h2 : 0 ≤ ori v b c) (h3 : 0 ≤ ori c v a) : False := by
  have e1 : ori c v a = -(ori a v c) := by unfold ori Rot.cross Rot.sub; grind
  have z : ori v a c = 0 := by have : ori v a c = -(ori a v c) := by unfold ori Rot.cross Rot.sub; grind
                               grind
  obtain ⟨s, s1, s2⟩ := line_t (v := c) (fun e => by rw [e] at hav; exact plt_irrefl _ hav) z
  have sn : 0 < -s := by
    unfold Rot.plt at hav hvc
    by_cases hc : v.c = a.c
    · have hc2 : c.c = v.c := by rw [hc, Rat.sub_self, Rat.mul_zero] at s1; grind
      exact pos_of_mul (b := v.s - a.s) (by grind) (by grind)
    · by_cases hc2 : c.c = v.c
      · rcases Rat.mul_eq_zero.1 (show s * (a.c - v.c) = 0 by grind) with h | h
        · rw [h] at s2; grind
        · grind
      · exact pos_of_mul (b := v.c - a.c) (by grind) (by grind)
  have e2 : ori v b c = s * ori a v b := by
    have e3 : c.c = v.c + s * (a.c - v.c) := by grind
    have e4 : c.s = v.s + s * (a.s - v.s) := by grind
    unfold ori Rot.cross Rot.sub
    simp only [e3, e4]
    grind
  have p := Rat.mul_pos sn t
  grind
theorem hull_of (hs : S.Pairwise Rot.plt) (hx : S.head? = some x) (hy : S.getLast? = some y) (hf : ∃ p ∈ S, ori x y p ≠ 0) :
    Hl S ((chainC [] S).reverse.dropLast ++ (chainC [] S.reverse).reverse.dropLast) := by
  have hfl : ∃ a ∈ S, ∃ b ∈ S, ∃ c ∈ S, ori a b c ≠ 0 := by
    obtain ⟨p, hp, h⟩ := hf
    exact ⟨x, List.mem_of_head? hx, y, List.mem_of_getLast? hy, p, hp, h⟩
  have hxy : x ≠ y := by rintro rfl; obtain ⟨p, _, h⟩ := hf; exact h (ori_self1 _ _)
  have lowx : ∀ r ∈ S, x = r ∨ x.plt r := by
    intro r hr
    cases S with
    | nil => cases hx
    | cons z S =>
      simp at hx; subst hx
      rcases List.mem_cons.1 hr with rfl | hr
      · exact .inl rfl
      · exact .inr ((List.pairwise_cons.1 hs).1 r hr)
  have highy : ∀ r ∈ S, r = y ∨ r.plt y := by
    intro r hr
    obtain ⟨S', rfl⟩ := List.getLast?_eq_some_iff.1 hy
    rcases List.mem_append.1 hr with hr | hr
    · exact .inr ((List.pairwise_append.1 hs).2.2 r hr y (by simp))
    · simp at hr; exact .inl hr
  have hU := chd_back hs hx hy
  have hD : ChD S (chainC [] S).reverse x y ∧ (chainC [] S).reverse.Pairwise Rot.plt := by
    cases S with
    | nil => cases hx
    | cons z S =>
      obtain ⟨h1, h2⟩ := chain_of hs
      obtain ⟨w, hw, hlow⟩ := h1.low
      have hwx : w = x := by
        have hwm := h1.sub w (List.mem_of_getLast? hw)
        rcases hlow x (List.mem_of_head? hx) with h | h
        · exact h
        · rcases lowx w hwm with h' | h'
          · exact h'.symm
          · exact absurd h (plt_asym h')
      have hC0 : chainC [] (z :: S) ≠ [] := by intro e; rw [e] at hw; cases hw
      have hh := h2 _ (List.head?_eq_some_head hC0)
      rw [hy] at hh
      cases hh
      exact ⟨chd_of h1 (by rw [hw, hwx]) (List.head?_eq_some_head hC0), by rw [List.pairwise_reverse]; exact h1.dec⟩
  obtain ⟨hD, hDs⟩ := hD
  have hUs : (chainC [] S.reverse).reverse.Pairwise (fun a b => b.plt a) := by
    have hn : (S.reverse.map Rot.neg).Pairwise Rot.plt := by
      rw [List.pairwise_map, List.pairwise_reverse]
      exact hs.imp fun h => plt_neg.2 h
    have e := chain_neg S.reverse []
    cases hr : S.reverse with
    | nil => simp at hr; subst hr; cases hx
    | cons w R =>
      rw [hr] at hn e
      have h1 := (chain_of (p := w.neg) (S := R.map Rot.neg) hn).1.dec
      have e' : chainC [] (w.neg :: R.map Rot.neg) = (chainC [] (w :: R)).map Rot.neg := e
      rw [e', List.pairwise_map] at h1
      rw [List.pairwise_reverse]
      exact h1.imp fun h => plt_neg.1 h
  generalize (chainC [] S).reverse = D at *
  generalize (chainC [] S.reverse).reverse = U at *
  have hdl := List.length_pos_iff.2 hD.len
  have hul := List.length_pos_iff.2 hU.len
  have d0 := hD.fst hdl
  have d1 := hD.lst hdl
  have u0 := hU.fst hul
  have u1 := hU.lst hul
  have hm : 1 < D.length := by
    rcases Nat.lt_or_ge 1 D.length with h | h
    · exact h
    · have e : D.length - 1 = 0 := by omega
      simp only [e] at d1
      exact absurd (d0.symm.trans d1) hxy
  have hk : 1 < U.length := by
    rcases Nat.lt_or_ge 1 U.length with h | h
    · exact h
    · have e : U.length - 1 = 0 := by omega
      simp only [e] at u1
      exact absurd (u1.symm.trans u0) hxy
  obtain ⟨m, hml⟩ : ∃ m, D.length = m + 1 := ⟨D.length - 1, by omega⟩
  obtain ⟨k, hkl⟩ : ∃ k, U.length = k + 1 := ⟨U.length - 1, by omega⟩
  simp only [hml, Nat.add_sub_cancel] at d1
  simp only [hkl, Nat.add_sub_cancel] at u1
  have hn : (D.dropLast ++ U.dropLast).length = m + k := by rw [List.length_append, List.length_dropLast, List.length_dropLast]; omega
  have hD0 : D.dropLast.length = m := by rw [List.length_dropLast]; omega
  have cU : ∀ j (h : j < U.length), cy (D.dropLast ++ U.dropLast) (m + j) = U[j] := fun j h => by
    by_cases hj : j < k
    · rw [cy_lt (by omega), List.getElem_append_right (by omega)]
      simp [hD0]
    · have hj : j = k := by omega
      subst hj
      rw [show m + j = 0 + (D.dropLast ++ U.dropLast).length by omega, cy_add, cy_lt (by omega), List.getElem_append_left (by omega), List.getElem_dropLast, d0]
      exact u1.symm
  have cD : ∀ j (h : j < D.length), cy (D.dropLast ++ U.dropLast) j = D[j] := fun j h => by
    by_cases hj : j < m
    · rw [cy_lt (by omega), List.getElem_append_left (by omega), List.getElem_dropLast]
    · have hj : j = m := by omega
      subst hj
      have := cU 0 hul
      rw [Nat.add_zero] at this
      rw [this, u0]; exact d1.symm
  have n3 : 3 ≤ m + k := by
    rcases Nat.lt_or_ge 2 (m + k) with h | h
    · exact h
    · exfalso
      have m1 : m = 1 := by omega
      have k1 : k = 1 := by omega
      subst m1 k1
      obtain ⟨p, hp, hne⟩ := hf
      have a1 := hD.edge 0 (by omega) p hp
      have a2 := hU.edge 0 (by omega) p hp
      simp only [Nat.zero_add] at a1 a2
      rw [d0, d1] at a1
      rw [u0, u1, ori_swap] at a2
      exact hne (by grind)
  have ce : ∀ i, i < m + k → ∀ r ∈ S, 0 ≤ ori (cy (D.dropLast ++ U.dropLast) i) (cy (D.dropLast ++ U.dropLast) (i + 1)) r := fun i hi r hr => by
    by_cases him : i < m
    · rw [cD i (by omega), cD (i + 1) (by omega)]
      exact hD.edge i (by omega) r hr
    · obtain ⟨j, rfl⟩ : ∃ j, i = m + j := ⟨i - m, by omega⟩
      rw [cU j (by omega), Nat.add_assoc, cU (j + 1) (by omega)]
      exact hU.edge j (by omega) r hr
  refine ⟨by omega, fun q hq => ?_, fun i r hr => ?_, fun i => ?_, fun r hr => ?_, ?_⟩
  · rcases List.mem_append.1 hq with hq | hq
    · exact hD.sub q (List.dropLast_subset _ hq)
    · exact hU.sub q (List.dropLast_subset _ hq)
  · rw [← cy_mod, ← cy_mod1, hn]
    exact ce _ (Nat.mod_lt _ (by omega)) r hr
  · rw [← cy_mod, ← cy_mod1, ← cy_mod1 _ _ 2, hn]
    have hi := Nat.mod_lt i (show 0 < m + k by omega)
    generalize i % (m + k) = i at *
    by_cases h1 : i + 2 ≤ m
    · rw [cD i (by omega), cD (i + 1) (by omega), cD (i + 2) (by omega)]
      exact hD.turn i (by omega)
    · by_cases h2 : i + 1 = m
      · have e1 := cU 1 hk
        have e2 := cD m (by omega)
        rw [show i + 2 = m + 1 by omega, h2, e1, e2, cD i (by omega)]
        have hlt : (D[i]'(by omega)).plt (D[m]'(by omega)) := List.pairwise_iff_getElem.1 hDs _ _ _ _ (by omega)
        have hlt2 : (U[1]'hk).plt (U[0]'hul) := List.pairwise_iff_getElem.1 hUs _ _ _ _ (by omega)
        have hedge := hD.edge i (by omega)
        simp only [h2] at hedge
        have hedge2 := hU.edge 0 (by omega)
        simp only [Nat.zero_add] at hedge2
        rw [u0, ← d1] at hlt2 hedge2
        exact corner (fun e => by rw [e] at hlt; exact plt_irrefl _ hlt) hedge hedge2 (hU.sub _ (List.getElem_mem _)) (.inl ⟨hlt, hlt2⟩) hfl
      · obtain ⟨j, rfl⟩ : ∃ j, i = m + j := ⟨i - m, by omega⟩
        by_cases h3 : j + 2 ≤ k
        · rw [cU j (by omega), Nat.add_assoc, Nat.add_assoc, cU (j + 1) (by omega), cU (j + 2) (by omega)]
          exact hU.turn j (by omega)
        · have h3 : j + 1 = k := by omega
          have e1 : cy (D.dropLast ++ U.dropLast) (m + j + 2) = D[1] := by
            rw [show m + j + 2 = 1 + (D.dropLast ++ U.dropLast).length by omega, cy_add]
            exact cD 1 hm
          have e2 : cy (D.dropLast ++ U.dropLast) (m + j + 1) = D[0] := by
            rw [show m + j + 1 = 0 + (D.dropLast ++ U.dropLast).length by omega, cy_add]
            exact cD 0 hdl
          rw [e1, e2, cU j (by omega)]
          have hlt : (U[k]'(by omega)).plt (U[j]'(by omega)) := List.pairwise_iff_getElem.1 hUs _ _ _ _ (by omega)
          have hlt2 : (D[0]'hdl).plt (D[1]'hm) := List.pairwise_iff_getElem.1 hDs _ _ _ _ (by omega)
          have hedge := hU.edge j (by omega)
          simp only [h3] at hedge
          have hedge2 := hD.edge 0 (by omega)
          simp only [Nat.zero_add] at hedge2
          rw [u1, ← d0] at hlt hedge
          exact corner (fun e => by rw [e] at hlt; exact plt_irrefl _ hlt) hedge hedge2 (hD.sub _ (List.getElem_mem _)) (.inr ⟨hlt, hlt2⟩) hfl
  · rw [cD 0 hdl, d0]; exact lowx r hr
  · rw [List.nodup_append]
    refine ⟨?_, ?_, fun v hv w hw e => ?_⟩
    · refine (List.dropLast_sublist D).nodup ?_
      exact hDs.imp fun h e => by rw [e] at h; exact plt_irrefl _ h
    · refine (List.dropLast_sublist U).nodup ?_
      exact hUs.imp fun h e => by rw [e] at h; exact plt_irrefl _ h
    · subst e
      obtain ⟨i, hi, ei⟩ := List.mem_iff_getElem.1 hv
      obtain ⟨j, hj, ej⟩ := List.mem_iff_getElem.1 hw
      rw [List.length_dropLast] at hi hj
      rw [List.getElem_dropLast] at ei ej
      have hDlt : ∀ p q (hp : p < D.length) (hq : q < D.length), p < q → D[p].plt D[q] := fun p q hp hq h => List.pairwise_iff_getElem.1 hDs _ _ _ _ h
      have hUlt : ∀ p q (hp : p < U.length) (hq : q < U.length), p < q → U[q].plt U[p] := fun p q hp hq h => List.pairwise_iff_getElem.1 hUs _ _ _ _ h
      by_cases hi0 : i = 0
      · subst hi0
        have := hUlt j k (by omega) (by omega) (by omega)
        rw [ej, u1, ← d0, ei] at this
        exact plt_irrefl _ this
      by_cases hj0 : j = 0
      · subst hj0
        have := hDlt i m (by omega) (by omega) (by omega)
        rw [ei, d1, ← u0, ej] at this
        exact plt_irrefl _ this
      obtain ⟨i, rfl⟩ : ∃ i', i = i' + 1 := ⟨i - 1, by omega⟩
      obtain ⟨j, rfl⟩ : ∃ j', j = j' + 1 := ⟨j - 1, by omega⟩
      have t := hD.turn i (by omega)
      have g1 := hDlt i (i + 1) (by omega) (by omega) (by omega)
      have g2 := hUlt j (j + 1) (by omega) (by omega) (by omega)
      have g3 := hD.edge i (by omega) _ (hU.sub _ (List.getElem_mem (show j < U.length by omega)))
      have g4 := hD.edge (i + 1) (by omega) _ (hU.sub _ (List.getElem_mem (show j < U.length by omega)))
      have g5 := hU.edge j (by omega) _ (hD.sub _ (List.getElem_mem (show i < D.length by omega)))
      rw [ei] at t g1 g3 g4
      rw [ej] at g2 g5
      exact apart g1 g2 t g3 g4 g5
end
end Go.Fw
namespace Go.Fw
open Go
def rotL (H : List Rot) (k : Nat) : List Rot := H.drop k ++ H.take k
theorem rotL_len (H : List Rot) (k : Nat) : (rotL H k).length = H.length := by unfold rotL; simp; omega
theorem cy_rotL {H : List Rot} {k : Nat} (hk : k ≤ H.length) (h0 : H ≠ []) (i : Nat) : cy (rotL H k) i = cy H (i + k) := by
  have hn := List.length_pos_iff.2 h0
  rw [← cy_mod, ← cy_mod1 H i k, rotL_len]
  have hi := Nat.mod_lt i hn
  generalize i % H.length = i at *
  rw [cy_lt (by rw [rotL_len]; exact hi)]
  unfold rotL
  by_cases h : i < H.length - k
  · rw [List.getElem_append_left (by simp; omega), List.getElem_drop, cy_lt (by omega)]
    congr 1; omega
  · rw [List.getElem_append_right (by simp; omega), List.getElem_take]
    have e : cy H (i + k) = cy H (i - (List.drop k H).length) := by
      rw [List.length_drop]
      conv => lhs; rw [show i + k = (i - (H.length - k)) + H.length by omega]
      exact cy_add _ _
    rw [e, cy_lt (by rw [List.length_drop]; omega)]
theorem rotL_mem {H : List Rot} {k : Nat} {x : Rot} : x ∈ rotL H k ↔ x ∈ H := by
  unfold rotL
  rw [List.mem_append]
  constructor
  · rintro (h | h)
    · exact List.mem_of_mem_drop h
    · exact List.mem_of_mem_take h
  · intro h
    rw [← List.take_append_drop k H] at h
    exact (List.mem_append.1 h).symm
theorem rotL_perm (H : List Rot) (k : Nat) : (rotL H k).Perm H := by
  unfold rotL
  have := List.perm_append_comm (l₁ := H.drop k) (l₂ := H.take k)
  rwa [List.take_append_drop] at this
section
variable {S H : List Rot}
theorem cy_map {f : Rot → Rot} (h0 : H ≠ []) (i : Nat) : cy (H.map f) i = f (cy H i) := by
  have hn := List.length_pos_iff.2 h0
  rw [← cy_mod, ← cy_mod H i, List.length_map]
  have hi := Nat.mod_lt i hn
  rw [cy_lt (by simpa using hi), cy_lt hi]; simp
theorem low_of (hn : 3 ≤ H.length) (he : ∀ i, ∀ s ∈ S, 0 ≤ ori (cy H i) (cy H (i + 1)) s) (ht : ∀ i, 0 < ori (cy H i) (cy H (i + 1)) (cy H (i + 2))) (hl : ∀ i, cy H 0 = cy H i ∨ (cy H 0).plt (cy H i)) : ∀ s ∈ S, cy H 0 = s ∨ (cy H 0).plt s := by
  intro s hs
  have e1 : cy H (H.length - 1 + 1) = cy H 0 := by rw [show H.length - 1 + 1 = 0 + H.length by omega, cy_add]
  have e2 : cy H (H.length - 1 + 2) = cy H 1 := by rw [show H.length - 1 + 2 = 1 + H.length by omega, cy_add]
  have t := ht (H.length - 1)
  have g1 := he (H.length - 1) s hs
  have g2 := he 0 s hs
  have l1 := hl 1
  have l2 := hl (H.length - 1)
  rw [e1, e2] at t
  rw [e1] at g1
  rw [Nat.zero_add] at g2
  obtain ⟨n1, n2, n3⟩ := ori_ne t
  generalize cy H (H.length - 1) = z at *
  generalize cy H 0 = a at *
  generalize cy H 1 = b at *
  have l1 : a.plt b := l1.resolve_left n2
  have l2 : a.plt z := l2.resolve_left (Ne.symm n1)
  have c1 : ori z a b * (s.c - a.c) = ori z a s * (b.c - a.c) + ori a b s * (z.c - a.c) := by unfold ori Rot.cross Rot.sub; grind
  have c2 : ori z a b * (s.s - a.s) = ori z a s * (b.s - a.s) + ori a b s * (z.s - a.s) := by unfold ori Rot.cross Rot.sub; grind
  unfold Rot.plt at l1 l2
  have u1 : 0 ≤ b.c - a.c := by grind
  have u2 : 0 ≤ z.c - a.c := by grind
  have p1 := Rat.mul_nonneg g1 u1
  have p2 := Rat.mul_nonneg g2 u2
  have sc : 0 ≤ s.c - a.c := nonneg_of_mul t (by grind)
  by_cases h0 : s.c = a.c
  · have q1 : ori z a s * (b.c - a.c) = 0 := by grind
    have q2 : ori a b s * (z.c - a.c) = 0 := by grind
    have r1 : 0 ≤ ori z a s * (b.s - a.s) := by
      rcases Rat.mul_eq_zero.1 q1 with h | h
      · rw [h]; grind
      · exact Rat.mul_nonneg g1 (by grind)
    have r2 : 0 ≤ ori a b s * (z.s - a.s) := by
      rcases Rat.mul_eq_zero.1 q2 with h | h
      · rw [h]; grind
      · exact Rat.mul_nonneg g2 (by grind)
    have ss : 0 ≤ s.s - a.s := nonneg_of_mul t (by grind)
    by_cases h1 : s.s = a.s
    · left
      cases a; cases s
      simp only at h0 h1
      rw [h0, h1]
    · right; right; exact ⟨h0.symm, by grind⟩
  · right; left; grind
theorem Hl.turned (h : Hl S H) {f : Rot → Rot} (hf : ∀ a b c, ori (f a) (f b) (f c) = ori a b c) (hi : ∀ a b, f a = f b → a = b) {k : Nat} (hk : k < H.length) (hl : ∀ i, f (cy H k) = f (cy H i) ∨ (f (cy H k)).plt (f (cy H i))) : Hl (S.map f) (rotL (H.map f) k) := by
  have h0 := h.ne
  have hm0 : H.map f ≠ [] := by simpa using h0
  have e : ∀ i, cy (rotL (H.map f) k) i = f (cy H (i + k)) := fun i => by rw [cy_rotL (by simp; omega) hm0, cy_map h0]
  have edge : ∀ i, ∀ s ∈ S.map f, 0 ≤ ori (cy (rotL (H.map f) k) i) (cy (rotL (H.map f) k) (i + 1)) s := fun i s hs => by
    obtain ⟨r, hr, rfl⟩ := List.mem_map.1 hs
    rw [e, e, hf, show i + 1 + k = i + k + 1 by omega]
    exact h.edge _ r hr
  have turn : ∀ i, 0 < ori (cy (rotL (H.map f) k) i) (cy (rotL (H.map f) k) (i + 1)) (cy (rotL (H.map f) k) (i + 2)) := fun i => by
    rw [e, e, e, hf, show i + 1 + k = i + k + 1 by omega, show i + 2 + k = i + k + 2 by omega]
    exact h.turn _
  refine ⟨by rw [rotL_len, List.length_map]; exact h.n3, fun q hq => ?_, edge, turn, low_of (by rw [rotL_len, List.length_map]; exact h.n3) edge turn fun i => ?_, ?_⟩
  · have := rotL_mem.1 hq
    obtain ⟨r, hr, rfl⟩ := List.mem_map.1 this
    exact List.mem_map.2 ⟨r, h.sub r hr, rfl⟩
  · rw [e, e, Nat.zero_add]; exact hl _
  · rw [(rotL_perm _ _).nodup_iff, List.nodup_iff_pairwise_ne, List.pairwise_map]
    exact (List.nodup_iff_pairwise_ne.1 h.nd).imp fun hne he => hne (hi _ _ he)
def smR (f : Nat → Rat) : Nat → Rat
  | 0 => 0
  | n + 1 => smR f n + f n
theorem smR_congr {f g : Nat → Rat} {n : Nat} (h : ∀ i, i < n → f i = g i) : smR f n = smR g n := by
  induction n with
  | zero => rfl
  | succ n ih => rw [smR, smR, ih (fun i hi => h i (by omega)), h n (by omega)]
theorem smR_shift {f : Nat → Rat} {n : Nat} (hp : ∀ i, f (i + n) = f i) : ∀ k, smR (fun i => f (i + k)) n = smR f n := by
  have tel : ∀ (g : Nat → Rat) n, smR (fun i => g (i + 1)) n = smR g n - g 0 + g n := by
    intro g n
    induction n with
    | zero => simp only [smR]; grind
    | succ n ih => rw [smR, smR, ih]; grind
  intro k
  induction k with
  | zero => rfl
  | succ k ih =>
    have := tel (fun i => f (i + k)) n
    simp only [Nat.zero_add] at this
    rw [ih] at this
    have e : (fun i => f (i + 1 + k)) = fun i => f (i + (k + 1)) := by funext i; congr 1; omega
    rw [e, show n + k = k + n by omega, hp] at this
    rw [this]; grind
theorem smR_add (f g : Nat → Rat) (n : Nat) : smR (fun i => f i + g i) n = smR f n + smR g n := by
  induction n with
  | zero => simp [smR]; grind
  | succ n ih => rw [smR, smR, smR, ih]; grind
theorem smR_nonneg {f : Nat → Rat} {n : Nat} (h : ∀ i, i < n → 0 ≤ f i) : 0 ≤ smR f n := by
  induction n with
  | zero => exact Rat.le_refl
  | succ n ih =>
    have := ih fun i hi => h i (by omega)
    have := h n (by omega)
    rw [smR]; grind
theorem smR_pos {f : Nat → Rat} {n j : Nat} (h : ∀ i, i < n → 0 ≤ f i) (hj : j < n) (hp : 0 < f j) : 0 < smR f n := by
  induction n with
  | zero => omega
  | succ n ih =>
    rw [smR]
    have h2 := h n (by omega)
    by_cases e : j = n
    · subst e
      have := smR_nonneg (n := j) fun i hi => h i (by omega)
      grind
    · have := ih (fun i hi => h i (by omega)) (by omega)
      grind
def areaR (H : List Rot) : Rat := smR (fun i => (cy H i).cross (cy H (i + 1))) H.length
theorem area_rotL {k : Nat} (hk : k ≤ H.length) (h0 : H ≠ []) : areaR (rotL H k) = areaR H := by
  unfold areaR
  rw [rotL_len]
  have e : (fun i => (cy (rotL H k) i).cross (cy (rotL H k) (i + 1))) = fun i => (fun j => (cy H j).cross (cy H (j + 1))) (i + k) := by
    funext i
    rw [cy_rotL hk h0, cy_rotL hk h0]
    congr 2; omega
  rw [e]
  exact smR_shift (f := fun j => (cy H j).cross (cy H (j + 1))) (fun i => by rw [cy_add, show i + H.length + 1 = i + 1 + H.length by omega, cy_add]) k
theorem area_map {f : Rot → Rot} (hf : ∀ a b : Rot, (f a).cross (f b) = a.cross b) (h0 : H ≠ []) : areaR (H.map f) = areaR H := by
  unfold areaR
  rw [List.length_map]
  exact smR_congr fun i _ => by rw [cy_map h0, cy_map h0, hf]
theorem Hl.area (h : Hl S H) : 0 < areaR H := by
  have hn := h.n3
  have e : areaR H = smR (fun i => ori (cy H 0) (cy H i) (cy H (i + 1))) H.length := by
    have e1 : (fun i => ori (cy H 0) (cy H i) (cy H (i + 1))) = fun i => (cy H i).cross (cy H (i + 1)) + ((cy H 0).cross (cy H i) + -((cy H 0).cross (cy H (i + 1)))) := by
      funext i; unfold ori Rot.cross Rot.sub; grind
    rw [e1, smR_add, smR_add]
    have e2 : ∀ n, smR (fun i => -((cy H 0).cross (cy H (i + 1)))) n = -(smR (fun i => (cy H 0).cross (cy H (i + 1))) n) := by
      intro n
      induction n with
      | zero => simp [smR]
      | succ n ih => rw [smR, smR, ih]; grind
    have e3 := smR_shift (f := fun i => (cy H 0).cross (cy H i)) (n := H.length) (fun i => by rw [cy_add]) 1
    have e4 : smR (fun i => (cy H 0).cross (cy H (i + 1))) H.length = smR (fun i => (cy H 0).cross (cy H i)) H.length := e3
    rw [e2, e4]
    unfold areaR; grind
  rw [e]
  refine smR_pos (j := 1) (fun i hi => ?_) (by omega) ?_
  · have := h.edge i _ (h.mem 0)
    have e4 : ori (cy H i) (cy H (i + 1)) (cy H 0) = ori (cy H 0) (cy H i) (cy H (i + 1)) := by unfold ori Rot.cross Rot.sub; grind
    grind
  · exact h.turn 0
end
end Go.Fw
namespace Go.Fw
open Go
theorem Rot.Sz.sub {a b : Rot} {k : Nat} (ha : a.Sz k) (hb : b.Sz k) : (a.sub b).Sz (k + k + 1) := ⟨ha.c.sub hb.c, ha.s.sub hb.s⟩
def pcmp (a b : Rot) : Int := if cmpQ a.c b.c ≠ 0 then cmpQ a.c b.c else cmpQ a.s b.s
theorem pcmp_zero {a b : Rot} : pcmp a b = 0 ↔ a = b := by
  unfold pcmp
  have h1 := cmpQ_cases a.c b.c
  have h2 := cmpQ_cases a.s b.s
  cases a; cases b
  simp only [Rot.mk.injEq]
  split <;> grind
theorem pcmp_neg {a b : Rot} : pcmp a b < 0 ↔ a.plt b := by
  unfold pcmp Rot.plt
  have h1 := cmpQ_cases a.c b.c
  have h2 := cmpQ_cases a.s b.s
  split <;> grind
end Go.Fw
namespace Go.Fw
open Go
theorem shareK {G : Prop} {M K : Slots → Heap → Prop} (h1 : (∀ s T, M s T → K s T) → G) (h2 : ∀ s T, M s T → K s T) : G := h1 h2
section
variable {α : Type} {ok : α → Prop} {le : α → α → Prop}
def sw (L : List α) (i j : Nat) (hi : i < L.length) (hj : j < L.length) : List α := (L.set i L[j]).set j L[i]
theorem sw_len (L : List α) (i j : Nat) (hi : i < L.length) (hj : j < L.length) : (sw L i j hi hj).length = L.length := by simp [sw]
theorem sw_perm (L : List α) (i j : Nat) (hi : i < L.length) (hj : j < L.length) : (sw L i j hi hj).Perm L := List.set_set_perm hi hj
theorem sw_at (L : List α) (i j : Nat) (hi : i < L.length) (hj : j < L.length) (q : Nat) (hq : q < L.length) : (sw L i j hi hj)[q]'(by rw [sw_len]; exact hq) = if q = j then L[i] else if q = i then L[j] else L[q] := by
  unfold sw
  rw [List.getElem_set]
  by_cases h1 : j = q
  · rw [if_pos h1, if_pos h1.symm]
  · rw [if_neg h1, if_neg (Ne.symm h1), List.getElem_set]
    by_cases h2 : i = q
    · rw [if_pos h2, if_pos h2.symm]
    · rw [if_neg h2, if_neg (Ne.symm h2)]
theorem Within.sw (L : List α) {a b : Nat} (i j : Nat) (hi : i < L.length) (hj : j < L.length) (h1 : a ≤ i ∧ i < b) (h2 : a ≤ j ∧ j < b) : Within L (sw L i j hi hj) a b := by
  refine ⟨sw_perm L i j hi hj, fun q hq => ?_⟩
  unfold Fw.sw
  rw [List.getElem?_set_ne (by omega), List.getElem?_set_ne (by omega)]
theorem Within.at {L0 L : List α} {a b q : Nat} (h : Within L0 L a b) (hq : q < L.length) (ho : q < a ∨ b ≤ q) : L[q] = L0[q]'(by have := h.len; omega) := by
  have := h.out q ho
  rw [List.getElem?_eq_getElem hq, List.getElem?_eq_getElem (by have := h.len; omega)] at this
  exact Option.some.inj this
theorem Within.seg {L0 L : List α} {a b : Nat} (h : Within L0 L a b) (hb : b ≤ L0.length) (hab : a ≤ b) : ((L.drop a).take (b - a)).Perm ((L0.drop a).take (b - a)) := by
  have hlen := h.len
  have e1 : L.take a = L0.take a := by
    apply List.ext_getElem?
    intro q
    simp only [List.getElem?_take]
    split
    · exact h.out q (.inl ‹_›)
    · rfl
  have e2 : L.drop b = L0.drop b := by
    apply List.ext_getElem?
    intro q
    simp only [List.getElem?_drop]
    exact h.out (b + q) (.inr (by omega))
  have sp : ∀ M : List α, M = M.take a ++ ((M.drop a).take (b - a) ++ M.drop b) := fun M => by
    conv => lhs; rw [← List.take_append_drop a M]
    congr 1
    conv => lhs; rw [← List.take_append_drop (b - a) (M.drop a)]
    rw [List.drop_drop, show a + (b - a) = b by omega]
  have hp := h.perm
  rw [sp L, sp L0, e1, e2] at hp
  exact (List.perm_append_right_iff _).1 ((List.perm_append_left_iff _).1 hp)
theorem Within.from {L0 L : List α} {a b q : Nat} (h : Within L0 L a b) (hb : b ≤ L0.length) (h1 : a ≤ q) (h2 : q < b) (hq : q < L.length) : ∃ q', a ≤ q' ∧ q' < b ∧ ∃ h' : q' < L0.length, L[q] = L0[q'] := by
  have hs := h.seg hb (by omega)
  have hm : L[q] ∈ (L.drop a).take (b - a) := by
    rw [List.mem_iff_getElem]
    refine ⟨q - a, by simp; omega, ?_⟩
    simp only [List.getElem_take, List.getElem_drop]
    congr 1; omega
  have := (hs.mem_iff).1 hm
  rw [List.mem_iff_getElem] at this
  obtain ⟨i, hi, he⟩ := this
  simp only [List.length_take, List.length_drop] at hi
  simp only [List.getElem_take, List.getElem_drop] at he
  exact ⟨a + i, by omega, by omega, by omega, he.symm⟩
theorem InsI.stop2 (tr : ∀ x y z, ok x → ok y → ok z → le x y → le y z → le x z) {L : List α} {a i j : Nat} (hok : ∀ x ∈ L, ok x) (h : InsI le L a i j) (hj : a < j) (hi : j ≤ i) (hjl : j < L.length) (hle : le (L[j - 1]'(by omega)) L[j]) : SrtTo le L a (i + 1) := by
  intro p q h0 h1 h2 hp hq
  by_cases hqj : q = j
  · subst hqj
    by_cases hp1 : p = q - 1
    · subst hp1; exact hle
    · exact tr _ _ _ (hok _ (List.getElem_mem hp)) (hok _ (List.getElem_mem (by omega))) (hok _ (List.getElem_mem hq)) (h p (q - 1) h0 (by omega) (by omega) (by omega) hp (by omega)) hle
  · exact h p q h0 h1 (by omega) hqj hp hq
def Outs (le : α → α → Prop) (L : List α) (lo hi lo' hi' : Nat) : Prop := ∀ p q, lo ≤ p → p < q → q < hi → ¬ (lo' ≤ p ∧ q < hi') → ∀ (hp : p < L.length) (hq : q < L.length), le L[p] L[q]
theorem Outs.start (L : List α) (lo hi : Nat) : Outs le L lo hi lo hi := fun p q h0 h1 h2 h3 => absurd ⟨h0, h2⟩ h3
theorem Outs.srt {L : List α} {lo hi lo' hi' : Nat} (h : Outs le L lo hi lo' hi') (hs : SrtTo le L lo' hi') : SrtTo le L lo hi := fun p q h0 h1 h2 hp hq => by
  by_cases h3 : lo' ≤ p ∧ q < hi'
  · exact hs p q h3.1 h1 h3.2 hp hq
  · exact h p q h0 h1 h2 h3 hp hq
def Lb (le : α → α → Prop) (L : List α) (lo hi : Nat) : Prop := ∀ p q, p < lo → lo ≤ q → q < hi → ∀ (hp : p < L.length) (hq : q < L.length), le L[p] L[q]
theorem Lb.within {L0 L : List α} {lo hi a b : Nat} (h : Lb le L0 lo hi) (hw : Within L0 L a b) (ha : lo ≤ a) (hb : b ≤ hi) (hab : a ≤ b) (hl : b ≤ L0.length) : Lb le L lo hi := fun p q h0 h1 h2 hp hq => by
  rw [hw.at hp (.inl (by omega))]
  by_cases hin : a ≤ q ∧ q < b
  · obtain ⟨q', h3, h4, h5, he⟩ := hw.from hl hin.1 hin.2 hq
    rw [he]
    exact h p q' h0 (by omega) (by omega) _ h5
  · rw [hw.at hq (by omega)]
    exact h p q h0 h1 h2 _ _
theorem Lb.sub {L : List α} {lo hi lo' hi' : Nat} (h : Lb le L lo hi) (ho : Outs le L lo hi lo' hi') (h1 : lo ≤ lo') (h2 : hi' ≤ hi) (h3 : lo' ≤ hi') : Lb le L lo' hi' := fun p q g0 g1 g2 hp hq => by
  by_cases hpl : p < lo
  · exact h p q hpl (by omega) (by omega) hp hq
  · exact ho p q (by omega) (by omega) (by omega) (by omega) hp hq
theorem Outs.within {L0 L : List α} {lo hi lo' hi' a b : Nat} (h : Outs le L0 lo hi lo' hi') (hw : Within L0 L a b) (h1 : lo ≤ lo') (h2 : hi' ≤ hi) (ha : lo' ≤ a) (hb : b ≤ hi') (hab : a ≤ b) (hl : hi ≤ L0.length) : Outs le L lo hi lo' hi' := fun p q g0 g1 g2 g3 hp hq => by
  have key : ∀ r, ∀ hr : r < L.length, ∃ r', ∃ hr' : r' < L0.length, L[r] = L0[r'] ∧ ((a ≤ r ∧ r < b ∧ a ≤ r' ∧ r' < b) ∨ ((r < a ∨ b ≤ r) ∧ r' = r)) := fun r hr => by
    by_cases hin : a ≤ r ∧ r < b
    · obtain ⟨r', h3, h4, h5, he⟩ := hw.from (by omega) hin.1 hin.2 hr
      exact ⟨r', h5, he, .inl ⟨hin.1, hin.2, h3, h4⟩⟩
    · exact ⟨r, by have := hw.len; omega, hw.at hr (by omega), .inr ⟨by omega, rfl⟩⟩
  obtain ⟨p', hp', ep, cp⟩ := key p hp
  obtain ⟨q', hq', eq, cq⟩ := key q hq
  rw [ep, eq]
  exact h p' q' (by omega) (by omega) (by omega) (by omega) hp' hq'
theorem Outs.left {L : List α} {lo hi lo' hi' m : Nat} (h : Outs le L lo hi lo' hi') (hs : SrtTo le L lo' m) (hm : m < hi')
    (hp : ∀ p q, lo' ≤ p → p ≤ m → m ≤ q → q < hi' → p < q → ∀ (h1 : p < L.length) (h2 : q < L.length), le L[p] L[q]) : Outs le L lo hi (m + 1) hi' := fun p q g0 g1 g2 g3 hp' hq' => by
  by_cases h3 : lo' ≤ p ∧ q < hi'
  · by_cases h4 : q < m
    · exact hs p q h3.1 g1 h4 hp' hq'
    · exact hp p q h3.1 (by omega) (by omega) h3.2 g1 hp' hq'
  · exact h p q g0 g1 g2 h3 hp' hq'
theorem Outs.right {L : List α} {lo hi lo' hi' m : Nat} (h : Outs le L lo hi lo' hi') (hs : SrtTo le L (m + 1) hi') (hm : lo' ≤ m)
    (hp : ∀ p q, lo' ≤ p → p ≤ m → m ≤ q → q < hi' → p < q → ∀ (h1 : p < L.length) (h2 : q < L.length), le L[p] L[q]) : Outs le L lo hi lo' m := fun p q g0 g1 g2 g3 hp' hq' => by
  by_cases h3 : lo' ≤ p ∧ q < hi'
  · by_cases h4 : m < p
    · exact hs p q (by omega) g1 h3.2 hp' hq'
    · exact hp p q h3.1 (by omega) (by omega) h3.2 g1 hp' hq'
  · exact h p q g0 g1 g2 h3 hp' hq'
theorem Outs.equal {L : List α} {lo hi lo' hi' m : Nat} (h : Outs le L lo hi lo' hi') (hm : lo' ≤ m)
    (hp : ∀ p q, lo' ≤ p → p < m → p < q → q < hi' → ∀ (h1 : p < L.length) (h2 : q < L.length), le L[p] L[q]) : Outs le L lo hi m hi' := fun p q g0 g1 g2 g3 hp' hq' => by
  by_cases h3 : lo' ≤ p ∧ q < hi'
  · exact hp p q h3.1 (by omega) g1 h3.2 hp' hq'
  · exact h p q g0 g1 g2 h3 hp' hq'
end
end Go.Fw
namespace Go.Fw
open Go
abbrev Stab (X : Inj → Heap → World → Prop) : Prop := ∀ {ρ H W ρ' H' W'}, X ρ H W → Step ρ H W ρ' H' W' → X ρ' H' W'
def SYZ (P : Program) (l L : Nat) (Y Z : Array Value → Heap → Heap → Prop) : ACall := fun fn => match fn with
  | .func g => fun as H v H' => Sim P g as H v H' ∧ H' = H
  | .yield l' => fun as H v H' => l' = l ∧ H.length ≤ L ∧ ((v = .bool true ∧ Y as H H' ∧ H'.length ≤ L) ∨ (v = .bool false ∧ Z as H H' ∧ L < H'.length))
  | _ => fun _ _ _ _ => False
def isLoad : Op → Bool | .load .. => true | _ => false
def calmOp (op : Op) : Bool := isLoad op || decide (clsOf op = .pure) || decide (clsOf op = .call)
def calmR (ops : Array Oper) : Bool := ops.toList.all fun o => calmOp o.op
def AxYLoop (B : (Bool → APost) → Slots → Heap → Prop) (Q : Bool → APost) : Nat → Slots → Heap → Prop
  | 0, _, _ => False
  | n + 1, s, H => B (fun m e s H => match e with | .normal => m = true ∧ AxYLoop B Q n s H | e => Q m e s H) s H
def AxY (tt : TT) (P : Program) (l : Nat) (Y Z : Array Value → Heap → Heap → Prop) : Code → (Bool → APost) → Slots → Heap → Prop
  | .region _ ops d, Q, s, H => AxReg tt (SY P l Y) ops d (Q true .normal) s H ∨ (calmR ops = true ∧ ∃ L, H.length ≤ L ∧ AxReg tt (SYZ P l L Y Z) ops d (fun s' H' => L < H'.length ∧ Q false .normal s' H') s H)
  | .seq a b, Q, s, H => AxY tt P l Y Z a (fun m e s H => match e with | .normal => if m = true then AxY tt P l Y Z b Q s H else Ax tt (SimF P) b (Q false) s H | e => Q m e s H) s H
  | .cond c t e, Q, s, H => ∃ b, ev s c = .bool b ∧ if b = true then AxY tt P l Y Z t Q s H else AxY tt P l Y Z e Q s H
  | .block id b, Q, s, H => AxY tt P l Y Z b (fun m => AEx.inBlock id (Q m)) s H
  | .loop b, Q, s, H => ∃ n, AxYLoop (AxY tt P l Y Z b) Q n s H
  | .skip, Q, s, H => Q true .normal s H
  | .exit id, Q, s, H => Q true (.exit id) s H
  | .ret, Q, s, H => Q true .ret s H
  | _, _, _, _ => False
section
variable {P : Program} {tt : TT} {m n l : Nat} {Y Z : Array Value → Heap → Heap → Prop} {Xo Xc : Inj → Heap → World → Prop} {β : Bas}
def GoesOn (P : Program) (l : Nat) (Y : Array Value → Heap → Heap → Prop) (Xo : Inj → Heap → World → Prop) : Prop :=
  ∀ as H1 H2, Y as H1 H2 → ∀ m ρ W ARGS, Mem ρ H1 W → Xo ρ H1 W → VRs ρ as ARGS → YieldAt (FW none) m P l ARGS W fun e W' => ∃ ρ', e = .returned (.bool true) ∧ Step ρ H1 W ρ' H2 W'
def IsLeft (P : Program) (l : Nat) (Z : Array Value → Heap → Heap → Prop) (Xo Xc : Inj → Heap → World → Prop) (β : Bas) : Prop :=
  ∀ as H1 H2, Z as H1 H2 → ∀ m ρ W ARGS, β.To ρ H1 W → Xo ρ H1 W → VRs ρ as ARGS → YieldAt (FW none) m P l ARGS W fun e W' => ∃ ρ', e = .returned (.bool false) ∧ Nxt ρ H1 ρ' H2 ∧ β.To ρ' H2 W' ∧ Xc ρ' H2 W'
theorem sndB_open (h : Stab Xo) (hY : GoesOn P l Y Xo) : SndB P none (SY P l Y) Xo (fun _ _ => True) β := by
  refine ⟨fun a _ s => h a s, fun h => .inl h, fun {l'} {as} {H} {v} {H'} hl m ρ W ARGS hB hX hA => ?_, fun _ => trivial, fun _ _ => trivial⟩
  obtain ⟨rfl, rfl, hy⟩ := hl
  obtain ⟨fn, tmps, assign, body, h1, h2⟩ := hY as H H' hy m ρ W ARGS hB.mem hX hA
  exact ⟨fn, tmps, assign, body, h1, h2.mono (fun e W' ⟨ρ', he, hs⟩ => ⟨_, ρ', he, .bool _, hs.nxt, hB.trans hs, h hX hs⟩)⟩
theorem sndB_shut (h : Stab Xc) : SndB P none (SimF P) Xc (fun _ _ => True) β :=
  ⟨fun a _ s => h a s, fun h => .inl h, fun h => h.elim, fun _ => trivial, fun _ _ => trivial⟩
theorem sndB_both {L : Nat} (ho : Stab Xo) (hc : Stab Xc) (hY : GoesOn P l Y Xo) (hZ : IsLeft P l Z Xo Xc β) :
    SndB P none (SYZ P l L Y Z) (fun ρ H W => (H.length ≤ L → Xo ρ H W) ∧ (L < H.length → Xc ρ H W)) (fun H H' => H.length ≤ L ↔ H'.length ≤ L) β := by
  refine ⟨fun ⟨a, b⟩ hA s => ⟨fun h => ho (a (hA.2 h)) s, fun h => hc (b (Nat.lt_of_not_le fun h' => absurd (hA.1 h') (by omega))) s⟩, fun h => .inl h.1, fun {l'} {as} {H} {v} {H'} hl m ρ W ARGS hB hX hA => ?_, fun _ => Iff.rfl, fun h1 h2 => h1.trans h2⟩
  obtain ⟨rfl, hL, hv⟩ := hl
  rcases hv with ⟨rfl, hy, hL'⟩ | ⟨rfl, hz, hL'⟩
  · obtain ⟨fn, tmps, assign, body, h1, h2⟩ := hY as H H' hy m ρ W ARGS hB.mem (hX.1 hL) hA
    exact ⟨fn, tmps, assign, body, h1, h2.mono (fun e W' ⟨ρ', he, hs⟩ => ⟨_, ρ', he, .bool _, hs.nxt, hB.trans hs, fun _ => ho (hX.1 hL) hs, fun h => by omega⟩)⟩
  · obtain ⟨fn, tmps, assign, body, h1, h2⟩ := hZ as H H' hz m ρ W ARGS hB (hX.1 hL) hA
    exact ⟨fn, tmps, assign, body, h1, h2.mono (fun e W' ⟨ρ', he, hn, hb, hx⟩ => ⟨_, ρ', he, .bool _, hn, hb, fun h => by omega, fun _ => hx⟩)⟩
theorem calm_aop {op : Op} {e : Operand → Value} {H H' : Heap} {v : Value} (hc : calmOp op = true) (hn : clsOf op ≠ .call) (h : aop tt op e H = some (v, H')) : H' = H := by
  unfold calmOp at hc
  simp only [Bool.or_eq_true, decide_eq_true_eq] at hc
  rcases hc with (hl | hp) | hcl
  · cases op
    case load t x =>
      simp only [aop, Option.map_eq_some_iff] at h
      obtain ⟨a, _, he⟩ := h
      cases he; rfl
    all_goals exact absurd hl (by simp [isLoad])
  · exact (pure_aop hp h).1
  · exact absurd hcl hn
theorem admR_calm {L : Nat} {ops : Array Oper} (h : calmR ops = true) : AdmR tt (SYZ P l L Y Z) ops (fun H H' => H.length ≤ L ↔ H'.length ≤ L) := by
  intro i o s H H' ho hN
  have hc : calmOp o.op = true := by
    unfold calmR at h
    rw [List.all_eq_true] at h
    obtain ⟨hi, rfl⟩ := Array.getElem?_eq_some_iff.1 ho
    exact h _ (by simp)
  have hE : H' = H := by
    unfold ANon at hN
    split at hN
    · obtain ⟨g, first, cap, v, _, hS⟩ := hN
      exact hS.2
    · rename_i hne
      obtain ⟨v, hv⟩ := hN
      refine calm_aop hc ?_ hv
      intro hcl
      obtain ⟨f, args, tys, hop⟩ := clsOf_call hcl
      exact hne f args tys hop
  rw [hE]
theorem axY_sound (ho : Stab Xo) (hc : Stab Xc) (hY : GoesOn P l Y Xo) (hZ : IsLeft P l Z Xo Xc β) (hT : TOK P tt) (hmix : P.follows .mixedOrders = true) : ∀ (c : Code) {Q : Bool → APost} {QC : Exit → Act → World → Prop} {s : Slots} {H : Heap} {ρ : Inj} {a : Act} {W : World} {ds : List Deferred}, codeOk n c = true →
    AxY tt P l Y Z c Q s H → β.To ρ H W → Xo ρ H W → Rel n ds ρ s H a W → (∀ b e s' H' a' ρ' W', Q b e s' H' → Rel n ds ρ' s' H' a' W' → β.To ρ' H' W' → (if b = true then Xo ρ' H' W' else Xc ρ' H' W') → QC e.ex a' W') →
    c.wpIn (FW none) m P QC a W := by
  intro c
  induction c with
  | skip => intro Q QC s H ρ a W ds hk h hB hX hR hn; exact wpIn_skip (hn true .normal s H a ρ W h hR hB hX)
  | exit id => intro Q QC s H ρ a W ds hk h hB hX hR hn; exact wpIn_exit (hn true (.exit id) s H a ρ W h hR hB hX)
  | ret => intro Q QC s H ρ a W ds hk h hB hX hR hn; exact wpIn_ret (hn true .ret s H a ρ W h hR hB hX)
  | region id ops draw =>
    intro Q QC s H ρ a W ds hk h hB hX hR hn
    rcases h with h | ⟨hcalm, L, hL, h⟩
    · exact reg_sound (ds := ds) (sndB_open ho hY) (fun _ _ _ _ _ _ _ => trivial) hT hmix hk h hB hX hR (fun s' H' a' ρ' W' hK hR' hB' hX' => hn true .normal s' H' a' ρ' W' hK hR' hB' hX')
    · exact reg_sound (ds := ds) (sndB_both ho hc hY hZ) (admR_calm hcalm) hT hmix hk h hB ⟨fun _ => hX, fun h => by omega⟩ hR (fun s' H' a' ρ' W' hK hR' hB' hX' => hn false .normal s' H' a' ρ' W' hK.2 hR' hB' (hX'.2 hK.1))
  | seq x y ihx ihy =>
    intro Q QC s H ρ a W ds hk h hB hX hR hn
    simp only [codeOk, Bool.and_eq_true] at hk
    refine wpIn_seq (ihx hk.1 h hB hX hR ?_)
    intro b e s' H' a' ρ' W' hQ hR' hB' hX'
    cases e with
    | normal =>
      cases b with
      | true => exact ihy hk.2 hQ hB' hX' hR' hn
      | false => exact axB_sound (ds := ds) (sndB_shut hc) hT hmix y hk.2 hQ hB' hX' hR' (fun e s2 H2 a2 ρ2 W2 hQ2 hR2 hB2 hX2 => hn false e s2 H2 a2 ρ2 W2 hQ2 hR2 hB2 hX2)
    | exit id => exact hn b (.exit id) s' H' a' ρ' W' hQ hR' hB' hX'
    | ret => exact hn b .ret s' H' a' ρ' W' hQ hR' hB' hX'
  | cond c t e iht ihe =>
    intro Q QC s H ρ a W ds hk h hB hX hR hn
    simp only [codeOk, Bool.and_eq_true] at hk
    obtain ⟨b, hb, h⟩ := h
    have hcv := ev_rel hR.slots hk.1.1
    rw [hb] at hcv
    refine wpIn_cond hcv.bool_inv ?_
    cases b with
    | true => exact iht hk.1.2 (by simpa using h) hB hX hR hn
    | false => exact ihe hk.2 (by simpa using h) hB hX hR hn
  | block id b ih =>
    intro Q QC s H ρ a W ds hk h hB hX hR hn
    refine wpIn_block (ih hk h hB hX hR ?_)
    intro b' e s' H' a' ρ' W' hQ hR' hB' hX'
    cases e with
    | normal => exact hn b' .normal s' H' a' ρ' W' hQ hR' hB' hX'
    | ret => exact hn b' .ret s' H' a' ρ' W' hQ hR' hB' hX'
    | exit id' =>
      simp only [AEx.ex, Exit.inBlock]
      simp only [AEx.inBlock] at hQ
      split at hQ
      · rename_i he; rw [if_pos he]; exact hn b' .normal s' H' a' ρ' W' hQ hR' hB' hX'
      · rename_i he; rw [if_neg he]; exact hn b' (.exit id') s' H' a' ρ' W' hQ hR' hB' hX'
  | loop b ih =>
    intro Q QC s H ρ a W ds hk h hB hX hR hn
    obtain ⟨k, h⟩ := h
    refine wpIn_loop_rounds k ?_
    have key : ∀ (k : Nat) {s : Slots} {H : Heap} {ρ1 : Inj} {a : Act} {W1 : World}, AxYLoop (AxY tt P l Y Z b) Q k s H → β.To ρ1 H W1 → Xo ρ1 H W1 → Rel n ds ρ1 s H a W1 → Code.roundsIn (FW none) m P b QC k a W1 := by
      intro k
      induction k with
      | zero => intro s H ρ1 a W1 h; exact h.elim
      | succ k ihk =>
        intro s H ρ1 a W1 h hB hX hR
        rw [roundsIn_succ]
        refine ih hk h hB hX hR ?_
        intro b' e s' H' a' ρ' W' hQ hR' hB' hX'
        cases e with
        | normal =>
          obtain ⟨rfl, hQ⟩ := hQ
          exact ihk hQ hB' hX' hR'
        | exit id => exact hn b' (.exit id) s' H' a' ρ' W' hQ hR' hB' hX'
        | ret => exact hn b' .ret s' H' a' ρ' W' hQ hR' hB' hX'
    exact key k h hB hX hR
  | rangeFunc f ps x y _ _ => intro Q QC s H ρ a W ds hk; cases hk
  | scope b _ => intro Q QC s H ρ a W ds hk; cases hk
  | label l => intro Q QC s H ρ a W ds hk; cases hk
  | goto l => intro Q QC s H ρ a W ds hk; cases hk
  | refuse w => intro Q QC s H ρ a W ds hk; cases hk
end
end Go.Fw
namespace Go.Fw
open Go
def SimR (P : Program) (g : FuncId) (Y Z : Array Value → Heap → Heap → Prop) (cap : Array Value) (H : Heap) (b : Bool) (H' : Heap) : Prop :=
  (∃ fn, P.funcs[g]? = some fn ∧ (fn.name == "runtime.NumGoroutine") = false ∧ fn.body.isNone = false) ∧
  ∀ (l : Nat) (β : Bas) (Xo Xc : Inj → Heap → World → Prop), Stab Xo → Stab Xc → GoesOn P l Y Xo → IsLeft P l Z Xo Xc β →
    ∀ (m : Nat) (ρ : Inj) (W : World) (CAP : Array Value), β.To ρ H W → Xo ρ H W → VRs ρ cap CAP → CallsIn (FW none) m P g (#[.func (.yield l) #[] #[]] ++ CAP) W fun e W' => ∃ V ρ', e = .returned V ∧ β.To ρ' H' W' ∧ (if b = true then Xo ρ' H' W' else Xc ρ' H' W')
def retY (tt : TT) (fn : Func) (b : Bool) (H1 : Heap) : Bool → APost := fun m e s H => match e with
  | .exit _ => False
  | _ => m = b ∧ H = H1 ∧ ∃ vs, resL tt s H fn.results.toList = some vs
section
variable {P : Program} {tt : TT} {m n : Nat} {ds : List Deferred}
theorem simR_of_ax {g : FuncId} {fn : Func} {c : Code} {cap : Array Value} {H H1 : Heap} {b : Bool} {Y Z : Array Value → Heap → Heap → Prop} (hT : TOK P tt) (hmix : P.follows .mixedOrders = true) (hf : P.funcs[g]? = some fn)
    (h : ∀ l, AxY tt P l Y Z c (retY tt fn b H1) (ini (#[.func (.yield l) #[] #[]] ++ cap)) H)
    (hb : fn.body = some c := by exact rfl) (hname : (fn.name == "runtime.NumGoroutine") = false := by kernel_rfl) (hok : codeOk fn.ntmps c = true := by kernel_rfl) (ha : Nat.ble (cap.size + 1) fn.ntmps = true := by kernel_rfl) : SimR P g Y Z cap H b H1 := by
  refine ⟨⟨fn, hf, hname, by rw [hb]; rfl⟩, fun l β Xo Xc ho hc hY hZ m ρ W CAP hB hX hC => ?_⟩
  have hA : VRs ρ (#[.func (.yield l) #[] #[]] ++ cap) (#[.func (.yield l) #[] #[]] ++ CAP) := by
    refine ⟨by simp [hC.1], fun i h1 h2 => ?_⟩
    cases i with
    | zero => simpa using VR.yield l
    | succ i =>
      have e1 : (#[Value.func (.yield l) #[] #[]] ++ cap)[i + 1] = cap[i]'(by simp at h1; omega) := by simp [Array.getElem_append]
      have e2 : (#[Value.func (.yield l) #[] #[]] ++ CAP)[i + 1] = CAP[i]'(by simp at h2; omega) := by simp [Array.getElem_append]
      rw [e1, e2]; exact hC.2 i _ _
  have ha' := Nat.le_of_ble_eq_true ha
  have hR := rel_ini hB.mem hA (show (#[Value.func (.yield l) #[] #[]] ++ cap).size ≤ fn.ntmps by simp; omega)
  refine callsIn_of_wp hf hb trivial ?_ rfl
  refine axY_sound (m := m) (ds := []) (QC := bodyPost P fn fun e W' => ∃ V ρ', e = .returned V ∧ β.To ρ' H1 W' ∧ (if b = true then Xo ρ' H1 W' else Xc ρ' H1 W')) ho hc hY hZ hT hmix c hok (h l) hB hX hR ?_
  intro b' e s' H' a' ρ' W' hQ hR' hB' hX'
  have fin : (b' = b ∧ H' = H1 ∧ ∃ vs, resL tt s' H' fn.results.toList = some vs) → a'.defers = [] ∧ ∃ V, (results fn a'.tmps).run P W' = .ok V W' ∧ ∃ V' ρ'', Ending.returned V = .returned V' ∧ β.To ρ'' H1 W' ∧ (if b = true then Xo ρ'' H1 W' else Xc ρ'' H1 W') := by
    rintro ⟨rfl, rfl, vs, h1⟩
    obtain ⟨V, h2, h3⟩ := results_sim (fn := fn) hT hR' h1
    exact ⟨hR'.defers, V, h2, V, ρ', rfl, hB', hX'⟩
  cases e with
  | normal => exact fin hQ
  | ret => exact fin hQ
  | exit id => exact hQ.elim
def ZR (tt : TT) (P : Program) (s : Slots) (ps : Array Tmp) (x y : Code) (e0 : AEx) : Array Value → Heap → Heap → Prop := fun as H1 H2 => as.size = ps.size ∧ e0 ≠ .normal ∧
  Ax tt (SimF P) x (AEx.thn (fun s1 H1' => Ax tt (SimF P) y (fun e _ H' => e = e0 ∧ H' = H2) s1 H1') (fun _ _ _ => False)) (putPs s ps.toList as.toList) H1
def AEx.leaves : AEx → Option Code | .normal => none | .ret => some .ret | .exit id => some (.exit id)
def AxRLoop (B : APost → Slots → Heap → Prop) (Q : APost) : Nat → Slots → Heap → Prop
  | 0, _, _ => False
  | n + 1, s, H => B (AEx.thn (AxRLoop B Q n) Q) s H
def AxR (tt : TT) (P : Program) : Code → APost → Slots → Heap → Prop
  | .seq a b, Q, s, H => AxR tt P a (AEx.thn (AxR tt P b Q) Q) s H
  | .cond c t e, Q, s, H => ∃ b, ev s c = .bool b ∧ if b = true then AxR tt P t Q s H else AxR tt P e Q s H
  | .block id b, Q, s, H => AxR tt P b (AEx.inBlock id Q) s H
  | .loop b, Q, s, H => ∃ n, AxRLoop (AxR tt P b) Q n s H
  | .rangeFunc f ps x y, Q, s, H => ∃ g cap b e H', ev s f = .func (.func g) #[] cap ∧ SimR P g (YR tt P s ps x y) (ZR tt P s ps x y e) cap H b H' ∧ (e.leaves = none → b = true) ∧ Q (if b = true then .normal else e) s H'
  | .skip, Q, s, H => Ax tt (SimF P) .skip Q s H
  | .region id ops d, Q, s, H => Ax tt (SimF P) (.region id ops d) Q s H
  | .exit id, Q, s, H => Ax tt (SimF P) (.exit id) Q s H
  | .ret, Q, s, H => Ax tt (SimF P) .ret Q s H
  | .scope b, Q, s, H => AxR tt P b Q s H
  | .label _, Q, s, H => Q .normal s H
  | _, _, _, _ => False
def codeOkR (n : Nat) : Code → Bool
  | .seq a b => codeOkR n a && codeOkR n b
  | .cond c t e => constOk c && codeOkR n t && codeOkR n e
  | .block _ b | .loop b | .scope b => codeOkR n b
  | .label _ | .goto _ => true
  | .rangeFunc f ps x y => constOk f && ps.toList.all (· < n) && codeOk n x && codeOk n y
  | c => codeOk n c
theorem stepR_scope {b : Go.Frame} {a : Act} {k : List Item} {cs : List Go.Frame} {w : World} {c : Code} : step P (lone (b.atR a (.code (.scope c) :: k)) cs w) = .next (lone (b.atR a (.code c :: .inScope c :: k)) cs w) :=
  step_lone_go (by simp [stepG, stepG.exec, Frame.atR])
theorem stepR_inScope {b : Go.Frame} {a : Act} {k : List Item} {cs : List Go.Frame} {w : World} {c : Code} : step P (lone (b.atR a (.inScope c :: k)) cs w) = .next (lone (b.atR a k) cs w) :=
  step_lone_go (by simp [stepG, stepG.exec, Frame.atR])
theorem wpIn_scopeS {F : Fence} {Q : Exit → Act → World → Prop} {a : Act} {w : World} {c : Code} (h : c.wpIn F n P (Exit.noGoto Q) a w) : (Code.scope c).wpIn F n P Q a w := by
  intro b k cs hro hb hr
  have hs := stepR_scope (P := P) (b := b) (a := a) (k := k) (cs := cs) (w := w) (c := c)
  have h0 : (lone (b.atR a (.code (.scope c) :: k)) cs w).fenced P F := fenced_calm hb hr rfl
  obtain ⟨e, a₁, w₁, hq, harr⟩ := h b (.inScope c :: k) cs hro hb hr
  cases e with
  | normal => exact ⟨.normal, a₁, w₁, hq, .head h0 hs (StepsIn.trans harr (.one (fenced_calm hb hr rfl) stepR_inScope))⟩
  | exit id' =>
    have hx : exitTo id' (.inScope c :: k) = exitTo id' k := by simp [exitTo]
    exact ⟨.exit id', a₁, w₁, hq, fun k' hk => .head h0 hs (harr.1 k' (by rw [hx]; exact hk)),
      fun hr' hk => let ⟨k₁, h1, h2⟩ := harr.2 hr' (by rw [hx]; exact hk); ⟨k₁, h1, .head h0 hs h2⟩⟩
  | goto l => exact hq.elim
  | ret => exact ⟨_, a₁, w₁, hq, .of_steps (.one h0 hs) harr⟩
  | panic ch => exact ⟨_, a₁, w₁, hq, .of_steps (.one h0 hs) harr⟩
  | outgrown => exact ⟨_, a₁, w₁, hq, .of_steps (.one h0 hs) harr⟩
theorem range_soundR {f : Operand} {ps : Array Tmp} {x y : Code} {QC : Exit → Act → World → Prop} {s : Slots} {H H' : Heap} {ρ : Inj} {a : Act} {W : World} {g : FuncId} {cap : Array Value} {B : Nat} {b : Bool} {e0 : AEx} (hT : TOK P tt) (hmix : P.follows .mixedOrders = true)
    (hf : constOk f = true) (hps : ∀ p ∈ ps.toList, p < n) (hx : codeOk n x = true) (hy : codeOk n y = true) (he : ev s f = .func (.func g) #[] cap) (hI : SimR P g (YR tt P s ps x y) (ZR tt P s ps x y e0) cap H b H') (he0 : e0.leaves = none → b = true) (hR : Rel n ds ρ s H a W) (hB : B ≤ W.heap.size) (hmk : Marks B ds ρ H W)
    (hn : ∀ a' ρ' W' ds', Rel n ds' ρ' s H' a' W' → Marks B ds' ρ' H' W' → Step ρ H W ρ' H' W' → QC (if b = true then AEx.normal else e0).ex a' W') : (Code.rangeFunc f ps x y).wpIn (FW none) m P QC a W := by
  obtain ⟨⟨fg, hfg, hname, hbody⟩, hI⟩ := hI
  refine wpIn_rangeFunc ?_
  intro fn hfn
  obtain ⟨rec, hrec⟩ : ∃ rec : LoopState → Option Code → Loop, rec = fun st pe => { state := st, pending := pe, fn, tmps := a.tmps, params := ps, assign := x, body := y, defers := W.heap.size } := ⟨_, rfl⟩
  obtain ⟨W0, hW0⟩ : ∃ W0 : World, W0 = { W with heap := W.heap.push (.deferred (some [])) } := ⟨_, rfl⟩
  obtain ⟨W1, hW1⟩ : ∃ W1 : World, W1 = { W0 with heap := W0.heap.push (.loop (rec .ready none)) } := ⟨_, rfl⟩
  have s0 : Step ρ H W ρ H W0 := by rw [hW0]; exact Step.push hR.mem rfl
  have s1 : Step ρ H W0 ρ H W1 := by rw [hW1]; exact Step.push s0.mem rfl
  have z0 : W0.heap.size = W.heap.size + 1 := by rw [hW0]; simp
  have z1 : W1.heap.size = W.heap.size + 2 := by rw [hW1]; simp [z0]
  have hL1 : W1.heap[W.heap.size + 1]? = some (.loop (rec .ready none)) := by rw [hW1]; simp only [Array.getElem?_push]; rw [if_pos z0.symm]
  have hD1 : W1.heap[W.heap.size]? = some (.deferred (some [])) := by
    rw [hW1]; simp only [Array.getElem?_push]; rw [if_neg (by omega), hW0]; simp
  have hnew : ∀ k, W.heap.size ≤ k → ¬ Owned ρ H k := by
    rintro k hk ⟨b, p, B, h1, h2, _, rfl⟩
    obtain ⟨B', h3, l⟩ := hR.mem.lies b p h1
    have := l.old
    omega
  have hev := ev_rel hR.slots hf
  rw [he] at hev
  obtain ⟨X', CAP, hX⟩ := hev.func_inv
  rw [hX] at hev
  have hXC : X' = #[] ∧ VRs ρ cap CAP := by
    cases hev with
    | func _ _ _ _ _ h1 h2 h3 h4 => exact ⟨Array.eq_empty_of_size_eq_zero (by simpa using h1.symm), h2, h4⟩
  obtain ⟨rfl, hC⟩ := hXC
  let X : Loop → Inj → Heap → World → Prop := fun rc ρ' H' W' => W'.heap[W.heap.size + 1]? = some (.loop rc) ∧ W'.heap[W.heap.size]? = some (.deferred (some [])) ∧ ¬ Owned ρ' H' (W.heap.size + 1) ∧ ¬ Owned ρ' H' W.heap.size ∧ ρ.Le ρ'
  have hst : ∀ rc, Stab (X rc) := by
    rintro rc ρ1 H1 W1 ρ2 H2 W2 ⟨g1, g2, g3, g4, g5⟩ s
    have l1 := (Array.getElem?_eq_some_iff.1 g1).1
    have l2 := (Array.getElem?_eq_some_iff.1 g2).1
    exact ⟨(s.frame.block _ l1 g3).trans g1, (s.frame.block _ l2 g4).trans g2, fun ho => g3 (s.owned _ l1 ho), fun ho => g4 (s.owned _ l2 ho), g5.trans s.le⟩
  have hX1 : X (rec .ready none) ρ H W1 := ⟨hL1, hD1, hnew _ (by omega), hnew _ (by omega), .refl _⟩
  have begun : ∀ {as : Array Value} {H1 : Heap} {R : AEx → Slots → Heap → Prop}, as.size = ps.size → Ax tt (SimF P) x (AEx.thn (fun s1 H1' => Ax tt (SimF P) y R s1 H1') (fun _ _ _ => False)) (putPs s ps.toList as.toList) H1 →
      ∀ m ρ2 W2 ARGS (RR : Ending → World → Prop), Mem ρ2 H1 W2 → X (rec .ready none) ρ2 H1 W2 → VRs ρ2 as ARGS →
      (∀ e s4 H3 H4 a4 ρ3 ρ4 W3 W4, R e s4 H4 → Step ρ2 H1 W2 ρ3 H3 W3 → X (rec .ready none) ρ3 H3 W3 → Step ρ3 H3 (W3.putObj (W.heap.size + 1) (.loop (rec .busy none))) ρ4 H4 W4 → W4.heap[W.heap.size + 1]? = some (.loop (rec .busy none)) →
        roundPost P (W.heap.size + 1) RR e.ex a4 W4) → YieldAt (FW none) m P (W.heap.size + 1) ARGS W2 RR := by
    intro as H1 R hsz hax m ρ2 W2 ARGS RR hM hX hA hfin
    obtain ⟨g1, g2, g3, g4, g5⟩ := id hX
    have hy' := run_yield (P := P) (args := ARGS) g1 (by rw [hrec, ← hsz]; exact hA.1.symm)
    refine ⟨_, _, _, _, hy', ?_⟩
    rw [hrec]
    simp only
    refine roundIn_of_wpIn (F := FW none) trivial ?_
    have hAl : VRl ρ2 as.toList ARGS.toList := ⟨by simpa using hA.1, fun i h1 h2 => by simpa using hA.2 i (by simpa using h1) (by simpa using h2)⟩
    have hpr := putPs_rel ps.toList as.toList ARGS.toList s a.tmps (fun t => (hR.slots t).mono g5) (fun p hp => by rw [hR.size]; exact hps p hp) hAl
    have hfold : (Array.foldl (fun (tmps : Array Value) (x : Tmp × Value) => tmps.setIfInBounds x.1 x.2) a.tmps (ps.zip ARGS)) = ((ps.toList.zip ARGS.toList).foldl (fun T (x : Tmp × Value) => T.setIfInBounds x.1 x.2) a.tmps) := by
      rw [← Array.foldl_toList, Array.toList_zip]
    have hRel : Rel n [] ρ2 (putPs s ps.toList as.toList) H1 { tmps := (ps.zip ARGS).foldl (fun (tmps : Array Value) (x : Tmp × Value) => tmps.setIfInBounds x.1 x.2) a.tmps, defers := [] } W2 := by
      refine ⟨hM, ?_, rfl, ?_⟩
      · rw [hfold, hpr.2]; exact hR.size
      · intro t; rw [hfold]; exact hpr.1 t
    refine ax_sound (r := some (W.heap.size + 1)) (m := m) (ds := []) (snd_sim P _) hT hmix x hx hax trivial hRel ?_
    intro e s3 H3 a3 ρ3 W3 hQ hR3 hs3
    cases e with
    | exit id => exact hQ.elim
    | ret => exact hQ.elim
    | normal =>
      have hX3 := hst _ hX hs3
      obtain ⟨k1, k2, k3, k4, k5⟩ := id hX3
      refine ⟨_, run_beginRound k1 (by rw [hrec]), ?_⟩
      have e1 : ({ rec .ready none with state := .busy } : Loop) = rec .busy none := by rw [hrec]
      rw [e1]
      have hMb := hR3.mem.put (o' := .loop (rec .busy none)) k1 rfl rfl
      refine ax_sound (r := some (W.heap.size + 1)) (m := m) (ds := []) (snd_sim P _) hT hmix y hy hQ trivial ⟨hMb, hR3.size, hR3.defers, hR3.slots⟩ ?_
      intro e s4 H4 a4 ρ4 W4 hq hR4 hs4
      refine hfin e s4 H3 H4 a4 ρ3 ρ4 W3 W4 hq hs3 hX3 hs4 ?_
      have hlt := (Array.getElem?_eq_some_iff.1 k1).1
      rw [hs4.frame.block _ (by rw [World.putObj_size]; exact hlt) k3]
      exact World.putObj_heap_same hlt
  have hround : GoesOn P (W.heap.size + 1) (YR tt P s ps x y) (X (rec .ready none)) := by
    rintro as H1 H2 ⟨hsz, hax⟩ m ρ2 W2 ARGS hM hX hA
    refine begun hsz hax m ρ2 W2 ARGS _ hM hX hA ?_
    rintro e s4 H3 H4 a4 ρ3 ρ4 W3 W4 ⟨rfl, rfl⟩ hs3 hX3 hs4 hl4
    have hend := run_endRound (P := P) none hl4
    refine ⟨_, _, hend, ρ4, rfl, ?_⟩
    have e1 : ({ rec .busy none with state := if (none : Option Code).isNone then .ready else .done, pending := none } : Loop) = rec .ready none := by rw [hrec]; rfl
    rw [e1]
    exact hs3.trans (hs4.sand hX3.1 rfl rfl hX3.2.2.1)
  have hleft : IsLeft P (W.heap.size + 1) (ZR tt P s ps x y e0) (X (rec .ready none)) (X (rec .done e0.leaves)) ⟨ρ, H, W⟩ := by
    rintro as H1 H2 ⟨hsz, hne0, hax⟩ m ρ2 W2 ARGS hBs hX hA
    refine begun hsz hax m ρ2 W2 ARGS _ hBs.mem hX hA ?_
    rintro e s4 H3 H4 a4 ρ3 ρ4 W3 W4 ⟨rfl, rfl⟩ hs3 hX3 hs4 hl4
    have hnx : Nxt ρ2 H1 ρ4 H4 := ⟨hs3.le.trans hs4.le, Nat.le_trans hs3.len hs4.len, fun b h1 h2 => hs4.fresh b (Nat.lt_of_lt_of_le h1 hs3.len) (hs3.fresh b h1 h2)⟩
    have b3 : Step ρ H W ρ3 H3 (W3.putObj (W.heap.size + 1) (.loop (rec .busy none))) := Step.put_new (hBs.trans hs3) (Nat.le_succ _) hX3.1 rfl rfl
    have b4 := b3.trans hs4
    have fin : ∀ (c : Code), e.leaves = some c → ∃ v w', (Instr.endRound (W.heap.size + 1) (some c)).run P W4 = .ok v w' ∧ ∃ ρ', Ending.returned v = .returned (.bool false) ∧ Nxt ρ2 H1 ρ' H4 ∧ Bas.To ⟨ρ, H, W⟩ ρ' H4 w' ∧ X (rec .done e.leaves) ρ' H4 w' := by
      intro c hc
      have hend := run_endRound (P := P) (some c) hl4
      have e1 : ({ rec .busy none with state := if (some c : Option Code).isNone then .ready else .done, pending := some c } : Loop) = rec .done (some c) := by rw [hrec]; rfl
      rw [e1] at hend
      refine ⟨_, _, hend, ρ4, rfl, hnx, Step.put_new b4 (Nat.le_succ _) hl4 rfl rfl, ?_⟩
      rw [hc]
      have l1 := (Array.getElem?_eq_some_iff.1 hl4).1
      have hd3 : (W3.putObj (W.heap.size + 1) (.loop (rec .busy none))).heap[W.heap.size]? = some (.deferred (some [])) := (World.putObj_heap_other (by omega)).trans hX3.2.1
      have hd4 : W4.heap[W.heap.size]? = some (.deferred (some [])) := (hs4.frame.block _ (Array.getElem?_eq_some_iff.1 hd3).1 hX3.2.2.2.1).trans hd3
      refine ⟨World.putObj_heap_same l1, (World.putObj_heap_other (by omega)).trans hd4, fun ho => hX3.2.2.1 (hs4.owned _ ?_ ho), fun ho => hX3.2.2.2.1 (hs4.owned _ (Array.getElem?_eq_some_iff.1 hd3).1 ho), hX3.2.2.2.2.trans hs4.le⟩
      rw [World.putObj_size]; exact (Array.getElem?_eq_some_iff.1 hX3.1).1
    cases e with
    | ret => exact fin _ rfl
    | exit id => exact fin _ rfl
    | normal =>
      exact absurd rfl hne0
  have hc := hI (W.heap.size + 1) ⟨ρ, H, W⟩ (X (rec .ready none)) (X (rec .done e0.leaves)) (hst _) (hst _) hround hleft (m - 1) ρ W1 CAP (s0.trans s1) hX1 hC
  have hname' : ¬ fg.name = "runtime.NumGoroutine" := by simpa using hname
  have hbody' : ¬ fg.body = none := fun e => by rw [e] at hbody; cases hbody
  refine ⟨W.heap.size + 1, [{ target := .collected W.heap.size, args := #[] }], W1, { target := .fn (.func g) CAP, args := #[.func (.yield (W.heap.size + 1)) #[] #[]] }, W1, g,
    #[.func (.yield (W.heap.size + 1)) #[] #[]] ++ CAP, W1, ?_, ?_, fun _ _ => trivial, ?_, fun hd => by simp [FW, Fence.wide] at hd, ?_⟩
  · have := run_enterLoop_outer (P := P) (w := W) fn a.tmps ps x y
    rw [hW1, hW0, hrec]
    exact this
  · simp only [resolve, hX]
    simp [go_sem, Deferred.ofValue]
  · simp [invoke, callFunc, hfg, hname', hbody', program, Sem.run]
  · refine hc.mono ?_
    rintro e W2 ⟨V, ρ2, rfl, hs2, hx2⟩
    have hs2 : Step ρ H W ρ2 H' W2 := hs2
    have fin : ∀ rc : Loop, rc.state ≠ .busy → X rc ρ2 H' W2 → ∃ w4, (Instr.endLoop (W.heap.size + 1)).run P W2 = .ok rc.pending w4 ∧
        Rel n ({ target := .collected W.heap.size, args := #[] } :: ds) ρ2 s H' { a with defers := { target := .collected W.heap.size, args := #[] } :: a.defers } w4 ∧ Marks B ({ target := .collected W.heap.size, args := #[] } :: ds) ρ2 H' w4 ∧ Step ρ H W ρ2 H' w4 := by
      rintro rc hrc ⟨k1, k2, k3, k4, k5⟩
      have hend := run_endLoop (P := P) k1 hrc
      have hfin := hs2.put_new (k := W.heap.size + 1) (o' := .loop { rc with state := .exhausted }) (Nat.le_succ _) k1 rfl rfl
      have hD : (W2.putObj (W.heap.size + 1) (.loop { rc with state := .exhausted })).heap[W.heap.size]? = some (.deferred (some [])) := (World.putObj_heap_other (by omega)).trans k2
      refine ⟨_, hend, ⟨hfin.mem, hR.size, by simp [hR.defers], fun t => (hR.slots t).mono k5⟩, ?_, hfin⟩
      obtain ⟨ks, q1, q2, q3⟩ := hmk.step hfin
      refine ⟨W.heap.size :: ks, by rw [List.map_cons, ← q1], List.nodup_cons.2 ⟨fun hmem => ?_, q2⟩, ?_⟩
      · obtain ⟨ks', p1, p2, p3⟩ := hmk
        have hkk : ks = ks' := by
          have : ks.map (fun k => ({ target := .collected k, args := #[] } : Deferred)) = ks'.map (fun k => { target := .collected k, args := #[] }) := by rw [← q1, ← p1]
          exact List.map_inj_right (fun x y h => by injection h with h _; injection h) |>.1 this
        subst hkk
        have := (Array.getElem?_eq_some_iff.1 (p3 _ hmem).2.1).1
        omega
      · intro k hk
        rcases List.mem_cons.1 hk with rfl | hk
        · exact ⟨hB, hD, k4⟩
        · exact q3 k hk
    cases b with
    | true =>
      obtain ⟨w4, h1, h2, h3, h4⟩ := fin (rec .ready none) (by rw [hrec]; simp) hx2
      have e1 : (rec .ready none).pending = none := by rw [hrec]
      rw [e1] at h1
      exact ⟨none, _, h1, hn _ ρ2 _ _ h2 h3 h4⟩
    | false =>
      obtain ⟨w4, h1, h2, h3, h4⟩ := fin (rec .done e0.leaves) (by rw [hrec]; simp) hx2
      have e1 : (rec .done e0.leaves).pending = e0.leaves := by rw [hrec]
      rw [e1] at h1
      have hq := hn _ ρ2 _ _ h2 h3 h4
      cases e0 with
      | normal => exact absurd (he0 rfl) (by simp)
      | ret => exact ⟨some .ret, _, h1, wpIn_ret hq⟩
      | exit id => exact ⟨some (.exit id), _, h1, wpIn_exit hq⟩
end
end Go.Fw
namespace Go.Fw
open Go
section
variable {P : Program} {tt : TT} {m n : Nat}
theorem axR_sound {B : Nat} (hT : TOK P tt) (hmix : P.follows .mixedOrders = true) : ∀ (c : Code) {Q : APost} {QC : Exit → Act → World → Prop} {s : Slots} {H : Heap} {ρ : Inj} {a : Act} {W : World} {ds : List Deferred} {ρ0 : Inj} {H0 : Heap} {W0 : World}, codeOkR n c = true →
    AxR tt P c Q s H → Rel n ds ρ s H a W → B ≤ W.heap.size → Marks B ds ρ H W → Step ρ0 H0 W0 ρ H W →
    (∀ e s' H' a' ρ' W' ds', Q e s' H' → Rel n ds' ρ' s' H' a' W' → B ≤ W'.heap.size → Marks B ds' ρ' H' W' → Step ρ0 H0 W0 ρ' H' W' → QC e.ex a' W') → c.wpIn (FW none) m P QC a W := by
  have leaf : ∀ {c : Code} {Q : APost} {QC : Exit → Act → World → Prop} {s : Slots} {H : Heap} {ρ : Inj} {a : Act} {W : World} {ds : List Deferred} {ρ0 : Inj} {H0 : Heap} {W0 : World}, codeOk n c = true → Ax tt (SimF P) c Q s H → Rel n ds ρ s H a W → B ≤ W.heap.size → Marks B ds ρ H W → Step ρ0 H0 W0 ρ H W →
      (∀ e s' H' a' ρ' W' ds', Q e s' H' → Rel n ds' ρ' s' H' a' W' → B ≤ W'.heap.size → Marks B ds' ρ' H' W' → Step ρ0 H0 W0 ρ' H' W' → QC e.ex a' W') → c.wpIn (FW none) m P QC a W :=
    fun hk h hR hB hM h0 hn => axT_leaf hT hmix hk h hR hM (fun e s' H' a' ρ' W' ds' hQ hR' hM' hs => hn e s' H' a' ρ' W' ds' hQ hR' (Nat.le_trans hB hs.frame.size) hM' (h0.trans hs))
  intro c
  induction c with
  | skip => intro Q QC s H ρ a W ds ρ0 H0 W0 hk h hR hB hM h0 hn; exact leaf hk h hR hB hM h0 hn
  | region id ops d => intro Q QC s H ρ a W ds ρ0 H0 W0 hk h hR hB hM h0 hn; exact leaf hk h hR hB hM h0 hn
  | exit id => intro Q QC s H ρ a W ds ρ0 H0 W0 hk h hR hB hM h0 hn; exact leaf hk h hR hB hM h0 hn
  | ret => intro Q QC s H ρ a W ds ρ0 H0 W0 hk h hR hB hM h0 hn; exact leaf hk h hR hB hM h0 hn
  | loop b ih =>
    intro Q QC s H ρ a W ds ρ0 H0 W0 hk h hR hB hM h0 hn
    obtain ⟨k, h⟩ := h
    refine wpIn_loop_rounds k ?_
    have key : ∀ (k : Nat) {s : Slots} {H : Heap} {ρ1 : Inj} {a : Act} {W1 : World} {ds : List Deferred}, AxRLoop (AxR tt P b) Q k s H → Rel n ds ρ1 s H a W1 → B ≤ W1.heap.size → Marks B ds ρ1 H W1 → Step ρ0 H0 W0 ρ1 H W1 → Code.roundsIn (FW none) m P b QC k a W1 := by
      intro k
      induction k with
      | zero => intro s H ρ1 a W1 ds h; exact h.elim
      | succ k ihk =>
        intro s H ρ1 a W1 ds h hR hB hM h0
        rw [roundsIn_succ]
        refine ih hk h hR hB hM h0 ?_
        intro e s' H' a' ρ' W' ds' hQ hR' hB' hM' hs
        cases e with
        | normal => exact ihk hQ hR' hB' hM' hs
        | exit id => exact hn (.exit id) s' H' a' ρ' W' ds' hQ hR' hB' hM' hs
        | ret => exact hn .ret s' H' a' ρ' W' ds' hQ hR' hB' hM' hs
    exact key k h hR hB hM h0
  | seq x y ihx ihy =>
    intro Q QC s H ρ a W ds ρ0 H0 W0 hk h hR hB hM h0 hn
    simp only [codeOkR, Bool.and_eq_true] at hk
    refine wpIn_seq (ihx hk.1 h hR hB hM h0 ?_)
    intro e s' H' a' ρ' W' ds' hQ hR' hB' hM' hs
    cases e with
    | normal => exact ihy hk.2 hQ hR' hB' hM' hs hn
    | exit id => exact hn (.exit id) s' H' a' ρ' W' ds' hQ hR' hB' hM' hs
    | ret => exact hn .ret s' H' a' ρ' W' ds' hQ hR' hB' hM' hs
  | cond c t e iht ihe =>
    intro Q QC s H ρ a W ds ρ0 H0 W0 hk h hR hB hM h0 hn
    simp only [codeOkR, Bool.and_eq_true] at hk
    obtain ⟨b, hb, h⟩ := h
    have hc := ev_rel hR.slots hk.1.1
    rw [hb] at hc
    refine wpIn_cond hc.bool_inv ?_
    cases b with
    | true => exact iht hk.1.2 (by simpa using h) hR hB hM h0 hn
    | false => exact ihe hk.2 (by simpa using h) hR hB hM h0 hn
  | block id b ih =>
    intro Q QC s H ρ a W ds ρ0 H0 W0 hk h hR hB hM h0 hn
    refine wpIn_block (ih hk h hR hB hM h0 ?_)
    intro e s' H' a' ρ' W' ds' hQ hR' hB' hM' hs
    cases e with
    | normal => exact hn .normal s' H' a' ρ' W' ds' hQ hR' hB' hM' hs
    | ret => exact hn .ret s' H' a' ρ' W' ds' hQ hR' hB' hM' hs
    | exit id' =>
      simp only [AEx.ex, Exit.inBlock]
      simp only [AEx.inBlock] at hQ
      split at hQ
      · rename_i he; rw [if_pos he]; exact hn .normal s' H' a' ρ' W' ds' hQ hR' hB' hM' hs
      · rename_i he; rw [if_neg he]; exact hn (.exit id') s' H' a' ρ' W' ds' hQ hR' hB' hM' hs
  | rangeFunc f ps x y _ _ =>
    intro Q QC s H ρ a W ds ρ0 H0 W0 hk h hR hB hM h0 hn
    simp only [codeOkR, Bool.and_eq_true, List.all_eq_true, decide_eq_true_eq] at hk
    obtain ⟨g, cap, b, e0, H', he, hI, he0, hQ⟩ := h
    exact range_soundR hT hmix hk.1.1.1 hk.1.1.2 hk.1.2 hk.2 he hI he0 hR hB hM (fun a' ρ' W' ds' hR' hM' hs => hn _ s H' a' ρ' W' ds' hQ hR' (Nat.le_trans hB hs.frame.size) hM' (h0.trans hs))
  | scope b ih =>
    intro Q QC s H ρ a W ds ρ0 H0 W0 hk h hR hB hM h0 hn
    refine wpIn_scopeS (ih hk h hR hB hM h0 ?_)
    intro e s' H' a' ρ' W' ds' hQ hR' hB' hM' hs
    have := hn e s' H' a' ρ' W' ds' hQ hR' hB' hM' hs
    cases e <;> exact this
  | label l => intro Q QC s H ρ a W ds ρ0 H0 W0 hk h hR hB hM h0 hn; exact wpIn_label (hn .normal s H a ρ W ds h hR hB hM h0)
  | goto l => intro Q QC s H ρ a W ds ρ0 H0 W0 hk h; exact h.elim
  | refuse w => intro Q QC s H ρ a W ds ρ0 H0 W0 hk h; exact h.elim
theorem sim_of_axR {f : FuncId} {fn : Func} {c : Code} {args : Array Value} {H H1 : Heap} {v : Value} (hT : TOK P tt) (hmix : P.follows .mixedOrders = true) (hf : P.funcs[f]? = some fn) (hb : fn.body = some c)
    (hname : (fn.name == "runtime.NumGoroutine") = false) (hok : codeOkR fn.ntmps c = true) (ha : args.size ≤ fn.ntmps)
    (h : AxR tt P c (retP tt fn (fun vs H' => resV vs = v ∧ H' = H1)) (ini args) H) : Sim P f args H v H1 := by
  refine ⟨⟨fn, hf, hname, by rw [hb]; rfl⟩, fun ρ W ARGS hM hA => ?_⟩
  refine (callsIn_wide (n := 0)).1 ?_
  have hR := rel_ini hM hA ha
  refine callsIn_of_wp_marks (F := FW none) hf hb trivial ?_ rfl
  refine axR_sound (B := W.heap.size) (m := 0) hT hmix c hok h hR (Nat.le_refl _) ⟨[], rfl, List.nodup_nil, fun k hk => by cases hk⟩ (Step.refl hM) ?_
  intro e s' H' a' ρ' W' ds' hQ hR' _ hM' hs
  have fin : (∃ vs, resL tt s' H' fn.results.toList = some vs ∧ resV vs = v ∧ H' = H1) → LeavesInM (FW none) 0 P fn a'.tmps (fun e W' => ∃ V ρ', e = .returned V ∧ VR ρ' v V ∧ Step ρ H W ρ' H1 W') a'.defers .returning W' := by
    rintro ⟨vs, h1, rfl, rfl⟩
    obtain ⟨ks, q1, q2, q3⟩ := hM'
    rw [hR'.defers, q1]
    exact leave_sound rfl hT ks q2 q3 hR' hs h1 (fun V ρ2 W2 h2 h3 => ⟨V, ρ2, rfl, h2, h3⟩)
  cases e with
  | normal => exact fin hQ
  | ret => exact fin hQ
  | exit id => exact hQ.elim
theorem AxR_mono : ∀ (c : Code) {Q Q' : APost} {s : Slots} {H : Heap}, AxR tt P c Q s H → (∀ e s H, Q e s H → Q' e s H) → AxR tt P c Q' s H := by
  intro c
  induction c with
  | skip => intro Q Q' s H h hQ; exact Ax_mono .skip h hQ
  | region id ops d => intro Q Q' s H h hQ; exact Ax_mono (.region id ops d) h hQ
  | exit id => intro Q Q' s H h hQ; exact Ax_mono (.exit id) h hQ
  | ret => intro Q Q' s H h hQ; exact Ax_mono .ret h hQ
  | loop b ih =>
    intro Q Q' s H h hQ
    obtain ⟨k, h⟩ := h
    refine ⟨k, ?_⟩
    induction k generalizing s H with
    | zero => exact h.elim
    | succ k ihk =>
      refine ih h ?_
      intro e s' H' h'
      cases e with
      | normal => exact ihk h'
      | exit id => exact hQ _ _ _ h'
      | ret => exact hQ _ _ _ h'
  | seq x y ihx ihy =>
    intro Q Q' s H h hQ
    refine ihx h ?_
    intro e s' H' h'
    cases e with
    | normal => exact ihy h' hQ
    | exit id => exact hQ _ _ _ h'
    | ret => exact hQ _ _ _ h'
  | cond c t e iht ihe =>
    intro Q Q' s H h hQ
    obtain ⟨b, hb, h⟩ := h
    refine ⟨b, hb, ?_⟩
    cases b with
    | true => exact iht (by simpa using h) hQ
    | false => exact ihe (by simpa using h) hQ
  | block id b ih =>
    intro Q Q' s H h hQ
    refine ih h ?_
    intro e s' H' h'
    cases e with
    | normal => exact hQ _ _ _ h'
    | ret => exact hQ _ _ _ h'
    | exit id' =>
      simp only [AEx.inBlock] at h' ⊢
      split at h'
      · rename_i he; rw [if_pos he]; exact hQ _ _ _ h'
      · rename_i he; rw [if_neg he]; exact hQ _ _ _ h'
  | rangeFunc f ps x y _ _ =>
    intro Q Q' s H h hQ
    obtain ⟨g, cap, b, e0, H', h1, h2, h3, h4⟩ := h
    exact ⟨g, cap, b, e0, H', h1, h2, h3, hQ _ _ _ h4⟩
  | scope b ih => intro Q Q' s H h hQ; exact ih h hQ
  | label l => intro Q Q' s H h hQ; exact hQ _ _ _ h
  | goto l => intro Q Q' s H h; exact h.elim
  | refuse w => intro Q Q' s H h; exact h.elim
theorem axR_path : ∀ (c : Code) {Q : APost} {s : Slots} {H : Heap}, AxR tt P c Q s H → ∃ e s' H', AxR tt P c (exactly e s' H') s H ∧ Q e s' H' := by
  intro c
  induction c with
  | skip => intro Q s H h; exact ax_path .skip h
  | region id ops d => intro Q s H h; exact ax_path (.region id ops d) h
  | exit id => intro Q s H h; exact ax_path (.exit id) h
  | ret => intro Q s H h; exact ax_path .ret h
  | loop b ih =>
    intro Q s H h
    obtain ⟨k, h⟩ := h
    have key : ∀ k s H, AxRLoop (AxR tt P b) Q k s H → ∃ e s' H', AxRLoop (AxR tt P b) (exactly e s' H') k s H ∧ Q e s' H' := by
      intro k
      induction k with
      | zero => intro s H h; exact h.elim
      | succ k ihk =>
        intro s H h
        obtain ⟨e, s1, H1, h1, h2⟩ := ih h
        cases e with
        | normal =>
          obtain ⟨e2, s2, H2, h3, h4⟩ := ihk _ _ h2
          exact ⟨e2, s2, H2, AxR_mono b h1 (by rintro e s' H' ⟨rfl, rfl, rfl⟩; exact h3), h4⟩
        | exit id => exact ⟨.exit id, s1, H1, AxR_mono b h1 (by rintro e s' H' ⟨rfl, rfl, rfl⟩; exact ⟨rfl, rfl, rfl⟩), h2⟩
        | ret => exact ⟨.ret, s1, H1, AxR_mono b h1 (by rintro e s' H' ⟨rfl, rfl, rfl⟩; exact ⟨rfl, rfl, rfl⟩), h2⟩
    obtain ⟨e, s1, H1, h1, h2⟩ := key k s H h
    exact ⟨e, s1, H1, ⟨k, h1⟩, h2⟩
  | seq x y ihx ihy =>
    intro Q s H h
    obtain ⟨e, s1, H1, h1, h2⟩ := ihx h
    cases e with
    | normal =>
      obtain ⟨e2, s2, H2, h3, h4⟩ := ihy h2
      exact ⟨e2, s2, H2, AxR_mono x h1 (by rintro e s' H' ⟨rfl, rfl, rfl⟩; exact h3), h4⟩
    | exit id => exact ⟨.exit id, s1, H1, AxR_mono x h1 (by rintro e s' H' ⟨rfl, rfl, rfl⟩; exact ⟨rfl, rfl, rfl⟩), h2⟩
    | ret => exact ⟨.ret, s1, H1, AxR_mono x h1 (by rintro e s' H' ⟨rfl, rfl, rfl⟩; exact ⟨rfl, rfl, rfl⟩), h2⟩
  | cond c t e iht ihe =>
    intro Q s H h
    obtain ⟨b, hb, h⟩ := h
    cases b with
    | true =>
      obtain ⟨e1, s1, H1, h1, h2⟩ := iht (by simpa using h)
      exact ⟨e1, s1, H1, ⟨true, hb, by simpa using h1⟩, h2⟩
    | false =>
      obtain ⟨e1, s1, H1, h1, h2⟩ := ihe (by simpa using h)
      exact ⟨e1, s1, H1, ⟨false, hb, by simpa using h1⟩, h2⟩
  | block id b ih =>
    intro Q s H h
    obtain ⟨e, s1, H1, h1, h2⟩ := ih h
    cases e with
    | normal => exact ⟨.normal, s1, H1, AxR_mono b h1 (by rintro e s' H' ⟨rfl, rfl, rfl⟩; exact ⟨rfl, rfl, rfl⟩), h2⟩
    | ret => exact ⟨.ret, s1, H1, AxR_mono b h1 (by rintro e s' H' ⟨rfl, rfl, rfl⟩; exact ⟨rfl, rfl, rfl⟩), h2⟩
    | exit id' =>
      simp only [AEx.inBlock] at h2
      by_cases he : id' = id
      · rw [if_pos he] at h2
        refine ⟨.normal, s1, H1, AxR_mono b h1 ?_, h2⟩
        rintro e s' H' ⟨rfl, rfl, rfl⟩
        simp only [AEx.inBlock]; rw [if_pos he]; exact ⟨rfl, rfl, rfl⟩
      · rw [if_neg he] at h2
        refine ⟨.exit id', s1, H1, AxR_mono b h1 ?_, h2⟩
        rintro e s' H' ⟨rfl, rfl, rfl⟩
        simp only [AEx.inBlock]; rw [if_neg he]; exact ⟨rfl, rfl, rfl⟩
  | rangeFunc f ps x y _ _ =>
    intro Q s H h
    obtain ⟨g, cap, b, e0, H', h1, h2, h3, h4⟩ := h
    exact ⟨_, s, H', ⟨g, cap, b, e0, H', h1, h2, h3, rfl, rfl, rfl⟩, h4⟩
  | scope b ih => intro Q s H h; exact ih h
  | label l => intro Q s H h; exact ⟨.normal, s, H, ⟨rfl, rfl, rfl⟩, h⟩
  | goto l => intro Q s H h; exact h.elim
  | refuse w => intro Q s H h; exact h.elim
theorem sim_exR {f : FuncId} {fn : Func} {c : Code} {args : Array Value} {H : Heap} {R : Value → Heap → Prop} (hT : TOK P tt) (hmix : P.follows .mixedOrders = true) (hf : P.funcs[f]? = some fn)
    (h : AxR tt P c (retP tt fn (fun vs H' => R (resV vs) H')) (ini args) H)
    (hb : fn.body = some c := by exact rfl) (hname : (fn.name == "runtime.NumGoroutine") = false := by kernel_rfl) (hok : codeOkR fn.ntmps c = true := by kernel_rfl) (ha : Nat.ble args.size fn.ntmps = true := by kernel_rfl) : ∃ v H', Sim P f args H v H' ∧ R v H' := by
  obtain ⟨e, s1, H1, h1, h2⟩ := axR_path c h
  have key : ∃ vs, resL tt s1 H1 fn.results.toList = some vs ∧ R (resV vs) H1 ∧ (e = .normal ∨ e = .ret) := by
    cases e with
    | normal => obtain ⟨vs, a, b⟩ := h2; exact ⟨vs, a, b, .inl rfl⟩
    | ret => obtain ⟨vs, a, b⟩ := h2; exact ⟨vs, a, b, .inr rfl⟩
    | exit id => exact h2.elim
  obtain ⟨vs, a, b, he⟩ := key
  refine ⟨resV vs, H1, sim_of_axR hT hmix hf hb hname hok (Nat.le_of_ble_eq_true ha) (AxR_mono c h1 ?_), b⟩
  rintro e' s' H' ⟨rfl, rfl, rfl⟩
  rcases he with rfl | rfl
  · exact ⟨vs, a, rfl, rfl⟩
  · exact ⟨vs, a, rfl, rfl⟩
end
section
variable {P : Program} {tt : TT} {Q : APost} {s : Slots} {H : Heap}
theorem wr_seq {a b : Code} : AxR tt P (.seq a b) Q s H = AxR tt P a (AEx.thn (AxR tt P b Q) Q) s H := rfl
theorem wr_block {id : Nat} {b : Code} : AxR tt P (.block id b) Q s H = AxR tt P b (AEx.inBlock id Q) s H := rfl
theorem wr_region {id : Nat} {ops : Array Oper} {d : Bool} : AxR tt P (.region id ops d) Q s H = Ax tt (SimF P) (.region id ops d) Q s H := rfl
theorem wr_scope {b : Code} : AxR tt P (.scope b) Q s H = AxR tt P b Q s H := rfl
theorem wr_label {l : Nat} : AxR tt P (.label l) Q s H = Q .normal s H := rfl
theorem wr_skip : AxR tt P .skip Q s H = Q .normal s H := rfl
theorem wr_exit {id : Nat} : AxR tt P (.exit id) Q s H = Q (.exit id) s H := rfl
theorem wr_ret : AxR tt P .ret Q s H = Q .ret s H := rfl
def AxCR (tt : TT) (P : Program) (x y : Code) (Q : APost) (s : Slots) (H : Heap) (v : Value) : Prop := ∃ b, v = .bool b ∧ if b = true then AxR tt P x Q s H else AxR tt P y Q s H
theorem wr_cond {c : Operand} {x y : Code} : AxR tt P (.cond c x y) Q s H = AxCR tt P x y Q s H (ev s c) := rfl
theorem axCR_t {x y : Code} : AxCR tt P x y Q s H (.bool true) = AxR tt P x Q s H := by
  apply propext
  constructor
  · rintro ⟨b, hb, h⟩
    injection hb with hb
    subst hb
    simpa using h
  · intro h; exact ⟨true, rfl, by simpa using h⟩
theorem axCR_f {x y : Code} : AxCR tt P x y Q s H (.bool false) = AxR tt P y Q s H := by
  apply propext
  constructor
  · rintro ⟨b, hb, h⟩
    injection hb with hb
    subst hb
    simpa using h
  · intro h; exact ⟨false, rfl, by simpa using h⟩
theorem axR_loopx {α : Type} {b : Code} (I : α → Slots → Heap → Prop) (μ : α → Nat) (a0 : α) (h0 : I a0 s H)
    (round : ∀ a s H, I a s H → AxR tt P b (AEx.thn (fun s' H' => ∃ a', I a' s' H' ∧ μ a' < μ a) Q) s H) : AxR tt P (.loop b) Q s H := by
  have key : ∀ n a s H, μ a < n → I a s H → AxRLoop (AxR tt P b) Q n s H := by
    intro n
    induction n with
    | zero => intro a s H hm; omega
    | succ n ih =>
      intro a s H hm hI
      refine AxR_mono b (round a s H hI) ?_
      intro e s' H' h
      cases e with
      | normal => obtain ⟨a', h1, h2⟩ := h; exact ih a' s' H' (by omega) h1
      | exit id => exact h
      | ret => exact h
  exact ⟨_, key (μ a0 + 1) a0 s H (by omega) h0⟩
theorem axR_range {f : Operand} {ps : Array Tmp} {x y : Code} {g : FuncId} {cap : Array Value} (R : Heap → Prop) (he : ev s f = .func (.func g) #[] cap) (hs : ∃ H', SimR P g (YR tt P s ps x y) (ZR tt P s ps x y .normal) cap H true H' ∧ R H')
    (k : ∀ H', R H' → Q .normal s H') : AxR tt P (.rangeFunc f ps x y) Q s H := by
  obtain ⟨H', h1, h2⟩ := hs
  exact ⟨g, cap, true, .normal, H', he, h1, fun _ => rfl, k H' h2⟩
theorem axR_left {f : Operand} {ps : Array Tmp} {x y : Code} {g : FuncId} {cap : Array Value} (e : AEx) (R : Heap → Prop) (he : ev s f = .func (.func g) #[] cap) (hne : e.leaves ≠ none) (hs : ∃ H', SimR P g (YR tt P s ps x y) (ZR tt P s ps x y e) cap H false H' ∧ R H')
    (k : ∀ H', R H' → Q e s H') : AxR tt P (.rangeFunc f ps x y) Q s H := by
  obtain ⟨H', h1, h2⟩ := hs
  exact ⟨g, cap, false, e, H', he, h1, fun h => absurd h hne, k H' h2⟩
theorem SimR.of_simY {g : FuncId} {Y Z : Array Value → Heap → Heap → Prop} {cap : Array Value} {H' : Heap} (h : SimY P g Y cap H H') : SimR P g Y Z cap H true H' := by
  obtain ⟨h1, h2⟩ := h
  refine ⟨h1, fun l β Xo Xc ho hc hY hZ m ρ W CAP hB hX hC => ?_⟩
  have hl : CallsIn (FW none) m P g (#[.func (.yield l) #[] #[]] ++ CAP) W fun e W' => ∃ V ρ', e = .returned V ∧ Step ρ H W ρ' H' W' := h2 l Xo ho hY m ρ W CAP hB.mem hX hC
  exact hl.mono (fun e W' ⟨V, ρ', he, hs⟩ => ⟨V, ρ', he, hB.trans hs, ho hX hs⟩)
end
end Go.Fw
namespace Go.Fw
open Go
def YThn (k k2 : Slots → Heap → Prop) (Q : Bool → APost) : Bool → APost := fun m e s H => match e with
  | .normal => if m = true then k s H else k2 s H
  | e => Q m e s H
def YBlk (id : Nat) (Q : Bool → APost) : Bool → APost := fun m => AEx.inBlock id (Q m)
section
variable {P : Program} {tt : TT} {l : Nat} {Y Z : Array Value → Heap → Heap → Prop} {Q : Bool → APost} {s : Slots} {H : Heap} {k k2 : Slots → Heap → Prop}
theorem ythn_t : YThn k k2 Q true .normal s H = k s H := by simp [YThn]
theorem ythn_f : YThn k k2 Q false .normal s H = k2 s H := by simp [YThn]
theorem ythn_ret {m : Bool} : YThn k k2 Q m .ret s H = Q m .ret s H := rfl
theorem ythn_exit {m : Bool} {id : Nat} : YThn k k2 Q m (.exit id) s H = Q m (.exit id) s H := rfl
theorem yblk {m : Bool} {id : Nat} {e : AEx} : YBlk id Q m e s H = AEx.inBlock id (Q m) e s H := rfl
theorem wy_seq {a b : Code} : AxY tt P l Y Z (.seq a b) Q s H = AxY tt P l Y Z a (YThn (AxY tt P l Y Z b Q) (Ax tt (SimF P) b (Q false)) Q) s H := by
  show AxY tt P l Y Z a _ s H = AxY tt P l Y Z a _ s H
  congr 1
theorem wy_block {id : Nat} {b : Code} : AxY tt P l Y Z (.block id b) Q s H = AxY tt P l Y Z b (YBlk id Q) s H := rfl
theorem wy_skip : AxY tt P l Y Z .skip Q s H = Q true .normal s H := rfl
theorem wy_exit {id : Nat} : AxY tt P l Y Z (.exit id) Q s H = Q true (.exit id) s H := rfl
theorem wy_ret : AxY tt P l Y Z .ret Q s H = Q true .ret s H := rfl
def AxCY (tt : TT) (P : Program) (l : Nat) (Y Z : Array Value → Heap → Heap → Prop) (x y : Code) (Q : Bool → APost) (s : Slots) (H : Heap) (v : Value) : Prop := ∃ b, v = .bool b ∧ if b = true then AxY tt P l Y Z x Q s H else AxY tt P l Y Z y Q s H
theorem wy_cond {c : Operand} {x y : Code} : AxY tt P l Y Z (.cond c x y) Q s H = AxCY tt P l Y Z x y Q s H (ev s c) := rfl
theorem axCY_t {x y : Code} : AxCY tt P l Y Z x y Q s H (.bool true) = AxY tt P l Y Z x Q s H := by
  apply propext
  constructor
  · rintro ⟨b, hb, h⟩
    injection hb with hb
    subst hb
    simpa using h
  · intro h; exact ⟨true, rfl, by simpa using h⟩
theorem axCY_f {x y : Code} : AxCY tt P l Y Z x y Q s H (.bool false) = AxY tt P l Y Z y Q s H := by
  apply propext
  constructor
  · rintro ⟨b, hb, h⟩
    injection hb with hb
    subst hb
    simpa using h
  · intro h; exact ⟨false, rfl, by simpa using h⟩
theorem wy_open {id : Nat} {ops : Array Oper} {d : Bool} (h : Ax tt (SY P l Y) (.region id ops d) (Q true) s H) : AxY tt P l Y Z (.region id ops d) Q s H := .inl h
theorem wy_shut {id : Nat} {ops : Array Oper} {d : Bool} (hc : calmR ops = true) (h : Ax tt (SYZ P l H.length Y Z) (.region id ops d) (fun _ s' H' => H.length < H'.length ∧ Q false .normal s' H') s H) : AxY tt P l Y Z (.region id ops d) Q s H := .inr ⟨hc, H.length, Nat.le_refl _, h⟩
theorem AxY_mono : ∀ (c : Code) {Q Q' : Bool → APost} {s : Slots} {H : Heap}, AxY tt P l Y Z c Q s H → (∀ m e s H, Q m e s H → Q' m e s H) → AxY tt P l Y Z c Q' s H := by
  intro c
  induction c with
  | skip => intro Q Q' s H h hQ; exact hQ _ _ _ _ h
  | exit id => intro Q Q' s H h hQ; exact hQ _ _ _ _ h
  | ret => intro Q Q' s H h hQ; exact hQ _ _ _ _ h
  | region id ops d =>
    intro Q Q' s H h hQ
    rcases h with h | ⟨h1, L, h2, h3⟩
    · exact .inl (Ax_mono (S := SY P l Y) (Q := Q true) (Q' := Q' true) (.region id ops d) h (hQ true))
    · exact .inr ⟨h1, L, h2, Ax_mono (S := SYZ P l L Y Z) (Q := fun _ s' H' => L < H'.length ∧ Q false .normal s' H') (Q' := fun _ s' H' => L < H'.length ∧ Q' false .normal s' H') (.region id ops d) h3 (fun e s H h => ⟨h.1, hQ _ _ _ _ h.2⟩)⟩
  | seq x y ihx ihy =>
    intro Q Q' s H h hQ
    refine ihx h ?_
    intro m e s' H' h'
    cases e with
    | normal =>
      cases m with
      | true => exact ihy h' hQ
      | false => exact Ax_mono y h' (hQ false)
    | exit id => exact hQ _ _ _ _ h'
    | ret => exact hQ _ _ _ _ h'
  | cond c t e iht ihe =>
    intro Q Q' s H h hQ
    obtain ⟨b, hb, h⟩ := h
    refine ⟨b, hb, ?_⟩
    cases b with
    | true => exact iht (by simpa using h) hQ
    | false => exact ihe (by simpa using h) hQ
  | block id b ih =>
    intro Q Q' s H h hQ
    refine ih h ?_
    intro m e s' H' h'
    cases e with
    | normal => exact hQ _ _ _ _ h'
    | ret => exact hQ _ _ _ _ h'
    | exit id' =>
      simp only [AEx.inBlock] at h' ⊢
      split at h'
      · rename_i he; rw [if_pos he]; exact hQ _ _ _ _ h'
      · rename_i he; rw [if_neg he]; exact hQ _ _ _ _ h'
  | loop b ih =>
    intro Q Q' s H h hQ
    obtain ⟨k, h⟩ := h
    refine ⟨k, ?_⟩
    induction k generalizing s H with
    | zero => exact h.elim
    | succ k ihk =>
      refine ih h ?_
      intro m e s' H' h'
      cases e with
      | normal => exact ⟨h'.1, ihk h'.2⟩
      | exit id => exact hQ _ _ _ _ h'
      | ret => exact hQ _ _ _ _ h'
  | rangeFunc f ps x y _ _ => intro Q Q' s H h; exact h.elim
  | scope b _ => intro Q Q' s H h; exact h.elim
  | label l => intro Q Q' s H h; exact h.elim
  | goto l => intro Q Q' s H h; exact h.elim
  | refuse w => intro Q Q' s H h; exact h.elim
theorem axY_of_ax : ∀ (c : Code) {Q : Bool → APost} {s : Slots} {H : Heap}, Ax tt (SY P l Y) c (Q true) s H → AxY tt P l Y Z c Q s H := by
  intro c
  induction c with
  | skip => intro Q s H h; exact h
  | exit id => intro Q s H h; exact h
  | ret => intro Q s H h; exact h
  | region id ops d => intro Q s H h; exact .inl h
  | seq x y ihx ihy =>
    intro Q s H h
    rw [wy_seq]
    refine ihx (Ax_mono x h ?_)
    intro e s' H' h'
    cases e with
    | normal => rw [ythn_t]; exact ihy h'
    | exit id => exact h'
    | ret => exact h'
  | cond c t e iht ihe =>
    intro Q s H h
    obtain ⟨b, hb, h⟩ := h
    refine ⟨b, hb, ?_⟩
    cases b with
    | true => simpa using iht (by simpa using h)
    | false => simpa using ihe (by simpa using h)
  | block id b ih => intro Q s H h; exact ih (Q := YBlk id Q) h
  | loop b ih =>
    intro Q s H h
    obtain ⟨k, h⟩ := h
    refine ⟨k, ?_⟩
    induction k generalizing s H with
    | zero => exact h.elim
    | succ k ihk =>
      refine ih (Ax_mono b h ?_)
      intro e s' H' h'
      cases e with
      | normal => exact ⟨rfl, ihk h'⟩
      | exit id => exact h'
      | ret => exact h'
  | rangeFunc f ps x y _ _ => intro Q s H h; exact h.elim
  | scope b _ => intro Q s H h; exact h.elim
  | label l => intro Q s H h; exact h.elim
  | goto l => intro Q s H h; exact h.elim
  | refuse w => intro Q s H h; exact h.elim
theorem axY_loopx {α : Type} {b : Code} (I : α → Slots → Heap → Prop) (μ : α → Nat) (a0 : α) (h0 : I a0 s H)
    (round : ∀ a s H, I a s H → AxY tt P l Y Z b (YThn (fun s' H' => ∃ a', I a' s' H' ∧ μ a' < μ a) (fun _ _ => False) Q) s H) : AxY tt P l Y Z (.loop b) Q s H := by
  have key : ∀ n a s H, μ a < n → I a s H → AxYLoop (AxY tt P l Y Z b) Q n s H := by
    intro n
    induction n with
    | zero => intro a s H hm; omega
    | succ n ih =>
      intro a s H hm hI
      refine AxY_mono b (round a s H hI) ?_
      intro m e s' H' h
      cases e with
      | normal =>
        cases m with
        | true => rw [ythn_t] at h; obtain ⟨a', h1, h2⟩ := h; exact ⟨rfl, ih a' s' H' (by omega) h1⟩
        | false => rw [ythn_f] at h; exact h.elim
      | exit id => exact h
      | ret => exact h
  exact ⟨_, key (μ a0 + 1) a0 s H (by omega) h0⟩
theorem retY_ret {fn : Func} {b m : Bool} {H1 : Heap} : retY tt fn b H1 m .ret s H = (m = b ∧ H = H1 ∧ ∃ vs, resL tt s H fn.results.toList = some vs) := rfl
theorem retY_normal {fn : Func} {b m : Bool} {H1 : Heap} : retY tt fn b H1 m .normal s H = (m = b ∧ H = H1 ∧ ∃ vs, resL tt s H fn.results.toList = some vs) := rfl
end
theorem zr_ex {tt : TT} {P : Program} {s : Slots} {ps : Array Tmp} {x y : Code} {ar : Array Value} {H1 : Heap} {R : Heap → Prop} (e0 : AEx) (hne : e0 ≠ .normal) (ha : ar.size = ps.size)
    (h : Ax tt (SimF P) x (AEx.thn (fun s1 H1' => Ax tt (SimF P) y (fun e _ H' => e = e0 ∧ R H') s1 H1') (fun _ _ _ => False)) (putPs s ps.toList ar.toList) H1) : ∃ H2, ZR tt P s ps x y e0 ar H1 H2 ∧ R H2 := by
  obtain ⟨e1, s1, H3, h4, h5⟩ := ax_path x h
  cases e1 with
  | exit i => exact h5.elim
  | ret => exact h5.elim
  | normal =>
    obtain ⟨e2, s2, H4, h6, rfl, hR⟩ := ax_path y h5
    refine ⟨H4, ⟨ha, hne, Ax_mono x h4 ?_⟩, hR⟩
    rintro e' s' H' ⟨rfl, rfl, rfl⟩
    exact Ax_mono y h6 (by rintro e'' s3 H5 ⟨rfl, rfl, rfl⟩; exact ⟨rfl, rfl⟩)
end Go.Fw
namespace Go.Fw
open Go
theorem rdF (T0 : Heap) {b : Nat} {L : List RR} {j : Nat} (hb : b < T0.length) (hj : j < L.length) : ∃ x : RR, x = L[j] ∧ rd (putR T0 b L) b (j * 6) 6 = some [.bool x.g, .string (bs x.n), .string (bs x.d), .bool x.g', .string (bs x.n'), .string (bs x.d')] := by
  have r1 := ((putR_own T0 L hb).at (c := 0) (.inl rfl)).rdR (j := j) hj
  unfold RR.cells at r1
  simp only [Nat.zero_add] at r1
  exact ⟨_, rfl, r1⟩
theorem swF (T0 : Heap) {b : Nat} {L : List RR} {i j : Nat} (hb : b < T0.length) (hi : i < L.length) (hj : j < L.length) : ∃ (x y : RR) (L1 L2 : List RR), x = L[i] ∧ y = L[j] ∧ L2 = sw L i j hi hj ∧
    rd (putR T0 b L) b (i * 6) 6 = some [.bool x.g, .string (bs x.n), .string (bs x.d), .bool x.g', .string (bs x.n'), .string (bs x.d')] ∧
    rd (putR T0 b L) b (j * 6) 6 = some [.bool y.g, .string (bs y.n), .string (bs y.d), .bool y.g', .string (bs y.n'), .string (bs y.d')] ∧
    wr (putR T0 b L) b (i * 6) [.bool y.g, .string (bs y.n), .string (bs y.d), .bool y.g', .string (bs y.n'), .string (bs y.d')] = some (putR T0 b L1) ∧
    wr (putR T0 b L1) b (j * 6) [.bool x.g, .string (bs x.n), .string (bs x.d), .bool x.g', .string (bs x.n'), .string (bs x.d')] = some (putR T0 b L2) := by
  have ho := putR_own T0 L hb
  have r1 := (ho.at (c := 0) (.inl rfl)).rdR (j := i) hi
  have r2 := (ho.at (c := 0) (.inl rfl)).rdR (j := j) hj
  have w1 := ho.wr (j := i) hi L[j]
  have w2 := (putR_own T0 (L.set i L[j]) hb).wr (j := j) (by simp; omega) L[i]
  rw [putR_put] at w1 w2
  unfold RR.cells at r1 r2 w1 w2
  simp only [Nat.zero_add] at r1 r2
  exact ⟨_, _, _, _, rfl, rfl, rfl, r1, r2, w1, w2⟩
theorem RR.cells_plain (L : List RR) : (L.map RR.cells).flatten.all plain = true := by
  rw [List.all_flatten]
  simp only [List.all_map, List.all_eq_true]
  intro r _
  rfl
theorem putR_calm (T : Heap) (b : Nat) (L : List RR) : Calm T (putR T b L) := by
  refine ⟨putR_len T b L, fun q B h => ?_⟩
  unfold putR at h
  by_cases e : b = q
  · subst e
    by_cases hl : b < T.length
    · rw [List.getElem?_set_self hl] at h
      cases h
      exact .inr (RR.cells_plain L)
    · rw [List.getElem?_eq_none (by simp; omega)] at h; cases h
  · rw [List.getElem?_set_ne e] at h; exact .inl h
theorem andI_le {x : Int} {m : Nat} (hm : m < 18446744073709551616) : ∃ r : Nat, andI .u64 x (m : Int) = (r : Int) ∧ r ≤ m := by
  unfold andI
  have e : (BitVec.ofInt IntKind.u64.bits x &&& BitVec.ofInt IntKind.u64.bits (m : Int)).toNat ≤ m := by
    rw [BitVec.toNat_and]
    refine Nat.le_trans Nat.and_le_right ?_
    simp only [BitVec.toNat_ofInt]
    have : IntKind.u64.bits = 64 := rfl
    rw [this]
    have : (m : Int) % ((2 ^ 64 : Nat) : Int) = m := Int.emod_eq_of_lt (by omega) (by simp; omega)
    rw [this]; simp
  exact ⟨_, wu64n (by omega), e⟩
theorem ax_midb {tt : TT} {S : ACall} {Q : APost} {s : Slots} {H : Heap} (M : Slots → Heap → Prop) {a : Code} {id : Nat} {K : Slots → Heap → Prop} (h1 : Ax tt S a (AEx.inBlock id (AEx.thn M Q)) s H) (h2 : ∀ s H, M s H → K s H) : Ax tt S a (AEx.inBlock id (AEx.thn K Q)) s H := by
  refine Ax_mono a h1 ?_
  intro e s H h
  cases e with
  | normal => exact h2 s H h
  | exit i =>
    by_cases hi : i = id
    · subst hi
      simp only [inb_exit, if_true] at h ⊢
      exact h2 s H h
    · simp only [inb_exit, hi, if_false] at h ⊢
      exact h
  | ret => exact h
variable {tt : TT} {S : ACall} {q : Nat} {ops : Array Oper} {K : Slots → Heap → Prop} {l : List Oper} {s : Slots} {H : Heap} {dst : Option Tmp} {ty : TypeId} {pos : String} {af : Array Edge}
end Go.Fw
namespace Go.Fw
open Go
theorem nn_of_mul {u p : Rat} (h : 0 ≤ u * p) (hp : 0 < p) : 0 ≤ u := by
  refine Classical.byContradiction fun hn => ?_
  have h1 : 0 < -u := by grind
  have h2 := Rat.mul_pos h1 hp
  grind
theorem np_of_mul {u p : Rat} (h : u * p ≤ 0) (hp : p < 0) : 0 ≤ u := by
  have h1 : 0 ≤ u * -p := by grind
  exact nn_of_mul h1 (by grind)
theorem mul_nn {u p : Rat} (h : 0 ≤ u) (hp : 0 ≤ p) : 0 ≤ u * p := Rat.mul_nonneg h hp
theorem mul_np {u p : Rat} (h : u ≤ 0) (hp : 0 ≤ p) : u * p ≤ 0 := by
  have := Rat.mul_nonneg (show 0 ≤ -u by grind) hp
  grind
theorem mul_pn {u p : Rat} (h : 0 ≤ u) (hp : p ≤ 0) : u * p ≤ 0 := by
  have := Rat.mul_nonneg h (show 0 ≤ -p by grind)
  grind
theorem mul_pp {u p : Rat} (h : u ≤ 0) (hp : p ≤ 0) : 0 ≤ u * p := by
  have := Rat.mul_nonneg (show 0 ≤ -u by grind) (show 0 ≤ -p by grind)
  grind
theorem Rot.s0 {z : Rot} (hz : z.ok) (h : z.s = 0) : z.c = 1 ∨ z.c = -1 := by
  unfold Rot.ok at hz
  rw [h] at hz
  have : (z.c - 1) * (z.c + 1) = 0 := by grind
  rcases Rat.mul_eq_zero.1 this with h | h
  · left; grind
  · right; grind
theorem Rot.h0 {z : Rot} (hz : z.ok) (h : z.half = 0) : 0 ≤ z.s ∧ (z.s = 0 → z.c = 1) := by
  rcases z.half_cases with ⟨_, h1⟩ | ⟨h1, _⟩
  · refine ⟨by grind, fun h2 => ?_⟩
    rcases Rot.s0 hz h2 with h3 | h3 <;> grind
  · omega
theorem Rot.h1 {z : Rot} (hz : z.ok) (h : z.half = 1) : z.s ≤ 0 ∧ (z.s = 0 → z.c = -1) := by
  rcases z.half_cases with ⟨h1, _⟩ | ⟨_, h1⟩
  · omega
  · refine ⟨by grind, fun h2 => ?_⟩
    rcases Rot.s0 hz h2 with h3 | h3 <;> grind
theorem Rot.lt_iff {a b : Rot} : a.lt b ↔ (a.half = b.half ∧ 0 < a.cross b) ∨ (a.half = 0 ∧ b.half = 1) := by
  unfold Rot.lt
  have h1 := a.half_le
  have h2 := b.half_le
  by_cases h : a.half = b.half
  · rw [Rot.cmp_same h, cmpQ_zero_neg]
    constructor
    · intro h3; left; exact ⟨h, by grind⟩
    · rintro (⟨_, h3⟩ | ⟨h3, h4⟩)
      · grind
      · omega
  · rw [Rot.cmp_diff h]
    constructor
    · intro h3; right; omega
    · rintro (⟨h3, _⟩ | ⟨h3, h4⟩)
      · exact absurd h3 h
      · omega
theorem Rot.cross_id (a x b : Rot) : a.cross x * b.s + x.cross b * a.s + b.cross a * x.s = 0 := by unfold Rot.cross; grind
theorem Rot.cyc_signs {a x b : Rot} (ha : a.ok) (hx : x.ok) (hb : b.ok) (h : (a.lt x ∧ x.lt b) ∨ (x.lt b ∧ b.lt a) ∨ (b.lt a ∧ a.lt x)) :
    ¬ (a.cross x ≤ 0 ∧ b.cross a < 0) ∧ (0 < a.cross x → b.cross a < 0 → 0 ≤ x.cross b) ∧ (a.cross x ≤ 0 → 0 ≤ b.cross a → 0 ≤ x.cross b) := by
  have id := Rot.cross_id a x b
  have fa := a.half_le
  have fx := x.half_le
  have fb := b.half_le
  have a0 := Rot.h0 ha
  have a1 := Rot.h1 ha
  have x0 := Rot.h0 hx
  have x1 := Rot.h1 hx
  have b0 := Rot.h0 hb
  have b1 := Rot.h1 hb
  have dA : a.cross x = a.c * x.s - a.s * x.c := rfl
  have dB : x.cross b = x.c * b.s - x.s * b.c := rfl
  have dC : b.cross a = b.c * a.s - b.s * a.c := rfl
  have t1 := @Rot.cross_trans a x b ha hx hb
  have t2 := @Rot.cross_trans x b a hx hb ha
  have t3 := @Rot.cross_trans b a x hb ha hx
  have c1 := Rot.cross_anti a b
  have c2 := Rot.cross_anti x a
  have c3 := Rot.cross_anti b x
  simp only [Rot.lt_iff] at h
  generalize hA : a.cross x = A at *
  generalize hB : x.cross b = B at *
  generalize hC : b.cross a = C at *
  rcases h with ⟨h1, h2⟩ | ⟨h1, h2⟩ | ⟨h1, h2⟩
  · -- a < x < b
    rcases h1 with ⟨e1, p1⟩ | ⟨e1, e2⟩
    · rcases h2 with ⟨e3, p2⟩ | ⟨e3, e4⟩
      · have := t1 e1 e3 p1 p2
        refine ⟨by grind, by grind, by grind⟩
      · obtain ⟨pa, qa⟩ := a0 (by omega)
        obtain ⟨px, qx⟩ := x0 e3
        obtain ⟨pb, qb⟩ := b1 e4
        refine ⟨by grind, fun _ hc => ?_, by grind⟩
        have m1 := mul_pn (Rat.le_of_lt p1) pb
        have m2 := mul_np (Rat.le_of_lt hc) px
        by_cases hz : a.s = 0
        · have := qa hz; rw [hz, this] at dC; grind
        · exact nn_of_mul (p := a.s) (by grind) (by grind)
    · rcases h2 with ⟨e3, p2⟩ | ⟨e3, e4⟩
      · obtain ⟨pa, qa⟩ := a0 e1
        obtain ⟨px, qx⟩ := x1 e2
        obtain ⟨pb, qb⟩ := b1 (by omega)
        refine ⟨?_, by grind, by grind⟩
        rintro ⟨h1, hc⟩
        have m1 := mul_pp h1 pb
        have m2 := mul_nn (Rat.le_of_lt p2) pa
        have m3 := mul_pp (Rat.le_of_lt hc) px
        have z2 : B * a.s = 0 := by grind
        have z3 : C * x.s = 0 := by grind
        have ya : a.s = 0 := by rcases Rat.mul_eq_zero.1 z2 with h | h <;> grind
        have := qa ya
        rw [ya, this] at dC
        grind
      · omega
  · -- x < b < a
    rcases h1 with ⟨e1, p1⟩ | ⟨e1, e2⟩
    · rcases h2 with ⟨e3, p2⟩ | ⟨e3, e4⟩
      · have := t2 e1 e3 p1 p2
        refine ⟨by grind, by grind, by grind⟩
      · obtain ⟨px, qx⟩ := x0 (by omega)
        obtain ⟨pb, qb⟩ := b0 e3
        obtain ⟨pa, qa⟩ := a1 e4
        refine ⟨?_, by grind, by grind⟩
        rintro ⟨h1, hc⟩
        have m1 := mul_np h1 pb
        have m2 := mul_pn (Rat.le_of_lt p1) pa
        have m3 := mul_np (Rat.le_of_lt hc) px
        have z2 : B * a.s = 0 := by grind
        have ya : a.s = 0 := by rcases Rat.mul_eq_zero.1 z2 with h | h <;> grind
        have := qa ya
        rw [ya, this] at dC
        grind
    · rcases h2 with ⟨e3, p2⟩ | ⟨e3, e4⟩
      · obtain ⟨px, qx⟩ := x0 e1
        obtain ⟨pb, qb⟩ := b1 e2
        obtain ⟨pa, qa⟩ := a1 (by omega)
        refine ⟨by grind, by grind, fun h1 _ => ?_⟩
        have m1 := mul_pp h1 pb
        have m3 := mul_nn (Rat.le_of_lt p2) px
        by_cases hz : a.s = 0
        · have := qa hz; rw [hz, this] at dC; grind
        · exact np_of_mul (p := a.s) (by grind) (by grind)
      · omega
  · -- b < a < x
    rcases h1 with ⟨e1, p1⟩ | ⟨e1, e2⟩
    · rcases h2 with ⟨e3, p2⟩ | ⟨e3, e4⟩
      · have := t3 e1 e3 p1 p2
        refine ⟨by grind, by grind, by grind⟩
      · obtain ⟨pb, qb⟩ := b0 (by omega)
        obtain ⟨pa, qa⟩ := a0 e3
        obtain ⟨px, qx⟩ := x1 e4
        refine ⟨by grind, by grind, fun h1 _ => ?_⟩
        have m1 := mul_np h1 pb
        have m3 := mul_pn (Rat.le_of_lt p1) px
        by_cases hz : a.s = 0
        · have := qa hz; rw [hz, this] at dC; grind
        · exact nn_of_mul (p := a.s) (by grind) (by grind)
    · rcases h2 with ⟨e3, p2⟩ | ⟨e3, e4⟩
      · obtain ⟨pb, qb⟩ := b0 e1
        obtain ⟨pa, qa⟩ := a1 e2
        obtain ⟨px, qx⟩ := x1 (by omega)
        refine ⟨by grind, fun _ hc => ?_, by grind⟩
        have m1 := mul_nn (Rat.le_of_lt p2) pb
        have m3 := mul_pp (Rat.le_of_lt hc) px
        by_cases hz : a.s = 0
        · have := qa hz; rw [hz, this] at dC; grind
        · exact np_of_mul (p := a.s) (by grind) (by grind)
      · omega
theorem Rot.rel_half {a x : Rot} (ha : a.ok) (hx : x.ok) (hne : a ≠ x) : (a.back.thn x).half = if 0 < a.cross x then 0 else 1 := by
  have ho : (a.back.thn x).ok := Rot.thn_ok (Rot.back_ok ha) hx
  have e : (a.back.thn x).s = a.cross x := by unfold Rot.thn Rot.back Rot.cross; grind
  have ec : (a.back.thn x).c = a.c * x.c + a.s * x.s := by unfold Rot.thn Rot.back; grind
  rcases (a.back.thn x).half_cases with ⟨h1, h2⟩ | ⟨h1, h2⟩
  · rw [h1]
    rw [e] at h2
    by_cases h3 : 0 < a.cross x
    · rw [if_pos h3]
    · exfalso
      have h4 : a.cross x = 0 := by grind
      have := Rot.s0 ho (by rw [e]; exact h4)
      have hc : a.c * x.c + a.s * x.s = 1 := by grind
      refine hne ?_
      unfold Rot.cross at h4
      unfold Rot.ok at ha hx
      obtain ⟨ac, asn⟩ := a
      obtain ⟨xc, xs⟩ := x
      simp only at ha hx h4 hc
      refine Rot.ext' ?_ ?_ <;> grind
  · rw [h1]
    rw [e] at h2
    rw [if_neg (by grind)]
theorem Rot.between {a x b : Rot} (ha : a.ok) (hx : x.ok) (hb : b.ok) (hax : a ≠ x) (hab : a ≠ b) (h : (a.lt x ∧ x.lt b) ∨ (x.lt b ∧ b.lt a) ∨ (b.lt a ∧ a.lt x)) :
    (a.back.thn x).cmp (a.back.thn b) ≤ 0 := by
  obtain ⟨g1, g2, g3⟩ := Rot.cyc_signs ha hx hb h
  have h1 := Rot.rel_half ha hx hax
  have h2 := Rot.rel_half ha hb hab
  have c1 := Rot.cross_anti a b
  have hcr : (a.back.thn x).cross (a.back.thn b) = x.cross b := by
    unfold Rot.ok at ha
    unfold Rot.cross Rot.thn Rot.back
    simp only
    have : x.c * b.s - x.s * b.c = (a.c * a.c + a.s * a.s) * (x.c * b.s - x.s * b.c) := by rw [ha, Rat.one_mul]
    rw [this]
    grind
  by_cases p1 : 0 < a.cross x
  · rw [if_pos p1] at h1
    by_cases p2 : 0 < a.cross b
    · rw [if_pos p2] at h2
      rw [Rot.cmp_same (by omega), hcr]
      have := g2 p1 (by grind)
      rw [cmpQ_le]; grind
    · rw [if_neg p2] at h2
      rw [Rot.cmp_diff (by omega)]; omega
  · rw [if_neg p1] at h1
    by_cases p2 : 0 < a.cross b
    · exact absurd ⟨by grind, by grind⟩ g1
    · rw [if_neg p2] at h2
      rw [Rot.cmp_same (by omega), hcr]
      have := g3 (by grind) (by grind)
      rw [cmpQ_le]; grind
end Go.Fw
namespace Go.Fw
open Go
end Go.Fw
namespace Go.Fw
open Go
section
variable {P : Program}
end
section
variable {tt : TT} {S : ACall} {q : Nat} {ops : Array Oper} {K : Slots → Heap → Prop} {l : List Oper} {s : Slots} {H : Heap} {dst : Option Tmp} {ty : TypeId} {pos : String} {af : Array Edge}
theorem wl_cap {x : Operand} {tys : Array TypeId} : AxL tt S q ops K (⟨dst, .call { callee := .builtin .cap, args := #[x], argTypes := tys }, ty, pos, af, none⟩ :: l) s H = AxW tt S q ops K l s dst ((aCap tt tys.toList (ev s x)).map (fun v => (v, H))) := wl_builtin
end
section
variable {tt : TT} {T T' : Heap} {t u e : TypeId} {sz by_ : Nat} {z : Value} {q : Option (List TD)} {E U : TI} {b i n c b2 j m d k : Nat} {new old : List Value}
end
def rowF (L : List RR) : List Value := (L.map RR.cells).flatten
theorem rowF_len (L : List RR) : (rowF L).length = L.length * 6 := by
  unfold rowF; rw [flatten_len (RR.cells_all L)]; simp; omega
theorem rowF_app (L M : List RR) : rowF (L ++ M) = rowF L ++ rowF M := by simp [rowF]
theorem rowF_take (L : List RR) (i : Nat) (h : i ≤ L.length) : (rowF L).take (i * 6) = rowF (L.take i) := by
  have e : L = L.take i ++ L.drop i := (List.take_append_drop i L).symm
  conv => lhs; rw [e]
  rw [rowF_app, List.take_append_of_le_length (by rw [rowF_len, List.length_take]; omega), List.take_of_length_le (by rw [rowF_len, List.length_take]; omega)]
theorem rowF_drop (L : List RR) (i : Nat) (h : i ≤ L.length) : (rowF L).drop (i * 6) = rowF (L.drop i) := by
  have e : L = L.take i ++ L.drop i := (List.take_append_drop i L).symm
  conv => lhs; rw [e]
  rw [rowF_app, List.drop_append_of_le_length (by rw [rowF_len, List.length_take]; omega), List.drop_of_length_le (by rw [rowF_len, List.length_take]; omega), List.nil_append]
theorem rowF_ok (L : List RR) : (rowF L).all isCell = true := RR.cells_ok L
theorem wr_at {T : Heap} {b i : Nat} {B : Blk} {vs : List Value} (hB : T[b]? = some B) (ho : B.own = true) (hl : i + vs.length ≤ B.cells.length) (hc : vs.all isCell = true) : wr T b i vs = some (T.set b { B with cells := splice B.cells i vs }) := by
  unfold wr; rw [hB]; simp only; rw [if_pos ⟨ho, hl, hc⟩]
end Go.Fw
namespace Go.Fw
open Go
section
variable {tt : TT} {S : ACall} {q : Nat} {ops : Array Oper} {K : Slots → Heap → Prop} {l : List Oper} {s : Slots} {H : Heap} {dst : Option Tmp} {ty : TypeId} {pos : String} {af : Array Edge}
theorem wl_clear {x : Operand} {tys : Array TypeId} : AxL tt S q ops K (⟨dst, .call { callee := .builtin .clear, args := #[x], argTypes := tys }, ty, pos, af, none⟩ :: l) s H = AxW tt S q ops K l s dst (aClear tt H tys.toList (ev s x)) := wl_builtin
end
section
variable {tt : TT} {T T' : Heap} {t e : TypeId} {sz by_ : Nat} {z : Value} {q : Option (List TD)} {E : TI} {b i n c : Nat}
theorem aClear_at {tys : List TypeId} (ht : tt t = some ⟨.slice e, sz, by_, z, q⟩) (he : tt e = some E) (hn : 0 < n) (hz : E.zero.cells.size = E.size) (hw : wr T b i (zerosL E.zero.cells.toList (n * E.size)) = some T') :
    aClear tt T (t :: tys) (.slice (some ⟨b, i, none⟩) n c) = some (.tuple #[], T') := by
  unfold aClear
  simp only [ht, he]
  rw [if_pos ⟨hn, hz⟩, hw]
  rfl
end
theorem ElAt.dropR {T : Heap} {b i c : Nat} {l : List RR} (h : ElAt 6 T b i c (l.map RR.cells)) (k : Nat) (hk : k ≤ l.length) : ElAt 6 T b (i + k * 6) (c - k) ((l.drop k).map RR.cells) := by
  obtain ⟨B, h1, h2, h3, h4⟩ := h.blk
  have hc := h.cap
  simp only [List.length_map] at h3 h4 hc
  refine ⟨?_, by decide, RR.cells_all _, ⟨B, h1, h2, by rw [List.length_map, List.length_drop]; omega, ?_⟩, RR.cells_ok _⟩
  · rw [List.length_map, List.length_drop]; omega
  · have e : (List.map RR.cells l).flatten = rowF l := rfl
    have e2 : (List.map RR.cells (l.drop k)).flatten = rowF (l.drop k) := rfl
    rw [e2, ← rowF_drop l k hk, ← e, ← h4, List.drop_take, List.drop_drop, List.length_map, List.length_drop]
    congr 1
    omega
end Go.Fw
