/- hartixlaw0.FreeInts of two rows of the call's own: neither minds the other. By an AI agent. -/
import Derived.Test.YtgjiojcdifjhcaaDoorInts
set_option linter.unusedVariables false
set_option linter.unusedSimpArgs false
namespace Go.Proofs.YtgjiojcdifjhcaaDoor
open Go.RowKit
structure Rows2 where
  A : Nat → Option Addr
  G : Nat → Nat
  N : Nat → Nat
  C : Nat → Nat
def Rows2.V (R : Rows2) (i : Nat) : Value := .slice (R.A i) (R.N i) (R.C i)
/-- Two lists in their rows, the list of lists in block gl. -/
structure St (R : Rows2) (B gl : Nat) (w0 : World) (X : Nat → List Value) (w : World) : Prop where
  below : Below B w0 w
  size : B ≤ w.heap.size
  cell : ∀ i, i < 2 → w.cell? ⟨gl, i, none⟩ = some (.slice (R.A i) (R.N i) (R.C i))
  row : ∀ i, i < 2 → w.ownsRow B 3 1 (.slice (R.A i) (R.N i) (R.C i)) (R.N i) (X i)
  apart : ∀ i j, i < 2 → j < 2 → i ≠ j → (R.V i).ownBlock = none ∨ (R.V i).ownBlock ≠ (R.V j).ownBlock
  list : ∀ i, i < 2 → (R.V i).ownBlock ≠ some gl
  at' : ∀ i, i < 2 → 0 < R.N i → R.A i = some ⟨R.G i, 0, none⟩
  few : ∀ i, i < 2 → R.N i ≤ 2
theorem St.drewN {R : Rows2} {B gl : Nat} {w0 w : World} {X : Nat → List Value} (h : St R B gl w0 X w) (n : Nat) : St R B gl w0 X (w.drewN n) :=
  ⟨below_drewN h.below n, h.size, h.cell, h.row, h.apart, h.list, h.at', h.few⟩
theorem St.glt {R : Rows2} {B gl : Nat} {w0 w : World} {X : Nat → List Value} (h : St R B gl w0 X w) : gl < w.heap.size := World.block_lt_of_cell? w _ (h.cell 0 (by decide))
/-- A number written into a row. -/
theorem St.put {R : Rows2} {B gl : Nat} {w0 w : World} {X : Nat → List Value} (h : St R B gl w0 X w) (k : Nat) (hk : k < 2) (q : Nat) (hq : q < R.N k) (u : Value) :
    St R B gl w0 (fun i => if i = k then (X k).set q u else X i) (w.setCell ⟨R.G k, q, none⟩ u) := by
  have ha := h.at' k hk (by omega)
  have hr := h.row k hk
  rw [ha] at hr
  obtain ⟨r1, r2⟩ := hr.stored q u
  have hown : (R.V k).ownBlock = some (R.G k) := by unfold Rows2.V; rw [ha]; rfl
  have hlt := hr.lt (R.G k) rfl
  refine ⟨h.below.grown r2 h.size (by intro g e; simp at e; omega), by simpa using h.size, ?_, ?_, h.apart, h.list, h.at', h.few⟩
  · intro i hi
    refine r2.cell (h.cell i hi) ?_
    intro e
    exact h.list k hk (by rw [hown, ← e])
  · intro i hi
    by_cases e : i = k
    · subst e; rw [if_pos rfl, ha]; exact r1
    · rw [if_neg e]
      refine (h.row i hi).kept r2 ?_
      rw [← hown]; exact h.apart i k hi hk e
def ins (k : Nat) : Value := .int .i64 (4611686018427387905 + 2 * (k : Int))
def Rows2.marks (R : Rows2) (i : Nat) : List Value := List.replicate (R.N i) (ins i)
theorem St.len {R : Rows2} {B gl : Nat} {w0 w : World} {X : Nat → List Value} (h : St R B gl w0 X w) (i : Nat) (hi : i < 2) : (X i).length = R.N i := by
  have := (h.row i hi).1; simpa using this
theorem St.marked {R : Rows2} {B gl : Nat} {w0 w : World} {X : Nat → List Value} (h : St R B gl w0 X w) (k : Nat) (hk : k < 2) (hm : ∀ p, p < R.N k → (X k)[p]? = some (ins k)) : X k = R.marks k := by
  apply List.ext_getElem?
  intro p
  have hl := h.len k hk
  by_cases hp : p < R.N k
  · rw [hm p hp]; simp [Rows2.marks, hp]
  · rw [List.getElem?_eq_none (by omega), List.getElem?_eq_none (by simp [Rows2.marks]; omega)]
theorem St.at_ {R : Rows2} {B gl : Nat} {w0 w : World} {X : Nat → List Value} (h : St R B gl w0 X w) (k : Nat) (hk : k < 2) (q : Nat) (hq : q < R.N k) :
    R.A k = some ⟨R.G k, 0, none⟩ ∧ w.frozen? ⟨R.G k, q, none⟩ = false ∧ R.G k < w.heap.size ∧ ∃ v, w.cell? ⟨R.G k, q, none⟩ = some v := by
  have ha := h.at' k hk (by omega)
  have hr := h.row k hk
  rw [ha] at hr
  have hl := h.len k hk
  refine ⟨ha, hr.frozenAt q, (hr.lt _ rfl).2, _, (hr.cellAt q (by omega)).trans (List.getElem?_eq_getElem (by omega))⟩
def beh (k : Nat) : Value := .int .i64 (2305843009213693953 + 2 * (k : Int))
/-- Behind the marks: the rows' first numbers, the rows not yet grown, the grown ones. -/
structure St2 (R : Rows2) (B gl H0 : Nat) (w0 : World) (k r : Nat) (M : Nat → Value) (w : World) : Prop where
  below : Below B w0 w
  sizeB : B ≤ H0
  size : H0 ≤ w.heap.size
  glo : gl < H0
  old : ∀ i, i < 2 → ∀ g, (R.V i).ownBlock = some g → g < H0
  cell : ∀ i, i < 2 → w.cell? ⟨gl, i, none⟩ = some (.slice (R.A i) (R.N i) (R.C i))
  apart : ∀ i j, i < 2 → j < 2 → i ≠ j → (R.V i).ownBlock = none ∨ (R.V i).ownBlock ≠ (R.V j).ownBlock
  list : ∀ i, i < 2 → (R.V i).ownBlock ≠ some gl
  at' : ∀ i, i < 2 → 0 < R.N i → R.A i = some ⟨R.G i, 0, none⟩
  few : ∀ i, i < 2 → R.N i ≤ 2
  lo : ∀ i, i < 2 → ∀ p, p < R.N i → w.cell? ⟨R.G i, p, none⟩ = some (ins i)
  row : ∀ i, r ≤ i → i < 2 → w.ownsRow B 3 1 (.slice (R.A i) (R.N i) (R.C i)) (R.N i) (R.marks i)
  grown : ∀ j, j < k → ∃ g c, M j = .slice (some ⟨g, 0, none⟩) (R.N j + 64) c ∧ g ≠ gl ∧ w.ownsRow B 3 1 (M j) (R.N j + 64) (R.marks j ++ List.replicate 64 (beh j)) ∧ (∀ i, i < 2 → i ≠ j → (R.V i).ownBlock ≠ some g) ∧ ∀ i, i < k → i ≠ j → (M i).ownBlock ≠ some g
theorem St2.keep {R : Rows2} {B gl H0 : Nat} {w0 w w' : World} {k r : Nat} {M : Nat → Value} (h : St2 R B gl H0 w0 k r M w) (row : Option Nat) (hg : w.grownBy w' row) (hB : ∀ g, row = some g → B ≤ g) (hgl : row ≠ some gl)
    (hr : ∀ i, r ≤ i → i < 2 → (R.V i).ownBlock = none ∨ (R.V i).ownBlock ≠ row) (hM : ∀ j, j < k → (M j).ownBlock = none ∨ (M j).ownBlock ≠ row)
    (hlo : ∀ i, i < 2 → (R.V i).ownBlock = row → ∀ p, p < R.N i → w'.cell? ⟨R.G i, p, none⟩ = some (ins i)) : St2 R B gl H0 w0 k r M w' := by
  refine ⟨h.below.grown hg (Nat.le_trans h.sizeB h.size) hB, h.sizeB, Nat.le_trans h.size hg.size, h.glo, h.old, fun i hi => hg.cell (h.cell i hi) (fun e => hgl e.symm), h.apart, h.list, h.at', h.few, ?_, fun i h1 h2 => (h.row i h1 h2).kept hg (hr i h1 h2), ?_⟩
  · intro i hi p hp
    by_cases e : (R.V i).ownBlock = row
    · exact hlo i hi e p hp
    · refine hg.cell (h.lo i hi p hp) ?_
      have ha := h.at' i hi (by omega)
      intro e2
      exact e (by unfold Rows2.V; rw [ha]; exact e2)
  · intro j hj
    obtain ⟨g, c, e1, e2, e3, e4⟩ := h.grown j hj
    exact ⟨g, c, e1, e2, e3.kept hg (hM j hj), e4⟩
theorem row_ne {w : World} {B B' : Nat} {e e' : TypeId} {s s' n n' : Nat} {v v' : Value} {xs xs' : List Value} (h : w.ownsRow B e s v n xs) (h' : w.ownsRow B' e' s' v' n' xs') (he : e ≠ e') : v.ownBlock = none ∨ v.ownBlock ≠ v'.ownBlock := by
  rcases h.2 with ⟨rfl, _⟩ | ⟨g, c, cur, rfl, _, hg, _⟩
  · exact .inl rfl
  · rcases h'.2 with ⟨rfl, _⟩ | ⟨g', c', cur', rfl, _, hg', _⟩
    · right; simp [Value.ownBlock]
    · right
      simp only [Value.ownBlock, ne_eq, Option.some.injEq]
      intro e1
      subst e1
      rw [hg] at hg'
      simp at hg'
      exact he hg'.2
/-- What is known of the row that grows. -/
structure Gro (R : Rows2) (B gl : Nat) (k q : Nat) (M : Nat → Value) (m : Value) (w : World) : Prop where
  row : w.ownsRow B 3 1 m (R.N k + q) (R.marks k ++ List.replicate q (beh k))
  far : ∀ g, m.ownBlock = some g → g ≠ gl ∧ (∀ i, i < 2 → i ≠ k → (R.V i).ownBlock ≠ some g) ∧ ∀ j, j < k → (M j).ownBlock ≠ some g
theorem rebase {w : World} {B g n cap : Nat} {xs : List Value} (h : w.ownsRow 0 3 1 (.slice (some ⟨g, 0, none⟩) n cap) n xs) (hb : B ≤ g) : w.ownsRow B 3 1 (.slice (some ⟨g, 0, none⟩) n cap) n xs := by
  refine ⟨h.1, ?_⟩
  rcases h.2 with ⟨h1, _⟩ | ⟨g', c', cur, h1, _, h3⟩
  · simp at h1
  · simp only [Value.slice.injEq, Option.some.injEq, Addr.mk.injEq, and_true, true_and] at h1
    obtain ⟨rfl, rfl⟩ := h1
    exact .inr ⟨g, cap, cur, rfl, hb, h3⟩
theorem St2.alloc {R : Rows2} {B gl H0 : Nat} {w0 w : World} {k r : Nat} {M : Nat → Value} (h : St2 R B gl H0 w0 k r M w) (o : Obj) : St2 R B gl H0 w0 k r M (w.alloc o) := by
  refine h.keep (some w.heap.size) (World.grownBy_alloc w o _) ?_ ?_ ?_ ?_ ?_
  · intro g e; have := h.size; have := h.sizeB; simp at e; omega
  · have := h.glo; have := h.size; simp; omega
  · intro i _ hi; right; intro e; have := h.old i hi _ e; have := h.size; omega
  · intro j hj
    obtain ⟨g, c, e1, e2, e3, e4⟩ := h.grown j hj
    right; intro e; have := (e3.lt _ e).2; omega
  · intro i hi e; have := h.old i hi _ e; have := h.size; omega
theorem Gro.alloc {R : Rows2} {B gl k q : Nat} {M : Nat → Value} {m : Value} {w : World} (h : Gro R B gl k q M m w) (o : Obj) : Gro R B gl k q M m (w.alloc o) := ⟨h.row.alloc o, h.far⟩
/-- One number more behind. -/
theorem St2.step {R : Rows2} {B gl H0 : Nat} {w0 w w2 : World} {k q g cap : Nat} {M : Nat → Value} {m more : Value} (h : St2 R B gl H0 w0 k (k + 1) M w) (h2k : k < 2) (hG : Gro R B gl k q M m w) (hmore : w.ownsRow H0 97 1 more k ((List.range k).map M))
    (hg : w.grownBy w2 (some g)) (hown : w2.ownsRow 0 3 1 (.slice (some ⟨g, 0, none⟩) (R.N k + q + 1) cap) (R.N k + q + 1) (R.marks k ++ List.replicate q (beh k) ++ [beh k])) (hat : m.ownBlock = some g ∨ w.heap.size ≤ g) :
    St2 R B gl H0 w0 k (k + 1) M w2 ∧ Gro R B gl k (q + 1) M (.slice (some ⟨g, 0, none⟩) (R.N k + q + 1) cap) w2 ∧ w2.ownsRow H0 97 1 more k ((List.range k).map M) := by
  have hBg : B ≤ g := by
    rcases hat with e | e
    · exact (hG.row.lt g e).1
    · have := h.size; have := h.sizeB; omega
  have far : g ≠ gl ∧ (∀ i, i < 2 → i ≠ k → (R.V i).ownBlock ≠ some g) ∧ ∀ j, j < k → (M j).ownBlock ≠ some g := by
    rcases hat with e | e
    · exact hG.far g e
    · refine ⟨?_, ?_, ?_⟩
      · have := h.glo; have := h.size; omega
      · intro i hi _ e2; have := h.old i hi _ e2; have := h.size; omega
      · intro j hj e2
        obtain ⟨g1, c, e1, _, e3, _⟩ := h.grown j hj
        have := (e3.lt _ e2).2; omega
  have hcell : ∀ p, p < R.N k → w2.cell? ⟨g, p, none⟩ = some (ins k) := by
    intro p hp
    rw [hown.cellAt p (by omega), List.append_assoc, List.getElem?_append_left (by simp [Rows2.marks]; exact hp)]
    simp [Rows2.marks, hp]
  refine ⟨h.keep (some g) hg (by intro g' e; simp at e; omega) (by simp; exact far.1) (fun i h1 h2 => .inr (far.2.1 i h2 (by omega))) (fun j hj => .inr (far.2.2 j hj)) ?_, ⟨?_, ?_⟩, ?_⟩
  · intro i hi e p hp
    have hik : i = k := by
      rcases Nat.lt_trichotomy i k with h1 | h1 | h1
      · exact absurd e (far.2.1 i hi (by omega))
      · exact h1
      · exact absurd e (far.2.1 i hi (by omega))
    subst hik
    have ha := h.at' i hi (by omega)
    have hGg : R.G i = g := by
      unfold Rows2.V at e; rw [ha] at e; simpa [Value.ownBlock] using e
    rw [hGg]; exact hcell p hp
  · have := rebase (B := B) hown hBg
    rw [List.replicate_succ', ← List.append_assoc]
    exact this
  · intro g' e
    simp only [Value.ownBlock, Option.some.injEq] at e
    subst e; exact far
  · refine hmore.kept hg ?_
    rcases hat with e | e
    · rw [← e]; exact row_ne hmore hG.row (by decide)
    · right; intro e2; have := (hmore.lt _ e2).2; omega
/-- The grown row laid beside the others. -/
theorem St2.more {R : Rows2} {B gl H0 : Nat} {w0 w w2 : World} {k g gm cm cap : Nat} {M : Nat → Value} {more : Value} (h : St2 R B gl H0 w0 k (k + 1) M w) (h2k : k < 2) (hG : Gro R B gl k 64 M (.slice (some ⟨gm, 0, none⟩) (R.N k + 64) cm) w)
    (hmore : w.ownsRow H0 97 1 more k ((List.range k).map M)) (hg : w.grownBy w2 more.ownBlock) (hown : w2.ownsRow H0 97 1 (.slice (some ⟨g, 0, none⟩) (k + 1) cap) (k + 1) ((List.range k).map M ++ [.slice (some ⟨gm, 0, none⟩) (R.N k + 64) cm])) (hat : more.ownBlock = some g ∨ w.heap.size ≤ g) :
    St2 R B gl H0 w0 (k + 1) (k + 1) (fun j => if j = k then .slice (some ⟨gm, 0, none⟩) (R.N k + 64) cm else M j) w2 ∧ w2.ownsRow H0 97 1 (.slice (some ⟨g, 0, none⟩) (k + 1) cap) (k + 1) ((List.range (k + 1)).map fun j => if j = k then .slice (some ⟨gm, 0, none⟩) (R.N k + 64) cm else M j) := by
  have hne : ∀ i, i < 2 → (R.V i).ownBlock = none ∨ (R.V i).ownBlock ≠ more.ownBlock := by
    intro i hi
    rcases e : (R.V i).ownBlock with _ | x
    · exact .inl rfl
    · right
      intro e2
      have h1 := h.old i hi x e
      have h2 := (hmore.lt x e2.symm).1
      omega
  have hk2 : ∀ {g0 : Nat} {n0 c0 : Nat} {xs : List Value}, w.ownsRow B 3 1 (.slice (some ⟨g0, 0, none⟩) n0 c0) n0 xs → Value.ownBlock (.slice (some ⟨g0, 0, none⟩) n0 c0) = none ∨ Value.ownBlock (.slice (some ⟨g0, 0, none⟩) n0 c0) ≠ more.ownBlock := fun hr => row_ne hr hmore (by decide)
  have hst := h.keep more.ownBlock hg (fun x e => by have := (hmore.lt x e).1; have := h.sizeB; omega) (by intro e; have := (hmore.lt _ e).1; have := h.glo; omega) (fun i _ hi => hne i hi)
    (fun j hj => by obtain ⟨g1, c, e1, e2, e3, e4⟩ := h.grown j hj; exact row_ne e3 hmore (by decide))
    (fun i hi e p hp => by
      have ha := h.at' i hi (by omega)
      rcases hne i hi with e1 | e1
      · unfold Rows2.V at e1; rw [ha] at e1; simp [Value.ownBlock] at e1
      · exact absurd e e1)
  have hM2 : w2.ownsRow B 3 1 (.slice (some ⟨gm, 0, none⟩) (R.N k + 64) cm) (R.N k + 64) (R.marks k ++ List.replicate 64 (beh k)) := hG.row.kept hg (hk2 hG.row)
  obtain ⟨f1, f2, f3⟩ := hG.far gm rfl
  refine ⟨⟨hst.below, hst.sizeB, hst.size, hst.glo, hst.old, hst.cell, hst.apart, hst.list, hst.at', hst.few, hst.lo, hst.row, ?_⟩, ?_⟩
  · intro j hj
    by_cases e : j = k
    · subst e
      refine ⟨gm, cm, by rw [if_pos rfl], f1, by rw [if_pos rfl]; exact hM2, fun i hi hne2 => f2 i hi hne2, ?_⟩
      intro i hi hne2
      rw [if_neg hne2]; exact f3 i (by omega)
    · obtain ⟨g1, c, e1, e2, e3, e4, e5⟩ := hst.grown j (by omega)
      refine ⟨g1, c, by rw [if_neg e]; exact e1, e2, by rw [if_neg e]; exact e3, e4, ?_⟩
      intro i hi hne2
      by_cases e6 : i = k
      · rw [if_pos e6]
        intro e7
        simp only [Value.ownBlock, Option.some.injEq] at e7
        subst e7
        exact f3 j (by omega) (by rw [e1]; rfl)
      · rw [if_neg e6]; exact e5 i (by omega) hne2
  · rw [List.range_succ, List.map_append]
    have : (List.range k).map (fun j => if j = k then Value.slice (some ⟨gm, 0, none⟩) (R.N k + 64) cm else M j) = (List.range k).map M := by
      apply List.map_congr_left
      intro j hj
      rw [if_neg (by have := List.mem_range.1 hj; omega)]
    rw [this]
    simpa using hown
theorem i97 : ∃ i, Tryd.prog.info? 97 = some i ∧ i.zero = some (.slice none 0 0) ∧ i.size = 1 ∧ i.bytes = 24 := by
  have h : (Tryd.prog.info? 97).map (fun i => (i.zero, i.size, i.bytes)) = some (some (.slice none 0 0), 1, 24) := by kernel_rfl
  obtain ⟨i, hi, h⟩ := Option.map_eq_some_iff.1 h
  simp only [Prod.mk.injEq] at h
  exact ⟨i, hi, h.1, h.2.1, h.2.2⟩
/-- One list appended to the list of lists. -/
theorem app_more {ops : Array Oper} {rest : List Oper} {o : Oper} {a : Act} {Q : Exit → Act → World → Prop} {w : World} (hgd : o.guard = none) (s x : Operand)
    (ho : o.op = .call { callee := .builtin .append, args := #[s, x], argTypes := #[102, 102] }) (base : Nat) (v : Value) (n : Nat) (xs : List Value) (hs : a.eval s = v) (hown : w.ownsRow base 97 1 v n xs)
    (g0 : Nat) (ya : Option Addr) (yn yc : Nat) (hx : a.eval x = .slice (some ⟨g0, 0, none⟩) 1 1) (hc : w.cell? ⟨g0, 0, none⟩ = some (.slice ya yn yc)) (hn : n ≤ 1000000) (hbase : base ≤ w.heap.size)
    (h : ∀ g cap w', w'.ownsRow base 97 1 (.slice (some ⟨g, 0, none⟩) (n + 1) cap) (n + 1) (xs ++ [.slice ya yn yc]) → w.grownBy w' v.ownBlock → (v.ownBlock = some g ∨ g = w.heap.size) → g < w'.heap.size → wpList Tryd.prog ops Q rest (a.put o.dst (.slice (some ⟨g, 0, none⟩) (n + 1) cap)) w') :
    wpList Tryd.prog ops Q (o :: rest) a w := by
  obtain ⟨i, hi, hz, h1, h8⟩ := i97
  refine wpList_append_lies w hgd s x 102 ho base 97 i (.slice none 0 0) 1 24 Tryd.underlying102 hi hz h1 h8 rfl (by decide) v n xs hs hown ⟨g0, 0, none⟩ 1 1 [.slice ya yn yc] hx rfl ?_ ?_ (by decide) ?_ ?_ hbase _ rfl h
  · intro j u hj
    match j, hj with
    | 0, hj => simp at hj; subst hj; simpa [Addr.add] using hc
  · intro u hu; simp at hu; subst hu; rfl
  · unfold maxLen; omega
  · omega
set_option maxRecDepth 100000 in
set_option maxHeartbeats 8000000 in
theorem free_two (R : Rows2) (B gl : Nat) (X : Nat → List Value) (w : World) (h : St R B gl w X w) : Calls Tryd.prog 52 #[.slice (some ⟨gl, 0, none⟩) 2 2] w fun e w' => e = .returned (.bool true) ∧ Below B w w' := by
  have H := Lib.hid h
  clear h
  go_enter Tryd.func52, Tryd.ntmps52
  go_wp2_with fail
  go_loopw [3] (fun i wr => ∃ k : Nat, k ≤ 2 ∧ i = .int .i64 k ∧ ∃ X, St R B gl w X wr ∧ ∀ j, j < k → X j = R.marks j) (fun i _ => 3 - (intOf i).toNat)
  case atStart => exact ⟨0, by omega, rfl, X, H.out, by omega⟩
  case round =>
    obtain ⟨k, hk, rfl, X1, hs, hm⟩ := hrel
    have HS := Lib.hid hs
    have HM := Lib.hid hm
    clear hs hm
    by_cases h2 : k < 2
    · go_wp2_with fail
      go_loopw [4] (fun i wr => ∃ q : Nat, q ≤ R.N k ∧ i = .int .i64 q ∧ ∃ X, St R B gl w X wr ∧ (∀ j, j < k → X j = R.marks j) ∧ ∀ p, p < q → (X k)[p]? = some (ins k)) (fun i _ => 3 - (intOf i).toNat)
      case atStart => exact ⟨0, by omega, rfl, X1, HS.out, HM.out, by omega⟩
      case round =>
        obtain ⟨q, hq, rfl, X2, hs2, hm2, hi2⟩ := hrel
        clear HS HM
        have HS := Lib.hid hs2
        have HM := Lib.hid hm2
        have HI := Lib.hid hi2
        clear hs2 hm2 hi2
        have c1 := HS.out.cell k h2
        have z1 := HS.out.glt
        have hfew := HS.out.few k h2
        by_cases h4 : q < R.N k
        · obtain ⟨ha, hfz, hlt, v0, hv0⟩ := HS.out.at_ k h2 q h4
          go_wp2_with fail
          go_roundw
          case rel =>
            refine ⟨q + 1, by omega, by go_num, _, HS.out.put k h2 q h4 _, ?_, ?_⟩
            · intro j hj; rw [if_neg (by omega)]; exact HM.out j hj
            · intro p hp
              have hl := HS.out.len k h2
              rw [if_pos rfl]
              by_cases e : p = q
              · subst e; rw [List.getElem?_set_self (by omega)]; rfl
              · rw [List.getElem?_set_ne (by omega)]; exact HI.out p (by omega)
          case measure => simp [intOf]; omega
        · have h5 : q = R.N k := by omega
          go_wp2_with fail
          go_roundw
          case rel =>
            refine ⟨k + 1, by omega, by go_num, _, HS.out, ?_⟩
            intro j hj
            by_cases e : j = k
            · subst e; exact HS.out.marked j h2 (fun p hp => HI.out p (by omega))
            · exact HM.out j (by omega)
          case measure => simp [intOf]; omega
    · have h3 : k = 2 := by omega
      have hold : ∀ i, i < 2 → ∀ g, (R.V i).ownBlock = some g → g < wr.heap.size := fun i hi g hg => ((HS.out.row i hi).lt g hg).2
      have H2 := Lib.hid (show St2 R B gl wr.heap.size w 0 0 (fun _ => .bool false) wr from ⟨HS.out.below, HS.out.size, Nat.le_refl _, HS.out.glt, hold, HS.out.cell, HS.out.apart, HS.out.list, HS.out.at', HS.out.few, by
          intro i hi p hp
          obtain ⟨ha, _⟩ := HS.out.at_ i hi p hp
          have hr := HS.out.row i hi
          rw [ha, HM.out i (by omega)] at hr
          rw [hr.cellAt p (by omega)]; simp [Rows2.marks, hp], fun i _ hi => by rw [← HM.out i (by omega)]; exact HS.out.row i hi, by omega⟩)
      clear HS HM hold
      generalize wr.heap.size = H0 at *
      go_wp2_with fail
      clear hk h2 h3
      go_loopw [5, 6] (fun more i wr => ∃ k : Nat, k ≤ 2 ∧ i = .int .i64 k ∧ ∃ M, St2 R B gl H0 w k k M wr ∧ wr.ownsRow H0 97 1 more k ((List.range k).map M)) (fun _ i _ => 3 - (intOf i).toNat)
      case atStart => exact ⟨0, by omega, rfl, _, H2.out, World.ownsRow_nil _ _ _ _⟩
      case round =>
        obtain ⟨k, hk, rfl, M, hs, hmore⟩ := hrel
        clear H2
        have HS := Lib.hid hs
        have HM := Lib.hid hmore
        clear hs hmore
        by_cases h2 : k < 2
        · have c1 := HS.out.cell k h2
          have z1 : gl < wr.heap.size := Nat.lt_of_lt_of_le HS.out.glo HS.out.size
          have d2 : decide ((k : Int) < 2) = true := by simp; omega
          go_wp2_with fail
          clear d2
          go_loopw [7, 8] (fun m i wr => ∃ q : Nat, q ≤ 64 ∧ i = .int .i64 q ∧ St2 R B gl H0 w k (k + 1) M wr ∧ Gro R B gl k q M m wr ∧ wr.ownsRow H0 97 1 u5 k ((List.range k).map M)) (fun _ i _ => 65 - (intOf i).toNat)
          case atStart =>
            refine ⟨0, by omega, rfl, ?_, ⟨?_, ?_⟩, HM.out⟩
            · have h := HS.out
              exact ⟨h.below, h.sizeB, h.size, h.glo, h.old, h.cell, h.apart, h.list, h.at', h.few, h.lo, fun i h1 h2 => h.row i (by omega) h2, h.grown⟩
            · simpa using HS.out.row k (Nat.le_refl _) h2
            · intro g hg
              refine ⟨fun e => HS.out.list k h2 (by rw [← e]; exact hg), ?_, ?_⟩
              · intro i hi hne e
                rcases HS.out.apart i k hi h2 hne with e2 | e2
                · rw [e2] at e; simp at e
                · exact e2 (e.trans hg.symm)
              · intro j hj e
                obtain ⟨g1, c, e1, _, _, e4, _⟩ := HS.out.grown j hj
                rw [e1] at e
                simp only [Value.ownBlock, Option.some.injEq] at e
                subst e
                exact e4 k h2 (by omega) hg
          case round =>
            obtain ⟨q, hq, rfl, hs, hgro, hmore⟩ := hrel
            clear HS HM c1 z1
            have HS := Lib.hid hs
            have HG := Lib.hid hgro
            have HM := Lib.hid hmore
            clear hs hgro hmore
            have hfew := HS.out.few k h2
            by_cases h4 : q < 64
            · go_wp2_with (first | (at_builtin; refine app_keep rfl _ _ rfl _ _ _ rfl ((HG.out.row.alloc _).mono (Nat.zero_le _)) _ (2305843009213693953 + 2 * (k : Int)) rfl (by simp [go_sem]) (by omega) ?_) | fail)
              intro g cap w2 hown hg hat hlt
              have ST := Lib.hid ((HS.out.alloc _).step h2 (HG.out.alloc _) (HM.out.alloc _) hg (by rw [List.append_assoc]; exact hown) (by simpa using hat))
              clear hg hat hlt hown HS HG HM
              go_wp2_with fail
              go_roundw
              case rel => exact ⟨q + 1, by omega, by go_num, ST.out⟩
              case measure => simp [intOf]; omega
            · have h5 : q = 64 := by omega
              subst h5
              obtain ⟨gm, cm, rfl, _, hgm⟩ := HG.out.row.form (by omega)
              go_wp2_with (first | (at_builtin; refine app_more rfl _ _ rfl H0 _ _ _ rfl (HM.out.alloc _) _ (some ⟨gm, 0, none⟩) (R.N k + 64) cm rfl (by simp [go_sem]) (by omega) (by have := HS.out.size; simp; omega) ?_) | fail)
              intro g cap w2 hown hg hat hlt
              have ST := Lib.hid ((HS.out.alloc (.cells #[.slice (some ⟨gm, 0, none⟩) (R.N k + 64) cm] 97)).more h2 (HG.out.alloc _) (HM.out.alloc _) hg hown (hat.imp id (fun e => by simp; omega)))
              clear hg hat hlt hown HS HG HM
              go_wp2_with fail
              go_roundw
              case rel => exact ⟨k + 1, by omega, by go_num, _, ST.out⟩
              case measure => simp [intOf]; omega
        · have h3 : k = 2 := by omega
          have hform : ∃ gM cM, u5 = .slice (some ⟨gM, 0, none⟩) k cM ∧ gM < wr.heap.size := by
            obtain ⟨g, c, e1, _, e2⟩ := HM.out.form (by omega)
            exact ⟨g, c, e1, e2⟩
          obtain ⟨gM, cM, rfl, hgM⟩ := hform
          subst h3
          have H3 := Lib.hid (⟨HS.out, HM.out⟩ : St2 R B gl H0 w 2 2 M wr ∧ _)
          have c0 := Lib.hid (show ∀ i, i < 2 → wr.cell? ⟨gM, i, none⟩ = some (M i) from fun i hi => by rw [HM.out.cellAt i (by omega)]; simp [hi])
          clear HS HM
          go_wp2_with fail
          clear hk h2
          simp only [show ((2 : Nat) : Int) = (2 : Int) from rfl]
          generalize hwr : wr = W at *
          clear hwr
          go_loopw [9] (fun i wq => ∃ k : Nat, k ≤ 2 ∧ i = .int .i64 k ∧ Below W.heap.size W wq) (fun i _ => 3 - (intOf i).toNat)
          case atStart => exact ⟨0, by omega, rfl, Below.refl _ _⟩
          case round =>
            obtain ⟨k, hk, rfl, hb⟩ := hrel
            have HB := Lib.hid hb
            clear hb
            by_cases h2 : k < 2
            · have cl : wr.cell? ⟨gl, k, none⟩ = some (.slice (R.A k) (R.N k) (R.C k)) := by
                have h := H3.out.1.cell k h2
                rw [(bcell HB.out).1 _ _ (World.block_lt_of_cell? _ _ h)]; exact h
              have z1 := World.block_lt_of_cell? _ _ cl
              have d2 : decide ((k : Int) < 2) = true := by simp; omega
              go_wp2_with fail
              clear d2
              go_loopw [11] (fun i wq => ∃ q : Nat, q ≤ R.N k ∧ i = .int .i64 q ∧ Below W.heap.size W wq) (fun i _ => 3 - (intOf i).toNat)
              case atStart => exact ⟨0, by omega, rfl, HB.out⟩
              case round =>
                obtain ⟨q, hq, rfl, hb⟩ := hrel
                clear HB cl z1
                have HB := Lib.hid hb
                clear hb
                have hfew := H3.out.1.few k h2
                have cl : wr.cell? ⟨gl, k, none⟩ = some (.slice (R.A k) (R.N k) (R.C k)) := by
                  have h := H3.out.1.cell k h2
                  rw [(bcell HB.out).1 _ _ (World.block_lt_of_cell? _ _ h)]; exact h
                have z1 := World.block_lt_of_cell? _ _ cl
                by_cases h4 : q < R.N k
                · have ha := H3.out.1.at' k h2 (by omega)
                  have cv : wr.cell? ⟨R.G k, q, none⟩ = some (.int .i64 (4611686018427387905 + 2 * (k : Int))) := by
                    have h := H3.out.1.lo k h2 q h4
                    rw [(bcell HB.out).1 _ _ (World.block_lt_of_cell? _ _ h)]; exact h
                  have z2 := World.block_lt_of_cell? _ _ cv
                  go_wp2
                  repeat (go_quiet (fail); try go_wp2)
                  go_roundw
                  case rel => exact ⟨q + 1, by omega, by go_num, HB.out⟩
                  case measure => simp [intOf]; omega
                · have h5 : q = R.N k := by omega
                  obtain ⟨g, c, e1, _, e3, _⟩ := H3.out.1.grown k h2
                  rw [e1] at e3
                  have E3 := Lib.hid e3
                  have cM0 := Lib.hid (show W.cell? ⟨gM, k, none⟩ = some (.slice (some ⟨g, 0, none⟩) (R.N k + 64) c) by rw [← e1]; exact c0.out k h2)
                  clear e1 e3
                  go_wp2_with fail
                  go_loopw [12] (fun i wq => ∃ q : Nat, q ≤ 64 ∧ i = .int .i64 q ∧ Below W.heap.size W wq) (fun i _ => 65 - (intOf i).toNat)
                  case atStart => exact ⟨0, by omega, rfl, HB.out⟩
                  case round =>
                    clear cl z1 h5 hq HB
                    obtain ⟨q, hq, rfl, hb⟩ := hrel
                    have HB := Lib.hid hb
                    clear hb
                    by_cases h4 : q < 64
                    · have cm : wr.cell? ⟨gM, k, none⟩ = some (.slice (some ⟨g, 0, none⟩) (R.N k + 64) c) := by
                        rw [(bcell HB.out).1 _ _ hgM]; exact cM0.out
                      have z3 := World.block_lt_of_cell? _ _ cm
                      have cv : wr.cell? ⟨g, R.N k + q, none⟩ = some (.int .i64 (2305843009213693953 + 2 * (k : Int))) := by
                        have h : W.cell? ⟨g, R.N k + q, none⟩ = some (.int .i64 (2305843009213693953 + 2 * (k : Int))) := by
                          rw [E3.out.cellAt _ (by omega), List.getElem?_append_right (by simp [Rows2.marks]), List.getElem?_replicate, if_pos (by simp [Rows2.marks]; omega)]
                          rfl
                        rw [(bcell HB.out).1 _ _ (World.block_lt_of_cell? _ _ h)]; exact h
                      have z4 := World.block_lt_of_cell? _ _ cv
                      go_wp2
                      repeat (go_quiet (fail); try go_wp2)
                      go_roundw
                      case rel => exact ⟨q + 1, by omega, by go_num, HB.out⟩
                      case measure => simp [intOf]; omega
                    · have h6 : q = 64 := by omega
                      go_wp2_with fail
                      go_roundw
                      case rel => exact ⟨k + 1, by omega, by go_num, HB.out⟩
                      case measure => simp [intOf]; omega
            · have h3 : k = 2 := by omega
              go_wp2_with fail
              go_ret
              exact ⟨rfl, H3.out.1.below.trans (HB.out.mono (by have := H3.out.1.size; have := H3.out.1.sizeB; omega))⟩
end Go.Proofs.YtgjiojcdifjhcaaDoor
