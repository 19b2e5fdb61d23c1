/- New lists of segments: rows of the call's own. By an AI agent. -/
import Derived.Test.YtdklggmeigogcaaDoorHeadNo
import Derived.Deep.RegionLaw
set_option linter.unusedVariables false
set_option linter.unusedSimpArgs false
namespace Go.Proofs.YtdklggmeigogcaaDoor
open Go.RowKit
def segVals (s : PSeg) (d : Value) : List Value := [.int .u64 (s.va : Int), .int .u32 (s.fl : Int), d, .int .u64 (s.mem : Int)]
def segRow : List PSeg → List Value → List Value
  | s :: l, d :: ds => segVals s d ++ segRow l ds
  | _, _ => []
theorem segRow_app : ∀ (l : List PSeg) (ds : List Value) (s : PSeg) (d : Value), ds.length = l.length → segRow (l ++ [s]) (ds ++ [d]) = segRow l ds ++ segVals s d
  | [], [], s, d, _ => by simp [segRow]
  | x :: l, y :: ds, s, d, h => by
    simp only [List.cons_append, segRow, List.append_assoc]
    rw [segRow_app l ds s d (by simpa using h)]
  | [], _ :: _, _, _, h => by simp at h
  | _ :: _, [], _, _, h => by simp at h
theorem segRow_length : ∀ (l : List PSeg) (ds : List Value), ds.length = l.length → (segRow l ds).length = l.length * 4
  | [], [], _ => rfl
  | x :: l, y :: ds, h => by
    simp only [segRow, segVals, List.length_append, List.length_cons, List.length_nil]
    rw [segRow_length l ds (by simpa using h)]; omega
  | [], _ :: _, h => by simp at h
  | _ :: _, [], h => by simp at h
theorem segRow_at : ∀ (l : List PSeg) (ds : List Value) (i j : Nat), ds.length = l.length → i < l.length → j < 4 → (segRow l ds)[i * 4 + j]? = (segVals (l.getD i PSeg.z) (ds.getD i undef))[j]?
  | x :: l, y :: ds, 0, j, h, hi, hj => by
    rw [segRow, List.getElem?_append_left (by simp [segVals]; omega)]
    simp
  | x :: l, y :: ds, i + 1, j, h, hi, hj => by
    rw [segRow, List.getElem?_append_right (by simp [segVals]; omega)]
    have e : (i + 1) * 4 + j - (segVals x y).length = i * 4 + j := by simp [segVals]; omega
    rw [e, segRow_at l ds i j (by simpa using h) (by simpa using hi) hj]
    simp
  | [], [], i, _, _, hi, _ => by simp at hi
  | [], _ :: _, _, _, h, _, _ => by simp at h
  | _ :: _, [], _, _, h, _, _ => by simp at h
/-- A new list of segments: its row, each segment's bytes a row of their own, none shared. -/
def SegsOwn (w : World) (B : Nat) (v : Value) (l : List PSeg) : Prop :=
  ∃ ds : List Value, ds.length = l.length ∧ w.ownsRow B 55 4 v l.length (segRow l ds) ∧ (∀ i, i < l.length → OwnB w B (ds.getD i undef) (l.getD i PSeg.z).dat) ∧
    ∀ i j, i < j → j < ds.length → (ds.getD i undef).ownBlock = none ∨ (ds.getD i undef).ownBlock ≠ (ds.getD j undef).ownBlock
theorem SegsOwn.nil (w : World) (B : Nat) : SegsOwn w B (.slice none 0 0) [] := ⟨[], rfl, World.ownsRow_nil _ _ _ _, fun i hi => by simp at hi, fun i j _ hj => by simp at hj⟩
theorem OwnB.kept {w w' : World} {B : Nat} {v : Value} {L : List Nat} {row : Option Nat} (h : OwnB w B v L) (hg : w.grownBy w' row) (hne : v.ownBlock = none ∨ v.ownBlock ≠ row) : OwnB w' B v L := World.ownsRow.kept h hg hne
theorem SegsOwn.keep {w w' : World} {B : Nat} {v : Value} {l : List PSeg} (h : SegsOwn w B v l) (hb : Below w.heap.size w w') : SegsOwn w' B v l := by
  obtain ⟨ds, h1, h2, h3, h4⟩ := h
  exact ⟨ds, h1, h2.kept (grown_of_below hb none) (by cases hx : v.ownBlock with | none => exact .inl rfl | some g => exact .inr (by simp)), fun i hi => (h3 i hi).kept (grown_of_below hb none) (by cases hx : (ds.getD i undef).ownBlock with | none => exact .inl rfl | some g => exact .inr (by simp)), h4⟩
/-- No block of an elder list is written: a store elsewhere. -/
theorem SegsOwn.far {w w' : World} {B : Nat} {v : Value} {l : List PSeg} {q : Nat} (h : SegsOwn w B v l) (hg : w.grownBy w' (some q)) (hq : q < B) : SegsOwn w' B v l := by
  obtain ⟨ds, h1, h2, h3, h4⟩ := h
  refine ⟨ds, h1, h2.kept hg (.inr fun e => ?_), fun i hi => (h3 i hi).kept hg (.inr fun e => ?_), h4⟩
  · have := (h2.lt q e).1; omega
  · have := ((h3 i hi).lt q e).1; omega
theorem SegsOwn.mono {w : World} {B B' : Nat} {v : Value} {l : List PSeg} (h : SegsOwn w B v l) (hB : B' ≤ B) : SegsOwn w B' v l := by
  obtain ⟨ds, h1, h2, h3, h4⟩ := h
  exact ⟨ds, h1, h2.mono hB, fun i hi => World.ownsRow.mono (h3 i hi) hB, h4⟩
theorem OwnB.form {w : World} {B : Nat} {v : Value} {L : List Nat} (h : OwnB w B v L) : ∃ A c, v = .slice A L.length c ∧ Byt w w.heap.size A L := by
  rcases Nat.eq_zero_or_pos L.length with h0 | h0
  · have hL : L = [] := List.length_eq_zero_iff.1 h0
    subst hL
    rcases h.2 with ⟨h1, _⟩ | ⟨g, cap, cur, h1, _⟩
    · exact ⟨none, 0, h1, Byt.nil _ _ _⟩
    · exact ⟨_, cap, h1, Byt.nil _ _ _⟩
  · obtain ⟨g, c, rfl, _, _⟩ := World.ownsRow.form h h0
    exact ⟨_, c, rfl, (Byt.of_own h).1⟩
/-- What is owned can be read. -/
theorem SegsOwn.at_ {w : World} {B : Nat} {A : Option Addr} {n c : Nat} {l : List PSeg} (h : SegsOwn w B (.slice A n c) l) : n = l.length ∧ SegsAt w w.heap.size A l := by
  obtain ⟨ds, h1, h2, h3, h4⟩ := h
  have hn : n = l.length := by
    rcases h2.2 with ⟨h, h0⟩ | ⟨g, cap, cur, h, _⟩
    · injection h with _ h5 _; omega
    · injection h
  refine ⟨hn, fun h0 => ?_⟩
  obtain ⟨g, cap, hv, _, hlt⟩ := h2.form h0
  have hA : A = some ⟨g, 0, none⟩ := by injection hv
  subst hA
  have h2' : w.ownsRow B 55 4 (.slice (some ⟨g, 0, none⟩) l.length cap) l.length (segRow l ds) := by rw [← hv]; exact h2
  have hd : ∀ i, ∃ (D : Option Addr) (C : Nat), i < l.length → ds.getD i undef = .slice D (l.getD i PSeg.z).dat.length C ∧ Byt w w.heap.size D (l.getD i PSeg.z).dat := by
    intro i
    by_cases hi : i < l.length
    · obtain ⟨D, C, h5, h6⟩ := (h3 i hi).form
      exact ⟨D, C, fun _ => ⟨h5, h6⟩⟩
    · exact ⟨none, 0, fun h => absurd h hi⟩
  refine ⟨g, 0, fun i => (hd i).choose, fun i => (hd i).choose_spec.choose, rfl, hlt, fun i hi => ?_⟩
  obtain ⟨e1, e2⟩ := (hd i).choose_spec.choose_spec hi
  have key : ∀ j, j < 4 → w.cell? ⟨g, 0 + i * 4 + j, none⟩ = (segVals (l.getD i PSeg.z) (ds.getD i undef))[j]? := fun j hj => by
    rw [Nat.zero_add, h2'.cellAt _ (by omega)]; exact segRow_at l ds i j h1 hi hj
  refine ⟨key 0 (by decide), key 1 (by decide), ?_, key 3 (by decide), e2⟩
  rw [key 2 (by decide)]
  rw [← e1]; rfl
theorem iSeg : ∃ i, Tryd.prog.info? 55 = some i ∧ i.zero = some (.agg #[.int .u64 0, .int .u32 0, .slice none 0 0, .int .u64 0]) ∧ i.size = 4 ∧ i.bytes = 48 := by
  have h : (Tryd.prog.info? 55).map (fun i => (i.zero, i.size, i.bytes)) = some (some (.agg #[.int .u64 0, .int .u32 0, .slice none 0 0, .int .u64 0]), 4, 48) := by kernel_rfl
  obtain ⟨i, hi, h⟩ := Option.map_eq_some_iff.1 h
  simp only [Prod.mk.injEq] at h
  exact ⟨i, hi, h.1, h.2.1, h.2.2⟩
theorem own_ne {w : World} {B B' : Nat} {e e' : TypeId} {s s' n n' : Nat} {v v' : Value} {xs xs' : List Value} (h : w.ownsRow B e s v n xs) (h' : w.ownsRow B' e' s' v' n' xs') (he : e ≠ e') : v.ownBlock = none ∨ v.ownBlock ≠ v'.ownBlock := by
  rcases h.2 with ⟨rfl, _⟩ | ⟨g, c, cur, rfl, _, hg, _⟩
  · exact .inl rfl
  · rcases h'.2 with ⟨rfl, _⟩ | ⟨g', c', cur', rfl, _, hg', _⟩
    · right; simp [Value.ownBlock]
    · right
      simp only [Value.ownBlock, ne_eq, Option.some.injEq]
      intro e1
      subst e1
      rw [hg] at hg'
      simp at hg'
      exact he hg'.2
/-- One segment appended to a new list: its own row grows, or moves. -/
theorem app_seg {ops : Array Oper} {rest : List Oper} {o : Oper} {a : Act} {Q : Exit → Act → World → Prop} {w : World} (hgd : o.guard = none) (s x : Operand)
    (ho : o.op = .call { callee := .builtin .append, args := #[s, x], argTypes := #[25, 25] }) (B : Nat) (v : Value) (l : List PSeg) (hs : a.eval s = v) (w0 : World) (hown : SegsOwn w0 B v l)
    (g0 : Nat) (y : PSeg) (d : Value) (hx : a.eval x = .slice (some ⟨g0, 0, none⟩) 1 1) (hc : ∀ j u, (segVals y d)[j]? = some u → w.cell? ⟨g0, j, none⟩ = some u) (hd : OwnB w B d y.dat) (hone : d.oneCell' = true)
    (hnew : ∀ g, d.ownBlock = some g → w0.heap.size ≤ g) (hb : Below w0.heap.size w0 w)
    (hn : l.length ≤ 1000000) (hbase : B ≤ w.heap.size)
    (h : ∀ v' w', SegsOwn w' B v' (l ++ [y]) → (∃ g cap, v' = .slice (some ⟨g, 0, none⟩) (l.length + 1) cap) → w.grownBy w' v.ownBlock → wpList Tryd.prog ops Q rest (a.put o.dst v') w') :
    wpList Tryd.prog ops Q (o :: rest) a w := by
  obtain ⟨i, hi, hz, h1, h8⟩ := iSeg
  obtain ⟨ds, e1, f2, f3, e4⟩ := hown
  have hnn : ∀ o : Option Nat, o = none ∨ o ≠ none := fun o => by cases o with | none => exact .inl rfl | some g => exact .inr (by simp)
  have e2 := f2.kept (grown_of_below hb none) (hnn _)
  have e3 : ∀ i, i < l.length → OwnB w B (ds.getD i undef) (l.getD i PSeg.z).dat := fun i hi => (f3 i hi).kept (grown_of_below hb none) (hnn _)
  have hfar' : ∀ i, i < l.length → (ds.getD i undef).ownBlock = none ∨ (ds.getD i undef).ownBlock ≠ d.ownBlock := fun i hi => by
    cases hx : (ds.getD i undef).ownBlock with
    | none => exact .inl rfl
    | some g =>
      refine .inr fun e => ?_
      have h5 := ((f3 i hi).lt g hx).2
      have h6 := hnew g e.symm
      omega
  have hdn : d.ownBlock = none ∨ d.ownBlock ≠ v.ownBlock := own_ne hd e2 (by decide)
  refine wpList_append_lies w hgd s x 25 ho B 55 i (.agg #[.int .u64 0, .int .u32 0, .slice none 0 0, .int .u64 0]) 4 48 Tryd.underlying25 hi hz h1 h8 rfl (by decide) v l.length _ hs e2 ⟨g0, 0, none⟩ 1 1 (segVals y d) hx rfl ?_ ?_ (by decide) ?_ ?_ hbase _ rfl ?_
  · intro j u hj
    have e : Addr.add ⟨g0, 0, none⟩ j = ⟨g0, j, none⟩ := by unfold Addr.add; split <;> simp_all
    rw [e]; exact hc j u hj
  · intro u hu
    simp only [segVals, List.mem_cons, List.not_mem_nil, or_false] at hu
    rcases hu with rfl | rfl | rfl | rfl
    · rfl
    · rfl
    · exact hone
    · rfl
  · unfold maxLen; omega
  · omega
  · intro g cap w' ho' hg hat hlt
    refine h _ w' ⟨ds ++ [d], by simp [e1], ?_, ?_, ?_⟩ ⟨g, cap, rfl⟩ hg
    · rw [segRow_app l ds y d e1]; simpa using ho'
    · intro j hj
      simp only [List.length_append, List.length_singleton] at hj
      by_cases hjl : j < l.length
      · have hk := (e3 j hjl).kept hg (own_ne (e3 j hjl) e2 (by decide))
        have ea : (ds ++ [d]).getD j undef = ds.getD j undef := by simp [List.getElem?_append_left (by omega : j < ds.length)]
        have eb : (l ++ [y]).getD j PSeg.z = l.getD j PSeg.z := by simp [List.getElem?_append_left hjl]
        rw [ea, eb]; exact hk
      · have ej : j = l.length := by omega
        subst ej
        have hk := hd.kept hg hdn
        have ea : (ds ++ [d]).getD l.length undef = d := by rw [← e1]; simp
        have eb : (l ++ [y]).getD l.length PSeg.z = y := by simp
        rw [ea, eb]; exact hk
    · intro i j hij hj
      simp only [List.length_append, List.length_singleton] at hj
      have ea : (ds ++ [d]).getD i undef = ds.getD i undef := by simp [List.getElem?_append_left (by omega : i < ds.length)]
      by_cases hjl : j < ds.length
      · have eb : (ds ++ [d]).getD j undef = ds.getD j undef := by simp [List.getElem?_append_left hjl]
        rw [ea, eb]; exact e4 i j hij hjl
      · have ej : j = ds.length := by omega
        subst ej
        have eb : (ds ++ [d]).getD ds.length undef = d := by simp
        rw [ea, eb]; exact hfar' i (by omega)
/-- One segment appended, at a step of a region that draws its order. -/
theorem step_seg {ops : Array Oper} {o : Oper} {a : Act} {K : Act → World → Prop} {Q : Exit → Act → World → Prop} {E : Prop} {w : World} (hgd : o.guard = none) (s x : Operand)
    (ho : o.op = .call { callee := .builtin .append, args := #[s, x], argTypes := #[25, 25] }) (B : Nat) (v : Value) (l : List PSeg) (hs : a.eval s = v) (w0 : World) (hown : SegsOwn w0 B v l)
    (g0 : Nat) (y : PSeg) (d : Value) (hx : a.eval x = .slice (some ⟨g0, 0, none⟩) 1 1) (hc : ∀ j u, (segVals y d)[j]? = some u → w.cell? ⟨g0, j, none⟩ = some u) (hd : OwnB w B d y.dat) (hone : d.oneCell' = true)
    (hnew : ∀ g, d.ownBlock = some g → w0.heap.size ≤ g) (hb : Below w0.heap.size w0 w)
    (hn : l.length ≤ 1000000) (hbase : B ≤ w.heap.size)
    (h : ∀ v' w', SegsOwn w' B v' (l ++ [y]) → (∃ g cap, v' = .slice (some ⟨g, 0, none⟩) (l.length + 1) cap) → w.grownBy w' v.ownBlock → K (a.put o.dst v') w') :
    if Region.wanted o (yielded ops a.tmps) = true then Oper.wp Tryd.prog o a w K Q else E := by
  obtain ⟨i, hi, hz, h1, h8⟩ := iSeg
  obtain ⟨ds, e1, f2, f3, e4⟩ := hown
  have hnn : ∀ o : Option Nat, o = none ∨ o ≠ none := fun o => by cases o with | none => exact .inl rfl | some g => exact .inr (by simp)
  have e2 := f2.kept (grown_of_below hb none) (hnn _)
  have e3 : ∀ i, i < l.length → OwnB w B (ds.getD i undef) (l.getD i PSeg.z).dat := fun i hi => (f3 i hi).kept (grown_of_below hb none) (hnn _)
  have hfar' : ∀ i, i < l.length → (ds.getD i undef).ownBlock = none ∨ (ds.getD i undef).ownBlock ≠ d.ownBlock := fun i hi => by
    cases hx : (ds.getD i undef).ownBlock with
    | none => exact .inl rfl
    | some g =>
      refine .inr fun e => ?_
      have h5 := ((f3 i hi).lt g hx).2
      have h6 := hnew g e.symm
      omega
  have hdn : d.ownBlock = none ∨ d.ownBlock ≠ v.ownBlock := own_ne hd e2 (by decide)
  refine step_append_lies w hgd s x 25 ho B 55 i (.agg #[.int .u64 0, .int .u32 0, .slice none 0 0, .int .u64 0]) 4 48 Tryd.underlying25 hi hz h1 h8 rfl (by decide) v l.length _ hs e2 ⟨g0, 0, none⟩ 1 1 (segVals y d) hx rfl ?_ ?_ (by decide) ?_ ?_ hbase _ rfl ?_
  · intro j u hj
    have e : Addr.add ⟨g0, 0, none⟩ j = ⟨g0, j, none⟩ := by unfold Addr.add; split <;> simp_all
    rw [e]; exact hc j u hj
  · intro u hu
    simp only [segVals, List.mem_cons, List.not_mem_nil, or_false] at hu
    rcases hu with rfl | rfl | rfl | rfl
    · rfl
    · rfl
    · exact hone
    · rfl
  · unfold maxLen; omega
  · omega
  · intro g cap w' ho' hg hat hlt
    refine h _ w' ⟨ds ++ [d], by simp [e1], ?_, ?_, ?_⟩ ⟨g, cap, rfl⟩ hg
    · rw [segRow_app l ds y d e1]; simpa using ho'
    · intro j hj
      simp only [List.length_append, List.length_singleton] at hj
      by_cases hjl : j < l.length
      · have hk := (e3 j hjl).kept hg (own_ne (e3 j hjl) e2 (by decide))
        have ea : (ds ++ [d]).getD j undef = ds.getD j undef := by simp [List.getElem?_append_left (by omega : j < ds.length)]
        have eb : (l ++ [y]).getD j PSeg.z = l.getD j PSeg.z := by simp [List.getElem?_append_left hjl]
        rw [ea, eb]; exact hk
      · have ej : j = l.length := by omega
        subst ej
        have hk := hd.kept hg hdn
        have ea : (ds ++ [d]).getD l.length undef = d := by rw [← e1]; simp
        have eb : (l ++ [y]).getD l.length PSeg.z = y := by simp
        rw [ea, eb]; exact hk
    · intro i j hij hj
      simp only [List.length_append, List.length_singleton] at hj
      have ea : (ds ++ [d]).getD i undef = ds.getD i undef := by simp [List.getElem?_append_left (by omega : i < ds.length)]
      by_cases hjl : j < ds.length
      · have eb : (ds ++ [d]).getD j undef = ds.getD j undef := by simp [List.getElem?_append_left hjl]
        rw [ea, eb]; exact e4 i j hij hjl
      · have ej : j = ds.length := by omega
        subst ej
        have eb : (ds ++ [d]).getD ds.length undef = d := by simp
        rw [ea, eb]; exact hfar' i (by omega)
/-- One byte appended, at a step of a region that draws its order. -/
theorem step_byte {ops : Array Oper} {o : Oper} {a : Act} {K : Act → World → Prop} {Q : Exit → Act → World → Prop} {E : Prop} {w : World} (hgd : o.guard = none) (s x : Operand)
    (ho : o.op = .call { callee := .builtin .append, args := #[s, x], argTypes := #[22, 22] }) (base : Nat) (v : Value) (n : Nat) (L : List Nat) (hs : a.eval s = v) (hown : w.ownsRow base 5 1 v n (L.map byteV))
    (g0 : Nat) (y : Nat) (hx : a.eval x = .slice (some ⟨g0, 0, none⟩) 1 1) (hc : w.cell? ⟨g0, 0, none⟩ = some (.int .u8 (y : Int))) (hn : n ≤ 1099511627776) (hbase : base ≤ w.heap.size)
    (h : ∀ g cap w', w'.ownsRow base 5 1 (.slice (some ⟨g, 0, none⟩) (n + 1) cap) (n + 1) ((L ++ [y]).map byteV) → w.grownBy w' v.ownBlock → g < w'.heap.size → K (a.put o.dst (.slice (some ⟨g, 0, none⟩) (n + 1) cap)) w') :
    if Region.wanted o (yielded ops a.tmps) = true then Oper.wp Tryd.prog o a w K Q else E := by
  obtain ⟨i, hi, hz, h1, h8⟩ := iU8
  refine step_append_lies w hgd s x 22 ho base 5 i (.int .u8 0) 1 1 Tryd.underlying22 hi hz h1 h8 rfl (by decide) v n _ hs hown ⟨g0, 0, none⟩ 1 1 [byteV y] hx rfl ?_ ?_ (by decide) ?_ ?_ hbase _ rfl (fun g cap w' e1 e2 _ e4 => h g cap w' (by simpa using e1) e2 e4)
  · intro j u hj
    match j, hj with
    | 0, hj => simp at hj; subst hj; simpa [Addr.add, byteV] using hc
  · intro u hu; simp at hu; subst hu; rfl
  · unfold maxLen; omega
  · omega
theorem cells4 {w : World} {g : Nat} {s : PSeg} {d : Value} (h0 : w.cell? ⟨g, 0, none⟩ = some (.int .u64 (s.va : Int))) (h1 : w.cell? ⟨g, 1, none⟩ = some (.int .u32 (s.fl : Int))) (h2 : w.cell? ⟨g, 2, none⟩ = some d) (h3 : w.cell? ⟨g, 3, none⟩ = some (.int .u64 (s.mem : Int))) :
    ∀ j u, (segVals s d)[j]? = some u → w.cell? ⟨g, j, none⟩ = some u := by
  intro j u hu
  match j, hu with
  | 0, hu => simp [segVals] at hu; subst hu; exact h0
  | 1, hu => simp [segVals] at hu; subst hu; exact h1
  | 2, hu => simp [segVals] at hu; subst hu; exact h2
  | 3, hu => simp [segVals] at hu; subst hu; exact h3
theorem OwnB.alloc {w : World} {B : Nat} {v : Value} {L : List Nat} (h : OwnB w B v L) (o : Obj) : OwnB (w.alloc o) B v L := World.ownsRow.alloc h o
theorem OwnB.one {w : World} {B : Nat} {v : Value} {L : List Nat} (h : OwnB w B v L) : v.oneCell' = true := by
  obtain ⟨dA, dc, hd, _⟩ := h.form; rw [hd]; rfl
theorem OwnB.mono {w : World} {B B' : Nat} {v : Value} {L : List Nat} (h : OwnB w B v L) (hB : B' ≤ B) : OwnB w B' v L := World.ownsRow.mono h hB
end Go.Proofs.YtdklggmeigogcaaDoor
