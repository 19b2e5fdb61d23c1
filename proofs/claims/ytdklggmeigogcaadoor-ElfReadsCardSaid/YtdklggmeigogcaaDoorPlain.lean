/- A plain datum (numbers, Booleans, strings, in arrays and structs) says its cells: whatever reads as it holds its leaves, in order. Of no program. By an AI agent. -/
import Derived.DeepKeys2
import Derived.LaidLaws
import Derived.OpenShut
import Derived.ChangeArms
namespace Go.Proofs.YtdklggmeigogcaaDoor.Plain
open Go
set_option linter.unusedVariables false
variable {H : Type}
mutual
def leaves : DataW H → List Value
  | .lit l => [l.toCell]
  | .agg ps => leavesAll ps
  | _ => []
def leavesAll : List (DataW H) → List Value
  | [] => []
  | d :: r => leaves d ++ leavesAll r
end
theorem leavesAll_flatten : ∀ l : List (DataW H), leavesAll l = (l.map leaves).flatten
  | [] => rfl
  | d :: r => by rw [leavesAll, leavesAll_flatten r]; rfl
variable {P : Program} {enc : TypeId × Value → H} {w : World} {base : Nat} {sp : Nat → Bool} {held : Bool}
theorem parts_flatten {α : Type} {f : α → Option (DataW H × List MemPlace)} {ch : α → List Value} : ∀ {L : List α} {xs : List (DataW H × List MemPlace)}, L.mapM f = some xs →
    (∀ a ∈ L, ∀ x, f a = some x → ch a = leaves x.1) → (L.map ch).flatten = leavesAll (xs.map (·.1))
  | [], xs, h, _ => by
    simp at h
    subst h
    rfl
  | a :: L, xs, h, hall => by
    rw [List.mapM_cons] at h
    simp only [bind, Option.bind_eq_some_iff, pure, Option.some.injEq] at h
    obtain ⟨x, hx, xs', hxs, rfl⟩ := h
    rw [List.map_cons, List.flatten_cons, List.map_cons, leavesAll, hall a (by simp) x hx, parts_flatten hxs (fun b hb => hall b (by simp [hb]))]
theorem plain_cells : ∀ (m : Nat) (t : TypeId), P.tiled m t = true → ∀ (fuel : Nat) (cs : List Value) (d : DataW H) (p : List MemPlace), DataW.trod enc P w base sp held fuel t cs = some (d, p) → cs = leaves d
  | 0, _, h => by simp [Program.tiled] at h
  | m + 1, t, ht => by
    intro fuel cs d p h
    unfold Program.tiled at ht
    cases hu : P.underlying t with
    | none => simp [hu] at ht
    | some kd =>
      cases kd <;> simp only [hu, Bool.false_eq_true] at ht
      case bool =>
        obtain ⟨b, rfl, hx⟩ := DataW.trod_bool hu h
        obtain ⟨rfl, rfl⟩ := Prod.mk.inj hx
        rfl
      case int q =>
        obtain ⟨n, rfl, hx, _⟩ := DataW.trod_int hu h
        obtain ⟨rfl, rfl⟩ := Prod.mk.inj hx
        rfl
      case string =>
        obtain ⟨s, rfl, hx, _⟩ := DataW.trod_string hu h
        obtain ⟨rfl, rfl⟩ := Prod.mk.inj hx
        simp [leaves, Lit.toCell]
      case array n e =>
        simp only [Bool.and_eq_true, beq_iff_eq] at ht
        cases fuel with
        | zero => simp [DataW.trod] at h
        | succ fuel =>
          simp only [DataW.trod, hu] at h
          split at h
          · rename_i hl
            simp only [Option.map_eq_some_iff] at h
            obtain ⟨xs, hm, hx⟩ := h
            obtain ⟨rfl, rfl⟩ := Prod.mk.inj hx
            rw [leaves, ← parts_flatten (ch := fun i => (cs.drop (i * P.cellsOf e)).take (P.cellsOf e)) hm (fun i _ x hix => plain_cells m e ht.2 fuel _ x.1 x.2 hix), chunks_flatten _ n cs (by rw [hl, ht.1])]
          · cases h
      case struct fs =>
        simp only [Bool.and_eq_true, beq_iff_eq, Array.all_eq_true_iff_forall_mem] at ht
        cases fuel with
        | zero => simp [DataW.trod] at h
        | succ fuel =>
          simp only [DataW.trod, hu] at h
          split at h
          · rename_i hl
            simp only [Option.map_eq_some_iff] at h
            obtain ⟨xs, hm, hx⟩ := h
            obtain ⟨rfl, rfl⟩ := Prod.mk.inj hx
            rw [leaves, ← parts_flatten (ch := fun f : Field => (cs.drop f.offset).take (P.cellsOf f.type)) hm (fun f hf x hix => plain_cells m f.type (ht.2 f (by simpa using hf)) fuel _ x.1 x.2 hix), fields_flatten cs fs.toList 0 _ ht.1 hl]
            simp
          · cases h
/-- The variable's cells, off the list's head. -/
theorem var_of_head {W : World} {name : String} {d : DataW Unit} {rest : List (String × DataW Unit)} {g : Nat} {t : TypeId} {m : Nat}
    (hg : P.globalNamed name = some g) (hty : (P.globals[g]?).map (·.type) = some t) (ht : P.tiled m t = true)
    (h : laidMet P ((name, d) :: rest) W) : W.var? P name = some (leaves d).toArray := by
  obtain ⟨ps, ⟨g', t', cs, fuel, p, q, hg', ht', hvar, hd, _, _⟩, _⟩ := h
  obtain rfl := Option.some.inj (hg.symm.trans hg')
  obtain rfl := Option.some.inj (hty.symm.trans ht')
  rw [hvar, ← plain_cells m _ ht fuel _ _ _ hd]
end Go.Proofs.YtdklggmeigogcaaDoor.Plain
