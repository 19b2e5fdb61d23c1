/- A region whose operations are values alone, run by the kernel: of no program. By an AI agent. -/
import Derived.Test.YtgjiojcdifjhcaaDoorFault
set_option linter.unusedVariables false
namespace Go.Proofs.YtgjiojcdifjhcaaDoor
open Go.RowKit
def runList (P : Program) : List Oper → Act → World → Option (Act × World)
  | [], a, w => some (a, w)
  | o :: r, a, w =>
    match o.guard with
    | some _ => none
    | none =>
      match (execOp a.eval o).run P w with
      | .ok (.value v) w' => runList P r (a.put o.dst v) w'
      | _ => none
theorem wpList_run {P : Program} {ops : Array Oper} {Q : Exit → Act → World → Prop} : ∀ (l : List Oper) (a : Act) (w : World) (x : Act × World), runList P l a w = some x → Q .normal x.1 x.2 → wpList P ops Q l a w
  | [], a, w, x, h, hq => by
    obtain rfl := Option.some.inj h
    exact hq
  | o :: r, a, w, x, h, hq => by
    unfold runList at h
    split at h
    · cases h
    · rename_i hg
      split at h
      · rename_i v w' hr
        refine wpList_plain hg fun K hK => ?_
        unfold Oper.wp
        rw [hr, Oper.upon_value]
        exact hK _ _ (wpList_run r _ _ x h hq)
      · cases h
/-- The end's slot and world said by the caller, the act left a variable. -/
theorem wpList_to {P : Program} {ops : Array Oper} {Q : Exit → Act → World → Prop} {l : List Oper} {a : Act} {w : World} (t : Nat) (v : Value) (w' : World)
    (h : (runList P l a w).map (fun x => (x.1.tmps.getD t undef, x.1.defers, x.2)) = some (v, [], w'))
    (hq : ∀ b : Act, b.tmps.getD t undef = v → b.defers = [] → Q .normal b w') : wpList P ops Q l a w := by
  obtain ⟨x, hx, he⟩ := Option.map_eq_some_iff.1 h
  obtain ⟨e1, e2⟩ := Prod.mk.inj he
  obtain ⟨e2, e3⟩ := Prod.mk.inj e2
  exact wpList_run l a w x hx (by rw [e3]; exact hq x.1 e1 e2)
end Go.Proofs.YtgjiojcdifjhcaaDoor
