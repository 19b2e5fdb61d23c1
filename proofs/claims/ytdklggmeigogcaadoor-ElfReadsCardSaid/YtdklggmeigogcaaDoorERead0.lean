/- elf.Read. By an AI agent. -/
import Derived.Test.YtdklggmeigogcaaDoorCatch
set_option linter.unusedVariables false
set_option linter.unusedSimpArgs false
namespace Go.Proofs.YtdklggmeigogcaaDoor
open Go.RowKit
def EPost (L : List Nat) (w : World) (e : Ending) (w' : World) : Prop :=
  ∃ (A : Option Addr) (n c : Nat) (er : Value), e = .returned (.tuple #[.agg #[.int .u64 (readE L : Int), .slice A n c], er]) ∧ ErrIs er (readC L).2 (readC L).1 w.heap.size w' ∧ SegsOwn w' w.heap.size (.slice A n c) (readS L) ∧ Below w.heap.size w w'
/-- A refusal that was caught. -/
theorem EPost.bad {L : List Nat} {c p : Int} {w w2 w' : World} {r ge B : Nat} (h : readC L = (c, p)) (hc : (c != 0) = true) (hr : r = w.heap.size) (her : ErrIs (.iface 96 (.pointer (some ⟨ge, 0, none⟩))) p c B w2) (hB : r + 1 < B) (hb : Below r w w2) (hcw : Caught r (.iface 96 (.pointer (some ⟨ge, 0, none⟩))) w2 w') :
    EPost L w (.returned (.tuple #[.agg #[.int .u64 0, .slice none 0 0], .iface 96 (.pointer (some ⟨ge, 0, none⟩))])) w' := by
  obtain ⟨e1, e2⟩ := readE_bad h hc
  obtain ⟨h1, h2, h3, h4, h5, h6⟩ := hcw
  subst hr
  refine ⟨none, 0, 0, _, by rw [e1]; rfl, ?_, by rw [e2]; exact SegsOwn.nil _ _, hb.trans h4⟩
  rw [h]
  rcases her with ⟨hz, _⟩ | ⟨hnz, g, hg, k1, k2, k3, k4, k5⟩
  · simp [hz] at hc
  · injection hg with _ hg
    injection hg with hg
    injection hg with hg
    injection hg with hg _ _
    subst hg
    exact Or.inr ⟨hc, ge, rfl, by omega, by omega, by rw [h5 _ _ (by omega) k2]; exact k3, by rw [h5 _ _ (by omega) k2]; exact k4, by rw [h5 _ _ (by omega) k2]; exact k5⟩
theorem ErrIs.form {er : Value} {p c : Int} {B : Nat} {w : World} (h : ErrIs er p c B w) (hc : (c != 0) = true) : ∃ ge, er = .iface 96 (.pointer (some ⟨ge, 0, none⟩)) := by
  rcases h with ⟨hz, _⟩ | ⟨_, g, hg, _⟩
  · simp [hz] at hc
  · exact ⟨g, hg⟩
theorem RE.after {w w' : World} {r : Nat} {e0 e1 : Value} (h : RE w r e0 e1) (hb : Below w.heap.size w w') : RE w' r e0 e1 := by
  obtain ⟨hc, hf⟩ := bcell hb
  have hl := h.lt
  have hz := hb.size
  exact ⟨by rw [hc _ _ (by omega)]; exact h.a0, by rw [hc _ _ (by omega)]; exact h.a1, by rw [hc _ _ (by omega)]; exact h.a2, by rw [hf _ _ (by omega)]; exact h.f0, by rw [hf _ _ (by omega)]; exact h.f1, by rw [hf _ _ (by omega)]; exact h.f2, by omega⟩
set_option maxRecDepth 100000 in
set_option maxHeartbeats 4000000 in
theorem eread_small (A : Option Addr) (n c : Nat) (L : List Nat) (w : World) (hn : n = L.length) (hm : n ≤ 140737488351232) (hs : 262144 < n ∨ n < 64) :
    Calls Tryd.prog 10 #[.slice A n c] w (EPost L w) := by
  have hmf : ∀ (fn : Fn) (first cap : Array Value) (w : World), (Instr.makeFunc fn first cap).run Tryd.prog w = .ok (.func fn first cap) w := fun _ _ _ _ => rfl
  have re0 : RE ((w.alloc (.cells #[.int .u64 0, .slice none 0 0] 27)).alloc (.cells #[.nilIface] 29)) w.heap.size (.int .u64 0) (.slice none 0 0) := by
    constructor <;> simp [go_sem]
  have RW := Lib.hid re0
  have HBW := Lib.hid (((Below.refl w.heap.size w).alloc (Nat.le_refl _) (.cells #[.int .u64 0, .slice none 0 0] 27)).alloc (by simp) (.cells #[.nilIface] 29))
  have HN := Lib.hid hn
  clear re0 hn
  go_enter_defers Tryd.func10, Tryd.ntmps10
  go_wp2_with fail
  generalize (w.alloc (.cells #[.int .u64 0, .slice none 0 0] 27)).alloc (.cells #[.nilIface] 29) = W at *
  generalize hr : w.heap.size = r at *
  refine (head_small A n c L _ HN.out hm hs).mono ?_
  rintro e w2 ⟨hp | ⟨hc0, er, rfl, hc, her⟩, hb⟩
  · exfalso
    have := hp.1
    have hn := HN.out
    unfold headC at this
    rcases hs with hs | hs
    · rw [if_pos (by omega)] at this; simp at this
    · rw [if_neg (by omega), if_pos (by omega)] at this; simp at this
  · obtain ⟨ge, rfl⟩ := her.form hc
    go_wp2_with fail
    refine leaves_cons (f := 27) (args := #[.pointer (some ⟨r, 0, none⟩), .pointer (some ⟨r + 1, 0, none⟩)]) (by simp) (by simp [go_sem]) ?_
    refine (catch_panicking r ge _ _ [] _ (RW.out.after hb)).mono ?_
    rintro e u' w3 ⟨rfl, rfl, hcw⟩
    have HP := EPost.bad (readC_head rfl hc) hc hr.symm her RW.out.lt (HBW.out.trans (hb.mono (by have := HBW.out.size; omega))) hcw
    obtain ⟨z0, z1, z2, -⟩ := hcw
    simp [Leaves, settle, results, Tryd.results10, go_sem, z0, z1, z2]
    first | exact HP
end Go.Proofs.YtdklggmeigogcaaDoor
