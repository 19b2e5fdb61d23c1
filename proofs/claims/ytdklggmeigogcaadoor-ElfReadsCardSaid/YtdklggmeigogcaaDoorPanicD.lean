/- elf.Read: what a panic comes to. By an AI agent. -/
import Derived.Test.YtdklggmeigogcaaDoorERead0
set_option linter.unusedVariables false
set_option linter.unusedSimpArgs false
namespace Go.Proofs.YtdklggmeigogcaaDoor
open Go.RowKit
theorem leaves_congr {P : Program} {fn : Func} {t t' : Array Value} {R : Ending → World → Prop} (h : results fn t = results fn t') : ∀ (ds : List Deferred) (u : FrameMode) (w : World), Leaves P fn t R ds u w → Leaves P fn t' R ds u w
  | [], .returning, w, hl => by obtain ⟨v, h1, h2⟩ := hl; exact ⟨v, by rw [← h]; exact h1, h2⟩
  | [], .panicking c, w, hl => hl
  | [], .run, w, hl => hl
  | d :: ds, u, w, hl => by
    obtain ⟨h1, fv, cap, f, args, h2, h3, h4⟩ := hl
    refine ⟨h1, fv, cap, f, args, h2, h3, ?_⟩
    refine h4.mono ?_
    intro e u' w' hh
    cases e with
    | returned v => exact leaves_congr h ds _ _ hh
    | panicked c => exact leaves_congr h ds _ _ hh
    | outgrown => exact hh
theorem hqD {d : Tmp} {v : Value} {c : List PanicEntry} {a : Act} {w : World} {R : Ending → World → Prop} (h2 : d ≠ 2) (h3 : d ≠ 3) (h : bodyPostD Tryd.prog Tryd.f10 R (.panic c) (a.put (some d) v) w) : bodyPostD Tryd.prog Tryd.f10 R (.panic c) a w := by
  have e : results Tryd.f10 (a.put (some d) v).tmps = results Tryd.f10 a.tmps := by
    have g2 : (a.put (some d) v).tmps[2]?.getD undef = a.tmps[2]?.getD undef := by simp [Act.put, Array.getElem?_setIfInBounds_ne h2]
    have g3 : (a.put (some d) v).tmps[3]?.getD undef = a.tmps[3]?.getD undef := by simp [Act.put, Array.getElem?_setIfInBounds_ne h3]
    simp [results, Tryd.results10, g2, g3]
  exact leaves_congr e _ _ _ h
theorem panic_done {L : List Nat} {c p : Int} {w w2 : World} {r B : Nat} {er e0 e1 : Value} (h : readC L = (c, p)) (hc : (c != 0) = true) (hr : r = w.heap.size) (her : ErrIs er p c B w2) (hB : r + 1 < B) (hb : Below r w w2) (hRE : RE w2 r e0 e1)
    (a : Act) (hd : a.defers = [{ target := .fn (.func 27) #[.pointer (some ⟨r, 0, none⟩), .pointer (some ⟨r + 1, 0, none⟩)], args := #[] }]) (h2 : a.tmps.getD 2 undef = .pointer (some ⟨r, 0, none⟩)) (h3 : a.tmps.getD 3 undef = .pointer (some ⟨r + 1, 0, none⟩)) :
    bodyPostD Tryd.prog Tryd.f10 (EPost L w) (.panic [{ v := .iface 61 (.agg #[er]), recovered := false }]) a w2 := by
  obtain ⟨ge, rfl⟩ := her.form hc
  show Leaves _ _ _ _ a.defers _ _
  rw [hd]
  refine leaves_cons (f := 27) (args := #[.pointer (some ⟨r, 0, none⟩), .pointer (some ⟨r + 1, 0, none⟩)]) (by simp) (by simp [go_sem]) ?_
  refine (catch_panicking r ge _ _ [] _ hRE).mono ?_
  rintro e u' w3 ⟨rfl, rfl, hcw⟩
  have HP := EPost.bad h hc hr her hB hb hcw
  obtain ⟨z0, z1, z2, -⟩ := hcw
  have h2' : a.tmps[2]?.getD undef = .pointer (some ⟨r, 0, none⟩) := by simpa using h2
  have h3' : a.tmps[3]?.getD undef = .pointer (some ⟨r + 1, 0, none⟩) := by simpa using h3
  simp [Leaves, settle, results, Tryd.results10, go_sem, z0, z1, z2, h2', h3']
  exact HP
theorem ret_done {L : List Nat} {w w2 : World} {r en c Q : Nat} {A : Option Addr} {l : List PSeg} (h : readC L = (0, 0)) (hE : readE L = en ∧ readS L = l) (hr : r = w.heap.size) (hQ : r ≤ Q) (hs : SegsOwn w2 Q (.slice A l.length c) l) (hb : Below r w w2)
    (c0 : w2.cell? ⟨r, 0, none⟩ = some (.int .u64 (en : Int))) (c1 : w2.cell? ⟨r, 1, none⟩ = some (.slice A l.length c)) (c2 : w2.cell? ⟨r + 1, 0, none⟩ = some .nilIface)
    (a : Act) (hd : a.defers = [{ target := .fn (.func 27) #[.pointer (some ⟨r, 0, none⟩), .pointer (some ⟨r + 1, 0, none⟩)], args := #[] }]) (h2 : a.tmps.getD 2 undef = .pointer (some ⟨r, 0, none⟩)) (h3 : a.tmps.getD 3 undef = .pointer (some ⟨r + 1, 0, none⟩)) :
    bodyPostD Tryd.prog Tryd.f10 (EPost L w) .ret a w2 := by
  show Leaves _ _ _ _ a.defers _ _
  rw [hd]
  refine leaves_cons (f := 27) (args := #[.pointer (some ⟨r, 0, none⟩), .pointer (some ⟨r + 1, 0, none⟩)]) (by simp) (by simp [go_sem]) ?_
  refine (catch_idle r _).mono ?_
  rintro e u' w3 ⟨rfl, rfl, rfl⟩
  have HP : EPost L w (.returned (.tuple #[.agg #[.int .u64 (en : Int), .slice A l.length c], .nilIface])) w3 := by
    subst hr
    exact ⟨A, l.length, c, _, by rw [hE.1], by rw [h]; exact ErrIs.nil _ _ _, by rw [hE.2]; exact hs.mono hQ, hb⟩
  have h2' : a.tmps[2]?.getD undef = .pointer (some ⟨r, 0, none⟩) := by simpa using h2
  have h3' : a.tmps[3]?.getD undef = .pointer (some ⟨r + 1, 0, none⟩) := by simpa using h3
  simp [Leaves, settle, results, Tryd.results10, go_sem, c0, c1, c2, h2', h3']
  exact HP
end Go.Proofs.YtdklggmeigogcaaDoor
