/- insn.Encode of any numbers. By an AI agent. -/
import Derived.Test.YtgjiojcdifjhcaaDoorEncWalk
set_option linter.unusedVariables false
namespace Go.Proofs.YtgjiojcdifjhcaaDoor
open Go.RowKit
theorem encode_no (op : Int) (h : op < 1 ∨ 77 ≤ op) (rd r1 r2 imm csr : Int) (w : World) : Calls Tryd.prog 24 #[.agg #[.int .i64 op, .int .i64 rd, .int .i64 r1, .int .i64 r2, .int .i64 imm, .int .i64 csr]] w (EncPost (encR op rd r1 r2 imm csr) w) := by
  have ER := Lib.hid (show encR op rd r1 r2 imm csr = (0, 0, 21) by unfold encR; rw [if_neg (by omega)])
  rcases h with h | h
  · go_enter Tryd.func24, Tryd.ntmps24
    go_wp2_with fail
    refine (refuse_any 0 21 _).mono ?_
    rintro e w1 ⟨rfl, rfl⟩
    go_wp2_with fail
    go_ret2
    exact enc_refused2 ER.out rfl (Below.refl _ _)
  · have h1 : 1 ≤ op := by omega
    go_enter Tryd.func24, Tryd.ntmps24
    go_wp2_with fail
    refine (refuse_any 0 21 _).mono ?_
    rintro e w1 ⟨rfl, rfl⟩
    go_wp2_with fail
    go_ret2
    exact enc_refused2 ER.out rfl (Below.refl _ _)
theorem encode_any (op rd r1 r2 imm csr : Int) (w : World) (ht : TabsW w) : Calls Tryd.prog 24 #[.agg #[.int .i64 op, .int .i64 rd, .int .i64 r1, .int .i64 r2, .int .i64 imm, .int .i64 csr]] w (EncPost (encR op rd r1 r2 imm csr) w) := by
  by_cases h : 1 ≤ op ∧ op < 77
  · obtain ⟨k, rfl⟩ : ∃ k : Nat, op = (k : Int) := ⟨op.toNat, by omega⟩
    exact encode_at k (by omega) (by omega) rd r1 r2 imm csr w ht
  · exact encode_no op (by omega) rd r1 r2 imm csr w
end Go.Proofs.YtgjiojcdifjhcaaDoor
