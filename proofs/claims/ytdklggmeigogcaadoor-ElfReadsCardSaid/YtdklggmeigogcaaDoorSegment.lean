/- elf.segment. By an AI agent. -/
import Derived.Test.YtdklggmeigogcaaDoorHead
import Derived.Deep.DeepCutAuto
set_option linter.unusedVariables false
set_option linter.unusedSimpArgs false
namespace Go.Proofs.YtdklggmeigogcaaDoor
open Go.RowKit
theorem get_sub (x : Nat) (g o n c base a k : Nat) (m : Int) (L : List Nat) (w : World) (hx : fld L (base + a) k = x) (hL : ∀ i, L.getD i 0 < 256) (hk : 0 < k) (h8 : k ≤ 8) (h1 : base + (a + k) ≤ L.length) (h2 : a + k ≤ c) (hc : c ≤ 9223372036854775807) (h : CellsAt w g o L) :
    Calls Tryd.prog 29 #[.agg #[.int .i64 (a : Int), .int .i64 (k : Int), .int .u64 m], .slice (some ⟨g, o + base, none⟩) n c] w fun e w' => e = .returned (.int .u64 (x : Int)) ∧ Below w.heap.size w w' := by
  subst hx
  refine get_any g (o + base) n c a k m (fun i => L.getD (base + a + i) 0) w h2 hk hc h8 (fun i => hL _) ?_
  intro i hi
  have := h (base + a + i) (by omega)
  rw [show o + base + a + i = o + (base + a + i) by omega]; exact this
theorem get_flags (x : Nat) (g o n c base : Nat) (L : List Nat) (w : World) (hx : fld L (base + 4) 4 = x) (hL : ∀ i, L.getD i 0 < 256) (h1 : base + 8 ≤ L.length) (h2 : 8 ≤ c) (hc : c ≤ 9223372036854775807) (h : CellsAt w g o L) :
    Calls Tryd.prog 29 #[.agg #[.int .i64 4, .int .i64 4, .int .u64 0], .slice (some ⟨g, o + base, none⟩) n c] w fun e w' => e = .returned (.int .u64 (x : Int)) ∧ Below w.heap.size w w' :=
  get_sub x g o n c base 4 4 0 L w hx hL (by decide) (by decide) h1 h2 hc h
theorem get_file (x : Nat) (g o n c base : Nat) (L : List Nat) (w : World) (hx : fld L (base + 8) 8 = x) (hL : ∀ i, L.getD i 0 < 256) (h1 : base + 16 ≤ L.length) (h2 : 16 ≤ c) (hc : c ≤ 9223372036854775807) (h : CellsAt w g o L) :
    Calls Tryd.prog 29 #[.agg #[.int .i64 8, .int .i64 8, .int .u64 0], .slice (some ⟨g, o + base, none⟩) n c] w fun e w' => e = .returned (.int .u64 (x : Int)) ∧ Below w.heap.size w w' :=
  get_sub x g o n c base 8 8 0 L w hx hL (by decide) (by decide) h1 h2 hc h
theorem get_va (x : Nat) (g o n c base : Nat) (L : List Nat) (w : World) (hx : fld L (base + 16) 8 = x) (hL : ∀ i, L.getD i 0 < 256) (h1 : base + 24 ≤ L.length) (h2 : 24 ≤ c) (hc : c ≤ 9223372036854775807) (h : CellsAt w g o L) :
    Calls Tryd.prog 29 #[.agg #[.int .i64 16, .int .i64 8, .int .u64 0], .slice (some ⟨g, o + base, none⟩) n c] w fun e w' => e = .returned (.int .u64 (x : Int)) ∧ Below w.heap.size w w' :=
  get_sub x g o n c base 16 8 0 L w hx hL (by decide) (by decide) h1 h2 hc h
theorem get_size (x : Nat) (g o n c base : Nat) (L : List Nat) (w : World) (hx : fld L (base + 32) 8 = x) (hL : ∀ i, L.getD i 0 < 256) (h1 : base + 40 ≤ L.length) (h2 : 40 ≤ c) (hc : c ≤ 9223372036854775807) (h : CellsAt w g o L) :
    Calls Tryd.prog 29 #[.agg #[.int .i64 32, .int .i64 8, .int .u64 0], .slice (some ⟨g, o + base, none⟩) n c] w fun e w' => e = .returned (.int .u64 (x : Int)) ∧ Below w.heap.size w w' :=
  get_sub x g o n c base 32 8 0 L w hx hL (by decide) (by decide) h1 h2 hc h
theorem get_mem (x : Nat) (g o n c base : Nat) (L : List Nat) (w : World) (hx : fld L (base + 40) 8 = x) (hL : ∀ i, L.getD i 0 < 256) (h1 : base + 48 ≤ L.length) (h2 : 48 ≤ c) (hc : c ≤ 9223372036854775807) (h : CellsAt w g o L) :
    Calls Tryd.prog 29 #[.agg #[.int .i64 40, .int .i64 8, .int .u64 0], .slice (some ⟨g, o + base, none⟩) n c] w fun e w' => e = .returned (.int .u64 (x : Int)) ∧ Below w.heap.size w w' :=
  get_sub x g o n c base 40 8 0 L w hx hL (by decide) (by decide) h1 h2 hc h
/-- A fresh segment's cells. -/
def Fre (w : World) (q : Nat) : Prop := w.cell? ⟨q, 0, none⟩ = some (.int .u64 0) ∧ w.cell? ⟨q, 1, none⟩ = some (.int .u32 0) ∧ w.cell? ⟨q, 2, none⟩ = some (.slice none 0 0) ∧ w.cell? ⟨q, 3, none⟩ = some (.int .u64 0) ∧
  w.frozen? ⟨q, 0, none⟩ = false ∧ w.frozen? ⟨q, 1, none⟩ = false ∧ w.frozen? ⟨q, 2, none⟩ = false ∧ w.frozen? ⟨q, 3, none⟩ = false ∧ q < w.heap.size ∧ w.heap[q]? = some (.cells #[.int .u64 0, .int .u32 0, .slice none 0 0, .int .u64 0] 55)
theorem fre_of {w : World} {q : Nat} (h : w.heap[q]? = some (.cells #[.int .u64 0, .int .u32 0, .slice none 0 0, .int .u64 0] 55)) : Fre w q := by
  have hq : q < w.heap.size := by
    rcases Nat.lt_or_ge q w.heap.size with e | e
    · exact e
    · simp [Array.getElem?_eq_none e] at h
  refine ⟨?_, ?_, ?_, ?_, ?_, ?_, ?_, ?_, hq, h⟩ <;> simp [World.cell?, World.frozen?, h]
theorem fresh_of {x w2 : World} (hb : Below (x.alloc (.cells #[.int .u64 0, .int .u32 0, .slice none 0 0, .int .u64 0] 55)).heap.size (x.alloc (.cells #[.int .u64 0, .int .u32 0, .slice none 0 0, .int .u64 0] 55)) w2) : Fre w2 x.heap.size :=
  fre_of (by rw [hb.block _ (by simp)]; exact heap_alloc_new x _)
theorem below_undrew {B : Nat} {a w : World} (h : Below B a.drew w) : Below B a w := ⟨h.os, h.tape, h.output, h.size, h.block⟩
theorem fresh_ofd {x w2 : World} (hb : Below (x.alloc (.cells #[.int .u64 0, .int .u32 0, .slice none 0 0, .int .u64 0] 55)).drew.heap.size (x.alloc (.cells #[.int .u64 0, .int .u32 0, .slice none 0 0, .int .u64 0] 55)).drew w2) : Fre w2 x.heap.size := fresh_of (below_undrew hb)
theorem carry_of {x w2 : World} {q : Nat} (hb : Below x.heap.size x w2) (h : Fre x q) : Fre w2 q :=
  fre_of (by rw [hb.block _ h.2.2.2.2.2.2.2.2.1]; exact h.2.2.2.2.2.2.2.2.2)
theorem set4 {w : World} {q : Nat} (h : Fre w q) (a b c d : Value) : ((((w.setCell ⟨q, 0, none⟩ a).setCell ⟨q, 1, none⟩ b).setCell ⟨q, 2, none⟩ c).setCell ⟨q, 3, none⟩ d).heap[q]? = some (.cells #[a, b, c, d] 55) :=
  heap_setCell_same _ q 3 _ 55 d (heap_setCell_same _ q 2 _ 55 c (heap_setCell_same _ q 1 _ 55 b (heap_setCell_same _ q 0 _ 55 a h.2.2.2.2.2.2.2.2.2)))
def SegPost (L : List Nat) (at' : Nat) (l : List PSeg) (w : World) (e : Ending) (w' : World) : Prop :=
  ((segC L at' l = 0 ∧ ∃ dv, e = .returned (.agg #[.int .u64 ((segOf L at').va : Int), .int .u32 ((segOf L at').fl : Int), dv, .int .u64 ((segOf L at').mem : Int)]) ∧ OwnB w' w.heap.size dv (segOf L at').dat) ∨ (segC L at' l ≠ 0 ∧ Refused (at' : Int) (segC L at' l) w.heap.size e w')) ∧ Below w.heap.size w w'
theorem SegPost.bad {L : List Nat} {at' : Nat} {l : List PSeg} {c : Int} {w w' : World} {e : Ending} (h : segC L at' l = c) {B : Nat} (hr : Refused (at' : Int) c B e w') (hB : w.heap.size ≤ B) (hb : Below w.heap.size w w') : SegPost L at' l w e w' := by
  obtain ⟨er, h1, h2, h3⟩ := hr
  refine ⟨Or.inr ⟨by rw [h]; simpa using h2, ?_⟩, hb⟩
  rw [h]
  exact ⟨er, h1, h2, h3.mono hB⟩
theorem SegPost.good {L : List Nat} {at' va fl me : Nat} {l : List PSeg} {dd : List Nat} {dv : Value} {w w' : World} (h : segC L at' l = 0) (h1 : fld L (at' + 16) 8 = va) (h2 : fld L (at' + 4) 4 = fl) (h3 : fld L (at' + 40) 8 = me) (h4 : (segOf L at').dat = dd) (hv : OwnB w' w.heap.size dv dd) (hb : Below w.heap.size w w') :
    SegPost L at' l w (.returned (.agg #[.int .u64 (va : Int), .int .u32 (fl : Int), dv, .int .u64 (me : Int)])) w' := by
  subst h1 h2 h3 h4
  exact ⟨Or.inl ⟨h, dv, rfl, hv⟩, hb⟩
theorem seg_dat (L : List Nat) (at' fr si : Nat) (h1 : fld L (at' + 8) 8 = fr) (h2 : fld L (at' + 32) 8 = si) : (segOf L at').dat = (List.range si).map (fun i => L.getD (fr + i) 0) := by
  unfold segOf; rw [h1, h2]
theorem cells_part {w : World} {g o : Nat} {L : List Nat} (h : CellsAt w g o L) (fr si : Nat) (hs : fr + si ≤ L.length) : CellsAt w g (o + fr) ((List.range si).map (fun i => L.getD (fr + i) 0)) := by
  intro i hi
  simp only [List.length_map, List.length_range] at hi
  rw [Nat.add_assoc, h (fr + i) (by omega)]
  simp [hi]
theorem app_row {ops : Array Oper} {rest : List Oper} {o : Oper} {a : Act} {Q : Exit → Act → World → Prop} {w : World} (hgd : o.guard = none) (s x : Operand)
    (ho : o.op = .call { callee := .builtin .append, args := #[s, x], argTypes := #[22, 22] }) (base : Nat) (v : Value) (n : Nat) (L : List Nat) (hs : a.eval s = v) (hown : w.ownsRow base 5 1 v n (L.map byteV))
    (g0 o0 m c0 : Nat) (L2 : List Nat) (hx : a.eval x = .slice (some ⟨g0, o0, none⟩) m c0) (hm : m = L2.length) (hm0 : 0 < m) (hc : CellsAt w g0 o0 L2) (hn : n + m ≤ 1099511627776) (hbase : base ≤ w.heap.size)
    (h : ∀ g cap w', w'.ownsRow base 5 1 (.slice (some ⟨g, 0, none⟩) (n + m) cap) (n + m) ((L ++ L2).map byteV) → w.grownBy w' v.ownBlock → (v.ownBlock = some g ∨ g = w.heap.size) → g < w'.heap.size → wpList Tryd.prog ops Q rest (a.put o.dst (.slice (some ⟨g, 0, none⟩) (n + m) cap)) w') :
    wpList Tryd.prog ops Q (o :: rest) a w := by
  obtain ⟨i, hi, hz, h1, h8⟩ := iU8
  refine wpList_append_lies w hgd s x 22 ho base 5 i (.int .u8 0) 1 1 Tryd.underlying22 hi hz h1 h8 rfl (by decide) v n _ hs hown ⟨g0, o0, none⟩ m c0 (L2.map byteV) hx (by simp; omega) ?_ ?_ hm0 ?_ ?_ hbase _ rfl (by simpa using h)
  · intro j u hj
    have hjl : j < L2.length := by have := (List.getElem?_eq_some_iff.1 hj).1; simpa using this
    have hh := hc j hjl
    rw [List.getElem?_map, List.getElem?_eq_getElem hjl] at hj
    have e : Addr.add ⟨g0, o0, none⟩ j = ⟨g0, o0 + j, none⟩ := by
      unfold Addr.add; split
      · subst_vars; rfl
      · rfl
    rw [e, hh]
    simp [List.getElem?_eq_getElem hjl] at hj ⊢
    exact hj
  · intro u hu
    obtain ⟨y, _, rfl⟩ := List.mem_map.1 hu
    rfl
  · unfold maxLen; omega
  · omega
def zSeg : Obj := .cells #[.int .u64 0, .int .u32 0, .slice none 0 0, .int .u64 0] 55
set_option maxRecDepth 100000 in
set_option maxHeartbeats 4000000 in
theorem segment_any (g o n c at' m cc : Nat) (A : Option Addr) (L : List Nat) (l : List PSeg) (w : World) (hn : n = L.length) (hnc : n ≤ c) (hc : c ≤ 9223372036854775807) (h2 : n ≤ 262144) (hat : at' + 56 ≤ n) (hL : ∀ i, L.getD i 0 < 256) (hT : TabR w)
    (h : CellsAt w g o L) (hm : m = l.length) (h8 : m ≤ 8) (hS : SegsAt w w.heap.size A l) (hE : ∀ i, i < l.length → (l.getD i PSeg.z).va + (l.getD i PSeg.z).mem ≤ 1073741824) :
    Calls Tryd.prog 30 #[.slice (some ⟨g, o, none⟩) n c, .int .i64 (at' : Int), .slice A m cc] w (SegPost L at' l w) := by
  have HN := Lib.hid hn
  have HL := Lib.hid hL
  have HT := Lib.hid hT
  have HC := Lib.hid h
  have HM := Lib.hid hm
  have HS := Lib.hid hS
  have HE := Lib.hid hE
  have hg := World.block_lt_of_cell? _ _ (h 0 (by omega))
  have B1 := Lib.hid ((Below.refl w.heap.size w).alloc (Nat.le_refl _) zSeg)
  have hcat : ¬ c = at' := by omega
  clear hn hL hT h hm hS hE
  by_cases hm8 : m = 8
  · have HH := Lib.hid (show segC L at' l = 143 by unfold segC; rw [if_pos (by have := HM.out; omega)])
    go_enter Tryd.func30, Tryd.ntmps30
    go_wp2_with fail
    refine (give_yes _ (by first | (simp; done) | (simp; omega)) at' 143 (by decide) _).mono ?_
    rintro e w3 ⟨⟨er, rfl, hc3, her⟩, hb3⟩
    go_wp2_with fail
    exact ⟨rfl, SegPost.bad HH.out ⟨_, rfl, hc3, her⟩ B1.out.size (B1.out.trans (hb3.mono B1.out.size))⟩
  · obtain ⟨fr, hfr⟩ : ∃ x, fld L (at' + 8) 8 = x := ⟨_, rfl⟩
    obtain ⟨si, hsi⟩ : ∃ x, fld L (at' + 32) 8 = x := ⟨_, rfl⟩
    obtain ⟨va, hva⟩ : ∃ x, fld L (at' + 16) 8 = x := ⟨_, rfl⟩
    obtain ⟨fl, hfl⟩ : ∃ x, fld L (at' + 4) 4 = x := ⟨_, rfl⟩
    obtain ⟨me, hme⟩ : ∃ x, fld L (at' + 40) 8 = x := ⟨_, rfl⟩
    have b1 : fr < 18446744073709551616 := by have h : fld L (at' + 8) 8 < 18446744073709551616 := fld_lt L HL.out _ 8; rw [hfr] at h; exact h
    have b2 : si < 18446744073709551616 := by have h : fld L (at' + 32) 8 < 18446744073709551616 := fld_lt L HL.out _ 8; rw [hsi] at h; exact h
    have b3 : va < 18446744073709551616 := by have h : fld L (at' + 16) 8 < 18446744073709551616 := fld_lt L HL.out _ 8; rw [hva] at h; exact h
    have b4 : fl < 4294967296 := by have h : fld L (at' + 4) 4 < 4294967296 := fld_lt L HL.out _ 4; rw [hfl] at h; exact h
    have b5 : me < 18446744073709551616 := by have h : fld L (at' + 40) 8 < 18446744073709551616 := fld_lt L HL.out _ 8; rw [hme] at h; exact h
    have HF := Lib.hid (And.intro hfr (And.intro hsi (And.intro hva (And.intro hfl hme))))
    clear hfr hsi hva hfl hme
    go_enter Tryd.func30, Tryd.ntmps30
    go_wp2_with fail
    refine (give_no _ (by first | (simp; done) | (simp; omega)) at' 143 _).mono ?_
    rintro e w3 ⟨rfl, rfl⟩
    have TW := Lib.hid (HT.out.after (show Below w.heap.size w (w.alloc zSeg) from B1.out))
    have CW := Lib.hid (HC.out.after (show Below w.heap.size w (w.alloc zSeg) from B1.out) hg)
    have SW := Lib.hid (HS.out.after (show Below w.heap.size w (w.alloc zSeg) from B1.out))
    have RW := Lib.hid (show (w.alloc zSeg).heap[w.heap.size]? = some zSeg from heap_alloc_new w _)
    have ZW : w.heap.size < (w.alloc zSeg).heap.size := by simp
    go_wp2_with fail
    change Code.wp _ _ _ _ (w.alloc zSeg)
    have gW : g < (w.alloc zSeg).heap.size := by simp; omega
    generalize w.alloc zSeg = W at *
    have HSof : Hid (∀ w' : World, Below W.heap.size W w' → w'.cell? ⟨6, 0, none⟩ = some (.int .i64 8) ∧ w'.cell? ⟨6, 1, none⟩ = some (.int .i64 8) ∧ w'.cell? ⟨6, 2, none⟩ = some (.int .u64 0) ∧ w'.cell? ⟨9, 0, none⟩ = some (.int .i64 32) ∧ w'.cell? ⟨9, 1, none⟩ = some (.int .i64 8) ∧ w'.cell? ⟨9, 2, none⟩ = some (.int .u64 0) ∧ Below W.heap.size W w') := Lib.hid fun w' hb => by
      have T' := TW.out.after hb
      exact ⟨(T'.file).cells.1, (T'.file).cells.2.1, (T'.file).cells.2.2, (T'.size').cells.1, (T'.size').cells.2.1, (T'.size').cells.2.2, hb⟩
    go_region_held3 (fun w' => w'.cell? ⟨6, 0, none⟩ = some (.int .i64 8) ∧ w'.cell? ⟨6, 1, none⟩ = some (.int .i64 8) ∧ w'.cell? ⟨6, 2, none⟩ = some (.int .u64 0) ∧ w'.cell? ⟨9, 0, none⟩ = some (.int .i64 32) ∧ w'.cell? ⟨9, 1, none⟩ = some (.int .i64 8) ∧ w'.cell? ⟨9, 2, none⟩ = some (.int .u64 0) ∧ Below W.heap.size W w') ((refine HSof.out _ ?_; repeat' (first | with_reducible assumption | with_reducible exact Below.refl _ _ | exact Nat.le_refl _ | with_reducible refine Below.drew ?_ | with_reducible refine Below.trans ?_ (Below.mono (by assumption) ?_) | (simp; done) | (refine Below.size (by assumption))))) ((first | (go_at_call_of 29 (Value.agg #[Value.int .i64 8, Value.int .i64 8, Value.int .u64 0]); (with_reducible refine (get_file fr g o 56 (c - at') at' L _ HF.out.1 HL.out (by have := HN.out; omega) (by omega) (by omega) (CW.out.after (show Below W.heap.size W _ by repeat' (first | with_reducible assumption | with_reducible exact Below.refl _ _ | exact Nat.le_refl _ | with_reducible refine Below.drew ?_ | with_reducible refine Below.trans ?_ (Below.mono (by assumption) ?_) | (simp; done) | (refine Below.size (by assumption)))) gW)).mono ?_); rintro e w2 ⟨rfl, hb2⟩; replace hb2 := chain3 (W := W) (by repeat' (first | with_reducible assumption | with_reducible exact Below.refl _ _ | with_reducible refine Below.drew ?_)) hb2) | (go_at_call_of 29 (Value.agg #[Value.int .i64 32, Value.int .i64 8, Value.int .u64 0]); (with_reducible refine (get_size si g o 56 (c - at') at' L _ HF.out.2.1 HL.out (by have := HN.out; omega) (by omega) (by omega) (CW.out.after (show Below W.heap.size W _ by repeat' (first | with_reducible assumption | with_reducible exact Below.refl _ _ | exact Nat.le_refl _ | with_reducible refine Below.drew ?_ | with_reducible refine Below.trans ?_ (Below.mono (by assumption) ?_) | (simp; done) | (refine Below.size (by assumption)))) gW)).mono ?_); rintro e w2 ⟨rfl, hb2⟩; replace hb2 := chain3 (W := W) (by repeat' (first | with_reducible assumption | with_reducible exact Below.refl _ _ | with_reducible refine Below.drew ?_)) hb2)))
    clear HSof
    have HFL := Lib.hid (show IntKind.u32.wrap (fl : Int) = (fl : Int) by rw [IntKind.wrap_u32]; omega)
    have HB2 := Lib.hid hb2
    clear hb2
    go_upto_region 4 with (fail)
    have HSof : Hid (∀ w' : World, Below W.heap.size W w' → w'.cell? ⟨7, 0, none⟩ = some (.int .i64 16) ∧ w'.cell? ⟨7, 1, none⟩ = some (.int .i64 8) ∧ w'.cell? ⟨7, 2, none⟩ = some (.int .u64 0) ∧ w'.cell? ⟨5, 0, none⟩ = some (.int .i64 4) ∧ w'.cell? ⟨5, 1, none⟩ = some (.int .i64 4) ∧ w'.cell? ⟨5, 2, none⟩ = some (.int .u64 0) ∧ w'.cell? ⟨10, 0, none⟩ = some (.int .i64 40) ∧ w'.cell? ⟨10, 1, none⟩ = some (.int .i64 8) ∧ w'.cell? ⟨10, 2, none⟩ = some (.int .u64 0) ∧ Below W.heap.size W w') := Lib.hid fun w' hb => by
      have T' := TW.out.after hb
      exact ⟨(T'.va).cells.1, (T'.va).cells.2.1, (T'.va).cells.2.2, (T'.flags).cells.1, (T'.flags).cells.2.1, (T'.flags).cells.2.2, (T'.mem).cells.1, (T'.mem).cells.2.1, (T'.mem).cells.2.2, hb⟩
    go_cut [11] (fun s11 wx => ∃ gs, s11 = .pointer (some ⟨gs, 0, none⟩) ∧ W.heap.size ≤ gs ∧ wx.heap[gs]? = some (.cells #[.int .u64 (va : Int), .int .u32 (fl : Int), .slice none 0 0, .int .u64 (me : Int)] 55) ∧ Below W.heap.size W wx)
    case first =>
      have hb2 := HB2.out
      go_region_held3 (fun w' => w'.cell? ⟨7, 0, none⟩ = some (.int .i64 16) ∧ w'.cell? ⟨7, 1, none⟩ = some (.int .i64 8) ∧ w'.cell? ⟨7, 2, none⟩ = some (.int .u64 0) ∧ w'.cell? ⟨5, 0, none⟩ = some (.int .i64 4) ∧ w'.cell? ⟨5, 1, none⟩ = some (.int .i64 4) ∧ w'.cell? ⟨5, 2, none⟩ = some (.int .u64 0) ∧ w'.cell? ⟨10, 0, none⟩ = some (.int .i64 40) ∧ w'.cell? ⟨10, 1, none⟩ = some (.int .i64 8) ∧ w'.cell? ⟨10, 2, none⟩ = some (.int .u64 0) ∧ Below W.heap.size W w') ((refine HSof.out _ ?_; repeat' (first | with_reducible assumption | with_reducible exact Below.refl _ _ | exact Nat.le_refl _ | with_reducible refine Below.drew ?_ | with_reducible refine Below.trans ?_ (Below.mono (by assumption) ?_) | with_reducible refine Below.alloc ?_ ?_ _ | with_reducible refine Below.setCell ?_ ?_ _ | (simp; done) | (refine Below.size (by assumption))))) ((first | (go_at_call_of 29 (Value.agg #[Value.int .i64 16, Value.int .i64 8, Value.int .u64 0]); (with_reducible refine (get_va va g o 56 (c - at') at' L _ HF.out.2.2.1 HL.out (by have := HN.out; omega) (by omega) (by omega) (CW.out.after (show Below W.heap.size W _ by repeat' (first | with_reducible assumption | with_reducible exact Below.refl _ _ | exact Nat.le_refl _ | with_reducible refine Below.drew ?_ | with_reducible refine Below.trans ?_ (Below.mono (by assumption) ?_) | with_reducible refine Below.alloc ?_ ?_ _ | with_reducible refine Below.setCell ?_ ?_ _ | (simp; done) | (refine Below.size (by assumption)))) gW)).mono ?_); rintro e w2 ⟨rfl, hb2⟩; (try (have FF := carry_of hb2 FH.out; clear FH; have FH := Lib.hid FF; clear FF)); (try (have FF := fresh_of hb2; have FH := Lib.hid FF; clear FF)); (try (have FF := fresh_ofd hb2; have FH := Lib.hid FF; clear FF)); (try (obtain ⟨y0, y1, y2, y3, y4, y5, y6, y7, y8, -⟩ := FH.out)); replace hb2 := chain3 (W := W) (by repeat' (first | with_reducible assumption | with_reducible exact Below.refl _ _ | with_reducible refine Below.drew ?_ | with_reducible refine Below.alloc ?_ ?_ _ | (refine Below.size (by assumption)))) hb2) | (go_at_call_of 29 (Value.agg #[Value.int .i64 4, Value.int .i64 4, Value.int .u64 0]); (with_reducible refine (get_flags fl g o 56 (c - at') at' L _ HF.out.2.2.2.1 HL.out (by have := HN.out; omega) (by omega) (by omega) (CW.out.after (show Below W.heap.size W _ by repeat' (first | with_reducible assumption | with_reducible exact Below.refl _ _ | exact Nat.le_refl _ | with_reducible refine Below.drew ?_ | with_reducible refine Below.trans ?_ (Below.mono (by assumption) ?_) | with_reducible refine Below.alloc ?_ ?_ _ | with_reducible refine Below.setCell ?_ ?_ _ | (simp; done) | (refine Below.size (by assumption)))) gW)).mono ?_); rintro e w2 ⟨rfl, hb2⟩; (try (have FF := carry_of hb2 FH.out; clear FH; have FH := Lib.hid FF; clear FF)); (try (have FF := fresh_of hb2; have FH := Lib.hid FF; clear FF)); (try (have FF := fresh_ofd hb2; have FH := Lib.hid FF; clear FF)); (try (obtain ⟨y0, y1, y2, y3, y4, y5, y6, y7, y8, -⟩ := FH.out)); replace hb2 := chain3 (W := W) (by repeat' (first | with_reducible assumption | with_reducible exact Below.refl _ _ | with_reducible refine Below.drew ?_ | with_reducible refine Below.alloc ?_ ?_ _ | (refine Below.size (by assumption)))) hb2) | (go_at_call_of 29 (Value.agg #[Value.int .i64 40, Value.int .i64 8, Value.int .u64 0]); (with_reducible refine (get_mem me g o 56 (c - at') at' L _ HF.out.2.2.2.2 HL.out (by have := HN.out; omega) (by omega) (by omega) (CW.out.after (show Below W.heap.size W _ by repeat' (first | with_reducible assumption | with_reducible exact Below.refl _ _ | exact Nat.le_refl _ | with_reducible refine Below.drew ?_ | with_reducible refine Below.trans ?_ (Below.mono (by assumption) ?_) | with_reducible refine Below.alloc ?_ ?_ _ | with_reducible refine Below.setCell ?_ ?_ _ | (simp; done) | (refine Below.size (by assumption)))) gW)).mono ?_); rintro e w2 ⟨rfl, hb2⟩; (try (have FF := carry_of hb2 FH.out; clear FH; have FH := Lib.hid FF; clear FF)); (try (have FF := fresh_of hb2; have FH := Lib.hid FF; clear FF)); (try (have FF := fresh_ofd hb2; have FH := Lib.hid FF; clear FF)); (try (obtain ⟨y0, y1, y2, y3, y4, y5, y6, y7, y8, -⟩ := FH.out)); replace hb2 := chain3 (W := W) (by repeat' (first | with_reducible assumption | with_reducible exact Below.refl _ _ | with_reducible refine Below.drew ?_ | with_reducible refine Below.alloc ?_ ?_ _ | (refine Below.size (by assumption)))) hb2)))
      all_goals
        go_wp2_with fail
        go_meet
        first
          | exact ⟨_, rfl, hb2.size, by rw [HFL.out]; exact heap_alloc_new _ _, hb2.alloc hb2.size _⟩
          | exact ⟨_, rfl, Below.size (by assumption), by rw [HFL.out]; exact set4 FH.out _ _ _ _, (((hb2.setCell (Below.size (by assumption)) _).setCell (Below.size (by assumption)) _).setCell (Below.size (by assumption)) _).setCell (Below.size (by assumption)) _⟩
    case rest =>
      obtain ⟨gs, rfl, hgs, hblk, hb⟩ := hcut
      have HB := Lib.hid (B1.out.trans (hb.mono B1.out.size))
      have HBW := Lib.hid hb
      have HK := Lib.hid hblk
      have qlt : gs < wc.heap.size := by
        rcases Nat.lt_or_ge gs wc.heap.size with e | e
        · exact e
        · simp [Array.getElem?_eq_none e] at hblk
      have q0 : wc.cell? ⟨gs, 0, none⟩ = some (.int .u64 (va : Int)) := by simp [World.cell?, hblk]
      have q1 : wc.cell? ⟨gs, 1, none⟩ = some (.int .u32 (fl : Int)) := by simp [World.cell?, hblk]
      have q2 : wc.cell? ⟨gs, 2, none⟩ = some (.slice none 0 0) := by simp [World.cell?, hblk]
      have q3 : wc.cell? ⟨gs, 3, none⟩ = some (.int .u64 (me : Int)) := by simp [World.cell?, hblk]
      clear hb hblk HB2
      by_cases hsh : shapedB va fl me si = true
      · go_wp2_with fail
        refine (shaped_any va fl me si _ _ b3 b4 b5 b2).mono ?_
        rintro e w4 ⟨rfl, hb4⟩
        rw [hsh]
        have HBW4 := Lib.hid (chain3 HBW.out hb4)
        have K4 := Lib.hid (show w4.heap[gs]? = some _ from (hb4.block gs qlt).trans HK.out)
        clear hb4 q0 q1 q2 q3 HK
        go_wp2_with fail
        refine (give_no _ (by first | rfl | (simp; done) | (simp; omega)) at' 144 _).mono ?_
        rintro e w5 ⟨rfl, rfl⟩
        have T4 := Lib.hid (TW.out.after HBW4.out)
        have qlt4 : gs < w4.heap.size := by
          rcases Nat.lt_or_ge gs w4.heap.size with e | e
          · exact e
          · have := K4.out; simp [Array.getElem?_eq_none e] at this
        have q0 : w4.cell? ⟨gs, 0, none⟩ = some (.int .u64 (va : Int)) := by have := K4.out; simp [World.cell?, this]
        have q1 : w4.cell? ⟨gs, 1, none⟩ = some (.int .u32 (fl : Int)) := by have := K4.out; simp [World.cell?, this]
        have q2 : w4.cell? ⟨gs, 2, none⟩ = some (.slice none 0 0) := by have := K4.out; simp [World.cell?, this]
        have q3 : w4.cell? ⟨gs, 3, none⟩ = some (.int .u64 (me : Int)) := by have := K4.out; simp [World.cell?, this]
        have HB4 := Lib.hid (B1.out.trans (HBW4.out.mono B1.out.size))
        by_cases hbad : 0 < si ∧ ¬ (fr ≤ n ∧ fr + si ≤ n)
        · have HH := Lib.hid (show segC L at' l = 140 by
            unfold segC
            rw [HF.out.1, HF.out.2.1, HF.out.2.2.1, HF.out.2.2.2.1, HF.out.2.2.2.2, if_neg (by have := HM.out; omega), if_neg (by rw [hsh]; decide), if_pos (by have := HN.out; omega)])
          obtain ⟨hs1, hs2⟩ := hbad
          by_cases hs3 : fr ≤ n
          · have e1 : IntKind.u64.wrap ((n : Int) - (fr : Int)) = (n : Int) - (fr : Int) := by rw [IntKind.wrap_u64]; omega
            have e2 : ¬ fr + si ≤ n := fun h => hs2 ⟨hs3, h⟩
            clear hs2
            go_wp2_with fail
            refine (give_yes _ (by first | rfl | (simp; done) | (simp; omega)) at' 140 (by decide) _).mono ?_
            rintro e w5 ⟨⟨er, rfl, hc3, her⟩, hb5⟩
            go_wp2_with fail
            exact ⟨rfl, SegPost.bad HH.out ⟨_, rfl, hc3, her⟩ HB4.out.size (HB4.out.trans (hb5.mono HB4.out.size))⟩
          · clear hs2
            go_wp2_with fail
            refine (give_yes _ (by first | rfl | (simp; done) | (simp; omega)) at' 140 (by decide) _).mono ?_
            rintro e w5 ⟨⟨er, rfl, hc3, her⟩, hb5⟩
            go_wp2_with fail
            exact ⟨rfl, SegPost.bad HH.out ⟨_, rfl, hc3, her⟩ HB4.out.size (HB4.out.trans (hb5.mono HB4.out.size))⟩
        · have hno : decide (0 < si ∧ ¬ (fr ≤ n ∧ fr + si ≤ n)) = false := decide_eq_false hbad
          clear hno
          have S4 := Lib.hid (SW.out.after (HBW4.out.mono B1.out.size))
          by_cases hri : risesB l va = true
          · have HH := Lib.hid (show segC L at' l = 0 by
              unfold segC
              rw [HF.out.1, HF.out.2.1, HF.out.2.2.1, HF.out.2.2.2.1, HF.out.2.2.2.2, if_neg (by have := HM.out; omega), if_neg (by rw [hsh]; decide), if_neg (by have := HN.out; omega), if_neg (by rw [hri]; decide)])
            rcases Nat.eq_zero_or_pos si with hs0 | hs0
            · have hnp : ¬ 0 < si := by omega
              go_wp2_with fail
              refine (give_no _ (by first | rfl | (simp; done) | (simp; omega)) at' 140 _).mono ?_
              rintro e w5 ⟨rfl, rfl⟩
              go_wp2_with fail
              refine (rises_any A m cc va fl me _ l _ HM.out (by omega) (S4.out.mono HB4.out.size) HE.out).mono ?_
              rintro e w5 ⟨rfl, hb5⟩
              rw [hri]
              have HBW5 := Lib.hid (chain3 HBW4.out hb5)
              have K5 := Lib.hid (show w5.heap[gs]? = some _ from (hb5.block gs qlt4).trans K4.out)
              have HB5 := Lib.hid (B1.out.trans (HBW5.out.mono B1.out.size))
              clear hb5 q0 q1 q2 q3
              go_wp2_with fail
              refine (give_no _ (by first | rfl | (simp; done) | (simp; omega)) at' 145 _).mono ?_
              rintro e w6 ⟨rfl, rfl⟩
              have FR := Lib.hid (show Fre w5 w.heap.size from fre_of (by rw [HBW5.out.block _ ZW]; exact RW.out))
              obtain ⟨y0, y1, y2, y3, y4, y5, y6, y7, y8, -⟩ := FR.out
              have qlt5 : gs < w5.heap.size := by
                rcases Nat.lt_or_ge gs w5.heap.size with e | e
                · exact e
                · have := K5.out; simp [Array.getElem?_eq_none e] at this
              have q0 : w5.cell? ⟨gs, 0, none⟩ = some (.int .u64 (va : Int)) := by have := K5.out; simp [World.cell?, this]
              have q1 : w5.cell? ⟨gs, 1, none⟩ = some (.int .u32 (fl : Int)) := by have := K5.out; simp [World.cell?, this]
              have q2 : w5.cell? ⟨gs, 2, none⟩ = some (.slice none 0 0) := by have := K5.out; simp [World.cell?, this]
              have q3 : w5.cell? ⟨gs, 3, none⟩ = some (.int .u64 (me : Int)) := by have := K5.out; simp [World.cell?, this]
              have p2 : w5.frozen? ⟨gs, 2, none⟩ = false := by have := K5.out; simp [World.frozen?, this]
              go_wp2_with fail
              have hbk : Below w.heap.size w ((((w5.setCell ⟨w.heap.size, 0, none⟩ (.int .u64 (va : Int))).setCell ⟨w.heap.size, 1, none⟩ (.int .u32 (fl : Int))).setCell ⟨w.heap.size, 2, none⟩ (.slice none 0 0)).setCell ⟨w.heap.size, 3, none⟩ (.int .u64 (me : Int))) := (((HB5.out.setCell (Nat.le_refl _) _).setCell (Nat.le_refl _) _).setCell (Nat.le_refl _) _).setCell (Nat.le_refl _) _
              exact bodyPost_ret (v := .agg #[.int .u64 (va : Int), .int .u32 (fl : Int), .slice none 0 0, .int .u64 (me : Int)]) (by simp [results, Tryd.results30, go_sem, y0, y1, y2, y3, y8]) rfl (SegPost.good (dd := []) HH.out HF.out.2.2.1 HF.out.2.2.2.1 HF.out.2.2.2.2 (by rw [seg_dat L at' fr si HF.out.1 HF.out.2.1, hs0]; rfl) (World.ownsRow_nil _ _ _ _) hbk)
            · obtain ⟨hs1, hs2⟩ : fr ≤ n ∧ fr + si ≤ n := by
                by_cases hx : fr ≤ n ∧ fr + si ≤ n
                · exact hx
                · exact absurd ⟨hs0, hx⟩ hbad
              have e1 : IntKind.u64.wrap ((n : Int) - (fr : Int)) = (n : Int) - (fr : Int) := by rw [IntKind.wrap_u64]; omega
              clear hbad
              go_wp2_with fail
              refine (give_no _ (by first | rfl | (simp; done) | (simp; omega)) at' 140 _).mono ?_
              rintro e w5 ⟨rfl, rfl⟩
              go_wp2_with fail
              refine (rises_any A m cc va fl me _ l _ HM.out (by omega) (S4.out.mono HB4.out.size) HE.out).mono ?_
              rintro e w5 ⟨rfl, hb5⟩
              rw [hri]
              have HBW5 := Lib.hid (chain3 HBW4.out hb5)
              have K5 := Lib.hid (show w5.heap[gs]? = some _ from (hb5.block gs qlt4).trans K4.out)
              have HB5 := Lib.hid (B1.out.trans (HBW5.out.mono B1.out.size))
              clear hb5 q0 q1 q2 q3
              go_wp2_with fail
              refine (give_no _ (by first | rfl | (simp; done) | (simp; omega)) at' 145 _).mono ?_
              rintro e w6 ⟨rfl, rfl⟩
              have FR := Lib.hid (show Fre w5 w.heap.size from fre_of (by rw [HBW5.out.block _ ZW]; exact RW.out))
              obtain ⟨y0, y1, y2, y3, y4, y5, y6, y7, y8, -⟩ := FR.out
              have qlt5 : gs < w5.heap.size := by
                rcases Nat.lt_or_ge gs w5.heap.size with e | e
                · exact e
                · have := K5.out; simp [Array.getElem?_eq_none e] at this
              have q0 : w5.cell? ⟨gs, 0, none⟩ = some (.int .u64 (va : Int)) := by have := K5.out; simp [World.cell?, this]
              have q1 : w5.cell? ⟨gs, 1, none⟩ = some (.int .u32 (fl : Int)) := by have := K5.out; simp [World.cell?, this]
              have q2 : w5.cell? ⟨gs, 2, none⟩ = some (.slice none 0 0) := by have := K5.out; simp [World.cell?, this]
              have q3 : w5.cell? ⟨gs, 3, none⟩ = some (.int .u64 (me : Int)) := by have := K5.out; simp [World.cell?, this]
              have p2 : w5.frozen? ⟨gs, 2, none⟩ = false := by have := K5.out; simp [World.frozen?, this]
              have hfc : ¬ c = fr := by omega
              have hw1 : IntKind.u64.wrap ((fr : Int) + (si : Int)) = (fr : Int) + (si : Int) := by rw [IntKind.wrap_u64]; omega
              have CD0 := cells_part (CW.out.after HBW5.out gW) fr si (by have := HN.out; omega)
              obtain ⟨dd, hdd⟩ : ∃ dd, (List.range si).map (fun i => L.getD (fr + i) 0) = dd := ⟨_, rfl⟩
              have HD := Lib.hid (show si = dd.length by rw [← hdd]; simp)
              have HDD := Lib.hid ((seg_dat L at' fr si HF.out.1 HF.out.2.1).trans hdd)
              rw [hdd] at CD0
              have CD := Lib.hid CD0
              clear CD0 hdd
              go_wp2_with (first | (at_builtin; refine app_row rfl _ _ rfl w5.heap.size _ 0 [] rfl (World.ownsRow_nil _ _ _ _) g (o + fr) si si dd (by simp [Act.eval]) HD.out hs0 CD.out (by omega) (Nat.le_refl _) ?_) | fail)
              intro g6 cap w6 hown hgr hat6 hgl
              have hgr0 : w5.grownBy w6 none := hgr
              have hb6 : Below w5.heap.size w5 w6 := ⟨hgr0.os, hgr0.tape, hgr0.output, hgr0.size, fun k hk => hgr0.block k hk (by simp)⟩
              have HB6 := Lib.hid (HB5.out.trans (hb6.mono HB5.out.size))
              have zw5 : w.heap.size < w5.heap.size := y8
              obtain ⟨z0, z1, z2, z3, z4, z5, z6, z7, z8, -⟩ := carry_of hb6 FR.out
              obtain ⟨hcc, hff⟩ := bcell hb6
              have r0 : w6.cell? ⟨gs, 0, none⟩ = some (.int .u64 (va : Int)) := by rw [hcc _ _ qlt5]; exact q0
              have r1 : w6.cell? ⟨gs, 1, none⟩ = some (.int .u32 (fl : Int)) := by rw [hcc _ _ qlt5]; exact q1
              have r2 : w6.cell? ⟨gs, 2, none⟩ = some (.slice none 0 0) := by rw [hcc _ _ qlt5]; exact q2
              have r3 : w6.cell? ⟨gs, 3, none⟩ = some (.int .u64 (me : Int)) := by rw [hcc _ _ qlt5]; exact q3
              have s2 : w6.frozen? ⟨gs, 2, none⟩ = false := by rw [hff _ _ qlt5]; exact p2
              have qlt6 : gs < w6.heap.size := Nat.lt_of_lt_of_le qlt5 hb6.size
              have hne : ¬ gs = w.heap.size := by omega
              have hne2 : ¬ w.heap.size = gs := by omega
              have HO := Lib.hid hown
              clear hown hgr hat6 hgl hgr0 hb6 hcc hff y0 y1 y2 y3 y4 y5 y6 y7 y8 q0 q1 q2 q3 p2 FR
              go_wp2_with fail
              have hbk : Below w.heap.size w (((((w6.setCell ⟨gs, 2, none⟩ (.slice (some ⟨g6, 0, none⟩) si cap)).setCell ⟨w.heap.size, 0, none⟩ (.int .u64 (va : Int))).setCell ⟨w.heap.size, 1, none⟩ (.int .u32 (fl : Int))).setCell ⟨w.heap.size, 2, none⟩ (.slice (some ⟨g6, 0, none⟩) si cap)).setCell ⟨w.heap.size, 3, none⟩ (.int .u64 (me : Int))) := ((((HB6.out.setCell (Nat.le_trans (Nat.le_of_lt ZW) hgs) _).setCell (Nat.le_refl _) _).setCell (Nat.le_refl _) _).setCell (Nat.le_refl _) _).setCell (Nat.le_refl _) _
              have hok : OwnB (((((w6.setCell ⟨gs, 2, none⟩ (.slice (some ⟨g6, 0, none⟩) si cap)).setCell ⟨w.heap.size, 0, none⟩ (.int .u64 (va : Int))).setCell ⟨w.heap.size, 1, none⟩ (.int .u32 (fl : Int))).setCell ⟨w.heap.size, 2, none⟩ (.slice (some ⟨g6, 0, none⟩) si cap)).setCell ⟨w.heap.size, 3, none⟩ (.int .u64 (me : Int))) w.heap.size (.slice (some ⟨g6, 0, none⟩) si cap) dd := by
                have h : w6.ownsRow w5.heap.size 5 1 (.slice (some ⟨g6, 0, none⟩) si cap) si (dd.map byteV) := by simpa using HO.out
                have h2 := ownsRow_setCell_below (ownsRow_setCell_below (ownsRow_setCell_below (ownsRow_setCell_below (ownsRow_setCell_below h (a := ⟨gs, 2, none⟩) qlt5 (.slice (some ⟨g6, 0, none⟩) si cap)) (a := ⟨w.heap.size, 0, none⟩) zw5 (.int .u64 (va : Int))) (a := ⟨w.heap.size, 1, none⟩) zw5 (.int .u32 (fl : Int))) (a := ⟨w.heap.size, 2, none⟩) zw5 (.slice (some ⟨g6, 0, none⟩) si cap)) (a := ⟨w.heap.size, 3, none⟩) zw5 (.int .u64 (me : Int))
                unfold OwnB
                rw [← HD.out]
                exact h2.mono (Nat.le_of_lt zw5)
              exact bodyPost_ret (v := .agg #[.int .u64 (va : Int), .int .u32 (fl : Int), .slice (some ⟨g6, 0, none⟩) si cap, .int .u64 (me : Int)]) (by simp [results, Tryd.results30, go_sem, z0, z1, z2, z3, z8, hne, hne2]) rfl (SegPost.good HH.out HF.out.2.2.1 HF.out.2.2.2.1 HF.out.2.2.2.2 HDD.out hok hbk)
          · have HH := Lib.hid (show segC L at' l = 145 by
              unfold segC
              rw [HF.out.1, HF.out.2.1, HF.out.2.2.1, HF.out.2.2.2.1, HF.out.2.2.2.2, if_neg (by have := HM.out; omega), if_neg (by rw [hsh]; decide), if_neg (by have := HN.out; omega), if_pos (by simpa using hri)])
            rcases Nat.eq_zero_or_pos si with hs0 | hs0
            · have hnp : ¬ 0 < si := by omega
              clear hbad
              go_wp2_with fail
              refine (give_no _ (by first | rfl | (simp; done) | (simp; omega)) at' 140 _).mono ?_
              rintro e w5 ⟨rfl, rfl⟩
              go_wp2_with fail
              refine (rises_any A m cc va fl me _ l _ HM.out (by omega) (S4.out.mono HB4.out.size) HE.out).mono ?_
              rintro e w5 ⟨rfl, hb5⟩
              rw [show risesB l va = false by simpa using hri]
              have HBW5 := Lib.hid (chain3 HBW4.out hb5)
              have K5 := Lib.hid (show w5.heap[gs]? = some _ from (hb5.block gs qlt4).trans K4.out)
              have HB5 := Lib.hid (B1.out.trans (HBW5.out.mono B1.out.size))
              clear hb5 q0 q1 q2 q3
              go_wp2_with fail
              refine (give_yes _ (by first | rfl | (simp; done) | (simp; omega)) at' 145 (by decide) _).mono ?_
              rintro e w6 ⟨⟨er, rfl, hc3, her⟩, hb6⟩
              go_wp2_with fail
              exact ⟨rfl, SegPost.bad HH.out ⟨_, rfl, hc3, her⟩ HB5.out.size (HB5.out.trans (hb6.mono HB5.out.size))⟩
            · obtain ⟨hs1, hs2⟩ : fr ≤ n ∧ fr + si ≤ n := by
                by_cases hx : fr ≤ n ∧ fr + si ≤ n
                · exact hx
                · exact absurd ⟨hs0, hx⟩ hbad
              have e1 : IntKind.u64.wrap ((n : Int) - (fr : Int)) = (n : Int) - (fr : Int) := by rw [IntKind.wrap_u64]; omega
              clear hbad
              go_wp2_with fail
              refine (give_no _ (by first | rfl | (simp; done) | (simp; omega)) at' 140 _).mono ?_
              rintro e w5 ⟨rfl, rfl⟩
              go_wp2_with fail
              refine (rises_any A m cc va fl me _ l _ HM.out (by omega) (S4.out.mono HB4.out.size) HE.out).mono ?_
              rintro e w5 ⟨rfl, hb5⟩
              rw [show risesB l va = false by simpa using hri]
              have HBW5 := Lib.hid (chain3 HBW4.out hb5)
              have K5 := Lib.hid (show w5.heap[gs]? = some _ from (hb5.block gs qlt4).trans K4.out)
              have HB5 := Lib.hid (B1.out.trans (HBW5.out.mono B1.out.size))
              clear hb5 q0 q1 q2 q3
              go_wp2_with fail
              refine (give_yes _ (by first | rfl | (simp; done) | (simp; omega)) at' 145 (by decide) _).mono ?_
              rintro e w6 ⟨⟨er, rfl, hc3, her⟩, hb6⟩
              go_wp2_with fail
              exact ⟨rfl, SegPost.bad HH.out ⟨_, rfl, hc3, her⟩ HB5.out.size (HB5.out.trans (hb6.mono HB5.out.size))⟩
      · have HH := Lib.hid (show segC L at' l = 144 by
          unfold segC
          rw [HF.out.1, HF.out.2.1, HF.out.2.2.1, HF.out.2.2.2.1, HF.out.2.2.2.2, if_neg (by have := HM.out; omega), if_pos (by simpa using hsh)])
        go_wp2_with fail
        refine (shaped_any va fl me si _ _ b3 b4 b5 b2).mono ?_
        rintro e w4 ⟨rfl, hb4⟩
        rw [show shapedB va fl me si = false by simpa using hsh]
        have HBW4 := Lib.hid (chain3 HBW.out hb4)
        have HB4 := Lib.hid (B1.out.trans (HBW4.out.mono B1.out.size))
        go_wp2_with fail
        refine (give_yes _ (by first | rfl | (simp; done) | (simp; omega)) at' 144 (by decide) _).mono ?_
        rintro e w5 ⟨⟨er, rfl, hc3, her⟩, hb5⟩
        go_wp2_with fail
        exact ⟨rfl, SegPost.bad HH.out ⟨_, rfl, hc3, her⟩ HB4.out.size (HB4.out.trans (hb5.mono HB4.out.size))⟩
end Go.Proofs.YtdklggmeigogcaaDoor
