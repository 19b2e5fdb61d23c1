/- hartixlaw0's lists of bytes: the same bytes, a copy, what is lent. By an AI agent. -/
import Derived.Test.YtdklggmeigogcaaDoorErr
import Derived.ArgAppend
import Derived.Laws.OwnMore
import Derived.Deep.Onto
import Derived.Deep.AppendLies
import Derived.OwnWalk
set_option linter.unusedVariables false
set_option linter.unusedSimpArgs false
namespace Go.Proofs.YtdklggmeigogcaaDoor
open Go.RowKit
/-- The list of bytes L can be read at A: it is empty, or its cells lie in a row, below block B. -/
def Byt (w : World) (B : Nat) (A : Option Addr) (L : List Nat) : Prop :=
  0 < L.length → ∃ g o, A = some ⟨g, o, none⟩ ∧ g < B ∧ ∀ i, i < L.length → w.cell? ⟨g, o + i, none⟩ = some (.int .u8 ((L.getD i 0 : Nat) : Int))
def Small (L : List Nat) : Prop := ∀ i, L.getD i 0 < 256
theorem Byt.nil (w : World) (B : Nat) (A : Option Addr) : Byt w B A [] := fun h => absurd h (by simp)
theorem Byt.after {w w' : World} {B : Nat} {A : Option Addr} {L : List Nat} (h : Byt w B A L) (hb : Below B w w') : Byt w' B A L := fun hn => by
  obtain ⟨g, o, e, hg, hc⟩ := h hn
  exact ⟨g, o, e, hg, fun i hi => by rw [hb.cell (p := ⟨g, o + i, none⟩) hg]; exact hc i hi⟩
theorem Byt.mono {w : World} {B B' : Nat} {A : Option Addr} {L : List Nat} (h : Byt w B A L) (hb : B ≤ B') : Byt w B' A L := fun hn => by
  obtain ⟨g, o, e, hg, hc⟩ := h hn
  exact ⟨g, o, e, Nat.lt_of_lt_of_le hg hb, hc⟩
theorem Byt.size {w : World} {B : Nat} {A : Option Addr} {L : List Nat} (h : Byt w B A L) : Byt w w.heap.size A L := fun hn => by
  obtain ⟨g, o, e, hg, hc⟩ := h hn
  exact ⟨g, o, e, World.block_lt_of_cell? w _ (hc 0 hn), hc⟩
def byteV (x : Nat) : Value := .int .u8 (x : Int)
theorem Byt.of_own {w : World} {base n : Nat} {A : Option Addr} {c : Nat} {L : List Nat} (h : w.ownsRow base 5 1 (.slice A n c) n (L.map byteV)) : Byt w w.heap.size A L ∧ n = L.length := by
  have hl : n = L.length := by have := h.1; simp at this; omega
  refine ⟨fun hn => ?_, hl⟩
  obtain ⟨g, cap, hv, _, hlt⟩ := h.form (by omega)
  have hA : A = some ⟨g, 0, none⟩ := by injection hv
  subst hA
  refine ⟨g, 0, rfl, hlt, fun i hi => ?_⟩
  rw [Nat.zero_add, h.cellAt i (by omega)]
  simp [byteV, hi]
set_option maxHeartbeats 400000 in
theorem bytes_same (A A' : Option Addr) (c c' n : Nat) (L : List Nat) (w : World) (hn : n = L.length) (hm : n ≤ 140737488351232) (h1 : Byt w w.heap.size A L) (h2 : Byt w w.heap.size A' L) :
    Calls Tryd.prog 22 #[.slice A n c, .slice A' n c'] w fun e w' => e = .returned (.bool true) ∧ Below w.heap.size w w' := by
  have H1 := Lib.hid h1
  have H2 := Lib.hid h2
  have HN := Lib.hid hn
  clear h1 h2 hn
  go_enter Tryd.func22, Tryd.ntmps22
  go_wp2_with fail
  go_loopw [5] (fun i wr => ∃ k : Nat, k ≤ n ∧ i = .int .i64 k ∧ Below w.heap.size w wr) (fun i _ => 140737488351233 - (intOf i).toNat)
  case atStart => exact ⟨0, by omega, rfl, Below.refl _ _⟩
  case round =>
    obtain ⟨k, hk, rfl, hb⟩ := hrel
    have HB := Lib.hid hb
    clear hb
    by_cases hlt : k < n
    · obtain ⟨g, o, e1, hg, hc⟩ := (H1.out.after HB.out) (by have := HN.out; omega)
      obtain ⟨g', o', e2, hg', hc'⟩ := (H2.out.after HB.out) (by have := HN.out; omega)
      subst e1 e2
      have p1 := hc k (by have := HN.out; omega)
      have p2 := hc' k (by have := HN.out; omega)
      clear hc hc'
      have z1 := World.block_lt_of_cell? _ _ p1
      have z2 := World.block_lt_of_cell? _ _ p2
      go_wp2
      repeat (go_quiet (fail); try go_wp2)
      go_roundw
      case rel => exact ⟨k + 1, by omega, by go_num, below_drewN HB.out _⟩
      case measure => simp [intOf]; omega
    · have h3 : k = n := by omega
      go_wp2_with fail
      go_ret
      exact ⟨rfl, HB.out⟩
theorem iU8 : ∃ i, Tryd.prog.info? 5 = some i ∧ i.zero = some (.int .u8 0) ∧ i.size = 1 ∧ i.bytes = 1 := by
  have h : (Tryd.prog.info? 5).map (fun i => (i.zero, i.size, i.bytes)) = some (some (.int .u8 0), 1, 1) := by kernel_rfl
  obtain ⟨i, hi, h⟩ := Option.map_eq_some_iff.1 h
  simp only [Prod.mk.injEq] at h
  exact ⟨i, hi, h.1, h.2.1, h.2.2⟩
/-- One byte appended. -/
theorem app_byte {ops : Array Oper} {rest : List Oper} {o : Oper} {a : Act} {Q : Exit → Act → World → Prop} {w : World} (hgd : o.guard = none) (s x : Operand)
    (ho : o.op = .call { callee := .builtin .append, args := #[s, x], argTypes := #[22, 22] }) (base : Nat) (v : Value) (n : Nat) (L : List Nat) (hs : a.eval s = v) (hown : w.ownsRow base 5 1 v n (L.map byteV))
    (g0 : Nat) (y : Nat) (hx : a.eval x = .slice (some ⟨g0, 0, none⟩) 1 1) (hc : w.cell? ⟨g0, 0, none⟩ = some (.int .u8 (y : Int))) (hn : n ≤ 1099511627776) (hbase : base ≤ w.heap.size)
    (h : ∀ g cap w', w'.ownsRow base 5 1 (.slice (some ⟨g, 0, none⟩) (n + 1) cap) (n + 1) ((L ++ [y]).map byteV) → w.grownBy w' v.ownBlock → (v.ownBlock = some g ∨ g = w.heap.size) → g < w'.heap.size → wpList Tryd.prog ops Q rest (a.put o.dst (.slice (some ⟨g, 0, none⟩) (n + 1) cap)) w') :
    wpList Tryd.prog ops Q (o :: rest) a w := by
  obtain ⟨i, hi, hz, h1, h8⟩ := iU8
  refine wpList_append_lies w hgd s x 22 ho base 5 i (.int .u8 0) 1 1 Tryd.underlying22 hi hz h1 h8 rfl (by decide) v n _ hs hown ⟨g0, 0, none⟩ 1 1 [byteV y] hx rfl ?_ ?_ (by decide) ?_ ?_ hbase _ rfl (by simpa using h)
  · intro j u hj
    match j, hj with
    | 0, hj => simp at hj; subst hj; simpa [Addr.add, byteV] using hc
  · intro u hu; simp at hu; subst hu; rfl
  · unfold maxLen; omega
  · omega
/-- A new list of bytes: a row of the call's own. -/
def OwnB (w : World) (B : Nat) (v : Value) (L : List Nat) : Prop := w.ownsRow B 5 1 v L.length (L.map byteV)
def CopyPost (L : List Nat) (w : World) (e : Ending) (w' : World) : Prop := ∃ v, e = .returned v ∧ OwnB w' w.heap.size v L ∧ Below w.heap.size w w'
theorem own_cap {w : World} {B : Nat} {e : TypeId} {z n cap g : Nat} {xs : List Value} (h : w.ownsRow B e z (.slice (some ⟨g, 0, none⟩) n cap) n xs) : n ≤ cap ∧ cap ≤ maxLen := by
  rcases h.2 with ⟨h1, _⟩ | ⟨g', c', cur, h1, _, _, h2, h3, _⟩
  · cases h1
  · injection h1 with _ _ h4
    subst h4; exact ⟨h2, h3⟩
theorem take_snoc_d (L : List Nat) (k : Nat) (h : k < L.length) : L.take (k + 1) = L.take k ++ [L.getD k 0] := by
  rw [List.take_succ_eq_append_getElem h]; simp [h]
theorem below_own {B : Nat} {w w' : World} {v : Value} {e : TypeId} {s n : Nat} {xs : List Value} (hb : Below B w w') (hg : w'.ownsRow B e s v n xs) {w2 : World} (hgr : w'.grownBy w2 v.ownBlock) (hs : B ≤ w'.heap.size) : Below B w w2 :=
  hb.grown hgr hs (fun g e => (hg.lt g e).1)
set_option maxHeartbeats 400000 in
theorem copy_any (A : Option Addr) (c n : Nat) (L : List Nat) (w : World) (hn : n = L.length) (hm : n ≤ 1048576) (h1 : Byt w w.heap.size A L) :
    Calls Tryd.prog 15 #[.slice A n c] w (CopyPost L w) := by
  have HN := Lib.hid hn
  have H1 := Lib.hid h1
  clear hn h1
  go_enter Tryd.func15, Tryd.ntmps15
  go_wp2_with fail
  go_loopw [3, 4] (fun v i wr => ∃ k : Nat, k ≤ n ∧ i = .int .i64 k ∧ wr.ownsRow w.heap.size 5 1 v k ((L.take k).map byteV) ∧ Below w.heap.size w wr) (fun _ i _ => n + 1 - (intOf i).toNat)
  case atStart => exact ⟨0, by omega, rfl, World.ownsRow_nil _ _ _ _, Below.refl _ _⟩
  case round =>
    obtain ⟨k, hk, rfl, ho, hb⟩ := hrel
    have HO := Lib.hid ho
    have HB := Lib.hid hb
    clear ho hb
    by_cases hlt : k < n
    · have hsn := Lib.hid (take_snoc_d L k (by have := HN.out; omega))
      obtain ⟨g, o, e1, hg, hc⟩ := (H1.out.after HB.out) (by have := HN.out; omega)
      subst e1
      have p1 := hc k (by have := HN.out; omega)
      clear hc
      have z1 := World.block_lt_of_cell? _ _ p1
      go_wp2_with (first | (at_builtin; refine app_byte rfl _ _ rfl w.heap.size _ _ _ rfl (HO.out.alloc _) _ (L.getD k 0) rfl (by simp [go_sem]) (by omega) (by have := HB.out.size; simp; omega) ?_) | fail)
      intro g2 cap w2 hown hgr hat hgl
      have HB2 := Lib.hid (below_own (HB.out.alloc HB.out.size (.cells #[.int .u8 ((L.getD k 0 : Nat) : Int)] 5)) (HO.out.alloc _) hgr (by have := HB.out.size; simp; omega))
      have HO2 := Lib.hid hown
      clear hown hgr hat hgl
      go_wp2_with fail
      go_roundw
      case rel => exact ⟨k + 1, by omega, by go_num, by rw [hsn.out]; simpa using HO2.out, HB2.out⟩
      case measure => simp [intOf]; omega
    · have h3 : k = n := by omega
      go_wp2_with fail
      go_ret
      exact ⟨_, rfl, by have h := HO.out; rw [List.take_of_length_le (by have := HN.out; omega)] at h; unfold OwnB; rw [← HN.out, ← h3]; exact h, HB.out⟩
def marks : List Nat := (List.range 64).map (160 + ·)
/-- What is lent: the bytes, behind them 64 marks. -/
def LendPost (L : List Nat) (w : World) (e : Ending) (w' : World) : Prop :=
  ∃ g cap, e = .returned (.slice (some ⟨g, 0, none⟩) L.length cap) ∧ w.heap.size ≤ g ∧ L.length + 64 ≤ cap ∧ w'.ownsRow w.heap.size 5 1 (.slice (some ⟨g, 0, none⟩) (L.length + 64) cap) (L.length + 64) ((L ++ marks).map byteV) ∧ Below w.heap.size w w'
theorem marks_snoc (k : Nat) (h : k < 64) : marks.take (k + 1) = marks.take k ++ [160 + k] := by
  rw [List.take_succ_eq_append_getElem (by simpa [marks] using h)]; simp [marks]
set_option maxHeartbeats 800000 in
set_option maxRecDepth 20000 in
theorem lend_any (A : Option Addr) (c n : Nat) (L : List Nat) (w : World) (hn : n = L.length) (hm : n ≤ 1048576) (h1 : Byt w w.heap.size A L) :
    Calls Tryd.prog 9 #[.slice A n c] w (LendPost L w) := by
  obtain ⟨iu, hi, hz0, hz1, hz2⟩ := iU8
  have HN := Lib.hid hn
  have H1 := Lib.hid h1
  clear hn h1
  go_enter Tryd.func9, Tryd.ntmps9
  have HI := Lib.hid hi
  have HZ := Lib.hid hz0
  have HZ1 := Lib.hid hz1
  have HZ2 := Lib.hid hz2
  clear hi hz0 hz1 hz2
  go_wp2_with (first | (at_make; refine wpList_make_own _ rfl _ _ 22 rfl w.heap.size 5 iu (.int .u8 0) 1 Tryd.underlying22 HI.out HZ.out HZ1.out .i64 .i64 _ (n + 64) rfl rfl (by first | rfl | omega) (by rw [HZ2.out]; omega) (by unfold maxLen; omega) (Nat.le_refl _) ?_; intro w0 hown0 hgrow0) | fail)
  have HO0 := Lib.hid hown0
  have HB0 := Lib.hid ((Below.refl w.heap.size w).grown hgrow0 (Nat.le_refl _) (by simp))
  clear hown0 hgrow0
  go_loopw [3, 4] (fun v i wr => ∃ k : Nat, k ≤ n ∧ i = .int .i64 k ∧ (∃ g cap, v = .slice (some ⟨g, 0, none⟩) k cap) ∧ wr.ownsRow w.heap.size 5 1 v k ((L.take k).map byteV) ∧ Below w.heap.size w wr) (fun _ i _ => n + 1 - (intOf i).toNat)
  case atStart => exact ⟨0, by omega, rfl, ⟨_, _, rfl⟩, HO0.out, HB0.out⟩
  case round =>
    obtain ⟨k, hk, rfl, ⟨g0, cap0, rfl⟩, ho, hb⟩ := hrel
    clear HO0 HB0
    have HO := Lib.hid ho
    have HB := Lib.hid hb
    clear ho hb
    by_cases hlt : k < n
    · have hsn := Lib.hid (take_snoc_d L k (by have := HN.out; omega))
      obtain ⟨g, o, e1, hg, hc⟩ := (H1.out.after HB.out) (by have := HN.out; omega)
      subst e1
      have p1 := hc k (by have := HN.out; omega)
      clear hc
      have z1 := World.block_lt_of_cell? _ _ p1
      go_wp2_with (first | (at_builtin; refine app_byte rfl _ _ rfl w.heap.size _ _ _ rfl (HO.out.alloc _) _ (L.getD k 0) rfl (by simp [go_sem]) (by omega) (by have := HB.out.size; simp; omega) ?_) | fail)
      intro g2 cap w2 hown hgr hat hgl
      have HB2 := Lib.hid (below_own (HB.out.alloc HB.out.size (.cells #[.int .u8 ((L.getD k 0 : Nat) : Int)] 5)) (HO.out.alloc _) hgr (by have := HB.out.size; simp; omega))
      have HO2 := Lib.hid hown
      clear hown hgr hat hgl
      go_wp2_with fail
      go_roundw
      case rel => exact ⟨k + 1, by omega, by go_num, ⟨_, _, rfl⟩, by rw [hsn.out]; simpa using HO2.out, HB2.out⟩
      case measure => simp [intOf]; omega
    · have h3 : k = n := by omega
      have HO3 := Lib.hid (show wr.ownsRow w.heap.size 5 1 (.slice (some ⟨g0, 0, none⟩) n cap0) (n + 0) ((L ++ marks.take 0).map byteV) by
        have h := HO.out; rw [List.take_of_length_le (by have := HN.out; omega), h3] at h; simpa using h)
      clear HO
      subst h3
      go_wp2_with fail
      go_loopw [3, 5] (fun v i wr => ∃ q : Nat, q ≤ 64 ∧ i = .int .i64 q ∧ (∃ g cap, v = .slice (some ⟨g, 0, none⟩) (k + q) cap) ∧ wr.ownsRow w.heap.size 5 1 v (k + q) ((L ++ marks.take q).map byteV) ∧ Below w.heap.size w wr) (fun _ i _ => 65 - (intOf i).toNat)
      case atStart => exact ⟨0, by omega, rfl, ⟨_, _, rfl⟩, HO3.out, HB.out⟩
      case round =>
        obtain ⟨q, hq, rfl, ⟨g1, cap1, rfl⟩, ho, hb⟩ := hrel
        clear HO3 HB
        have HO := Lib.hid ho
        have HB := Lib.hid hb
        clear ho hb
        by_cases hlt2 : q < 64
        · have hsn := Lib.hid (marks_snoc q hlt2)
          go_wp2_with (first | (at_builtin; refine app_byte rfl _ _ rfl w.heap.size _ _ _ rfl (HO.out.alloc _) _ (160 + q) rfl (by simp [go_sem]) (by omega) (by have := HB.out.size; simp; omega) ?_) | fail)
          intro g2 cap w2 hown hgr hat hgl
          have HB2 := Lib.hid (below_own (HB.out.alloc HB.out.size (.cells #[.int .u8 ((160 + q : Nat) : Int)] 5)) (HO.out.alloc _) hgr (by have := HB.out.size; simp; omega))
          have HO2 := Lib.hid hown
          clear hown hgr hat hgl
          go_wp2_with fail
          go_roundw
          case rel => exact ⟨q + 1, by omega, by go_num, ⟨_, _, rfl⟩, by rw [hsn.out]; simpa [← Nat.add_assoc] using HO2.out, HB2.out⟩
          case measure => simp [intOf]; omega
        · have h4 : q = 64 := by omega
          subst h4
          obtain ⟨hcap, _⟩ := own_cap HO.out
          have hcap2 : k ≤ cap1 := by omega
          obtain ⟨hgg, _⟩ := HO.out.lt _ rfl
          go_wp2_with fail
          go_ret
          have hL := HN.out
          subst hL
          exact ⟨g1, cap1, by simp, hgg, hcap, by have h := HO.out; rw [List.take_of_length_le (by simp [marks])] at h; exact h, HB.out⟩
/-- What was lent, read: its bytes, behind them the marks. -/
def LentAt (w : World) (g cap : Nat) (L : List Nat) : Prop := L.length + 64 ≤ cap ∧ ∀ i, i < L.length + 64 → w.cell? ⟨g, i, none⟩ = some (.int .u8 (((L ++ marks).getD i 0 : Nat) : Int))
theorem LentAt.of_own {w : World} {B g cap : Nat} {L : List Nat} (h : w.ownsRow B 5 1 (.slice (some ⟨g, 0, none⟩) (L.length + 64) cap) (L.length + 64) ((L ++ marks).map byteV)) : LentAt w g cap L := by
  refine ⟨(own_cap h).1, fun i hi => ?_⟩
  rw [h.cellAt i (by omega)]
  have hl : i < (L ++ marks).length := by simp [marks]; omega
  rw [List.getElem?_map, List.getElem?_eq_getElem hl]
  simp [byteV, List.getElem?_eq_getElem hl]
theorem LentAt.lt {w : World} {g cap : Nat} {L : List Nat} (h : LentAt w g cap L) : g < w.heap.size := World.block_lt_of_cell? w _ (h.2 0 (by omega))
theorem LentAt.after {w w' : World} {g cap : Nat} {L : List Nat} (h : LentAt w g cap L) (hb : Below w.heap.size w w') : LentAt w' g cap L :=
  ⟨h.1, fun i hi => by rw [hb.cell (p := ⟨g, i, none⟩) h.lt]; exact h.2 i hi⟩
theorem LentAt.byt {w : World} {g cap : Nat} {L : List Nat} (h : LentAt w g cap L) : Byt w w.heap.size (some ⟨g, 0, none⟩) L := fun hn =>
  ⟨g, 0, rfl, h.lt, fun i hi => by rw [Nat.zero_add, h.2 i (by omega)]; simp [List.getElem?_append_left hi]⟩
set_option maxHeartbeats 800000 in
theorem kept_any (A : Option Addr) (c n g cap : Nat) (L : List Nat) (w : World) (hn : n = L.length) (hm : n ≤ 1048576) (hl : LentAt w g cap L) (h1 : Byt w w.heap.size A L) :
    Calls Tryd.prog 14 #[.slice (some ⟨g, 0, none⟩) n cap, .slice A n c] w fun e w' => e = .returned (.bool true) ∧ Below w.heap.size w w' := by
  have HN := Lib.hid hn
  have H1 := Lib.hid h1
  have HL := Lib.hid hl
  have hcap : n + 64 ≤ cap := by have := hl.1; omega
  clear hn h1 hl
  go_enter Tryd.func14, Tryd.ntmps14
  go_wp2_with fail
  refine (bytes_same _ _ _ _ n L _ HN.out (by omega) HL.out.byt H1.out).mono ?_
  rintro e w1 ⟨rfl, hb⟩
  have HB := Lib.hid hb
  clear hb
  go_wp2_with fail
  go_loopw [6] (fun i wr => ∃ k : Nat, k ≤ 64 ∧ i = .int .i64 k ∧ Below w.heap.size w wr) (fun i _ => 65 - (intOf i).toNat)
  case atStart => exact ⟨0, by omega, rfl, HB.out⟩
  case round =>
    obtain ⟨k, hk, rfl, hb⟩ := hrel
    clear HB
    have HB := Lib.hid hb
    clear hb
    by_cases hlt : k < 64
    · have p1 : wr.cell? ⟨g, n + k, none⟩ = some (.int .u8 ((160 + k : Nat) : Int)) := by
        have h := (HL.out.after HB.out).2 (n + k) (by have := HN.out; omega)
        rw [h, HN.out]
        simp [marks, hlt]
      have z1 := World.block_lt_of_cell? _ _ p1
      go_wp2
      repeat (go_quiet (fail); try go_wp2)
      go_roundw
      case rel => exact ⟨k + 1, by omega, by go_num, HB.out⟩
      case measure => simp [intOf]; omega
    · have h3 : k = 64 := by omega
      go_wp2_with fail
      go_ret
      exact ⟨rfl, HB.out⟩
end Go.Proofs.YtdklggmeigogcaaDoor
