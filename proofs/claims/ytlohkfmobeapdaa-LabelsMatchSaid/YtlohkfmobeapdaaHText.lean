/- strings.Builder's writing methods at this program, and labels.Text over them. -/
import Derived.Test.YtlohkfmobeapdaaPx0
import Derived.Test.YtlohkfmobeapdaaHShelf
import Derived.Lib.Strings
import Derived.Lib.Slices
import Derived.Lib.Walk
import Derived.Lib.Builder
import Derived.Lib.AppendStr
import Derived.Lib.UnsafeStr
import Derived.Laws.Externs
namespace Go.Proofs.Ytlohkfmobeapdaa.P
open Go.RowKit Go.Proofs.YtlohkfmobeapdaaW.PrintWords Go.Proofs.YtlohkfmobeapdaaW.PrintLast Go.Proofs.YtlohkfmobeapdaaW.PrintMore
set_option linter.unusedVariables false
set_option linter.unusedSimpArgs false

theorem sizeBuilder : ∃ j, Try.prog.info? 61 = some j ∧ j.size = 2 := by
  have h : (Try.prog.info? 61).map (·.size) = some 2 := by kernel_rfl
  exact Option.map_eq_some_iff.1 h
theorem liesBuilder : liesAt Try.prog Try.prog.depth 61 (2 / Try.prog.cellsOf 61) 0 61 1 = true := by kernel_rfl

/-- Every block but the builder's own, and but rows of bytes, is as it was. -/
def KeepT (b : Nat) (w w' : World) : Prop := ∀ k cs (T : TypeId) fr, k ≠ b → T ≠ 5 → w.heap[k]? = some (.cells cs T fr) → w'.heap[k]? = some (.cells cs T fr)
theorem KeepT.refl (b : Nat) (w : World) : KeepT b w w := fun _ _ _ _ _ _ h => h
theorem KeepT.trans {b : Nat} {w w1 w2 : World} (h : KeepT b w w1) (k : KeepT b w1 w2) : KeepT b w w2 := fun j cs T fr hj hT hh => k j cs T fr hj hT (h j cs T fr hj hT hh)
theorem KeepT.set (b j : Nat) (w : World) (x : Value) : KeepT b w (w.setCell ⟨b, j, none⟩ x) := fun k cs T fr hk hT hh => (Below.heap_setCell _ _ _ _ (fun e => hk (by simp at e; exact e))).trans hh

set_option maxHeartbeats 1000000 in
set_option maxRecDepth 100000 in
theorem copyCheck_calls (B b : Nat) (bs : List Value) (w : World) (h : Lib.IsBuilder 61 5 B b bs w) :
    Calls Try.prog 59 #[.pointer (some ⟨b, 0, none⟩)] w fun e w' => e = .returned (.tuple #[]) ∧ (Lib.BuilderAt 61 5 B b (.pointer (some ⟨b, 0, none⟩)) bs w' ∧ Below B w w' ∧ KeepT b w w') := by
  obtain ⟨j, hj, hjs⟩ := sizeBuilder
  rcases h with h | h
  · have h0 := h.cell0
    have hsh := h.shape
    have hfz := h.frozen0
    have HB := Aside0.mk h
    clear h
    go_enter Try.func59, Try.ntmps59
    go_wp2
    rw [Lib.run_to_unsafe w ⟨b, 0, none⟩ Try.underlying58 Try.underlying88 hj (by rw [hjs]; decide) hsh (Nat.zero_lt_succ 1)]
    simp only [Result.andThen]
    rw [Oper.upon_value]
    go_wp2
    rw [run_callFunc_extern Try.func70 (by kernel_rfl) (by kernel_rfl) (by kernel_rfl) (e := Extern.AbiNoEscape.same) (by kernel_rfl)]
    rw [Lib.run_noEscape]
    simp only [Result.andThen]
    rw [Oper.upon_value]
    go_wp2
    rw [Lib.run_from_unsafe w ⟨b, 0, none⟩ Try.underlying88 Try.underlying58 hj hsh liesBuilder]
    simp only [Result.andThen]
    rw [Oper.upon_value]
    go_wp2
    go_end0
    exact ⟨rfl, HB.out.used _, (Below.refl B w).setCell (p := ⟨b, 0, none⟩) HB.out.1 _, KeepT.set b 0 w _⟩
  · have h0 := h.cell0
    have HB := Aside0.mk h
    clear h
    go_enter Try.func59, Try.ntmps59
    go_wp2
    rw [Lib.run_neq_ptr_same w _ Try.underlying58 hj]
    go_wp2
    go_end0
    exact ⟨rfl, HB.out, Below.refl B _, KeepT.refl b _⟩

set_option maxHeartbeats 2000000 in
set_option maxRecDepth 100000 in
theorem writeString_calls (B b : Nat) (bs : List Value) (s : ByteArray) (w : World) (h : Lib.IsBuilder 61 5 B b bs w) (hlen : bs.length + s.size ≤ 140737488355328) (hBw : B ≤ w.heap.size) :
    Calls Try.prog 42 #[.pointer (some ⟨b, 0, none⟩), .string s] w fun e w' => e = .returned (.tuple #[.int .i64 s.size, .nilIface]) ∧ (Lib.BuilderAt 61 5 B b (.pointer (some ⟨b, 0, none⟩)) (bs ++ Lib.strCells s) w' ∧ Below B w w' ∧ KeepT b w w') := by
  have hinfo : (Try.prog.info? 5).map (fun i => (i.zero, i.size, i.bytes)) = some (some (.int .u8 0), 1, 1) := by kernel_rfl
  obtain ⟨i0, hi, hz0, hz1, hz2⟩ := info_parts hinfo
  go_enter Try.func42, Try.ntmps42
  go_wp2_with (go_at_call 59; refine (copyCheck_calls B b bs _ h).mono ?_)
  rintro e w1 ⟨rfl, h1, hb1, hk1⟩
  obtain ⟨hB, v, hbk, hown, hne⟩ := h1
  have c0 : w1.cell? ⟨b, 0, none⟩ = some (.pointer (some ⟨b, 0, none⟩)) := by rw [Lib.cell_of_heap hbk]; rfl
  have c1 : w1.cell? ⟨b, 1, none⟩ = some v := by rw [Lib.cell_of_heap hbk]; rfl
  go_wp2_with (at_builtin; refine Lib.wpList_append_own_string _ rfl _ _ 59 9 rfl B 5 i0 Try.underlying59 Try.underlying9 hi hz0 hz1 hz2 _ _ _ rfl hown s rfl ?c3 ?c4 ?c5 ?_)
  case c3 => unfold maxLen; omega
  case c4 => omega
  case c5 => have := hb1.size; omega
  intro v' w2 hown' hgrow _
  have hlt : b < w1.heap.size := by
    rcases Nat.lt_or_ge b w1.heap.size with h' | h'
    · exact h'
    · simp [Array.getElem?_eq_none h'] at hbk
  have hb2 : w2.heap[b]? = some (.cells #[.pointer (some ⟨b, 0, none⟩), v] 61 (0, 0)) := by
    rw [hgrow.block b hlt (fun e => hne e.symm)]
    exact hbk
  have d0 : w2.cell? ⟨b, 0, none⟩ = some (.pointer (some ⟨b, 0, none⟩)) := by rw [Lib.cell_of_heap hb2]; rfl
  have d1 : w2.cell? ⟨b, 1, none⟩ = some v := by rw [Lib.cell_of_heap hb2]; rfl
  have f1 : w2.frozen? ⟨b, 1, none⟩ = false := Lib.frozen_of_heap hb2 1
  obtain ⟨ao, n', cap, rfl⟩ : ∃ ao n' cap, v' = .slice ao n' cap := by
    rcases hown'.2 with ⟨hv, _⟩ | ⟨g, cap, cur, hv, _⟩
    · exact ⟨_, _, _, hv⟩
    · exact ⟨_, _, _, hv⟩
  go_wp2
  go_ret2
  refine ⟨rfl, ?_, ?_, ?_⟩
  · exact Lib.BuilderAt.put (T := 61) (e := 5) hB hb2 (bs' := bs ++ Lib.strCells s) (by simpa [Lib.strCells_length] using hown') (by decide)
  · exact (hb1.grown hgrow (by have := hb1.size; omega) (fun k hk => (hown.lt k hk).1)).setCell (p := ⟨b, 1, none⟩) hB _
  · refine hk1.trans (KeepT.trans (fun k cs T fr hk hT hh => ?_) (KeepT.set b 1 w2 _))
    have hlt2 : k < w1.heap.size := by
      rcases Nat.lt_or_ge k w1.heap.size with h' | h'
      · exact h'
      · simp [Array.getElem?_eq_none h'] at hh
    rw [hgrow.block k hlt2 (fun e => Lib.ownBlock_ne hown hh hT e.symm)]
    exact hh

/-! ### Text -/
def elemL (e : S33) : List UInt8 := e.f0.data.toList ++ [61, 34] ++ e.f1.data.toList ++ [34]
def bodyTo (l : List S33) (n : Nat) : List UInt8 := ((List.range n).map fun i : Nat => (if 0 < i then [44] else []) ++ elemL (rd_T33 l (i : Int))).flatten
theorem bodyTo_succ (l : List S33) (n : Nat) : bodyTo l (n + 1) = bodyTo l n ++ ((if 0 < n then [44] else []) ++ elemL (rd_T33 l (n : Int))) := by
  simp [bodyTo, List.range_succ]
theorem bodyTo_le (l : List S33) (n m : Nat) (h : n ≤ m) : (bodyTo l n).length ≤ (bodyTo l m).length := by
  induction m with
  | zero => obtain rfl : n = 0 := by omega
            exact Nat.le_refl _
  | succ m ih =>
    by_cases e : n = m + 1
    · subst e; exact Nat.le_refl _
    · have := ih (by omega)
      rw [bodyTo_succ, List.length_append]
      omega
def textB (l : List S33) : ByteArray := ⟨#[123]⟩ ++ (⟨(bodyTo l l.length).toArray⟩ : ByteArray) ++ ⟨#[125]⟩
def labels_Text.f (l0 : List S33) : Option ByteArray := if (bodyTo l0 l0.length).length ≤ 1099511627776 then some (textB l0) else none
theorem isBuilder_alloc {T e : TypeId} {B b : Nat} {bs : List Value} {w : World} (h : Lib.IsBuilder T e B b bs w) (o : Obj) : Lib.IsBuilder T e B b bs (w.alloc o) := by
  have key : ∀ p, Lib.BuilderAt T e B b p bs w → Lib.BuilderAt T e B b p bs (w.alloc o) := by
    intro p h
    have hlt := h.lt
    obtain ⟨hB, v, hb, hown, hne⟩ := h
    exact ⟨hB, v, blk_alloc hb o, hown.alloc o, hne⟩
  exact h.imp (key _) (key _)
theorem byteCells_append (a b : List UInt8) : Lib.byteCells (a ++ b) = Lib.byteCells a ++ Lib.byteCells b := by simp [Lib.byteCells]
theorem elemL_len (x y : ByteArray) : (elemL ⟨x, y⟩).length = x.size + 2 + y.size + 1 := by
  unfold elemL
  simp only [List.length_append, Array.length_toList, List.length_cons, List.length_nil]
  rfl
theorem ba_toList_append (a b : ByteArray) : (a ++ b).data.toList = a.data.toList ++ b.data.toList := by simp
theorem strCells_elem (x y : ByteArray) : Lib.strCells (x ++ ⟨#[61, 34]⟩ ++ y ++ ⟨#[34]⟩) = Lib.byteCells (elemL ⟨x, y⟩) := by
  unfold Lib.strCells Lib.byteCells elemL
  rw [ba_toList_append, ba_toList_append, ba_toList_append]
theorem size_elem (x y : ByteArray) : (x ++ (⟨#[61, 34]⟩ : ByteArray) ++ y ++ (⟨#[34]⟩ : ByteArray)).size = x.size + 2 + y.size + 1 := by
  rw [ByteArray.size_append, ByteArray.size_append, ByteArray.size_append]; rfl
theorem byteCells_len (l : List UInt8) : (Lib.byteCells l).length = l.length := by simp [Lib.byteCells]
theorem strCells_eq (s : ByteArray) : Lib.strCells s = Lib.byteCells s.data.toList := rfl

set_option maxHeartbeats 4000000 in
set_option maxRecDepth 100000 in
theorem labels_Text.calls (A0 : Option Addr) (c0 : Nat) (l0 : List (S33)) (r : ByteArray) (w : World) (hr0 : Kd.C k33 w A0 l0.length l0) (hc0 : l0.length ≤ c0) (h : labels_Text.f l0 = some r) :
    Calls Try.prog 22 #[.slice A0 l0.length c0] w fun e w' => e = .returned (.string r) ∧ Below w.heap.size w w' := by
  have HLEN := Aside0.mk (Kd.C_max hr0)
  have HR := Aside0.mk hr0
  have HC := Aside0.mk hc0
  clear hr0 hc0
  unfold labels_Text.f at h
  split at h
  · rename_i hsz
    obtain rfl := Option.some.inj h
    have HZ := Aside0.mk hsz
    clear h hsz
    go_enter Try.func22, Try.ntmps22
    go_wp2
    go_loopw [8] (fun v w' => ∃ i : Nat, v = .int .i64 i ∧ i ≤ l0.length ∧ Aside0 (Lib.IsBuilder 61 5 w.heap.size w.heap.size (Lib.byteCells (bodyTo l0 i)) w') ∧ Aside0 (Below w.heap.size w w')) (fun v _ => l0.length - (intOf v).toNat)
    case atStart =>
      exact ⟨0, rfl, Nat.zero_le _, ⟨Lib.fresh_isBuilder 61 5 w⟩, ⟨below_alloc (Below.refl _ _) _⟩⟩
    case round =>
      obtain ⟨i, rfl, hi, HB, HW⟩ := hrel
      by_cases hlt : i < l0.length
      · obtain ⟨ad, ead, hx0, hx1⟩ := at_T33 HR.out (i : Int) (by omega) (by omega)
        subst ead
        have hb := bodyTo_succ l0 i
        have hble := bodyTo_le l0 (i + 1) l0.length hlt
        generalize hel : rd_T33 l0 (i : Int) = el at *
        replace hx0 := (HW.out.cell (World.block_lt_of_cell? w _ hx0)).trans hx0
        replace hx1 := (HW.out.cell (World.block_lt_of_cell? w _ hx1)).trans hx1
        obtain ⟨x, y⟩ := el
        simp only [Int.toNat_natCast] at hx0 hx1
        have hi0 : (0 ≤ (i : Int)) = True := eq_true (by omega)
        have hi1 : ((i : Int) < (l0.length : Int)) = True := eq_true (by omega)
        have HWR : Aside0 (wrap64 ((i : Int) + 1) = ((i + 1 : Nat) : Int)) := ⟨by have := HLEN.out; unfold wrap64; omega⟩
        have HB2 := Aside0.mk (isBuilder_alloc HB.out (.cells #[.string x, .string y] 33))
        have HW2 := Aside0.mk (below_alloc HW.out (.cells #[.string x, .string y] 33))
        have hnew := heap_alloc_new wr (.cells #[.string x, .string y] 33)
        have hszW := HW.out.size
        have hbl := HB.out.elim (fun z => z.lt) (fun z => z.lt)
        have HN := Aside0.mk hnew
        have HBL := Aside0.mk hbl
        have HSZ := Aside0.mk hszW
        have HBB := Aside0.mk hb
        have HLE := Aside0.mk (Nat.le_trans hble HZ.out)
        clear hnew hbl hszW hb hble hel
        have hxs := elemL_len x y
        have hsx : x.size + 2 + y.size + 1 ≤ 1099511627776 := by
          have h1 := HLE.out
          rw [HBB.out, List.length_append, List.length_append, hxs] at h1
          omega
        have HSX := Aside0.mk hsx
        have HXS := Aside0.mk hxs
        have q1 : (9223372036854775807 < x.size + 2) = False := eq_false (by omega)
        have q2 : (9223372036854775807 < x.size + 2 + y.size) = False := eq_false (by omega)
        have q3 : (9223372036854775807 < x.size + 2 + y.size + 1) = False := eq_false (by omega)
        clear hsx hxs
        have HT := Aside0.mk (show (bodyTo l0 i).length + 1 + (x.size + 2 + y.size + 1) ≤ 2199023255552 by
          have h1 := HLE.out
          rw [HBB.out, List.length_append, List.length_append, HXS.out] at h1
          omega)
        by_cases h0 : i = 0
        · have hgt : (0 < i) = False := eq_false (by omega)
          have HS := Aside0.mk (show Lib.byteCells (bodyTo l0 i) ++ Lib.strCells (x ++ ⟨#[61, 34]⟩ ++ y ++ ⟨#[34]⟩) = Lib.byteCells (bodyTo l0 (i + 1)) by
            rw [HBB.out, if_neg (by omega), List.nil_append, byteCells_append, strCells_elem])
          clear h0
          go_wp2_with (go_at_call 42; refine (writeString_calls w.heap.size w.heap.size _ _ _ HB2.out ?hl ?hw).mono ?_; (case hl => have h1 := HT.out; rw [size_elem, byteCells_len]; omega); (case hw => exact HW2.out.size); rintro e w2 ⟨rfl, hb2, hw2, hk2⟩)
          all_goals first
            | (exfalso; have := HSX.out; omega; done)
            | (rw [HS.out] at hb2
               have HB3 := Aside0.mk hb2
               have HW3 := Aside0.mk (HW2.out.trans hw2)
               clear hb2 hw2 hk2
               go_roundw
               case rel => exact ⟨i + 1, by first | (rw [HWR.out]; done) | rfl, by omega, ⟨Or.inr HB3.out⟩, HW3⟩
               case measure => (try rw [HWR.out]); simp [intOf]; omega)
        · have hgt : (0 < i) = True := eq_true (by omega)
          have HS := Aside0.mk (show Lib.byteCells (bodyTo l0 i) ++ Lib.strCells ⟨#[44]⟩ ++ Lib.strCells (x ++ ⟨#[61, 34]⟩ ++ y ++ ⟨#[34]⟩) = Lib.byteCells (bodyTo l0 (i + 1)) by
            rw [HBB.out, if_pos (by omega), byteCells_append, byteCells_append, strCells_elem, List.append_assoc]; rfl)
          clear h0
          go_wp2_with (first
            | (have hx__ := HBx.out; clear hx__; go_at_call 42; refine (writeString_calls w.heap.size w.heap.size _ _ _ (Or.inr HBx.out) ?hl ?hw).mono ?_; (case hl => have h1 := HT.out; rw [size_elem, List.length_append, byteCells_len, Lib.strCells_length, show (⟨#[44]⟩ : ByteArray).size = 1 from rfl]; omega); (case hw => exact HWx.out.size); rintro e w3 ⟨rfl, hb3, hw3, hk3⟩)
            | (go_at_call 42; refine (writeString_calls w.heap.size w.heap.size _ ⟨#[44]⟩ _ HB2.out ?hl ?hw).mono ?_; (case hl => have h1 := HT.out; rw [byteCells_len, show (⟨#[44]⟩ : ByteArray).size = 1 from rfl]; omega); (case hw => exact HW2.out.size); rintro e w2 ⟨rfl, hb2, hw2, hk2⟩; have HN2 := Aside0.mk (hk2 wr.heap.size _ _ _ (by have := HBL.out; omega) (by decide) HN.out); have c0 := (blk_cell HN2.out 0); have c1 := (blk_cell HN2.out 1); have HBx := Aside0.mk hb2; have HWx := Aside0.mk (HW2.out.trans hw2); clear hb2 hw2 hk2))
          all_goals first
            | (exfalso; have := HSX.out; omega; done)
            | (rw [HS.out] at hb3
               have HB3 := Aside0.mk hb3
               have HW3 := Aside0.mk (HWx.out.trans hw3)
               clear hb3 hw3 hk3
               go_roundw
               case rel => exact ⟨i + 1, by first | (rw [HWR.out]; done) | rfl, by omega, ⟨Or.inr HB3.out⟩, HW3⟩
               case measure => (try rw [HWR.out]); simp [intOf]; omega)
      · obtain rfl : i = l0.length := by omega
        clear hi hlt
        have HSZ := Aside0.mk (show (⟨(bodyTo l0 l0.length).toArray⟩ : ByteArray).size = (bodyTo l0 l0.length).length by simp [ByteArray.size])
        go_wp2_with (go_at_call 43; refine (Try.Builder_String_any w.heap.size w.heap.size _ _ HB.out ?hw).mono ?_; (case hw => exact HW.out.size); rintro e w2 ⟨rfl, hw2⟩)
        all_goals first
          | (exfalso; have h1 := HSZ.out; have h2 := HZ.out; omega; done)
          | (go_ret; exact ⟨rfl, HW.out.trans hw2⟩)
  · cases h
end Go.Proofs.Ytlohkfmobeapdaa.P
