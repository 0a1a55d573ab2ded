/- labels.Value, walked once: it answers as the bytes tell (valueB), in whatever world; it lays one block (the range's own). -/
import Derived.Test.YtlohkfmobeapdaaPx0
import Derived.Test.YtlohkfmobeapdaaHName
import Derived.Test.YtlohkfmobeapdaaHShelf
import Derived.Laws.RangeAny
import Derived.Lib.Hide
namespace Go.Proofs.Ytlohkfmobeapdaa.P
open Go.RowKit Go.Proofs.YtlohkfmobeapdaaW.PrintWords Go.Proofs.YtlohkfmobeapdaaW.PrintLast Go.Proofs.YtlohkfmobeapdaaW.PrintMore
set_option linter.unusedVariables false
set_option linter.unusedSimpArgs false

/-- The bytes that a value does not contain: a quotation mark, a backslash, a comma and the two braces. -/
def resB (c : Int) : Bool := decide (0 ≤ Lib.indexByte [34, 92, 44, 123, 125] c.toNat.toUInt8)
def valueByte (c : Int) : Bool := (!decide (c ≤ 32)) && ((!decide (126 < c)) && !resB c)
def valueTo (s : ByteArray) (n : Nat) : Bool := (List.range n).all fun i => valueByte (bt s i)
def valueB (s : ByteArray) : Bool := decide (s.size ≤ 16) && valueTo s s.size
theorem valueTo_succ (s : ByteArray) (n : Nat) : valueTo s (n + 1) = (valueTo s n && valueByte (bt s n)) := by
  simp [valueTo, List.range_succ]
theorem valueTo_false (s : ByteArray) (n m : Nat) (h : valueTo s n = false) (hm : n ≤ m) : valueTo s m = false := by
  induction m with
  | zero => obtain rfl : n = 0 := by omega
            exact h
  | succ m ih =>
    by_cases e : n = m + 1
    · subst e; exact h
    · rw [valueTo_succ, ih (by omega)]; rfl
theorem valueByte_high (c : Int) (h : 128 ≤ c) : valueByte c = false := by
  unfold valueByte
  rw [decide_eq_true (p := 126 < c) (by omega)]
  simp

def labels_Value.f (a0 : ByteArray) : Option Bool := some (valueB a0)

set_option maxHeartbeats 4000000 in
set_option maxRecDepth 100000 in
theorem labels_Value.calls (a0 : ByteArray) (r : Bool) (w : World) (h : labels_Value.f a0 = some r) :
    Calls Try.prog 14 #[.string a0] w fun e w' => e = .returned (.bool r) ∧ Below w.heap.size w w' := by
  obtain rfl := Option.some.inj h
  clear h
  by_cases h1 : 16 < a0.size
  · have hr : valueB a0 = false := by
      unfold valueB; rw [decide_eq_false (p := a0.size ≤ 16) (by omega)]; simp
    rw [hr]
    clear hr
    go_enter Try.func14, Try.ntmps14
    go_wp2
    go_ret
    exact ⟨rfl, Below.refl _ _⟩
  · have hs : decide (16 < (a0.size : Int)) = false := decide_eq_false (by omega)
    have hN : valueB a0 = valueTo a0 a0.size := by
      unfold valueB; rw [decide_eq_true (p := a0.size ≤ 16) (by omega)]; simp
    rw [hN]
    clear hN
    go_enter Try.func14, Try.ntmps14
    go_wp2
    go_loopw [] (fun w' => ∃ pos : Nat, w' = w.iter a0 pos ∧ pos ≤ a0.size ∧ valueTo a0 pos = true) (fun w' => a0.size - w'.iterPos w.heap.size)
    case atStart => exact ⟨0, rfl, by omega, rfl⟩
    case round =>
      obtain ⟨pos, rfl, hp0, hn⟩ := hrel
      by_cases hp : pos < a0.size
      · have hb : bt a0 (pos : Int) = ((a0[pos]'hp).toNat : Int) := by
          have := bt_at a0 (pos : Int) (by simpa using hp)
          rw [← this]; rfl
        have hsucc := valueTo_succ a0 pos
        rw [hn, Bool.true_and] at hsucc
        have hfin : valueByte (bt a0 (pos : Int)) = false → valueTo a0 a0.size = false := fun h => valueTo_false a0 (pos + 1) a0.size (by rw [hsucc, h]) (by omega)
        by_cases ha : (a0[pos]'hp).toNat < 128
        · have hnx : ∀ ty, (Instr.next (.pointer (some ⟨w.heap.size, 0, none⟩)) true ty).run Try.prog (w.iter a0 pos) = _ := fun ty => run_next_ascii w a0 pos ty hp ha
          have hc0 : 0 ≤ bt a0 (pos : Int) ∧ bt a0 (pos : Int) < 128 := by rw [hb]; omega
          rw [← hb] at hnx
          clear hb hn ha
          generalize hc : bt a0 (pos : Int) = c at *
          clear hc
          have HS := Lib.hid hsucc; clear hsucc
          have HF := Lib.hid hfin; clear hfin
          have hcon := fun W => Try.strings_ContainsRune_ascii (⟨#[34, 92, 44, 123, 125]⟩ : ByteArray) c W hc0.1 hc0.2
          change ∀ W, Calls Try.prog 39 _ W (fun e w' => e = .returned (.bool (resB c)) ∧ w' = W) at hcon
          cases h1 : decide (c ≤ 32) <;> cases h2 : decide (126 < c) <;> cases h3 : resB c
          all_goals first
            | (exfalso; simp only [decide_eq_true_eq, decide_eq_false_iff_not] at h1 h2; omega; done)
            | (have HV := Lib.hid (show valueByte c = true by simp only [valueByte, h1, h2, h3]; rfl)
               rw [h3] at hcon
               clear h3
               go_wp2_with (go_at_call 39; refine (hcon _).mono ?_; rintro e w' ⟨rfl, rfl⟩)
               go_roundw
               case rel => exact ⟨pos + 1, rfl, by omega, by rw [HS.out, HV.out]⟩
               case measure => simp; omega)
            | (have HV := Lib.hid (show valueByte c = false by simp only [valueByte, h1, h2, h3]; rfl)
               rw [h3] at hcon
               clear h3
               go_wp2_with (go_at_call 39; refine (hcon _).mono ?_; rintro e w' ⟨rfl, rfl⟩)
               go_ret
               exact ⟨by rw [HF.out HV.out]; rfl, below_alloc (Below.refl _ _) _⟩)
        · have hr := decode_high a0 pos hp (by omega)
          have hle := decode_le a0 pos
          have hnx : ∀ ty, (Instr.next (.pointer (some ⟨w.heap.size, 0, none⟩)) true ty).run Try.prog (w.iter a0 pos) = _ := fun ty => run_next_any w a0 pos ty hp
          have HV := Lib.hid (hfin (valueByte_high _ (by rw [hb]; omega)))
          obtain ⟨hr1, hr2⟩ := hr
          clear hfin hsucc hb hn ha
          have h1 : decide (((Utf8.decode a0 pos).1 : Int) ≤ 32) = false := decide_eq_false (by omega)
          have h2 : decide (126 < ((Utf8.decode a0 pos).1 : Int)) = true := decide_eq_true (by omega)
          generalize ((Utf8.decode a0 pos).1 : Int) = c at *
          clear hle hr1
          go_wp2
          go_ret
          exact ⟨by rw [HV.out]; rfl, below_alloc (Below.refl _ _) _⟩
      · have hnx : ∀ ty, (Instr.next (.pointer (some ⟨w.heap.size, 0, none⟩)) true ty).run Try.prog (w.iter a0 pos) = _ := fun ty => run_next_end w a0 pos ty hp
        obtain rfl : pos = a0.size := by omega
        have HN := Lib.hid hn; clear hn
        go_wp2
        go_ret
        exact ⟨by rw [HN.out]; rfl, below_alloc (Below.refl _ _) _⟩
end Go.Proofs.Ytlohkfmobeapdaa.P
