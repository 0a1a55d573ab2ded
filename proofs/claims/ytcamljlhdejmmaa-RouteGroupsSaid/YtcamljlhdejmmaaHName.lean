/- labels.Name, walked once: it answers as the bytes tell (nameB), in whatever world; it lays one block (the range's own). -/
import Derived.Test.YtcamljlhdejmmaaPx0
import Derived.Laws.RangeAny
import Derived.Lib.Hide
namespace Go.Proofs.Ytcamljlhdejmmaa.P
open Go.RowKit Go.Proofs.YtcamljlhdejmmaaW.PrintWords Go.Proofs.YtcamljlhdejmmaaW.PrintLast Go.Proofs.YtcamljlhdejmmaaW.PrintMore
set_option linter.unusedVariables false
set_option linter.unusedSimpArgs false

/-- A byte of a name: a letter, or behind the first one a digit or '_'. -/
def nameByte (c : Int) (first : Bool) : Bool := (decide (97 ≤ c) && decide (c ≤ 122)) || (!first && ((decide (48 ≤ c) && decide (c ≤ 57)) || (c == 95)))
def nameTo (s : ByteArray) (n : Nat) : Bool := (List.range n).all fun i => nameByte (bt s i) ((i : Int) == 0)
def nameB (s : ByteArray) : Bool := decide (1 ≤ s.size) && (decide (s.size ≤ 16) && nameTo s s.size)
theorem nameTo_succ (s : ByteArray) (n : Nat) : nameTo s (n + 1) = (nameTo s n && nameByte (bt s n) ((n : Int) == 0)) := by
  simp [nameTo, List.range_succ]
theorem nameTo_false (s : ByteArray) (n m : Nat) (h : nameTo s n = false) (hm : n ≤ m) : nameTo s m = false := by
  induction m with
  | zero => obtain rfl : n = 0 := by omega
            exact h
  | succ m ih =>
    by_cases e : n = m + 1
    · subst e; exact h
    · rw [nameTo_succ, ih (by omega)]; rfl
theorem nameByte_high (c : Int) (b : Bool) (h : 128 ≤ c) : nameByte c b = false := by
  unfold nameByte
  rw [decide_eq_false (p := c ≤ 122) (by omega), decide_eq_false (p := c ≤ 57) (by omega), beq_eq_false_iff_ne.2 (show c ≠ 95 by omega)]
  cases b <;> simp

def labels_Name.f (a0 : ByteArray) : Option Bool := some (nameB a0)

set_option maxHeartbeats 4000000 in
set_option maxRecDepth 100000 in
theorem labels_Name.calls (a0 : ByteArray) (r : Bool) (w : World) (h : labels_Name.f a0 = some r) :
    Calls Try.prog 41 #[.string a0] w fun e w' => e = .returned (.bool r) ∧ Below w.heap.size w w' := by
  obtain rfl := Option.some.inj h
  clear h
  by_cases h0 : a0.size = 0
  · obtain rfl : a0 = ⟨#[]⟩ := by
      cases a0 with
      | mk d => simp [ByteArray.size] at h0; subst h0; rfl
    go_enter Try.func41, Try.ntmps41
    go_wp2
    go_ret
    exact ⟨rfl, Below.refl _ _⟩
  · have e0 : a0.toList ≠ [] := by
      intro e; apply h0
      have := congrArg List.length e
      simpa [ByteArray.toList_eq] using this
    have e1 : a0.toList.isEmpty = false := by
      cases hl : a0.toList with
      | nil => exact absurd hl e0
      | cons => rfl
    by_cases h1 : 16 < a0.size
    · have hr : nameB a0 = false := by
        unfold nameB; rw [decide_eq_false (p := a0.size ≤ 16) (by omega)]; simp
      rw [hr]
      clear hr
      go_enter Try.func41, Try.ntmps41
      go_wp2
      go_ret
      exact ⟨rfl, Below.refl _ _⟩
    · have hs : decide (16 < (a0.size : Int)) = false := decide_eq_false (by omega)
      have hN : nameB a0 = nameTo a0 a0.size := by
        unfold nameB; rw [decide_eq_true (p := 1 ≤ a0.size) (by omega), decide_eq_true (p := a0.size ≤ 16) (by omega)]; simp
      rw [hN]
      clear hN
      go_enter Try.func41, Try.ntmps41
      go_wp2
      go_loopw [] (fun w' => ∃ pos : Nat, w' = w.iter a0 pos ∧ pos ≤ a0.size ∧ nameTo a0 pos = true) (fun w' => a0.size - w'.iterPos w.heap.size)
      case atStart => exact ⟨0, rfl, by omega, rfl⟩
      case round =>
        obtain ⟨pos, rfl, hp0, hn⟩ := hrel
        by_cases hp : pos < a0.size
        · have hb : bt a0 (pos : Int) = ((a0[pos]'hp).toNat : Int) := by
            have := bt_at a0 (pos : Int) (by simpa using hp)
            rw [← this]; rfl
          have hsucc := nameTo_succ a0 pos
          rw [hn, Bool.true_and] at hsucc
          have hfin : nameByte (bt a0 (pos : Int)) ((pos : Int) == 0) = false → nameTo a0 a0.size = false := fun h => nameTo_false a0 (pos + 1) a0.size (by rw [hsucc, h]) (by omega)
          by_cases ha : (a0[pos]'hp).toNat < 128
          · have hnx : ∀ ty, (Instr.next (.pointer (some ⟨w.heap.size, 0, none⟩)) true ty).run Try.prog (w.iter a0 pos) = _ := fun ty => run_next_ascii w a0 pos ty hp ha
            rw [← hb] at hnx
            clear hb hn ha
            generalize hc : bt a0 (pos : Int) = c at *
            clear hc
            have HS := Lib.hid hsucc; clear hsucc
            have HF := Lib.hid hfin; clear hfin
            cases h1 : decide (97 ≤ c) <;> cases h2 : decide (c ≤ 122) <;> cases h3 : decide (48 ≤ c) <;> cases h4 : decide (c ≤ 57) <;> cases h5 : (c == 95) <;> cases h6 : ((pos : Int) == 0)
            all_goals first
              | (exfalso; simp only [decide_eq_true_eq, decide_eq_false_iff_not, beq_iff_eq, beq_eq_false_iff_ne, ne_eq] at h1 h2 h3 h4 h5 h6; omega; done)
              | (have HV := Lib.hid (show nameByte c ((pos : Int) == 0) = true by simp only [nameByte, h1, h2, h3, h4, h5, h6]; rfl)
                 go_wp2
                 go_roundw
                 case rel => exact ⟨pos + 1, rfl, by omega, by rw [HS.out, HV.out]⟩
                 case measure => simp; omega)
              | (have HV := Lib.hid (show nameByte c ((pos : Int) == 0) = false by simp only [nameByte, h1, h2, h3, h4, h5, h6]; rfl)
                 go_wp2
                 go_ret
                 exact ⟨by rw [HF.out HV.out]; rfl, below_alloc (Below.refl _ _) _⟩)
          · have hr := decode_high a0 pos hp (by omega)
            have hle := decode_le a0 pos
            have hnx : ∀ ty, (Instr.next (.pointer (some ⟨w.heap.size, 0, none⟩)) true ty).run Try.prog (w.iter a0 pos) = _ := fun ty => run_next_any w a0 pos ty hp
            have HV := Lib.hid (hfin (nameByte_high _ _ (by rw [hb]; omega)))
            obtain ⟨hr1, hr2⟩ := hr
            clear hfin hsucc hb hn ha
            have h1 : decide (97 ≤ ((Utf8.decode a0 pos).1 : Int)) = true := decide_eq_true (by omega)
            have h2 : decide (((Utf8.decode a0 pos).1 : Int) ≤ 122) = false := decide_eq_false (by omega)
            have h3 : decide (48 ≤ ((Utf8.decode a0 pos).1 : Int)) = true := decide_eq_true (by omega)
            have h4 : decide (((Utf8.decode a0 pos).1 : Int) ≤ 57) = false := decide_eq_false (by omega)
            have h5 : (((Utf8.decode a0 pos).1 : Int) == 95) = false := beq_eq_false_iff_ne.2 (by omega)
            generalize ((Utf8.decode a0 pos).1 : Int) = c at *
            clear hle hr1
            cases h6 : ((pos : Int) == 0)
            all_goals
              go_wp2
              go_ret
              exact ⟨by rw [HV.out]; rfl, below_alloc (Below.refl _ _) _⟩
        · have hnx : ∀ ty, (Instr.next (.pointer (some ⟨w.heap.size, 0, none⟩)) true ty).run Try.prog (w.iter a0 pos) = _ := fun ty => run_next_end w a0 pos ty hp
          obtain rfl : pos = a0.size := by omega
          have HN := Lib.hid hn; clear hn
          go_wp2
          go_ret
          exact ⟨by rw [HN.out]; rfl, below_alloc (Below.refl _ _) _⟩
end Go.Proofs.Ytcamljlhdejmmaa.P
