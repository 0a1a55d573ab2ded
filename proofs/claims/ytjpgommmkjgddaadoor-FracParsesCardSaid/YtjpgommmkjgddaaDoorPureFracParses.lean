/- For every string (its first 45 bytes), Parse agrees with the reference: its pure statement. No condition. -/
import Derived.Test.YtjpgommmkjgddaaDoorMLives3
import Derived.Test.YtjpgommmkjgddaaDoorMRefParse
import Derived.Test.YtjpgommmkjgddaaDoorPx19
namespace Go.Proofs.YtjpgommmkjgddaaDoor.Pure
open Go.RowKit Go.Proofs.YtjpgommmkjgddaaDoor.P Go.Proofs.YtjpgommmkjgddaaDoorW.PrintWords Go.Proofs.YtjpgommmkjgddaaDoorW.PrintLast Go.Proofs.YtjpgommmkjgddaaDoorW.PrintMore
set_option linter.unusedVariables false
set_option linter.unusedSimpArgs false
theorem cut_size (s : ByteArray) : (topS s).size ≤ s.size ∧ (botS s).size ≤ s.size + 1 := by
  have e : s.data.toList.length = s.size := Array.length_toList
  unfold botS restS topS cutS Lib.cut
  split
  · refine ⟨?_, ?_⟩
    · show (List.toArray _).size ≤ _
      rw [List.size_toArray, List.length_take]; omega
    · simp only [if_true]
      show (List.toArray _).size ≤ _
      rw [List.size_toArray, List.length_drop]; omega
  · refine ⟨?_, ?_⟩
    · show (List.toArray s.data.toList).size ≤ _
      rw [List.size_toArray]; omega
    · simp only [Bool.false_eq_true, if_false]
      show 1 ≤ _
      omega
theorem short_ev (s : ByteArray) : ∃ t, intervalmonref01_Short.f s 45 = some t ∧ t.size ≤ 45 := by
  unfold intervalmonref01_Short.f
  by_cases h : (s.size : Int) > 45
  · refine ⟨s.extract 0 (45 : Int).toNat, ?_, ?_⟩
    · rw [if_pos h, if_pos (by omega), if_pos (by omega)]
    · rw [ByteArray.size_extract]
      have : (45 : Int).toNat = 45 := rfl
      omega
  · refine ⟨s, ?_, by omega⟩
    rw [if_neg h]
theorem FracParses : ∀ (a0 : ByteArray), a0.size ≤ 140737488351232 → ∃ k, intervalmonlaw03_FracParses.f k a0 = some true := by
  intro s0 hs0
  obtain ⟨s, e, hs⟩ := short_ev s0
  have hc := cut_size s
  have hboth : ∃ r, Ev (fun k => frac_Parse.f k s) r ∧ Ev (fun k => intervalmonref03_Parse.f k s) r := by
    by_cases h : NoText s
    · exact ⟨_, parse_no ⟨by omega, by omega, by omega⟩ h, refParse_no h (by omega)⟩
    · have h : ∃ n d, ValidP n d ∧ (textF n d).toList = s.toList := by
        refine Classical.byContradiction fun hx => h ?_
        intro n d hv he
        exact hx ⟨n, d, hv, he⟩
      obtain ⟨n, d, hv, he⟩ := h
      rw [Lib.toList_data, Lib.toList_data] at he
      have := ba_ext he
      rw [← this]
      exact ⟨_, parse_yes hv, refParse_yes hv⟩
  obtain ⟨r, h1, h2⟩ := hboth
  refine Ev.rounds ?_
  unfold intervalmonlaw03_FracParses.f
  simp only [e, Option.bind_some]
  refine Ev.bind h1 ?_
  refine Ev.bind h2 ?_
  simp only [beq_self_eq_true, Bool.and_self, if_true]
  exact Ev.bind lives03 (Ev.some _)
end Go.Proofs.YtjpgommmkjgddaaDoor.Pure
