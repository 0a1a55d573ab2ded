/- labels.New, walked once: it answers as newErr and the sort by names tell; the slice that it makes is the call's own. -/
import Derived.Test.YtlohkfmobeapdaaHSort
import Derived.Test.YtlohkfmobeapdaaHText
namespace Go.Proofs.Ytlohkfmobeapdaa.P
open Go.RowKit Go.Sort Go.Proofs.YtlohkfmobeapdaaW.PrintWords Go.Proofs.YtlohkfmobeapdaaW.PrintLast Go.Proofs.YtlohkfmobeapdaaW.PrintMore
set_option linter.unusedVariables false
set_option linter.unusedSimpArgs false

/-- The first error of a list of labels, behind those that were seen. -/
def newErr (seen : List S33) : List S33 → Option Int
  | [] => none
  | x :: r => if nameB x.f0 = false then some 8 else if (x.f1.toList.isEmpty || !valueB x.f1) = true then some 1 else if nameIn seen x.f0 = true then some 10 else newErr (seen ++ [x]) r
def labels_New.f (l : List S33) : Option (List S33 × Int) :=
  if 8 < l.length then some ([], 4) else match newErr [] l with
    | some e => some ([], e)
    | none => some (sortL l, 0)

set_option maxHeartbeats 1000000 in
theorem contains_calls (A0 : Option Addr) (c0 n : Nat) (l0 : List S33) (hn : l0.length = n) (nm vl : ByteArray) (B : Nat) (w : World) (hB : w.heap[B]? = some (.cells #[.string nm, .string vl] 33 (0, 0))) (hr0 : Kd.C k33 w A0 l0.length l0) (hlen : l0.length ≤ 1000) :
    Calls Try.prog 44 #[.slice A0 n c0, .func (.func 45) #[] #[.pointer (some ⟨B, 0, none⟩)]] w fun e w' => e = .returned (.bool (nameIn l0 nm)) ∧ Below w.heap.size w w' := by
  have hI := indexFunc_calls A0 c0 l0 nm vl B w hB hr0 hlen
  rw [hn] at hI
  have HI := Aside0.mk hI
  clear hI hr0 hB
  go_enter Try.func44, Try.ntmps44
  go_wp2_with (go_at_call 60; refine HI.out.mono ?_; rintro e w' ⟨r, rfl, hr, hb⟩; have HR := Aside0.mk hr; clear hr)
  go_ret
  exact ⟨by rw [← HR.out]; rfl, hb⟩

theorem flatL_cells {w : World} {A0 : Option Addr} {l0 : List S33} (h : Kd.C k33 w A0 l0.length l0) {ad : Addr} (e : A0 = some ad) (j : Nat) (u : Value) (hj : (flatK encL 2 l0.toArray).toList[j]? = some u) : w.cell? (ad.add j) = some u := by
  obtain ⟨hlt, rfl⟩ := List.getElem?_eq_some_iff.1 hj
  have hlt' : j < l0.length * 2 := by simpa using hlt
  have hq : j / 2 < l0.length := by omega
  obtain ⟨ad', e', hc⟩ := h.2.2 (by omega)
  obtain rfl : ad = ad' := Option.some.inj (e.symm.trans e')
  obtain ⟨c, _, hK, hcell⟩ := hc (j / 2) _ (List.getElem?_eq_getElem hq)
  obtain rfl := k33_open hK
  have g := get_flatK encL 2 l0.toArray j (by simpa using hlt')
  rw [getElem!_pos _ _ (by simpa using hlt'), getElem!_pos l0.toArray (j / 2) (by simpa using hq)] at g
  rw [Array.getElem_toList, g]
  have hj2 : j / 2 * 2 + j % 2 = j := by omega
  rcases Nat.mod_two_eq_zero_or_one j with h2 | h2
  · have := hcell 0 _ rfl
    rw [show j / 2 * k33.sz + 0 = j by show j / 2 * 2 + 0 = j; omega] at this
    rw [this, h2]; rfl
  · have := hcell 1 _ rfl
    rw [show j / 2 * k33.sz + 1 = j by show j / 2 * 2 + 1 = j; omega] at this
    rw [this, h2]; rfl
theorem flatL_one (l : List S33) : ∀ u ∈ (flatK encL 2 l.toArray).toList, u.oneCell' = true := by
  intro u hu
  obtain ⟨j, hj, rfl⟩ := List.getElem_of_mem hu
  have hj' : j < l.length * 2 := by simpa using hj
  have g := get_flatK encL 2 l.toArray j (by simpa using hj')
  rw [getElem!_pos _ _ (by simpa using hj')] at g
  rw [Array.getElem_toList, g]
  rcases Nat.mod_two_eq_zero_or_one j with h2 | h2 <;> rw [h2] <;> rfl

set_option maxHeartbeats 1000000 in
theorem clone_calls (A0 : Option Addr) (c0 : Nat) (l0 : List S33) (w : World) (hr0 : Kd.C k33 w A0 l0.length l0) (hlen : l0.length ≤ 1000) :
    Calls Try.prog 46 #[.slice A0 l0.length c0] w fun e w' => ∃ v, e = .returned v ∧ w'.ownsRow w.heap.size 33 2 v l0.length (flatK encL 2 l0.toArray).toList ∧ Below w.heap.size w w' := by
  have q30 : ∀ (w : World) (a : Option Addr) (n c n' c' : Nat), (binOp .eql 30 (.slice a n c) (.slice none n' c')).run Try.prog w = .ok (.bool a.isNone) w := fun w a n c n' c' => Lib.run_eql_slice_nil w _ _ a n c n' c' Try.underlying30
  obtain ⟨i0, hi, hz0, hz1, hz2⟩ := info_parts info33
  cases A0 with
  | none =>
    obtain rfl : l0 = [] := by
      cases l0 with
      | nil => rfl
      | cons x l => obtain ⟨ad, e, _⟩ := hr0.2.2 (by simp); cases e
    clear hr0
    go_enter Try.func46, Try.ntmps46
    go_wp2
    go_ret
    exact ⟨_, rfl, ⟨by simp, .inl ⟨rfl, rfl⟩⟩, Below.refl _ _⟩
  | some ad =>
    have HC := Aside0.mk (flatL_cells hr0 (ad := ad) rfl)
    clear hr0
    go_enter Try.func46, Try.ntmps46
    go_wp2_with (at_builtin; refine wpList_append_own _ rfl _ _ 30 rfl w.heap.size 33 i0 _ 2 32 Try.underlying30 hi hz0 hz1 hz2 rfl (by decide) _ _ _ rfl (World.ownsRow_made w #[] 0 (Nat.le_refl _) (Nat.zero_le _) (by simp)) ad l0.length c0 (flatK encL 2 l0.toArray).toList rfl ?qc1 ?qc2 ?qc3 ?qc4 ?qc5 ?qc6 ?_)
    case qc1 => simp
    case qc2 =>
      intro j u hj
      exact Lib.cell?_alloc_some _ (HC.out j u hj)
    case qc3 => exact flatL_one l0
    case qc4 => unfold maxLen; omega
    case qc5 => omega
    case qc6 => simp
    intro v' w1 hown hgrow hnil
    go_wp2
    go_ret
    refine ⟨v', rfl, by simpa using hown, ?_⟩
    exact ((Below.refl _ w).alloc (Nat.le_refl _) _).grown hgrow (by simp) (by intro k hk; simp [Value.ownBlock] at hk; omega)

theorem newblk {w w2 : World} {cs : Array Value} {t : TypeId} (hb : Below (w.alloc (.cells cs t (0, 0))).heap.size (w.alloc (.cells cs t (0, 0))) w2) : w2.heap[w.heap.size]? = some (.cells cs t (0, 0)) := by
  rw [hb.block w.heap.size (by simp)]
  exact blk_new w _
theorem newErr_cons (l : List S33) (i : Nat) (h : i < l.length) : newErr (l.take i) (l.drop i) = if nameB l[i].f0 = false then some 8 else if (l[i].f1.toList.isEmpty || !valueB l[i].f1) = true then some 1 else if nameIn (l.take i) l[i].f0 = true then some 10 else newErr (l.take (i + 1)) (l.drop (i + 1)) := by
  rw [List.drop_eq_getElem_cons h, newErr, List.take_succ_eq_append_getElem h]

set_option maxHeartbeats 4000000 in
set_option maxRecDepth 100000 in
theorem labels_New.calls (A0 : Option Addr) (c0 : Nat) (l0 : List S33) (r1 : List S33) (r2 : Int) (w : World) (hr0 : Kd.C k33 w A0 l0.length l0) (hc0 : l0.length ≤ c0) (h : labels_New.f l0 = some (r1, r2)) :
    Calls Try.prog 24 #[.slice A0 l0.length c0] w fun e w' => ∃ v0_, e = .returned (.tuple #[v0_, .int .i64 r2]) ∧ Kd.R k33 33 w' w.heap.size (fun _ => True) v0_ r1 ∧ Below w.heap.size w w' := by
  have HM := Aside0.mk hr0.2.1
  by_cases hbig : 8 < l0.length
  · unfold labels_New.f at h
    rw [if_pos hbig] at h
    obtain ⟨rfl, rfl⟩ := Prod.mk.inj (Option.some.inj h)
    have hbz : (8 : Int) < (l0.length : Int) := by omega
    clear hr0 h
    go_enter Try.func24, Try.ntmps24
    go_wp2
    go_ret2
    exact ⟨_, rfl, Kd.R_nil _ _ _ _ _, Below.refl _ _⟩
  · have hbz : decide ((8 : Int) < (l0.length : Int)) = false := decide_eq_false (by omega)
    have HL := Aside0.mk (show l0.length ≤ 8 by omega)
    have HC0 := Aside0.mk hc0
    have HR := Aside0.mk hr0
    have hf : (match newErr [] l0 with | some e => some ([], e) | none => some (sortL l0, 0)) = some (r1, r2) := by
      unfold labels_New.f at h
      rwa [if_neg hbig] at h
    have HF := Aside0.mk hf
    clear hr0 hc0 h hf hbig
    go_enter Try.func24, Try.ntmps24
    go_wp2
    go_loopw [12] (fun v w' => ∃ i : Nat, v = .int .i64 i ∧ i ≤ l0.length ∧ Aside0 (newErr (l0.take i) (l0.drop i) = newErr [] l0) ∧ Aside0 (Below w.heap.size w w')) (fun v _ => l0.length - (intOf v).toNat)
    case atStart => exact ⟨0, rfl, Nat.zero_le _, ⟨rfl⟩, ⟨Below.refl _ _⟩⟩
    case round =>
      obtain ⟨i, rfl, hi, HE, HW⟩ := hrel
      by_cases hlt : i < l0.length
      · obtain ⟨ad, ead, hx0, hx1⟩ := at_T33 HR.out (i : Int) (by omega) (by omega)
        subst ead
        have hd := newErr_cons l0 i hlt
        have hrd : rd_T33 l0 (i : Int) = l0[i] := by simp [rd_T33, List.getD_eq_getElem?_getD, hlt]
        rw [hrd] at hx0 hx1
        rw [HE.out] at hd
        generalize l0[i] = el at *
        replace hx0 := (HW.out.cell (World.block_lt_of_cell? w _ hx0)).trans hx0
        replace hx1 := (HW.out.cell (World.block_lt_of_cell? w _ hx1)).trans hx1
        obtain ⟨x, y⟩ := el
        simp only [Int.toNat_natCast] at hx0 hx1
        have hi0 : (0 ≤ (i : Int)) = True := eq_true (by omega)
        have hi1 : ((i : Int) < (l0.length : Int)) = True := eq_true (by omega)
        have hi2 : (i ≤ c0) = True := eq_true (by have := HC0.out; omega)
        have HWR : Aside0 (wrap64 ((i : Int) + 1) = ((i + 1 : Nat) : Int)) := ⟨by have := HL.out; unfold wrap64; omega⟩
        have HD := Aside0.mk hd
        have HZ := Aside0.mk (Nat.le_of_eq (rfl : wr.heap.size = wr.heap.size))
        clear hd hrd
        have HI := Aside0.mk hi
        have HTL := Aside0.mk (show (l0.take i).length = i by rw [List.length_take]; omega)
        cases hn : nameB x
        · have HNM := Aside0.mk (show labels_Name.f x = some false by unfold labels_Name.f; rw [hn])
          have HD2 := Aside0.mk (show newErr [] l0 = some 8 by rw [HD.out, if_pos hn])
          clear hn
          go_wp2_with (go_at_call 12; refine (labels_Name.calls x false _ HNM.out).mono ?_; rintro e w2 ⟨rfl, hb2⟩; have HN2 := Aside0.mk (newblk hb2); have d0 := (blk_cell HN2.out 0).trans (rfl : _ = some (Value.string x)); have d1 := (blk_cell HN2.out 1).trans (rfl : _ = some (Value.string y)); have HW2 := Aside0.mk (below_step (below_alloc HW.out _) hb2); clear hb2)
          go_ret2
          have h0 := HF.out
          rw [HD2.out] at h0
          obtain ⟨rfl, rfl⟩ := Prod.mk.inj (Option.some.inj h0)
          exact ⟨_, rfl, Kd.R_nil _ _ _ _ _, HW2.out⟩
        · have HNM := Aside0.mk (show labels_Name.f x = some true by unfold labels_Name.f; rw [hn])
          have hd := HD.out
          rw [if_neg (by simpa using hn)] at hd
          clear hn HD
          cases he : y.toList.isEmpty
          · rw [he, Bool.false_or] at hd
            have he2 : (y.toList = []) = False := eq_false (by rintro e; rw [e] at he; simp at he)
            cases hv : valueB y
            · have HVL := Aside0.mk (show labels_Value.f y = some false by unfold labels_Value.f; rw [hv])
              have HD2 := Aside0.mk (show newErr [] l0 = some 1 by rw [hd, hv]; rfl)
              clear hv hd
              go_wp2_with (first | (go_at_call 12; refine (labels_Name.calls x true _ HNM.out).mono ?_; rintro e w2 ⟨rfl, hb2⟩; have HN2 := Aside0.mk (newblk hb2); have d0 := (blk_cell HN2.out 0).trans (rfl : _ = some (Value.string x)); have d1 := (blk_cell HN2.out 1).trans (rfl : _ = some (Value.string y)); have HW2 := Aside0.mk (below_step (below_alloc HW.out _) hb2); clear hb2) | (go_at_call 14; refine (labels_Value.calls y false _ HVL.out).mono ?_; rintro e w3 ⟨rfl, hb3⟩; have HN3 := Aside0.mk ((hb3.block _ (blk_lt HN2.out)).trans HN2.out); have HW3 := Aside0.mk (below_step HW2.out hb3); clear hb3))
              go_ret2
              have h0 := HF.out
              rw [HD2.out] at h0
              obtain ⟨rfl, rfl⟩ := Prod.mk.inj (Option.some.inj h0)
              exact ⟨_, rfl, Kd.R_nil _ _ _ _ _, HW3.out⟩
            · have HVL := Aside0.mk (show labels_Value.f y = some true by unfold labels_Value.f; rw [hv])
              rw [if_neg (by rw [hv]; decide)] at hd
              clear hv
              cases hq : nameIn (l0.take i) x
              · have HQ := Aside0.mk hq
                have HD2 := Aside0.mk (hd.trans (if_neg (by rw [hq]; decide)))
                clear hq hd
                go_wp2_with (first | (go_at_call 12; refine (labels_Name.calls x true _ HNM.out).mono ?_; rintro e w2 ⟨rfl, hb2⟩; have HN2 := Aside0.mk (newblk hb2); have d0 := (blk_cell HN2.out 0).trans (rfl : _ = some (Value.string x)); have d1 := (blk_cell HN2.out 1).trans (rfl : _ = some (Value.string y)); have HW2 := Aside0.mk (below_step (below_alloc HW.out _) hb2); clear hb2) | (go_at_call 14; refine (labels_Value.calls y true _ HVL.out).mono ?_; rintro e w3 ⟨rfl, hb3⟩; have HN3 := Aside0.mk ((hb3.block _ (blk_lt HN2.out)).trans HN2.out); have HW3 := Aside0.mk (below_step HW2.out hb3); clear hb3) | (go_at_call 44; refine (contains_calls (some ad) c0 i (l0.take i) HTL.out x y wr.heap.size _ HN3.out (Kd.C_take (Kd.C_below HR.out HW3.out) HI.out) ?hl).mono ?_; (case hl => have := HTL.out; have := HL.out; omega); rintro e w4 ⟨rfl, hb4⟩; rw [HQ.out]; have HW4 := Aside0.mk (below_step HW3.out hb4); clear hb4))
                go_roundw
                case rel => exact ⟨i + 1, by first | (rw [HWR.out]; done) | rfl, by have := HI.out; omega, ⟨HD2.out.symm⟩, HW4⟩
                case measure => (try rw [HWR.out]); simp [intOf]; omega
              · have HQ := Aside0.mk hq
                have HD2 := Aside0.mk (show newErr [] l0 = some 10 from hd.trans (if_pos hq))
                clear hq hd
                go_wp2_with (first | (go_at_call 12; refine (labels_Name.calls x true _ HNM.out).mono ?_; rintro e w2 ⟨rfl, hb2⟩; have HN2 := Aside0.mk (newblk hb2); have d0 := (blk_cell HN2.out 0).trans (rfl : _ = some (Value.string x)); have d1 := (blk_cell HN2.out 1).trans (rfl : _ = some (Value.string y)); have HW2 := Aside0.mk (below_step (below_alloc HW.out _) hb2); clear hb2) | (go_at_call 14; refine (labels_Value.calls y true _ HVL.out).mono ?_; rintro e w3 ⟨rfl, hb3⟩; have HN3 := Aside0.mk ((hb3.block _ (blk_lt HN2.out)).trans HN2.out); have HW3 := Aside0.mk (below_step HW2.out hb3); clear hb3) | (go_at_call 44; refine (contains_calls (some ad) c0 i (l0.take i) HTL.out x y wr.heap.size _ HN3.out (Kd.C_take (Kd.C_below HR.out HW3.out) HI.out) ?hl).mono ?_; (case hl => have := HTL.out; have := HL.out; omega); rintro e w4 ⟨rfl, hb4⟩; rw [HQ.out]; have HW4 := Aside0.mk (below_step HW3.out hb4); clear hb4))
                go_ret2
                have h0 := HF.out
                rw [HD2.out] at h0
                obtain ⟨rfl, rfl⟩ := Prod.mk.inj (Option.some.inj h0)
                exact ⟨_, rfl, Kd.R_nil _ _ _ _ _, HW4.out⟩
          · have he2 : (y.toList = []) = True := eq_true (by simpa using he)
            have HD2 := Aside0.mk (show newErr [] l0 = some 1 by rw [hd, he]; rfl)
            clear hd
            go_wp2_with (go_at_call 12; refine (labels_Name.calls x true _ HNM.out).mono ?_; rintro e w2 ⟨rfl, hb2⟩; have HN2 := Aside0.mk (newblk hb2); have d0 := (blk_cell HN2.out 0).trans (rfl : _ = some (Value.string x)); have d1 := (blk_cell HN2.out 1).trans (rfl : _ = some (Value.string y)); have HW2 := Aside0.mk (below_step (below_alloc HW.out _) hb2); clear hb2)
            go_ret2
            have h0 := HF.out
            rw [HD2.out] at h0
            obtain ⟨rfl, rfl⟩ := Prod.mk.inj (Option.some.inj h0)
            exact ⟨_, rfl, Kd.R_nil _ _ _ _ _, HW2.out⟩
      · obtain rfl : i = l0.length := by omega
        have HD2 := Aside0.mk (show newErr [] l0 = none by rw [← HE.out, List.drop_of_length_le (Nat.le_refl _)]; rfl)
        clear hi hlt
        go_wp2_with (first
          | (go_at_call 46; refine (clone_calls A0 c0 l0 _ (Kd.C_below HR.out HW.out) ?hl).mono ?_; (case hl => have := HL.out; omega); rintro e w2 ⟨v2, rfl, ho2, hb2⟩; have HO2 := Aside0.mk ho2; have HW2 := Aside0.mk (below_step HW.out hb2); clear ho2 hb2)
          | (go_at_call 47; refine (sort_calls wr.heap.size _ l0 _ HO2.out ?hl).mono ?_; (case hl => have := HL.out; omega); rintro e w3 ⟨rfl, ho3, hb3⟩; have HO3 := Aside0.mk ho3; have HW3 := Aside0.mk (below_weaken HW2.out HW.out.size hb3); clear ho3 hb3))
        go_ret2
        have h0 := HF.out
        rw [HD2.out] at h0
        obtain ⟨rfl, rfl⟩ := Prod.mk.inj (Option.some.inj h0)
        refine ⟨_, rfl, ⟨fun _ _ => trivial, _, ?_, flatL_reps _ _ _ _⟩, HW3.out⟩
        rw [sortL_len]
        exact own_weaken HO3.out HW.out.size
end Go.Proofs.Ytlohkfmobeapdaa.P
