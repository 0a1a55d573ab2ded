/- slices.SortFunc at labels, by their names, at twelve labels or fewer: the shelf's contract, laid at this program. -/
import Derived.Test.YtlohkfmobeapdaaHNew
import Derived.Test.YtlohkfmobeapdaaHLay
import Derived.Test.YtlohkfmobeapdaaHShelf
import Derived.Shelf.SlSortCmp.SmallK
namespace Go.Proofs.Ytlohkfmobeapdaa.P
open Go.RowKit Go.Sort Go.Proofs.YtlohkfmobeapdaaW.PrintWords Go.Proofs.YtlohkfmobeapdaaW.PrintLast Go.Proofs.YtlohkfmobeapdaaW.PrintMore
set_option linter.unusedVariables false
set_option linter.unusedSimpArgs false

def cmpS (a b : ByteArray) : Int := if Op.bytesLess a.toList b.toList = true then -1 else if (a.toList == b.toList) = true then 0 else 1

set_option maxHeartbeats 1000000 in
theorem isNaN_calls (a : ByteArray) (W : World) : Calls Try.prog 63 #[.string a] W fun e w' => e = .returned (.bool false) ∧ w' = W := by
  go_enter Try.func63, Try.ntmps63
  go_wp2
  go_ret
  exact ⟨by simp, rfl⟩
set_option maxHeartbeats 1000000 in
theorem cmpStr_calls (a b : ByteArray) (W : World) : Calls Try.prog 49 #[.string a, .string b] W fun e w' => e = .returned (.int .i64 (cmpS a b)) ∧ w' = W := by
  unfold cmpS
  cases h1 : Op.bytesLess a.toList b.toList <;> cases h2 : (a.toList == b.toList)
  all_goals
    have h3 := bytesLess_gt a.toList b.toList
    rw [h1, h2] at h3
    simp only [Bool.or_false, Bool.or_true, Bool.not_true, Bool.not_false, Bool.or_self] at h3
    replace h3 := h3.symm
    simp only [if_true, Bool.false_eq_true, if_false]
    go_enter Try.func49, Try.ntmps49
    go_wp2_with (go_at_call 63; refine (isNaN_calls _ _).mono ?_; rintro e w' ⟨rfl, rfl⟩)
    go_ret
    exact ⟨rfl, rfl⟩
set_option maxHeartbeats 1000000 in
theorem cmpLabel_calls (x y : S33) (W : World) : Calls Try.prog 48 #[.agg #[.string x.f0, .string x.f1], .agg #[.string y.f0, .string y.f1]] W fun e w' => e = .returned (.int .i64 (cmpS x.f0 y.f0)) ∧ ∃ q os', w' = grow (W.drewN q) os' := by
  go_enter Try.func48, Try.ntmps48
  go_wp2_with (go_at_call 49; refine (cmpStr_calls _ _ _).mono ?_; rintro e w' ⟨rfl, rfl⟩)
  go_ret
  exact ⟨rfl, 0, _, by rw [alloc_eq_grow, alloc_eq_grow, grow_grow]; rfl⟩

/-! ### the sort -/
instance : Inhabited S33 := ⟨z33⟩
def encL (x : S33) : List Value := [.string x.f0, .string x.f1]
theorem encL_len (x : S33) : (encL x).length = 2 := rfl
theorem encL_one (x : S33) : ∀ v ∈ encL x, v.oneCell' = true := fun v hv => by
  simp [encL] at hv; rcases hv with rfl | rfl <;> rfl
def cfL (x y : S33) : Int := cmpS x.f0 y.f0
def lessL (x y : S33) : Bool := ltOf cfL x y
def sortL (l : List S33) : List S33 := (Sort.insertionSort lessL l.toArray 0 l.length).toList
theorem lessL_eq (x y : S33) : lessL x y = decide (x.f0.toList < y.f0.toList) := by
  unfold lessL ltOf cfL cmpS
  rw [bytesLess_eq]
  by_cases h : x.f0.toList < y.f0.toList
  · simp [h]
  · by_cases h2 : (x.f0.toList == y.f0.toList) = true <;> simp [h, h2]
theorem lessL_swo : Sort.SWO lessL where
  irrefl x := by rw [lessL_eq]; exact decide_eq_false (List.lt_irrefl _)
  trans x y z h1 h2 := by rw [lessL_eq] at *; exact decide_eq_true (List.lt_trans (of_decide_eq_true h1) (of_decide_eq_true h2))
  ntrans x y z h1 h2 := by
    rw [lessL_eq] at *
    have h1 := List.not_lt.1 (of_decide_eq_false h1)
    have h2 := List.not_lt.1 (of_decide_eq_false h2)
    exact decide_eq_false (List.not_lt.2 (List.le_trans h2 h1))
theorem sortL_spec (l : List S33) : Sort.PermIn 0 l.length l.toArray (Sort.insertionSort lessL l.toArray 0 l.length) ∧ Sort.SortedIn lessL 0 l.length (Sort.insertionSort lessL l.toArray 0 l.length) :=
  Sort.insertionSort_holds lessL_swo l.toArray 0 l.length (Nat.zero_le _) (by simp)
theorem sortL_len (l : List S33) : (sortL l).length = l.length := by
  unfold sortL
  rw [Array.length_toList, (sortL_spec l).1.1, List.size_toArray]
theorem sortL_arr (l : List S33) : (sortL l).toArray = Sort.insertionSort lessL l.toArray 0 l.length := by
  unfold sortL; simp

theorem cmpLaysL (blk off size : Nat) (w : World) : CmpLays Try.prog 48 #[] encL 2 cfL blk off size w := fun m os dk _ x y => cmpLabel_calls x y _

/-- What a row of the call's own holds behind the sort. -/
theorem own_sorted {α : Type} [Inhabited α] (enc : α → List Value) (k : Nat) (w : World) (base e g n cap m : Nat) (xs : List Value) (os : Array Obj) (d' : Array α)
    (ho : w.ownsRow base e k (.slice (some ⟨g, 0, none⟩) n cap) n xs) (hd : d'.size = n) :
    (sortWorldK enc k w g 0 m d' os).ownsRow base e k (.slice (some ⟨g, 0, none⟩) n cap) n (flatK enc k d').toList := by
  obtain ⟨hl, h⟩ := ho
  refine ⟨by simp [hd], ?_⟩
  rcases h with ⟨h, _⟩ | ⟨g', cap', cur, he, hb, hh, hnc, hcm, hsz, htk⟩
  · cases h
  · injection he with he1 he2 he3
    injection he1 with he1
    injection he1 with he1
    subst he1 he3
    have hlt : g < w.heap.size := (Array.getElem?_eq_some_iff.1 hh).1
    have hle : n * k ≤ cap * k := Nat.mul_le_mul_right k hnc
    refine .inr ⟨g, cap, Sort.putCells id 0 (flatK enc k d') cur, rfl, hb, ?_, hnc, hcm, by simp [Sort.putCells, hsz], ?_⟩
    · unfold sortWorldK putRowK Sort.putRow Sort.mapBlock grow Sort.ahead
      simp only
      rw [Array.getElem?_append_left (by simpa using hlt), Array.getElem?_modify, if_pos rfl, hh]
      rfl
    · apply List.ext_getElem
      · rw [List.length_take, Array.length_toList, Array.length_toList]; simp only [Sort.putCells, Array.size_mapIdx, hsz, size_flatK, hd]; omega
      · intro i h1 h2
        have h2' : i < d'.size * k := by simpa using h2
        simp only [List.getElem_take, Array.getElem_toList, Sort.putCells, Array.getElem_mapIdx]
        rw [if_pos ⟨Nat.zero_le _, by simpa using h2'⟩, Nat.sub_zero, getElem!_pos _ i (by simpa using h2')]
        rfl
theorem flatL_reps (w : World) (base : Nat) (ok : Nat → Prop) (l : List S33) : Reps (k33.M w base ok) 2 l (flatK encL 2 l.toArray).toList := by
  refine ⟨by simp, fun j p hj => ?_⟩
  obtain ⟨hl, rfl⟩ := List.getElem?_eq_some_iff.1 hj
  have e : (((flatK encL 2 l.toArray).toList.drop (j * 2)).take 2) = [.string l[j].f0, .string l[j].f1] := by
    have h0 : j * 2 < (flatK encL 2 l.toArray).toList.length := by simp; omega
    have h1 : j * 2 + 1 < (flatK encL 2 l.toArray).toList.length := by simp; omega
    rw [List.drop_eq_getElem_cons h0, List.drop_eq_getElem_cons h1, List.take_succ_cons, List.take_succ_cons, List.take_zero]
    have g := fun t (h : t < l.toArray.size * 2) => get_flatK encL 2 l.toArray t h
    have g0 := g (j * 2) (by simp; omega)
    have g1 := g (j * 2 + 1) (by simp; omega)
    rw [show j * 2 / 2 = j by omega, show j * 2 % 2 = 0 by omega, getElem!_pos _ _ (by simp; omega), getElem!_pos l.toArray j (by simpa using hl)] at g0
    rw [show (j * 2 + 1) / 2 = j by omega, show (j * 2 + 1) % 2 = 1 by omega, getElem!_pos _ _ (by simp; omega), getElem!_pos l.toArray j (by simpa using hl)] at g1
    rw [Array.getElem_toList, Array.getElem_toList, g0, g1]
    rfl
  rw [e]
  exact k33_mkM w base ok _

/-! At no label: nothing turns. -/
set_option maxHeartbeats 1000000 in
theorem insertion_none (fv : Value) (w : World) : Calls Try.prog 71 #[.slice none 0 0, .int .i64 0, .int .i64 0, fv] w fun e w' => e = .returned (.tuple #[]) ∧ w' = w := by
  go_enter Try.func71, Try.ntmps71
  go_wp2
  refine wp_loop_rounds 1 ?_
  rw [rounds_succ]
  go_wp2
  go_end0
  exact ⟨rfl, rfl⟩
set_option maxHeartbeats 1000000 in
set_option maxRecDepth 100000 in
theorem pdq_none (lim : Int) (fv : Value) (w : World) : Calls Try.prog 61 #[.slice none 0 0, .int .i64 0, .int .i64 0, .int .i64 lim, fv] w fun e w' => e = .returned (.tuple #[]) ∧ w' = w := by
  go_enter Try.func61, Try.ntmps61
  go_wp2
  refine wp_loop_rounds 1 ?_
  rw [rounds_succ]
  go_wp2_with (go_at_call 71; refine (insertion_none _ _).mono ?_; rintro e w' ⟨rfl, rfl⟩)
  (try simp only [Exit.inBlock, Exit.then]); refine bodyPost_ret (results_none rfl _ _ _) rfl ?_
  exact ⟨rfl, rfl⟩
set_option maxHeartbeats 1000000 in
theorem sort_none (fv : Value) (w : World) : Calls Try.prog 47 #[.slice none 0 0, fv] w fun e w' => e = .returned (.tuple #[]) ∧ w' = w := by
  have hl : Calls Try.prog 62 #[.int .u64 0] w fun e w' => (∃ l : Int, e = .returned (.int .i64 l)) ∧ w' = w :=
    (Try.bits_Len 0 w (by omega) (by omega)).mono fun _ _ ⟨he, hw⟩ => ⟨⟨_, he⟩, hw⟩
  go_enter Try.func47, Try.ntmps47
  go_wp2_with (first | (go_at_call 62; refine hl.mono ?_; rintro e w' ⟨⟨l, rfl⟩, rfl⟩) | (go_at_call 61; refine (pdq_none _ _ _).mono ?_; rintro e w' ⟨rfl, rfl⟩))
  go_end0
  exact ⟨rfl, rfl⟩

set_option maxHeartbeats 1000000 in
/-- The sort, at a row of the call's own (a made copy). -/
theorem sort_calls (base : Nat) (v : Value) (l : List S33) (w : World) (ho : w.ownsRow base 33 2 v l.length (flatK encL 2 l.toArray).toList) (h12 : l.length ≤ 12) :
    Calls Try.prog 47 #[v, .func (.func 48) #[] #[]] w fun e w' =>
      e = .returned (.tuple #[]) ∧ w'.ownsRow base 33 2 v l.length (flatK encL 2 (sortL l).toArray).toList ∧ Below base w w' := by
  have eg : ∀ args w, (callFunc 48 args).run Try.prog w = .ok (.enter 48 args) w := enters_of Try.func48 (by kernel_rfl) rfl
  have hlen : ∀ (n : Nat) (W : World), n ≤ 12 → Calls Try.prog (Try.sortL_ren.f 15) #[.int .u64 n] W fun e w' => (∃ l : Int, e = .returned (.int .i64 l)) ∧ w' = W := fun n W h =>
    (Try.bits_Len n W (by omega) (by omega)).mono fun _ _ ⟨he, hw⟩ => ⟨⟨_, he⟩, hw⟩
  obtain ⟨hl, h⟩ := ho
  rcases h with ⟨rfl, h0⟩ | ⟨g, cap, cur, rfl, hb, hh, hnc, hcm, hsz, htk⟩
  · obtain rfl : l = [] := by cases l with
      | nil => rfl
      | cons => simp at h0
    refine (sort_none _ w).mono ?_
    rintro e w' ⟨rfl, rfl⟩
    exact ⟨rfl, ⟨by simp [sortL_len], .inl ⟨rfl, rfl⟩⟩, Below.refl _ _⟩
  · have hlt : g < w.heap.size := (Array.getElem?_eq_some_iff.1 hh).1
    have hH : HoldsK encL 2 w g 0 l.toArray := by
      intro j hj
      have hj' : j < l.length * 2 := by simpa using hj
      have hle : l.length * 2 ≤ cap * 2 := Nat.mul_le_mul_right 2 hnc
      rw [Nat.zero_add]
      refine ⟨?_, blk_frozen hh j⟩
      rw [blk_cell hh j]
      have e := congrArg (fun z : List Value => z[j]?) htk
      simp only [List.getElem?_take, if_pos hj', Array.getElem?_toList] at e
      rw [e, Array.getElem?_eq_getElem (by simpa using hj'), getElem!_pos _ j (by simpa using hj')]
      rfl
    have hcon := AnyQ.slices_SortFunc_small Try.sortL 2 Try.isAgg33 Try.sizeOf33 encL encL_len encL_one cfL 48 #[] g 0 cap l.toArray w eg (cmpLaysL g 0 l.toArray.size w) hH hlt (by simpa using h12) hlen
    rw [List.size_toArray] at hcon
    refine Calls.mono hcon ?_
    rintro e w' ⟨rfl, n, os, rfl⟩
    have ho : w.ownsRow base 33 2 (.slice (some ⟨g, 0, none⟩) l.length cap) l.length (flatK encL 2 l.toArray).toList := ⟨hl, .inr ⟨g, cap, cur, rfl, hb, hh, hnc, hcm, hsz, htk⟩⟩
    have hs := own_sorted encL 2 w base 33 g l.length cap n _ os (Sort.insertionSort lessL l.toArray 0 l.length) ho (by rw [(sortL_spec l).1.1]; simp)
    rw [sortL_arr]
    refine ⟨rfl, hs, ?_⟩
    unfold sortWorldK putRowK Sort.putRow Sort.mapBlock grow Sort.ahead
    refine ⟨rfl, rfl, rfl, by simp, fun k hk => ?_⟩
    simp only
    have hkg : k < g := Nat.lt_of_lt_of_le hk hb
    rw [Array.getElem?_append_left (by simp; omega), Array.getElem?_modify, if_neg (by omega)]
end Go.Proofs.Ytlohkfmobeapdaa.P
