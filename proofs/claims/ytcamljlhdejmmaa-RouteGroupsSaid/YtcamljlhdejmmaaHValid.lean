/- route.Valid, walked once: the edges are looked at in order (an edge that is out of range or a loop: 1; an edge that was met before: 10), then sorted's result is counted. -/
import Derived.Test.YtcamljlhdejmmaaPx0
import Derived.Test.YtcamljlhdejmmaaPx2
import Derived.Lib.Hide
import Derived.Maps.OwnSet
import Derived.DeepKeys4
namespace Go.Proofs.Ytcamljlhdejmmaa.P
open Go.RowKit Go.Proofs.YtcamljlhdejmmaaW.PrintWords Go.Proofs.YtcamljlhdejmmaaW.PrintLast Go.Proofs.YtcamljlhdejmmaaW.PrintMore
set_option linter.unusedVariables false
set_option linter.unusedSimpArgs false
attribute [local go_sem] max2_int min2_int max_two min_two max_three min_three max_four min_four

/-! ### the map's keys -/
theorem vkLaidOut : laidOutB Try.prog = true := by kernel_rfl
theorem vkRow : (27 : TypeId) < Try.prog.types.size := of_decide_eq_true (by kernel_rfl)
theorem vkCells : Try.prog.cellsOf 27 = 2 := by kernel_rfl
theorem vkCellsE : Try.prog.cellsOf 3 = 1 := by kernel_rfl
theorem vkWide : (match Try.prog.underlying 27 with | some (.array _ _) | some (.struct _) => true | _ => false) = true := by rw [Try.underlying27]
theorem vkLaw : Maps.Keyed Try.prog 27 := Maps.Keyed.of_law (deep_law_laid vkLaidOut (m := 2) (by omega) vkRow (by kernel_rfl) vkWide)
theorem wfSmall (x : Int) (h0 : 0 ≤ x) (h1 : x ≤ 200) : (Lit.int .i64 x).wf = true := by
  have a : IntKind.i64.min ≤ 0 := by decide
  have b : 200 ≤ IntKind.i64.max := by decide
  simp only [Lit.wf, Bool.and_eq_true, decide_eq_true_eq]
  omega
def vkLit (x y : Int) : Lit := .string (keyBytes [.int .i64 x, .int .i64 y])
theorem vkKey (x y : Int) (hx : (Lit.int .i64 x).wf = true) (hy : (Lit.int .i64 y).wf = true) : keyOf Try.prog 27 (.agg #[.int .i64 x, .int .i64 y]) = some (vkLit x y) := by
  have h1 : Try.prog.keyType 27 = true := by kernel_rfl
  have h2 : (Value.agg #[.int .i64 x, .int .i64 y]).formed Try.prog 27 = true := by simp [Value.formed, Try.underlying27, vkCells]
  obtain ⟨n, hn⟩ : ∃ n, Try.prog.types.size = n + 1 := Nat.exists_eq_add_one_of_ne_zero (Nat.ne_of_gt (Nat.lt_of_le_of_lt (Nat.zero_le _) vkRow))
  unfold keyOf
  rw [Try.underlying27]
  simp only [h1, h2, Bool.and_self, if_true, hn]
  have h3 : Try.prog.keyLits (n + 1 + 1) 27 (Value.agg #[.int .i64 x, .int .i64 y]).cells.toList = some [.int .i64 x, .int .i64 y] := by
    simp [Value.cells, vkCells, vkCellsE, List.range_succ, Program.keyLits, Try.underlying27, Try.underlying3, hx, hy]
  rw [h3]
  rfl
theorem vkNe {x y x' y' : Int} (hx : (Lit.int .i64 x).wf = true) (hy : (Lit.int .i64 y).wf = true) (hx' : (Lit.int .i64 x').wf = true) (hy' : (Lit.int .i64 y').wf = true) (h : vkLit x y = vkLit x' y') : x = x' ∧ y = y' := by
  have h1 := vkKey x y hx hy
  rw [h] at h1
  have h2 := vkLaw.inj h1 (vkKey x' y' hx' hy')
  simpa using h2

theorem ownsMap_lookup_bool {H : Type} {P : Program} {k e t : TypeId} {w : World} {b n : Nat} {D : DataW H} (h : w.ownsMap P k (plainElem P e) b n D) (K : Maps.Keyed P k) (ht : P.underlying t = some (.map k e)) (he : P.underlying e = some .bool) (hz : (zeroValue e).run P w = .ok (.bool false) w)
    {key : Value} {kl : Lit} (hkey : keyOf P k key = some kl) : ∃ c, (Instr.lookup t (.map (some b)) key false).run P w = .ok (.bool c) w ∧ D.atKey kl (.lit (.bool false)) = .lit (.bool c) := by
  obtain ⟨v, ps, hrun, hv⟩ := h.lookup K ht hz (plainElem_bool he false) hkey
  unfold plainElem at hv
  rw [he] at hv
  cases v <;> simp at hv
  exact ⟨_, hrun, hv.1.symm⟩

/-! ### what it answers -/
def sameE (x y : Int) (e : S27) : Bool := (e.f0 == x) && (e.f1 == y)
def badE (N : Int) (e : S27) : Bool := decide (e.f0 < 0) || decide (e.f1 < 0) || decide (N ≤ e.f0) || decide (N ≤ e.f1) || (e.f0 == e.f1)
/-- The first error among the edges that are still to come ('seen': those before them), or 0. -/
def vrest (N : Int) : List S27 → List S27 → Int
  | _, [] => 0
  | seen, e :: r => if badE N e = true then 1 else if seen.any (sameE e.f0 e.f1) = true then 10 else vrest N (seen ++ [e]) r
def route_Valid.f (k : Nat) (a0 : Int) (l0 : List S27) : Option Int :=
  if a0 < 0 then some 4 else if 200 < a0 then some 4 else
  if vrest a0 [] l0 = 0 then (route_sorted.f k a0 l0).bind fun s => some (if (s.length : Int) < a0 then 13 else 0) else some (vrest a0 [] l0)
theorem route_Valid.mono : ∀ a0 a1 k, LeO (route_Valid.f k a0 a1) (route_Valid.f (k + 1) a0 a1) := by
  intro a0 a1 k
  unfold route_Valid.f
  split
  · exact LeO.refl _
  · split
    · exact LeO.refl _
    · split
      · exact LeO.bind (route_sorted.mono _ _ _) (fun _ => LeO.refl _)
      · exact LeO.refl _
theorem vrest_cons (N : Int) (l : List S27) (i : Nat) (h : i < l.length) :
    vrest N (l.take i) (l.drop i) = if badE N l[i] = true then 1 else if (l.take i).any (sameE l[i].f0 l[i].f1) = true then 10 else vrest N (l.take (i + 1)) (l.drop (i + 1)) := by
  rw [List.drop_eq_getElem_cons h, vrest, List.take_succ_eq_append_getElem h]

theorem vkStep {D : DataW Unit} (hM : Maps.IsMap D) {l : List S27} {i : Nat} (hlt : i < l.length) {x y : Int} (he : l[i] = ⟨x, y⟩) (wx : (Lit.int .i64 x).wf = true) (wy : (Lit.int .i64 y).wf = true)
    (HD : ∀ x y, (Lit.int .i64 x).wf = true → (Lit.int .i64 y).wf = true → D.atKey (vkLit x y) (.lit (.bool false)) = .lit (.bool ((l.take i).any (sameE x y)))) :
    ∀ x' y', (Lit.int .i64 x').wf = true → (Lit.int .i64 y').wf = true → (D.put (vkLit x y) (.lit (.bool true))).atKey (vkLit x' y') (.lit (.bool false)) = .lit (.bool ((l.take (i + 1)).any (sameE x' y'))) := by
  intro x' y' wx' wy'
  rw [List.take_succ_eq_append_getElem hlt, he, List.any_append]
  by_cases h : vkLit x' y' = vkLit x y
  · obtain ⟨rfl, rfl⟩ := vkNe wx' wy' wx wy h
    rw [Maps.atKey_put_same hM (vkLaw.key (vkKey x' y' wx' wy'))]
    simp [sameE]
  · rw [Maps.atKey_put_other h, HD x' y' wx' wy']
    have : sameE x' y' ⟨x, y⟩ = false := by
      simp only [sameE, Bool.and_eq_false_iff, beq_eq_false_iff_ne]
      by_cases h1 : x = x'
      · right; intro h2; apply h; rw [h1, h2]
      · left; exact h1
    simp [this]

set_option maxHeartbeats 8000000 in
set_option maxRecDepth 100000 in
theorem route_Valid.calls (k : Nat) (a0_0 : Int) (A0_1 : Option Addr) (c0_1 : Nat) (l0_1 : List (S27)) (r : Int) (w : World) (hr0_1 : Kd.C k27 w A0_1 l0_1.length l0_1) (hc0_1 : l0_1.length ≤ c0_1) (h : route_Valid.f k a0_0 l0_1 = some r) :
    Calls Try.prog 14 #[.agg #[.int .i64 a0_0, .slice A0_1 l0_1.length c0_1]] w fun e w' => e = .returned (.int .i64 r) ∧ Below w.heap.size w w' := by
  have HLEN := Aside0.mk (Kd.C_max hr0_1)
  have HR := Aside0.mk hr0_1
  have HC := Aside0.mk hc0_1
  clear hr0_1 hc0_1
  unfold route_Valid.f at h
  by_cases h0 : a0_0 < 0
  · rw [if_pos h0] at h
    obtain rfl := Option.some.inj h
    clear h
    have hb : decide (a0_0 < 0) = true := decide_eq_true h0
    go_enter Try.func14, Try.ntmps14
    go_wp2
    go_ret
    exact ⟨rfl, below_alloc (Below.refl _ _) _⟩
  rw [if_neg h0] at h
  by_cases h1 : 200 < a0_0
  · rw [if_pos h1] at h
    obtain rfl := Option.some.inj h
    clear h
    have hb : decide (a0_0 < 0) = false := decide_eq_false h0
    have hb2 : decide (200 < a0_0) = true := decide_eq_true h1
    go_enter Try.func14, Try.ntmps14
    go_wp2
    go_ret
    exact ⟨rfl, below_alloc (Below.refl _ _) _⟩
  rw [if_neg h1] at h
  have hb : decide (a0_0 < 0) = false := decide_eq_false h0
  have hb2 : decide (200 < a0_0) = false := decide_eq_false h1
  have Hf := Aside0.mk h
  clear h
  have hmm := @run_makeMap Try.prog
  go_enter Try.func14, Try.ntmps14
  go_wp2
  go_loopw [18] (fun v w' => ∃ (i : Nat) (D : DataW Unit), v = .int .i64 i ∧ i ≤ l0_1.length ∧ Aside0 (vrest a0_0 (l0_1.take i) (l0_1.drop i) = vrest a0_0 [] l0_1) ∧ Aside0 (w'.heap[w.heap.size]? = some (.cells #[.int .i64 a0_0, .slice A0_1 l0_1.length c0_1] 31 (0, 0))) ∧ Aside0 (w'.ownsMap Try.prog 27 (plainElem Try.prog 4) (w.heap.size + 1) i D) ∧ Aside0 (∀ x y, (Lit.int .i64 x).wf = true → (Lit.int .i64 y).wf = true → D.atKey (vkLit x y) (.lit (.bool false)) = .lit (.bool ((l0_1.take i).any (sameE x y)))) ∧ Aside0 (Below w.heap.size w w')) (fun v _ => l0_1.length - (intOf v).toNat)
  case atStart =>
    refine ⟨0, .map [], rfl, Nat.zero_le _, ⟨rfl⟩, ⟨?_⟩, ⟨?_⟩, ⟨fun x y _ _ => rfl⟩, ⟨below_alloc (below_alloc (Below.refl _ _) _) _⟩⟩
    · exact blk_alloc (heap_alloc_new _ _) _
    · have := World.ownsMap_made (w.alloc (.cells #[.int .i64 a0_0, .slice A0_1 l0_1.length c0_1] 31)) Try.prog 27 (plainElem (H := Unit) Try.prog 4)
      simpa using this
  case round =>
    obtain ⟨i, D, rfl, hi, HV, HB0, HM, HD, HB⟩ := hrel
    have hcz0 : wr.cell? ⟨w.heap.size, 0, none⟩ = some (.int .i64 a0_0) := (blk_cell HB0.out 0).trans rfl
    have hcz1 : wr.cell? ⟨w.heap.size, 1, none⟩ = some (.slice A0_1 l0_1.length c0_1) := (blk_cell HB0.out 1).trans rfl
    by_cases hlt : i < l0_1.length
    · have hv := vrest_cons a0_0 l0_1 i hlt
      rw [HV.out] at hv
      have hrd : rd_T27 l0_1 (i : Int) = l0_1[i] := by simp [rd_T27, List.getD_eq_getElem?_getD, hlt]
      obtain ⟨ad, ead, hx0, hx1⟩ := at_T27 HR.out (i : Int) (by omega) (by omega)
      subst ead
      rw [hrd] at hx0 hx1
      obtain ⟨x, y, he⟩ : ∃ x y, l0_1[i] = ⟨x, y⟩ := ⟨_, _, rfl⟩
      rw [he] at hx0 hx1 hv
      have HE := Aside0.mk he
      clear he
      replace hx0 := (HB.out.cell (World.block_lt_of_cell? w _ hx0)).trans hx0
      replace hx1 := (HB.out.cell (World.block_lt_of_cell? w _ hx1)).trans hx1
      simp only [Int.toNat_natCast] at hx0 hx1
      have HV2 := Aside0.mk hv
      clear hv hrd HV
      have hi0 : (0 ≤ (i : Int)) = True := eq_true (by omega)
      have hi1 : ((i : Int) < (l0_1.length : Int)) = True := eq_true (by omega)
      have HW : Aside0 (wrap64 ((i : Int) + 1) = ((i + 1 : Nat) : Int)) := ⟨by have := HLEN.out; unfold wrap64; omega⟩
      have hszB := HB.out.size
      have hMlt := HM.out.lt
      have hcz0' : (wr.alloc (.cells #[.int .i64 x, .int .i64 y] 27)).cell? ⟨w.heap.size, 0, none⟩ = some (.int .i64 a0_0) := by rw [World.cell?_alloc_past _ _ _ (show w.heap.size < wr.heap.size by omega)]; exact hcz0
      have hcz1' : (wr.alloc (.cells #[.int .i64 x, .int .i64 y] 27)).cell? ⟨w.heap.size, 1, none⟩ = some (.slice (some ad) l0_1.length c0_1) := by rw [World.cell?_alloc_past _ _ _ (show w.heap.size < wr.heap.size by omega)]; exact hcz1
      have hbelow : Below w.heap.size w (wr.alloc (.cells #[.int .i64 x, .int .i64 y] 27)) := below_alloc HB.out _
      have HBW := Aside0.mk hbelow
      clear hbelow hszB hMlt
      -- the four ways in which an edge is refused at once
      have hret : badE a0_0 ⟨x, y⟩ = true → r = 1 := by
        intro hbad
        have h3 := HV2.out
        rw [if_pos hbad] at h3
        have h4 := Hf.out
        rw [h3, if_neg (by decide)] at h4
        exact (Option.some.inj h4).symm
      have HRET := Aside0.mk hret
      clear hret
      have hgood : badE a0_0 ⟨x, y⟩ = false → 0 ≤ x ∧ x ≤ 200 ∧ 0 ≤ y ∧ y ≤ 200 ∧ x ≠ y := by
        intro hb3
        simp only [badE, Bool.or_eq_false_iff, decide_eq_false_iff_not, beq_eq_false_iff_ne] at hb3
        omega
      rcases Int.lt_trichotomy x y with ho | ho | ho
      · have ho2 : x ≤ y := by omega
        by_cases hm : x < 0
        · have mb : decide (x < 0) = true := decide_eq_true hm
          have HR1 := Aside0.mk (HRET.out (by simp only [badE, mb]; simp))
          clear hgood
          go_wp2
          go_ret
          exact ⟨by rw [HR1.out]; rfl, HBW.out⟩
        · have mb : decide (x < 0) = false := decide_eq_false hm
          have hm2 : 0 ≤ x := by omega
          by_cases hM : a0_0 ≤ y
          · have Mb : decide (a0_0 ≤ y) = true := decide_eq_true hM
            have HR1 := Aside0.mk (HRET.out (by simp only [badE, Mb]; simp))
            clear hgood
            go_wp2
            go_ret
            exact ⟨by rw [HR1.out]; rfl, HBW.out⟩
          · have Mb : decide (a0_0 ≤ y) = false := decide_eq_false hM
            have hM2 : y < a0_0 := by omega
            clear hM hm
            have hq : (x == y) = false := beq_eq_false_iff_ne.2 (by omega)
            have hgd : badE a0_0 ⟨x, y⟩ = false := by
              simp only [badE, Bool.or_eq_false_iff, decide_eq_false_iff_not, beq_eq_false_iff_ne]; omega
            obtain ⟨gx0, gx1, gy0, gy1, gne⟩ := hgood hgd
            have wx := wfSmall x gx0 gx1
            have wy := wfSmall y gy0 gy1
            have hkey := vkKey x y wx wy
            obtain ⟨c, hrun, hat⟩ := ownsMap_lookup_bool (HM.out.alloc (.cells #[.int .i64 x, .int .i64 y] 27)) vkLaw Try.underlying75 Try.underlying4 (by kernel_rfl) hkey
            rw [HD.out x y wx wy] at hat
            obtain rfl : (l0_1.take i).any (sameE x y) = c := by injection hat with hat; injection hat
            clear hat
            have hstep := HV2.out
            rw [if_neg (by rw [hgd]; simp)] at hstep
            cases hs : (l0_1.take i).any (sameE x y)
            · rw [hs] at hrun
              rw [if_neg (by simp only [hs]; simp)] at hstep
              have hD2 := Aside0.mk (vkStep HM.out.isMap hlt HE.out wx wy HD.out)
              obtain ⟨w2, hrun2, hown2, hg2⟩ := (HM.out.alloc (.cells #[.int .i64 x, .int .i64 y] 27)).update vkLaw Try.underlying75 (by have := HLEN.out; unfold maxLen; omega) hkey (plainElem_bool Try.underlying4 true)
              have hB2 := Aside0.mk (pw_below_grown HBW.out _ (by simpa using HBW.out.size) hg2 (fun k_ hk => by injection hk with hk; omega))
              have hG2 := Aside0.mk (blk_grown (blk_alloc HB0.out (.cells #[.int .i64 x, .int .i64 y] 27)) hg2 (by intro h_; injection h_ with h_; omega))
              have hO2 := Aside0.mk hown2
              have HS2 := Aside0.mk hstep.symm
              clear hown2 hg2 hstep hkey wx wy gx0 gx1 gy0 gy1 gne hgood hgd hs HM HD HB HB0 HBW
              go_wp2
              go_roundw
              case rel => exact ⟨i + 1, _, by rw [HW.out], by omega, HS2, hG2, hO2, hD2, hB2⟩
              case measure => rw [HW.out]; simp [intOf]; omega
            · rw [hs] at hrun
              rw [if_pos hs] at hstep
              have hr10 : r = 10 := by
                have h4 := Hf.out
                rw [hstep, if_neg (by decide)] at h4
                exact (Option.some.inj h4).symm
              have HR1 := Aside0.mk hr10
              clear hr10 hstep hkey wx wy gx0 gx1 gy0 gy1 gne hgood hgd hs
              go_wp2
              go_ret
              exact ⟨by rw [HR1.out]; rfl, HBW.out⟩
      · have ho1 : x ≤ y := by omega
        have ho2 : y ≤ x := by omega
        clear ho
        by_cases hm : x < 0
        · have mb : decide (x < 0) = true := decide_eq_true hm
          have HR1 := Aside0.mk (HRET.out (by simp only [badE, mb]; simp))
          clear hgood
          go_wp2
          go_ret
          exact ⟨by rw [HR1.out]; rfl, HBW.out⟩
        · have mb : decide (x < 0) = false := decide_eq_false hm
          have hm2 : 0 ≤ x := by omega
          by_cases hM : a0_0 ≤ x
          · have Mb : decide (a0_0 ≤ x) = true := decide_eq_true hM
            have HR1 := Aside0.mk (HRET.out (by simp only [badE, Mb]; simp))
            clear hgood
            go_wp2
            go_ret
            exact ⟨by rw [HR1.out]; rfl, HBW.out⟩
          · have Mb : decide (a0_0 ≤ x) = false := decide_eq_false hM
            have hM2 : x < a0_0 := by omega
            clear hM hm
            have hq : (x == y) = true := beq_iff_eq.2 (by omega)
            have HR1 := Aside0.mk (HRET.out (by simp only [badE, hq]; simp))
            clear hgood
            go_wp2
            go_ret
            exact ⟨by rw [HR1.out]; rfl, HBW.out⟩
      · have ho2 : y ≤ x := by omega
        by_cases hm : y < 0
        · have mb : decide (y < 0) = true := decide_eq_true hm
          have HR1 := Aside0.mk (HRET.out (by simp only [badE, mb]; simp))
          clear hgood
          go_wp2
          go_ret
          exact ⟨by rw [HR1.out]; rfl, HBW.out⟩
        · have mb : decide (y < 0) = false := decide_eq_false hm
          have hm2 : 0 ≤ y := by omega
          by_cases hM : a0_0 ≤ x
          · have Mb : decide (a0_0 ≤ x) = true := decide_eq_true hM
            have HR1 := Aside0.mk (HRET.out (by simp only [badE, Mb]; simp))
            clear hgood
            go_wp2
            go_ret
            exact ⟨by rw [HR1.out]; rfl, HBW.out⟩
          · have Mb : decide (a0_0 ≤ x) = false := decide_eq_false hM
            have hM2 : x < a0_0 := by omega
            clear hM hm
            have hq : (x == y) = false := beq_eq_false_iff_ne.2 (by omega)
            have hgd : badE a0_0 ⟨x, y⟩ = false := by
              simp only [badE, Bool.or_eq_false_iff, decide_eq_false_iff_not, beq_eq_false_iff_ne]; omega
            obtain ⟨gx0, gx1, gy0, gy1, gne⟩ := hgood hgd
            have wx := wfSmall x gx0 gx1
            have wy := wfSmall y gy0 gy1
            have hkey := vkKey x y wx wy
            obtain ⟨c, hrun, hat⟩ := ownsMap_lookup_bool (HM.out.alloc (.cells #[.int .i64 x, .int .i64 y] 27)) vkLaw Try.underlying75 Try.underlying4 (by kernel_rfl) hkey
            rw [HD.out x y wx wy] at hat
            obtain rfl : (l0_1.take i).any (sameE x y) = c := by injection hat with hat; injection hat
            clear hat
            have hstep := HV2.out
            rw [if_neg (by rw [hgd]; simp)] at hstep
            cases hs : (l0_1.take i).any (sameE x y)
            · rw [hs] at hrun
              rw [if_neg (by simp only [hs]; simp)] at hstep
              have hD2 := Aside0.mk (vkStep HM.out.isMap hlt HE.out wx wy HD.out)
              obtain ⟨w2, hrun2, hown2, hg2⟩ := (HM.out.alloc (.cells #[.int .i64 x, .int .i64 y] 27)).update vkLaw Try.underlying75 (by have := HLEN.out; unfold maxLen; omega) hkey (plainElem_bool Try.underlying4 true)
              have hB2 := Aside0.mk (pw_below_grown HBW.out _ (by simpa using HBW.out.size) hg2 (fun k_ hk => by injection hk with hk; omega))
              have hG2 := Aside0.mk (blk_grown (blk_alloc HB0.out (.cells #[.int .i64 x, .int .i64 y] 27)) hg2 (by intro h_; injection h_ with h_; omega))
              have hO2 := Aside0.mk hown2
              have HS2 := Aside0.mk hstep.symm
              clear hown2 hg2 hstep hkey wx wy gx0 gx1 gy0 gy1 gne hgood hgd hs HM HD HB HB0 HBW
              go_wp2
              go_roundw
              case rel => exact ⟨i + 1, _, by rw [HW.out], by omega, HS2, hG2, hO2, hD2, hB2⟩
              case measure => rw [HW.out]; simp [intOf]; omega
            · rw [hs] at hrun
              rw [if_pos hs] at hstep
              have hr10 : r = 10 := by
                have h4 := Hf.out
                rw [hstep, if_neg (by decide)] at h4
                exact (Option.some.inj h4).symm
              have HR1 := Aside0.mk hr10
              clear hr10 hstep hkey wx wy gx0 gx1 gy0 gy1 gne hgood hgd hs
              go_wp2
              go_ret
              exact ⟨by rw [HR1.out]; rfl, HBW.out⟩
    · obtain rfl : i = l0_1.length := by omega
      have hv0 : vrest a0_0 [] l0_1 = 0 := by
        rw [← HV.out]; simp [vrest]
      have hf := Hf.out
      rw [if_pos hv0] at hf
      cases hs : route_sorted.f k a0_0 l0_1 with
      | none => rw [hs] at hf; cases hf
      | some s =>
        rw [hs, Option.bind_some] at hf
        obtain rfl := Option.some.inj hf
        have HS := Aside0.mk hs
        clear hs hf hv0 HV HD HM
        by_cases hc : (s.length : Int) < a0_0
        · have hcb : decide ((s.length : Int) < a0_0) = true := decide_eq_true hc
          have HR1 := Aside0.mk (show (if (s.length : Int) < a0_0 then (13 : Int) else 0) = 13 from if_pos hc)
          go_wp2
          go_region_held3 (fun w' => w'.cell? ⟨w.heap.size, 0, none⟩ = some (.int .i64 a0_0) ∧ w'.cell? ⟨w.heap.size, 1, none⟩ = some (.slice A0_1 l0_1.length c0_1))
            (first
              | go_keep
              | (go_split_ands
                 exact ⟨(hb3.cell (World.block_lt_of_cell? _ _ hcz0)).trans hcz0, (hb3.cell (World.block_lt_of_cell? _ _ hcz1)).trans hcz1⟩))
            (first
              | (go_at_call 40; refine (route_sorted.calls k a0_0 A0_1 c0_1 l0_1 s _ (by exact Kd.C_below HR.out (by first | exact HB.out | exact below_drew HB.out)) HC.out HS.out).mono ?_; rintro e w2 ⟨v0, rfl, hown, hb3⟩; obtain ⟨Av, cv, ev⟩ := Kd.R_slice hown; subst ev))
          all_goals
            go_wp2
            go_ret
            exact ⟨by first | rfl | (rw [HR1.out]; rfl), below_then (by first | exact HB.out | exact below_drew HB.out) (by first | exact HB.out.size | exact (below_drew HB.out).size) hb3⟩
        · have hcb : decide ((s.length : Int) < a0_0) = false := decide_eq_false hc
          have HR1 := Aside0.mk (show (if (s.length : Int) < a0_0 then (13 : Int) else 0) = 0 from if_neg hc)
          go_wp2
          go_region_held3 (fun w' => w'.cell? ⟨w.heap.size, 0, none⟩ = some (.int .i64 a0_0) ∧ w'.cell? ⟨w.heap.size, 1, none⟩ = some (.slice A0_1 l0_1.length c0_1))
            (first
              | go_keep
              | (go_split_ands
                 exact ⟨(hb3.cell (World.block_lt_of_cell? _ _ hcz0)).trans hcz0, (hb3.cell (World.block_lt_of_cell? _ _ hcz1)).trans hcz1⟩))
            (first
              | (go_at_call 40; refine (route_sorted.calls k a0_0 A0_1 c0_1 l0_1 s _ (by exact Kd.C_below HR.out (by first | exact HB.out | exact below_drew HB.out)) HC.out HS.out).mono ?_; rintro e w2 ⟨v0, rfl, hown, hb3⟩; obtain ⟨Av, cv, ev⟩ := Kd.R_slice hown; subst ev))
          all_goals
            go_wp2
            go_ret
            exact ⟨by first | rfl | (rw [HR1.out]; rfl), below_then (by first | exact HB.out | exact below_drew HB.out) (by first | exact HB.out.size | exact (below_drew HB.out).size) hb3⟩
end Go.Proofs.Ytcamljlhdejmmaa.P
