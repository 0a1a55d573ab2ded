/- route.Groups, walked once: the indices sorted by their kept labels, cut where these change. -/
import Derived.Test.YtcamljlhdejmmaaMKeep
import Derived.Test.YtcamljlhdejmmaaHCmp
import Derived.Deep.RegionHeld3
import Derived.StillTailTactics
import Derived.BigRegion
import Derived.Sort.LotA
namespace Go.Proofs.Ytcamljlhdejmmaa.P
open Go.RowKit Go.Proofs.YtcamljlhdejmmaaW.PrintWords Go.Proofs.YtcamljlhdejmmaaW.PrintLast Go.Proofs.YtcamljlhdejmmaaW.PrintMore
set_option linter.unusedVariables false
set_option linter.unusedSimpArgs false

abbrev Al := S73
/-- What the closures of Groups captured: the alerts' slice in block b1, the names' in block b2. -/
structure Capt (w : World) (b1 b2 : Nat) (A0 : Option Addr) (c0 : Nat) (l0 : List Al) (A1 : Option Addr) (c1 : Nat) (l1 : List ByteArray) : Prop where
  h1 : w.heap[b1]? = some (.cells #[.slice A0 l0.length c0] 61 (0, 0))
  h2 : w.heap[b2]? = some (.cells #[.slice A1 l1.length c1] 57 (0, 0))
  r0 : Kd.C k73 w A0 l0.length l0
  r1 : Kd.C Kd.string w A1 l1.length l1
  c0 : l0.length ≤ c0
  c1 : l1.length ≤ c1
  s0 : ∀ a ∈ l0, a.f2.length ≤ 1000
  s1 : l1.length ≤ 1000
theorem Capt.below {w w' : World} {b1 b2 : Nat} {A0 : Option Addr} {c0 : Nat} {l0 : List Al} {A1 : Option Addr} {c1 : Nat} {l1 : List ByteArray} (h : Capt w b1 b2 A0 c0 l0 A1 c1 l1) (hb : Below w.heap.size w w') : Capt w' b1 b2 A0 c0 l0 A1 c1 l1 :=
  ⟨(hb.block _ (blk_lt h.h1)).trans h.h1, (hb.block _ (blk_lt h.h2)).trans h.h2, Kd.C_below h.r0 hb, Kd.C_below h.r1 hb, h.c0, h.c1, h.s0, h.s1⟩

/-- The labels by which an alert is grouped. -/
def keyL (l0 : List Al) (l1 : List ByteArray) (i : Nat) : List S91 := Pure.keepL (rd_T73 l0 (i : Int)).f2 l1

set_option maxHeartbeats 4000000 in
set_option maxRecDepth 100000 in
theorem key_calls (b1 b2 : Nat) (A0 : Option Addr) (c0 : Nat) (l0 : List Al) (A1 : Option Addr) (c1 : Nat) (l1 : List ByteArray) (i : Nat) (hi : i < l0.length) (w : World) (hc : Capt w b1 b2 A0 c0 l0 A1 c1 l1) :
    Calls Try.prog 50 #[.int .i64 (i : Int), .pointer (some ⟨b1, 0, none⟩), .pointer (some ⟨b2, 0, none⟩)] w fun e w' => ∃ v, e = .returned v ∧ Kd.R k91 91 w' w.heap.size (fun _ => True) v (keyL l0 l1 i) ∧ Below w.heap.size w w' := by
  have mixed : Try.prog.follows .mixedOrders = true := by kernel_rfl
  obtain ⟨ad, A2, c2, ead, _, _, hx2, _, _, _, hl2, hr2⟩ := at_T73 hc.r0 (i : Int) (by omega) (by omega)
  have hmem : rd_T73 l0 (i : Int) ∈ l0 := by simp [rd_T73, List.getD_eq_getElem?_getD, hi]
  have hs0 := hc.s0 _ hmem
  obtain ⟨k, hk⟩ : ∃ k, labels_Keep.f k (rd_T73 l0 (i : Int)).f2 l1 = some (keyL l0 l1 i) := by
    obtain ⟨K, hK⟩ := Pure.keep_ev (rd_T73 l0 (i : Int)).f2 (by omega) l1 (by have := hc.s1; omega)
    exact ⟨K, hK K (Nat.le_refl _)⟩
  have d1 : w.cell? ⟨b1, 0, none⟩ = some (.slice A0 l0.length c0) := (blk_cell hc.h1 0).trans rfl
  have d2 : w.cell? ⟨b2, 0, none⟩ = some (.slice A1 l1.length c1) := (blk_cell hc.h2 0).trans rfl
  have hr1 := hc.r1
  have hcc := hc.c1
  rw [ead] at d1
  simp only [Int.toNat_natCast] at hx2
  generalize rd_T73 l0 (i : Int) = x at *
  generalize keyL l0 l1 i = key at *
  have hi0 : (0 ≤ (i : Int)) = True := eq_true (by omega)
  have hi1 : ((i : Int) < (l0.length : Int)) = True := eq_true (by omega)
  have e1 : w.drew.cell? ⟨b1, 0, none⟩ = some (.slice (some ad) l0.length c0) := d1
  have e2 : w.drew.cell? ⟨b2, 0, none⟩ = some (.slice A1 l1.length c1) := d2
  have e3 : w.drew.cell? ⟨(ad.add (i * 6)).block, (ad.add (i * 6)).off + 2, none⟩ = some (.slice A2 x.f2.length c2) := hx2
  have R2 := Aside0.mk (Kd.C_drew hr2)
  have R1 := Aside0.mk (Kd.C_drew hr1)
  have L2 := Aside0.mk hl2
  have L1 := Aside0.mk hcc
  have HK := Aside0.mk hk
  have HB := Aside0.mk (below_drew (Below.refl w.heap.size w))
  have HZ := Aside0.mk (show w.drew.heap.size = w.heap.size from rfl)
  clear hc ead hx2 hl2 hr2 hmem hs0 hk d1 d2 hr1 hcc hi
  go_enter Try.func50, Try.ntmps50
  go_wp2
  refine wp_region_still_tail 6 mixed (by kernel_rfl) ?_
  change wpStill _ _ (World.drew _) (fun a' => wpList _ _ _ _ a' (World.drew _)) _ _
  generalize w.drew = w2 at *
  simp only [List.take_succ_cons, List.take_zero, List.drop_succ_cons, List.drop_zero]
  still_step
  still_step
  still_step
  still_step
  still_step
  still_step
  refine wpStill_nil ?_
  clear e1 e2 e3
  go_wp2_with (go_at_call 38; refine (labels_Keep.calls k A2 c2 x.f2 A1 c1 l1 key _ R2.out L2.out R1.out L1.out HK.out).mono ?_; rintro e w3 ⟨v, rfl, ho, hb⟩; have HO := Aside0.mk ho; have HB3 := Aside0.mk hb; clear ho hb)
  go_ret
  exact ⟨v, rfl, by rw [← HZ.out]; exact HO.out, by have := HB3.out; rw [HZ.out] at this; exact HB.out.trans this⟩

def keyFn (b1 b2 : Nat) : Value := .func (.func 50) #[] #[.pointer (some ⟨b1, 0, none⟩), .pointer (some ⟨b2, 0, none⟩)]
set_option maxHeartbeats 4000000 in
set_option maxRecDepth 100000 in
theorem cmpKey_calls (b1 b2 b5 : Nat) (A0 : Option Addr) (c0 : Nat) (l0 : List Al) (A1 : Option Addr) (c1 : Nat) (l1 : List ByteArray) (i j : Nat) (hi : i < l0.length) (hj : j < l0.length) (w : World) (hc : Capt w b1 b2 A0 c0 l0 A1 c1 l1) (h5 : w.heap[b5]? = some (.cells #[keyFn b1 b2] 85 (0, 0))) :
    Calls Try.prog 52 #[.int .i64 (i : Int), .int .i64 (j : Int), .pointer (some ⟨b5, 0, none⟩)] w fun e w' => e = .returned (.int .i64 (cmpLs (keyL l0 l1 i) (keyL l0 l1 j))) ∧ Below w.heap.size w w' := by
  have mixed : Try.prog.follows .mixedOrders = true := by kernel_rfl
  have ef : ∀ args w, (callFunc 50 args).run Try.prog w = .ok (.enter 50 args) w := enters_of Try.func50 (by kernel_rfl) rfl
  have d5 : w.cell? ⟨b5, 0, none⟩ = some (keyFn b1 b2) := (blk_cell h5 0).trans rfl
  have hlt := blk_lt h5
  have HC := Aside0.mk hc
  have HI := Aside0.mk hi
  have HJ := Aside0.mk hj
  have HL := Aside0.mk hlt
  unfold keyFn at d5
  clear hc h5 hi hj hlt
  generalize hki : keyL l0 l1 i = ki
  generalize hkj : keyL l0 l1 j = kj
  have HKI := Aside0.mk hki
  have HKJ := Aside0.mk hkj
  clear hki hkj
  go_enter Try.func52, Try.ntmps52
  go_wp2
  go_region_held3 (fun w' => w'.cell? ⟨b5, 0, none⟩ = some (.func (.func 50) #[] #[.pointer (some ⟨b1, 0, none⟩), .pointer (some ⟨b2, 0, none⟩)])) (go_keep)
    (first
      | (go_at_call 37; refine (labels_Compare.calls A2 c2 ki A3 c3 kj (cmpLs ki kj) _ (Kd.C_below CA.out HB2.out) LA.out CB.out LB.out rfl).mono ?_; rintro e w4 ⟨rfl, hb4⟩; have s4 : w4.cell? ⟨b5, 0, none⟩ = some (.func (.func 50) #[] #[.pointer (some ⟨b1, 0, none⟩), .pointer (some ⟨b2, 0, none⟩)]) := (hb4.cell (show b5 < _ from Nat.lt_of_lt_of_le H3.out HB2.out.size)).trans s3; have HB4 := Aside0.mk (below_step HB3.out hb4); clear hb4)
      | (have _t := CA; go_at_call 50; refine (key_calls b1 b2 A0 c0 l0 A1 c1 l1 j HJ.out _ HC2.out).mono ?_; rintro e w3 ⟨v3, rfl, ho3, hb3⟩; rw [HKJ.out] at ho3; obtain ⟨A3, c3, rfl, l3, r3⟩ := Kd.R_reads ho3; have s3 : w3.cell? ⟨b5, 0, none⟩ = some (.func (.func 50) #[] #[.pointer (some ⟨b1, 0, none⟩), .pointer (some ⟨b2, 0, none⟩)]) := (hb3.cell (show b5 < _ from H3.out)).trans s2; have CB := Aside0.mk r3; have LB := Aside0.mk l3; have HB2 := Aside0.mk hb3; have HB3 := Aside0.mk (below_step HB1.out hb3); clear ho3 l3 r3 hb3)
      | (go_at_call 50; refine (key_calls b1 b2 A0 c0 l0 A1 c1 l1 i HI.out _ (HC.out.below (below_drew (Below.refl _ _)))).mono ?_; rintro e w2 ⟨v2, rfl, ho2, hb2⟩; rw [HKI.out] at ho2; obtain ⟨A2, c2, rfl, l2, r2⟩ := Kd.R_reads ho2; have s2 : w2.cell? ⟨b5, 0, none⟩ = some (.func (.func 50) #[] #[.pointer (some ⟨b1, 0, none⟩), .pointer (some ⟨b2, 0, none⟩)]) := (hb2.cell (show b5 < _ from HL.out)).trans d5; have CA := Aside0.mk r2; have LA := Aside0.mk l2; have HB1 := Aside0.mk (show Below w.heap.size w w2 from (below_drew (Below.refl _ _)).trans hb2); have HC2 := Aside0.mk (HC.out.below HB1.out); have H3 := Aside0.mk (Nat.lt_of_lt_of_le HL.out HB1.out.size); clear ho2 l2 r2 hb2))
  all_goals
    go_wp2
    go_ret
    exact ⟨rfl, HB4.out⟩
end Go.Proofs.Ytcamljlhdejmmaa.P
