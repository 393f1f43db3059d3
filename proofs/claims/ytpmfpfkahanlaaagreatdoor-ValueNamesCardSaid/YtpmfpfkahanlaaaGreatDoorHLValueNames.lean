/- The statement ValueNames is proved: Exception and Number return what the chapter says, for any error and name; the number of each exception is that of the list; for every input, under the row's own condition alone (the listed package-level variables hold what the program's text lays; the card ties them). -/
import Derived.Test.YtpmfpfkahanlaaaGreatDoorHI
import Derived.Test.YtpmfpfkahanlaaaGreatDoorHR
namespace Go.Proofs.YtpmfpfkahanlaaaGreatDoor
open Go.RowKit
set_option linter.unusedSimpArgs false
set_option linter.unusedVariables false
attribute [local go_sem] Later.cell Later.lt
attribute [local go_sem high] run_eqV run_neV

def ExcL (y : List UInt8) : Prop := y = [] ∨ ∃ c r, y = c :: r ∧ sNum (c :: r) ≠ 0
theorem ite_P {P : List UInt8 → Prop} {c : Prop} [Decidable c] {a b : List UInt8} (ha : P a) (hb : P b) : P (if c then a else b) := by
  split
  · exact ha
  · exact hb
theorem excL_nil : ExcL [] := .inl rfl
theorem excL_cons {c : UInt8} {r : List UInt8} (h : sNum (c :: r) ≠ 0) : ExcL (c :: r) := .inr ⟨c, r, rfl, h⟩
theorem exc_law (x : Int) : ExcL (sExc x) := by
  unfold sExc
  repeat' first | exact excL_nil | exact excL_cons (by decide) | refine ite_P ?_ ?_
set_option maxRecDepth 100000 in
set_option maxHeartbeats 4000000 in
theorem law_names (x : Int) (t : List UInt8) (w : World) (hE : Env w) (hx : -9223372036854775808 ≤ x ∧ x ≤ 9223372036854775807) (ht : t.length ≤ 140737488355328) :
    Calls Tryz.prog 8 #[.int .i64 x, .string ⟨t.toArray⟩] w fun e w' => e = .returned (.bool true) ∧ Below w.heap.size w w' := by
  have HE := Lib.hid hE
  clear hE
  obtain ⟨y, hy⟩ : ∃ y, sExc x = y := ⟨_, rfl⟩
  have C1 := Lib.hid fun W => exc_any x W
  have C2 := Lib.hid fun W => rExc_any x W
  have HY := exc_law x
  rw [hy] at C1 C2 HY
  clear hy
  obtain ⟨m, hm⟩ : ∃ m, sNum t = m := ⟨_, rfl⟩
  have C3 := Lib.hid fun W hW => num_any t W hW
  have C4 := Lib.hid fun W => rNum_any t W
  rw [hm] at C3 C4
  clear hm hx
  by_cases hl : t.length ≤ 1000
  · have hl1 : (t.length : Int) ≤ 1000 := by omega
    rcases HY with rfl | ⟨c, r, rfl, hn⟩
    · go_enter Tryz.func8, Tryz.ntmps8
      go_wp2_with fail
      refine (C1.out _).mono ?_; rintro e w' ⟨rfl, rfl⟩
      go_wp2_with fail
      refine (C2.out _).mono ?_; rintro e w' ⟨rfl, rfl⟩
      go_wp2_with fail
      refine (C3.out _ HE.out.sp).mono ?_; rintro e w1 ⟨rfl, hb1⟩
      have G1 := Lib.hid hb1
      clear hb1
      go_wp2_with fail
      refine (C4.out _).mono ?_; rintro e w2 ⟨rfl, hb2⟩
      have G2 := Lib.hid (G1.out.trans (hb2.mono G1.out.size))
      clear hb2 G1
      go_wp2_with fail
      have C5 := num_any [] w2 (HE.out.later G2.out).sp
      rw [show sNum [] = 0 by decide] at C5
      refine C5.mono ?_; rintro e w3 ⟨rfl, hb3⟩
      have G3 := Lib.hid (G2.out.trans (hb3.mono G2.out.size))
      clear hb3 G2
      go_wp2_with fail
      refine (awake_any _ (HE.out.later G3.out)).mono ?_; rintro e w4 ⟨rfl, hb4⟩
      have G4 := Lib.hid (G3.out.trans (hb4.mono G3.out.size))
      clear hb4 G3
      go_wp2_with fail
      go_ret
      exact ⟨rfl, G4.out⟩
    · have hn1 : (sNum (c :: r) == 0) = false := by simpa using hn
      go_enter Tryz.func8, Tryz.ntmps8
      go_wp2_with fail
      refine (C1.out _).mono ?_; rintro e w' ⟨rfl, rfl⟩
      go_wp2_with fail
      refine (C2.out _).mono ?_; rintro e w' ⟨rfl, rfl⟩
      go_wp2_with fail
      refine (C3.out _ HE.out.sp).mono ?_; rintro e w1 ⟨rfl, hb1⟩
      have G1 := Lib.hid hb1
      clear hb1
      go_wp2_with fail
      refine (C4.out _).mono ?_; rintro e w2 ⟨rfl, hb2⟩
      have G2 := Lib.hid (G1.out.trans (hb2.mono G1.out.size))
      clear hb2 G1
      go_wp2_with fail
      refine (num_any (c :: r) _ (HE.out.later G2.out).sp).mono ?_; rintro e w3 ⟨rfl, hb3⟩
      have G3 := Lib.hid (G2.out.trans (hb3.mono G2.out.size))
      clear hb3 G2
      go_wp2_with fail
      refine (awake_any _ (HE.out.later G3.out)).mono ?_; rintro e w4 ⟨rfl, hb4⟩
      have G4 := Lib.hid (G3.out.trans (hb4.mono G3.out.size))
      clear hb4 G3
      go_wp2_with fail
      go_ret
      exact ⟨rfl, G4.out⟩
  · have hl1 : ¬ (t.length : Int) ≤ 1000 := by omega
    go_enter Tryz.func8, Tryz.ntmps8
    go_wp2_with fail
    refine (awake_any _ HE.out).mono ?_; rintro e w1 ⟨rfl, hb1⟩
    have G1 := Lib.hid hb1
    clear hb1
    go_wp2_with fail
    go_ret
    exact ⟨rfl, G1.out⟩
end Go.Proofs.YtpmfpfkahanlaaaGreatDoor

/- The statement ValueNames is proved: Exception and Number return what the chapter says, for any error and name; the number of each exception is that of the list; for every input, under the row's own condition alone (the listed package-level variables hold what the program's text lays; the card ties them). -/
namespace Go.Proofs.YtpmfpfkahanlaaaGreatDoor
open Go.ChangeShapes Go.Joins Go.Deep Go.WideShapes Go.ChangeAt Go.RowKit
open Go.ChangeMaps (open_string shut_string)
set_option linter.unusedVariables false

set_option maxRecDepth 100000 in
set_option maxHeartbeats 4000000 in
theorem valueNames_lifted (os : Os) (started : os.Started) (H : Type) (enc : TypeId × Value → H) :
    ReturnsInHanded {} Tryz.checked os 8 .any (fun w args => (Rows.valueNamesSpec.pre enc Tryz.prog Tryz.f8 [] false w args ∧ laidMetH Tryz.prog laid w) ∧ sizedMet enc Tryz.prog Tryz.f8 (OpenSpec.ofChange Rows.valueNamesSpec) false w args)
      (Rows.valueNamesSpec.post enc Tryz.prog Tryz.f8 false true false false) := by
  refine returns_listed (C := Tryz.checked) (X := fun w _ => laidMetH Tryz.prog laid w) (fun _ _ _ hh h => h.of_heap hh) own started (by kernel_rfl) Tryz.func8
    (ChangeSpec.witness_shaped (enc := enc) (C := Tryz.checked) (os := os) (X := fun w _ => laidMetH Tryz.prog laid w) false (World.laidAll Tryz.prog os laid) #[.int .i64 0, .string ByteArray.empty] 8 (World.laidAll_os _ _ _)
      (World.shaped_of_ZipB (by kernel_rfl) (by kernel_rfl)) (by kernel_rfl) (by kernel_rfl) (by kernel_rfl)
      (by rw [MakeChecks.laidMetH_plain _ _ _ (by kernel_rfl)]; exact laidMet_laidAll _ (by kernel_rfl) (by kernel_rfl))) ?_
  intro W base args ds gs before hval0 hW hcnd hsz0 hL hsh _
  have hsz : (DataW.weightsEach Tryz.prog (Tryz.f8.params.toList ++ Rows.valueNamesSpec.plain.varTypes Tryz.prog) (ds ++ gs)).all (· ≤ reachBytes) = true := hsz0
  have hval : ∀ (j : Nat) t v, Tryz.f8.params[j]? = some t → args[j]? = some v → Value.okWide Tryz.prog W .any base t v := hval0
  have hW' := hW
  obtain ⟨p, q, hA0, hV, rfl, hfz, hnd⟩ := hW
  have hA : DataW.TrodAll enc Tryz.prog W 0 (fun _ => true) true Tryz.f8.params.toList args.toList ds p := hA0
  rw [Tryz.params8] at hA hval hsz
  obtain ⟨v0, vs0, d0, ds0, p0, q0, hargs, rfl, rfl, h0, r0⟩ := trodAll_cons hA
  obtain ⟨v1, vs1, d1, ds1, p1, q1, rfl, rfl, rfl, h1, r1⟩ := trodAll_cons r0
  obtain ⟨rfl, rfl, rfl⟩ := trodAll_nil r1
  obtain rfl : args = #[v0, v1] := by cases args; simp_all
  obtain ⟨rfl, rfl⟩ := trodVars_none hV
  have hEnv := env_of_laid hL hsh
  have k0 := h0
  have lt0 : ∀ x ∈ p0, x.block < W.heap.size := by obtain ⟨m, hm⟩ := k0; exact DataW.trod_lt m _ _ _ hm
  obtain ⟨a0, rfl, _, _, w0⟩ := open_int Tryz.underlying3 (hval 0 3 v0 rfl rfl) h0
  have T0 : -9223372036854775808 ≤ a0 ∧ a0 ≤ 9223372036854775807 := by simpa [Lit.wf, IntKind.min, IntKind.max, IntKind.signed, IntKind.bits] using w0
  have k1 := h1
  have lt1 : ∀ x ∈ p1, x.block < W.heap.size := by obtain ⟨m, hm⟩ := k1; exact DataW.trod_lt m _ _ _ hm
  obtain ⟨a1, rfl, e1, _, _⟩ := open_string Tryz.underlying9 (hval 1 9 v1 rfl rfl) h1
  have T1 : a1.data.toList.length ≤ 140737488351232 := sized_string hsz (j := 1) (t := 9) rfl (by rw [← e1]; rfl)
  obtain ⟨t1, rfl⟩ : ∃ t : List UInt8, a1 = ⟨t.toArray⟩ := ⟨a1.data.toList, by simp⟩
  rw [List.toList_toArray] at T1
  clear hA0 hval0 hsz0 hsz
  refine (law_names a0 t1 W hEnv T0 (Nat.le_trans T1 (by decide))).mono fun e W' ⟨he, bel⟩ => ?_
  subst he
  exact ⟨_, rfl, _, _, _, [], _, [], hW', trodAll_mk1 (shut_bool Tryz.underlying4 _), (trodAll_cons_mk (Below.trod laidOut (by kernel_rfl) (of_decide_eq_true (by kernel_rfl)) k0 bel lt0) (trodAll_cons_mk (Below.trod laidOut (by kernel_rfl) (of_decide_eq_true (by kernel_rfl)) k1 bel lt1) trodAll_mk0)), rfl, bel.frame _, fun h => by cases h⟩
theorem valueNames_row : Rows.ValueNamesSaid :=
  OpenClaim.holds_of_wide 8 Tryz.f8 rfl rfl rfl rfl rfl rfl rfl ⟨rfl, rfl, rfl, rfl, rfl⟩ rfl rfl rfl rfl rfl (by kernel_rfl) Tryz.func8 (by kernel_rfl)
    (of_decide_eq_true (by kernel_rfl)) (by unfold Func.isWrapper; first | (rw [if_pos (by decide +kernel)]; kernel_rfl) | (rw [if_neg (by decide +kernel)]; exact ⟨rfl, rfl⟩))
    (fun os started H enc _ => valueNames_lifted os started H enc)
theorem valueNames_card : Rows.ValueNamesCardSaid :=
  Claim7.holds_tied_plain_at .later [] [.data, .data, .data, .data, .sentinel, .sentinel, .listed, .data, .data, .pinned, .pinned] true (true, "2df1776b52db89be618cb2cc9767f232203ddef2cbc80537f057adf05aab1a8a") true
    valueNames_row (fun _ h => by cases h) (by kernel_rfl) (fun _ h => by cases h) valueNames_row_tie rfl ⟨rfl, rfl⟩ (by kernel_rfl) rfl
    (fun f fn hf hfn => by
      obtain rfl : f = 8 := Option.some.inj ((show Tryz.prog.funcNamed "justiciar/justiciarlaw01.ValueNames" = some 8 by kernel_rfl).symm.trans hf) |>.symm
      obtain rfl : fn = Tryz.f8 := (Option.some.inj (Tryz.func8.symm.trans hfn)).symm
      exact ⟨by kernel_rfl, fun j t ht => by
        rw [Tryz.params8] at ht
        have hm : t ∈ [3, 9] := by simpa using Array.mem_of_getElem? ht
        have hall : ([3, 9].all fun u => !Tryz.prog.wantsStandIn u) = true := by kernel_rfl
        exact (show Tryz.prog.wantsStandIn t = false by simpa using List.all_eq_true.1 hall t hm)⟩)
    (by kernel_rfl)
#print axioms valueNames_card
end Go.Proofs.YtpmfpfkahanlaaaGreatDoor
