/- The statement ValueValid is proved: Valid, IsRow, Same, SameRow and True say what the chapter says, of any values; for every input, under the row's own condition alone (the listed package-level variables hold what the program's text lays; the card ties them). -/
import Derived.Test.YtpmfpfkahanlaaaGreatDoorHI
import Derived.Test.YtpmfpfkahanlaaaGreatDoorHD
import Derived.Test.YtpmfpfkahanlaaaGreatDoorHB
import Derived.Test.YtpmfpfkahanlaaaGreatDoorHR
namespace Go.Proofs.YtpmfpfkahanlaaaGreatDoor
open Go.RowKit
set_option linter.unusedSimpArgs false
set_option linter.unusedVariables false
attribute [local go_sem] Later.cell Later.lt
attribute [local go_sem high] run_eqV run_neV

set_option maxRecDepth 100000 in
set_option maxHeartbeats 4000000 in
theorem law_valid (A : Option Addr) (n c : Nat) (l : List V) (A' : Option Addr) (m d : Nat) (l' : List V) (w : World) (hE : Env w) (hS : Sl w A n l) (ht : ∀ v ∈ l, v.t.length ≤ 140737488355328) (hS' : Sl w A' m l') (ht' : ∀ v ∈ l', v.t.length ≤ 140737488355328) :
    Calls Tryz.prog 3 #[.slice A n c, .slice A' m d] w fun e w' => e = .returned (.bool true) ∧ Below w.heap.size w w' := by
  have HE := Lib.hid hE
  have HS := Lib.hid hS
  have HS' := Lib.hid hS'
  have HT := Lib.hid ht
  have HT' := Lib.hid ht'
  have hbig := hS.big
  have hbig' := hS'.big
  have hlen := Lib.hid hS.len
  have hlen' := Lib.hid hS'.len
  clear hE hS hS' ht ht'
  go_enter Tryz.func3, Tryz.ntmps3
  go_wp2_with fail
  refine (few_any _ _ _ l _ HS.out HT.out).mono ?_; rintro e w1 ⟨b, rfl, hb1, -⟩
  have G1 := Lib.hid hb1
  clear hb1
  cases b with
  | false =>
    go_wp2_with fail
    refine (awake_any _ (HE.out.later G1.out)).mono ?_; rintro e w2 ⟨rfl, hb2⟩
    have G2 := Lib.hid (G1.out.trans (hb2.mono G1.out.size))
    clear hb2 G1
    go_wp2_with fail
    go_ret
    exact ⟨rfl, G2.out⟩
  | true =>
    go_wp2_with fail
    refine (few_any _ _ _ l' _ (HS'.out.later G1.out) HT'.out).mono ?_; rintro e w2 ⟨b, rfl, hb2, -⟩
    have G2 := Lib.hid (G1.out.trans (hb2.mono G1.out.size))
    clear hb2 G1
    cases b with
    | false =>
      go_wp2_with fail
      refine (awake_any _ (HE.out.later G2.out)).mono ?_; rintro e w3 ⟨rfl, hb3⟩
      have G3 := Lib.hid (G2.out.trans (hb3.mono G2.out.size))
      clear hb3 G2
      go_wp2_with fail
      go_ret
      exact ⟨rfl, G3.out⟩
    | true =>
      go_wp2_with fail
      go_loopw [18] (fun i wr => ∃ j : Nat, j ≤ n ∧ i = .int .i64 j ∧ Hid (Below w.heap.size w wr)) (fun i wr => n - (intOf i).toNat)
      case atStart => exact ⟨0, Nat.zero_le _, rfl, G2⟩
      case round =>
        obtain ⟨j, hj, rfl, HB⟩ := hrel
        clear G2
        by_cases hlt : j < n
        · have HS2 := HS.out.later HB.out
          obtain ⟨b, off, rfl, hbl, hc⟩ := HS2.at_ (by omega)
          have hl : j < l.length := by rw [hlen.out]; exact hlt
          obtain ⟨c0, c1, c2⟩ := hc j hl
          have hxt := HT.out _ (List.getElem_mem hl)
          generalize l[j] = x at c0 c1 c2 hxt
          obtain ⟨k, a, t⟩ := x
          clear hc HS2
          simp only at c0 c1 c2 hxt
          have HEW := Lib.hid ((HE.out.later HB.out).later ((Below.refl wr.heap.size wr).alloc (Nat.le_refl _) (.cells #[.int .i64 k, .int .i64 a, .string ⟨t.toArray⟩] 27)))
          have hsz : 0 < wr.heap.size := by omega
          by_cases hm : j < m
          · have HS2' := HS'.out.later HB.out
            obtain ⟨b', off', rfl, hbl', hc'⟩ := HS2'.at_ (by omega)
            have hl' : j < l'.length := by rw [hlen'.out]; exact hm
            obtain ⟨d0, d1, d2⟩ := hc' j hl'
            generalize l'[j] = y at d0 d1 d2
            obtain ⟨k', a', t'⟩ := y
            clear hc' HS2'
            simp only at d0 d1 d2
            have hmi : (j : Int) < (m : Int) := by omega
            go_wp2_with fail
            refine wp_region_later (by kernel_rfl) (by kernel_rfl) ?_; (repeat (first | go_big_quiet_step ((first | (go_at_call 15; exact later _ (valid_e _ _ _ _ (HEW.out.later (Later.b _)).nul)) | (go_at_call 16; exact later _ (rValid_any _ _ _ _ hxt)) | (go_at_call 17; exact later _ (true_any _ _ _ _)) | (go_at_call 18; exact later _ (rTrue_any _ _ _ _)) | (go_at_call 19; exact later _ (same_any _ _ _ _ _ _ _)) | (go_at_call 20; exact later _ (rSame_any _ _ _ _ _ _ _)))) | quiet_step ((first | (go_at_call 15; exact later _ (valid_e _ _ _ _ (HEW.out.later (Later.b _)).nul)) | (go_at_call 16; exact later _ (rValid_any _ _ _ _ hxt)) | (go_at_call 17; exact later _ (true_any _ _ _ _)) | (go_at_call 18; exact later _ (rTrue_any _ _ _ _)) | (go_at_call 19; exact later _ (same_any _ _ _ _ _ _ _)) | (go_at_call 20; exact later _ (rSame_any _ _ _ _ _ _ _)))))); refine wpQuiet_nil ?_; intro w' hw'; obtain ⟨⟨w', hb⟩, hw''⟩ := hw'; subst hw''
            go_wp2_with fail
            have HB2 := HB.out
            have hsz2 := HB2.size
            exact ⟨⟨j + 1, by omega, by go_num, Lib.hid (by (repeat' (first | (with_reducible exact Below.refl _ _) | (with_reducible assumption) | (with_reducible refine Below.alloc ?_ ?_ _) | (with_reducible refine Below.drew ?_) | (with_reducible refine Below.drewN' ?_ _) | (with_reducible refine Below.setCell ?_ ?_ _) | (refine Below.via ?_ (by assumption) ?_) | go_size)))⟩, by simp [intOf]; omega⟩
          · have hmd : decide (j < m) = false := decide_eq_false hm
            clear hm
            go_wp2_with fail
            refine wp_region_later (by kernel_rfl) (by kernel_rfl) ?_; (repeat (first | go_big_quiet_step ((first | (go_at_call 15; exact later _ (valid_e _ _ _ _ (HEW.out.later (Later.b _)).nul)) | (go_at_call 16; exact later _ (rValid_any _ _ _ _ hxt)) | (go_at_call 17; exact later _ (true_any _ _ _ _)) | (go_at_call 18; exact later _ (rTrue_any _ _ _ _)))) | quiet_step ((first | (go_at_call 15; exact later _ (valid_e _ _ _ _ (HEW.out.later (Later.b _)).nul)) | (go_at_call 16; exact later _ (rValid_any _ _ _ _ hxt)) | (go_at_call 17; exact later _ (true_any _ _ _ _)) | (go_at_call 18; exact later _ (rTrue_any _ _ _ _)))))); refine wpQuiet_nil ?_; intro w' hw'; obtain ⟨⟨w', hb⟩, hw''⟩ := hw'; subst hw''
            go_wp2_with fail
            have HB2 := HB.out
            have hsz2 := HB2.size
            exact ⟨⟨j + 1, by omega, by go_num, Lib.hid (by (repeat' (first | (with_reducible exact Below.refl _ _) | (with_reducible assumption) | (with_reducible refine Below.alloc ?_ ?_ _) | (with_reducible refine Below.drew ?_) | (with_reducible refine Below.drewN' ?_ _) | (with_reducible refine Below.setCell ?_ ?_ _) | (refine Below.via ?_ (by assumption) ?_) | go_size)))⟩, by simp [intOf]; omega⟩
        · obtain rfl : j = n := by omega
          go_wp2_with fail
          refine (isRow_any _ _ _ l _ (HE.out.later HB.out).nul (HS.out.later HB.out)).mono ?_; rintro e w3 ⟨rfl, hb3⟩
          generalize hq : (decide (j ≤ 20) && l.all sValid) = q
          have HQ := Lib.hid hq
          clear hq
          have G3 := Lib.hid (HB.out.trans (hb3.mono HB.out.size))
          clear hb3 HB
          go_wp2_with fail
          refine (rIsRow_any _ _ _ l _ (HS.out.later G3.out) HT.out).mono ?_; rintro e w4 ⟨rfl, hb4⟩
          rw [HQ.out]
          have G4 := Lib.hid (G3.out.trans (hb4.mono G3.out.size))
          clear hb4 G3
          go_wp2_with fail
          refine (sameRow_any _ _ _ _ _ _ l l' _ (HS.out.later G4.out) (HS'.out.later G4.out)).mono ?_; rintro e w5 ⟨rfl, hb5⟩
          generalize hq2 : Lib.allEq veq l l' = q2
          have HQ2 := Lib.hid hq2
          clear hq2
          have G5 := Lib.hid (G4.out.trans (hb5.mono G4.out.size))
          clear hb5 G4
          go_wp2_with fail
          refine (rSameRow_any _ _ _ _ _ _ l l' _ (HS.out.later G5.out) (HS'.out.later G5.out)).mono ?_; rintro e w6 ⟨rfl, hb6⟩
          rw [HQ2.out]
          have G6 := Lib.hid (G5.out.trans (hb6.mono G5.out.size))
          clear hb6 G5
          go_wp2_with fail
          refine (awake_any _ (HE.out.later G6.out)).mono ?_; rintro e w7 ⟨rfl, hb7⟩
          have G7 := Lib.hid (G6.out.trans (hb7.mono G6.out.size))
          clear hb7 G6
          go_wp2_with fail
          go_ret
          exact ⟨rfl, G7.out⟩
end Go.Proofs.YtpmfpfkahanlaaaGreatDoor

/- The statement ValueValid is proved: Valid, IsRow, Same, SameRow and True say what the chapter says, of any values; for every input, under the row's own condition alone (the listed package-level variables hold what the program's text lays; the card ties them). -/
namespace Go.Proofs.YtpmfpfkahanlaaaGreatDoor
open Go.ChangeShapes Go.Joins Go.Deep Go.WideShapes Go.ChangeAt Go.RowKit
open Go.ChangeMaps (open_string shut_string)
set_option linter.unusedVariables false

set_option maxRecDepth 100000 in
set_option maxHeartbeats 4000000 in
theorem valueValid_lifted (os : Os) (started : os.Started) (H : Type) (enc : TypeId × Value → H) :
    ReturnsInHanded {} Tryz.checked os 3 .any (fun w args => (Rows.valueValidSpec.pre enc Tryz.prog Tryz.f3 [] false w args ∧ laidMetH Tryz.prog laid w) ∧ sizedMet enc Tryz.prog Tryz.f3 (OpenSpec.ofChange Rows.valueValidSpec) false w args)
      (Rows.valueValidSpec.post enc Tryz.prog Tryz.f3 false true false false) := by
  refine returns_listed (C := Tryz.checked) (X := fun w _ => laidMetH Tryz.prog laid w) (fun _ _ _ hh h => h.of_heap hh) own started (by kernel_rfl) Tryz.func3
    (ChangeSpec.witness_shaped (enc := enc) (C := Tryz.checked) (os := os) (X := fun w _ => laidMetH Tryz.prog laid w) false (World.laidAll Tryz.prog os laid) #[.slice none 0 0, .slice none 0 0] 8 (World.laidAll_os _ _ _)
      (World.shaped_of_ZipB (by kernel_rfl) (by kernel_rfl)) (by kernel_rfl) (by kernel_rfl) (by kernel_rfl)
      (by rw [MakeChecks.laidMetH_plain _ _ _ (by kernel_rfl)]; exact laidMet_laidAll _ (by kernel_rfl) (by kernel_rfl))) ?_
  intro W base args ds gs before hval0 hW hcnd hsz0 hL hsh _
  have hsz : (DataW.weightsEach Tryz.prog (Tryz.f3.params.toList ++ Rows.valueValidSpec.plain.varTypes Tryz.prog) (ds ++ gs)).all (· ≤ reachBytes) = true := hsz0
  have hval : ∀ (j : Nat) t v, Tryz.f3.params[j]? = some t → args[j]? = some v → Value.okWide Tryz.prog W .any base t v := hval0
  have hW' := hW
  obtain ⟨p, q, hA0, hV, rfl, hfz, hnd⟩ := hW
  have hA : DataW.TrodAll enc Tryz.prog W 0 (fun _ => true) true Tryz.f3.params.toList args.toList ds p := hA0
  rw [Tryz.params3] at hA hval hsz
  obtain ⟨v0, vs0, d0, ds0, p0, q0, hargs, rfl, rfl, h0, r0⟩ := trodAll_cons hA
  obtain ⟨v1, vs1, d1, ds1, p1, q1, rfl, rfl, rfl, h1, r1⟩ := trodAll_cons r0
  obtain ⟨rfl, rfl, rfl⟩ := trodAll_nil r1
  obtain rfl : args = #[v0, v1] := by cases args; simp_all
  obtain ⟨rfl, rfl⟩ := trodVars_none hV
  have hEnv := env_of_laid hL hsh
  have k0 := h0
  have lt0 : ∀ x ∈ p0, x.block < W.heap.size := by obtain ⟨m, hm⟩ := k0; exact DataW.trod_lt m _ _ _ hm
  obtain ⟨A0, n0, c0, l0, rfl, S0, T0⟩ := open_values hsz (j := 0) rfl rfl (hval 0 22 v0 rfl rfl) h0
  have k1 := h1
  have lt1 : ∀ x ∈ p1, x.block < W.heap.size := by obtain ⟨m, hm⟩ := k1; exact DataW.trod_lt m _ _ _ hm
  obtain ⟨A1, n1, c1, l1, rfl, S1, T1⟩ := open_values hsz (j := 1) rfl rfl (hval 1 22 v1 rfl rfl) h1
  clear hA0 hval0 hsz0 hsz
  refine (law_valid A0 n0 c0 l0 A1 n1 c1 l1 W hEnv S0 (fun x hx => Nat.le_trans (T0 x hx) (by decide)) S1 (fun x hx => Nat.le_trans (T1 x hx) (by decide))).mono fun e W' ⟨he, bel⟩ => ?_
  subst he
  exact ⟨_, rfl, _, _, _, [], _, [], hW', trodAll_mk1 (shut_bool Tryz.underlying4 _), (trodAll_cons_mk (Below.trod laidOut (by kernel_rfl) (of_decide_eq_true (by kernel_rfl)) k0 bel lt0) (trodAll_cons_mk (Below.trod laidOut (by kernel_rfl) (of_decide_eq_true (by kernel_rfl)) k1 bel lt1) trodAll_mk0)), rfl, bel.frame _, fun h => by cases h⟩
theorem valueValid_row : Rows.ValueValidSaid :=
  OpenClaim.holds_of_wide 3 Tryz.f3 rfl rfl rfl rfl rfl rfl rfl ⟨rfl, rfl, rfl, rfl, rfl⟩ rfl rfl rfl rfl rfl (by kernel_rfl) Tryz.func3 (by kernel_rfl)
    (of_decide_eq_true (by kernel_rfl)) (by unfold Func.isWrapper; first | (rw [if_pos (by decide +kernel)]; kernel_rfl) | (rw [if_neg (by decide +kernel)]; exact ⟨rfl, rfl⟩))
    (fun os started H enc _ => valueValid_lifted os started H enc)
theorem valueValid_card : Rows.ValueValidCardSaid :=
  Claim7.holds_tied_plain_at .later [] [.data, .data, .data, .data, .sentinel, .sentinel, .listed, .data, .data, .pinned, .pinned] true (true, "2df1776b52db89be618cb2cc9767f232203ddef2cbc80537f057adf05aab1a8a") true
    valueValid_row (fun _ h => by cases h) (by kernel_rfl) (fun _ h => by cases h) valueValid_row_tie rfl ⟨rfl, rfl⟩ (by kernel_rfl) rfl
    (fun f fn hf hfn => by
      obtain rfl : f = 3 := Option.some.inj ((show Tryz.prog.funcNamed "justiciar/justiciarlaw01.ValueValid" = some 3 by kernel_rfl).symm.trans hf) |>.symm
      obtain rfl : fn = Tryz.f3 := (Option.some.inj (Tryz.func3.symm.trans hfn)).symm
      exact ⟨by kernel_rfl, fun j t ht => by
        rw [Tryz.params3] at ht
        have hm : t ∈ [22, 22] := by simpa using Array.mem_of_getElem? ht
        have hall : ([22, 22].all fun u => !Tryz.prog.wantsStandIn u) = true := by kernel_rfl
        exact (show Tryz.prog.wantsStandIn t = false by simpa using List.all_eq_true.1 hall t hm)⟩)
    (by kernel_rfl)
#print axioms valueValid_card
end Go.Proofs.YtpmfpfkahanlaaaGreatDoor
