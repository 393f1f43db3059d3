/- The statement ValueOps is proved: Unary and Binary return what the chapter says, or the error, for any operation and values; for every input, under the row's own condition alone (the listed package-level variables hold what the program's text lays; the card ties them). -/
import Derived.Test.YtpmfpfkahanlaaaGreatDoorHW
import Derived.Test.YtpmfpfkahanlaaaGreatDoorHM
import Derived.Test.YtpmfpfkahanlaaaGreatDoorHX
import Derived.Test.YtpmfpfkahanlaaaGreatDoorHB
import Derived.Test.YtpmfpfkahanlaaaGreatDoorHR
namespace Go.Proofs.YtpmfpfkahanlaaaGreatDoor
open Go.RowKit
set_option linter.unusedSimpArgs false
set_option linter.unusedVariables false
attribute [local go_sem] Later.cell Later.lt veq_self
attribute [local go_sem high] run_eqV run_neV

theorem k2fewb (a b : V) (w : World) (g : Nat) (hg : g = w.heap.size) (ha : a.t.length ≤ 140737488355328) (hb : b.t.length ≤ 140737488355328) :
    Calls Tryz.prog 13 #[.slice (some ⟨g, 0, none⟩) 2 2] (w.alloc (.cells #[.int .i64 a.k, .int .i64 a.n, .string ⟨a.t.toArray⟩, .int .i64 b.k, .int .i64 b.n, .string ⟨b.t.toArray⟩] 27)) fun e w' => ∃ q : Bool, e = .returned (.bool q) ∧ Below (w.alloc (.cells #[.int .i64 a.k, .int .i64 a.n, .string ⟨a.t.toArray⟩, .int .i64 b.k, .int .i64 b.n, .string ⟨b.t.toArray⟩] 27)).heap.size (w.alloc (.cells #[.int .i64 a.k, .int .i64 a.n, .string ⟨a.t.toArray⟩, .int .i64 b.k, .int .i64 b.n, .string ⟨b.t.toArray⟩] 27)) w' :=
  kfew [a, b] 2 rfl w g hg (by simp) fun v hv => by
    simp only [List.mem_cons, List.not_mem_nil, or_false] at hv
    rcases hv with rfl | rfl
    · exact ha
    · exact hb
theorem krun {op : List UInt8} {a r : V} {x : Int} (h : rUnary2 op a = (r, x)) (w : World) (ta : a.t.length ≤ 140737488355328) :
    Calls Tryz.prog 26 #[.string ⟨op.toArray⟩, (.agg #[.int .i64 (a).k, .int .i64 (a).n, .string ⟨List.toArray (a).t⟩])] w fun e w' => e = .returned (.tuple #[(.agg #[.int .i64 (r).k, .int .i64 (r).n, .string ⟨List.toArray (r).t⟩]), .int .i64 x]) ∧ Below w.heap.size w w' := by
  have := rUnary_any op a.k a.n a.t w ta
  rw [show (⟨a.k, a.n, a.t⟩ : V) = a from rfl, h] at this
  exact this
set_option maxRecDepth 100000 in
set_option maxHeartbeats 16000000 in
theorem law_ops (op : List UInt8) (a b : V) (w : World) (hE : Env w) (to_ : op.length ≤ 140737488355328) (ta : a.t.length ≤ 140737488355328) (tb : b.t.length ≤ 140737488355328) :
    Calls Tryz.prog 4 #[.string ⟨op.toArray⟩, (.agg #[.int .i64 (a).k, .int .i64 (a).n, .string ⟨List.toArray (a).t⟩]), (.agg #[.int .i64 (b).k, .int .i64 (b).n, .string ⟨List.toArray (b).t⟩])] w fun e w' => e = .returned (.bool true) ∧ Below w.heap.size w w' := by
  have N0 := Lib.hid (((BW.start hE).push a (g := w.heap.size) rfl).push b (g := w.heap.size + 1) (by simp))
  clear hE
  go_enter Tryz.func4, Tryz.ntmps4
  go_wp2_with fail
  refine (k2fewb a b _ _ (by simp) ta tb).mono ?_; rintro e w1 ⟨q, rfl, hb1⟩
  have N1 := Lib.hid ((N0.out.alloc (.cells #[.int .i64 a.k, .int .i64 a.n, .string ⟨a.t.toArray⟩, .int .i64 b.k, .int .i64 b.n, .string ⟨b.t.toArray⟩] 27)).later hb1)
  clear hb1 N0
  obtain ⟨⟨f0a, f0b, f0c⟩, f0z⟩ := N1.out.at_ (List.Mem.head _)
  obtain ⟨⟨f1a, f1b, f1c⟩, f1z⟩ := N1.out.at_ (List.Mem.tail _ (List.Mem.head _))
  cases q with
  | false =>
    go_wp2_with fail
    refine (awake_any _ N1.out.env).mono ?_; rintro e w2 ⟨rfl, hb2⟩
    have N2 := Lib.hid (N1.out.later hb2)
    clear f0a f0b f0c f0z f1a f1b f1c f1z
    clear hb2 N1
    obtain ⟨⟨f0a, f0b, f0c⟩, f0z⟩ := N2.out.at_ (List.Mem.head _)
    obtain ⟨⟨f1a, f1b, f1c⟩, f1z⟩ := N2.out.at_ (List.Mem.tail _ (List.Mem.head _))
    go_wp2_with fail
    go_ret
    exact ⟨rfl, N2.out.b⟩
  | true =>
    by_cases hop : (1000 : Int) < (op.length : Int)
    case pos =>
      go_wp2_with fail
      refine (awake_any _ N1.out.env).mono ?_; rintro e w3 ⟨rfl, hb3⟩
      have N3 := Lib.hid (N1.out.later hb3)
      clear f0a f0b f0c f0z f1a f1b f1c f1z
      clear hb3 N1
      obtain ⟨⟨f0a, f0b, f0c⟩, f0z⟩ := N3.out.at_ (List.Mem.head _)
      obtain ⟨⟨f1a, f1b, f1c⟩, f1z⟩ := N3.out.at_ (List.Mem.tail _ (List.Mem.head _))
      go_wp2_with fail
      go_ret
      exact ⟨rfl, N3.out.b⟩
    have hop1 : (op.length : Int) ≤ 1000 := by omega
    clear hop
    obtain ⟨x, e, h1⟩ : ∃ x e, vUnary op a = (x, e) := ⟨_, _, rfl⟩
    obtain ⟨z, g, h2⟩ : ∃ x e, vBinary op a b = (x, e) := ⟨_, _, rfl⟩
    have H1 := Lib.hid h1
    have H2 := Lib.hid h2
    rw [un_eq] at h1
    rw [bin_eq] at h2
    have H3 := Lib.hid h1
    have H4 := Lib.hid h2
    clear h1 h2
    go_wp2_with fail
    refine (kun H1.out _ N1.out.env).mono ?_; rintro e w4 ⟨rfl, hb4⟩
    have N4 := Lib.hid (N1.out.later hb4)
    clear f0a f0b f0c f0z f1a f1b f1c f1z
    clear hb4 N1
    obtain ⟨⟨f0a, f0b, f0c⟩, f0z⟩ := N4.out.at_ (List.Mem.head _)
    obtain ⟨⟨f1a, f1b, f1c⟩, f1z⟩ := N4.out.at_ (List.Mem.tail _ (List.Mem.head _))
    go_wp2_with fail
    refine (krun H3.out _ ta).mono ?_; rintro e w5 ⟨rfl, hb5⟩
    have N5 := Lib.hid ((N4.out.push x (by first | rfl | simp)).later hb5)
    clear f0a f0b f0c f0z f1a f1b f1c f1z
    clear hb5 N4
    obtain ⟨⟨f0a, f0b, f0c⟩, f0z⟩ := N5.out.at_ (List.Mem.head _)
    obtain ⟨⟨f1a, f1b, f1c⟩, f1z⟩ := N5.out.at_ (List.Mem.tail _ (List.Mem.head _))
    obtain ⟨⟨f2a, f2b, f2c⟩, f2z⟩ := N5.out.at_ (List.Mem.tail _ (List.Mem.tail _ (List.Mem.head _)))
    go_wp2_with fail
    refine (kbin H2.out _ (N5.out.push x (by first | rfl | simp)).env).mono ?_; rintro e w6 ⟨rfl, hb6⟩
    have N6 := Lib.hid ((N5.out.push x (by first | rfl | simp)).later hb6)
    clear f0a f0b f0c f0z f1a f1b f1c f1z f2a f2b f2c f2z
    clear hb6 N5
    obtain ⟨⟨f0a, f0b, f0c⟩, f0z⟩ := N6.out.at_ (List.Mem.head _)
    obtain ⟨⟨f1a, f1b, f1c⟩, f1z⟩ := N6.out.at_ (List.Mem.tail _ (List.Mem.head _))
    obtain ⟨⟨f2a, f2b, f2c⟩, f2z⟩ := N6.out.at_ (List.Mem.tail _ (List.Mem.tail _ (List.Mem.head _)))
    obtain ⟨⟨f3a, f3b, f3c⟩, f3z⟩ := N6.out.at_ (List.Mem.tail _ (List.Mem.tail _ (List.Mem.tail _ (List.Mem.head _))))
    go_wp2_with fail
    refine (krbin H4.out _ (N6.out.push z (by first | rfl | simp)).env ta tb).mono ?_; rintro e w7 ⟨rfl, hb7⟩
    have N7 := Lib.hid ((N6.out.push z (by first | rfl | simp)).later hb7)
    clear f0a f0b f0c f0z f1a f1b f1c f1z f2a f2b f2c f2z f3a f3b f3c f3z
    clear hb7 N6
    obtain ⟨⟨f0a, f0b, f0c⟩, f0z⟩ := N7.out.at_ (List.Mem.head _)
    obtain ⟨⟨f1a, f1b, f1c⟩, f1z⟩ := N7.out.at_ (List.Mem.tail _ (List.Mem.head _))
    obtain ⟨⟨f2a, f2b, f2c⟩, f2z⟩ := N7.out.at_ (List.Mem.tail _ (List.Mem.tail _ (List.Mem.head _)))
    obtain ⟨⟨f3a, f3b, f3c⟩, f3z⟩ := N7.out.at_ (List.Mem.tail _ (List.Mem.tail _ (List.Mem.tail _ (List.Mem.head _))))
    obtain ⟨⟨f4a, f4b, f4c⟩, f4z⟩ := N7.out.at_ (List.Mem.tail _ (List.Mem.tail _ (List.Mem.tail _ (List.Mem.tail _ (List.Mem.head _)))))
    go_wp2_with fail
    refine (awake_any _ (N7.out.push z (by first | rfl | simp)).env).mono ?_; rintro e w8 ⟨rfl, hb8⟩
    have N8 := Lib.hid ((N7.out.push z (by first | rfl | simp)).later hb8)
    clear f0a f0b f0c f0z f1a f1b f1c f1z f2a f2b f2c f2z f3a f3b f3c f3z f4a f4b f4c f4z
    clear hb8 N7
    obtain ⟨⟨f0a, f0b, f0c⟩, f0z⟩ := N8.out.at_ (List.Mem.head _)
    obtain ⟨⟨f1a, f1b, f1c⟩, f1z⟩ := N8.out.at_ (List.Mem.tail _ (List.Mem.head _))
    obtain ⟨⟨f2a, f2b, f2c⟩, f2z⟩ := N8.out.at_ (List.Mem.tail _ (List.Mem.tail _ (List.Mem.head _)))
    obtain ⟨⟨f3a, f3b, f3c⟩, f3z⟩ := N8.out.at_ (List.Mem.tail _ (List.Mem.tail _ (List.Mem.tail _ (List.Mem.head _))))
    obtain ⟨⟨f4a, f4b, f4c⟩, f4z⟩ := N8.out.at_ (List.Mem.tail _ (List.Mem.tail _ (List.Mem.tail _ (List.Mem.tail _ (List.Mem.head _)))))
    obtain ⟨⟨f5a, f5b, f5c⟩, f5z⟩ := N8.out.at_ (List.Mem.tail _ (List.Mem.tail _ (List.Mem.tail _ (List.Mem.tail _ (List.Mem.tail _ (List.Mem.head _))))))
    go_wp2_with fail
    go_ret
    exact ⟨rfl, N8.out.b⟩
end Go.Proofs.YtpmfpfkahanlaaaGreatDoor

/- The statement ValueOps is proved: Unary and Binary return what the chapter says, or the error, for any operation and values; for every input, under the row's own condition alone (the listed package-level variables hold what the program's text lays; the card ties them). -/
namespace Go.Proofs.YtpmfpfkahanlaaaGreatDoor
open Go.ChangeShapes Go.Joins Go.Deep Go.WideShapes Go.ChangeAt Go.RowKit
open Go.ChangeMaps (open_string shut_string)
set_option linter.unusedVariables false

set_option maxRecDepth 100000 in
set_option maxHeartbeats 4000000 in
theorem valueOps_lifted (os : Os) (started : os.Started) (H : Type) (enc : TypeId × Value → H) :
    ReturnsInHanded {} Tryz.checked os 4 .any (fun w args => (Rows.valueOpsSpec.pre enc Tryz.prog Tryz.f4 [] false w args ∧ laidMetH Tryz.prog laid w) ∧ sizedMet enc Tryz.prog Tryz.f4 (OpenSpec.ofChange Rows.valueOpsSpec) false w args)
      (Rows.valueOpsSpec.post enc Tryz.prog Tryz.f4 false true false false) := by
  refine returns_listed (C := Tryz.checked) (X := fun w _ => laidMetH Tryz.prog laid w) (fun _ _ _ hh h => h.of_heap hh) own started (by kernel_rfl) Tryz.func4
    (ChangeSpec.witness_shaped (enc := enc) (C := Tryz.checked) (os := os) (X := fun w _ => laidMetH Tryz.prog laid w) false (World.laidAll Tryz.prog os laid) #[.string ByteArray.empty, .agg #[.int .i64 0, .int .i64 0, .string ByteArray.empty], .agg #[.int .i64 0, .int .i64 0, .string ByteArray.empty]] 8 (World.laidAll_os _ _ _)
      (World.shaped_of_ZipB (by kernel_rfl) (by kernel_rfl)) (by kernel_rfl) (by kernel_rfl) (by kernel_rfl)
      (by rw [MakeChecks.laidMetH_plain _ _ _ (by kernel_rfl)]; exact laidMet_laidAll _ (by kernel_rfl) (by kernel_rfl))) ?_
  intro W base args ds gs before hval0 hW hcnd hsz0 hL hsh _
  have hsz : (DataW.weightsEach Tryz.prog (Tryz.f4.params.toList ++ Rows.valueOpsSpec.plain.varTypes Tryz.prog) (ds ++ gs)).all (· ≤ reachBytes) = true := hsz0
  have hval : ∀ (j : Nat) t v, Tryz.f4.params[j]? = some t → args[j]? = some v → Value.okWide Tryz.prog W .any base t v := hval0
  have hW' := hW
  obtain ⟨p, q, hA0, hV, rfl, hfz, hnd⟩ := hW
  have hA : DataW.TrodAll enc Tryz.prog W 0 (fun _ => true) true Tryz.f4.params.toList args.toList ds p := hA0
  rw [Tryz.params4] at hA hval hsz
  obtain ⟨v0, vs0, d0, ds0, p0, q0, hargs, rfl, rfl, h0, r0⟩ := trodAll_cons hA
  obtain ⟨v1, vs1, d1, ds1, p1, q1, rfl, rfl, rfl, h1, r1⟩ := trodAll_cons r0
  obtain ⟨v2, vs2, d2, ds2, p2, q2, rfl, rfl, rfl, h2, r2⟩ := trodAll_cons r1
  obtain ⟨rfl, rfl, rfl⟩ := trodAll_nil r2
  obtain rfl : args = #[v0, v1, v2] := by cases args; simp_all
  obtain ⟨rfl, rfl⟩ := trodVars_none hV
  have hEnv := env_of_laid hL hsh
  have k0 := h0
  have lt0 : ∀ x ∈ p0, x.block < W.heap.size := by obtain ⟨m, hm⟩ := k0; exact DataW.trod_lt m _ _ _ hm
  obtain ⟨a0, rfl, e0, _, _⟩ := open_string Tryz.underlying9 (hval 0 9 v0 rfl rfl) h0
  have T0 : a0.data.toList.length ≤ 140737488351232 := sized_string hsz (j := 0) (t := 9) rfl (by rw [← e0]; rfl)
  obtain ⟨t0, rfl⟩ : ∃ t : List UInt8, a0 = ⟨t.toArray⟩ := ⟨a0.data.toList, by simp⟩
  rw [List.toList_toArray] at T0
  have k1 := h1
  have lt1 : ∀ x ∈ p1, x.block < W.heap.size := by obtain ⟨m, hm⟩ := k1; exact DataW.trod_lt m _ _ _ hm
  obtain ⟨x1, rfl, e1, _⟩ := open_value (hval 1 27 v1 rfl rfl) h1
  have T1 : x1.t.length ≤ 140737488351232 := sized_v hsz (j := 1) (x := x1) rfl (by rw [← e1]; rfl)
  have k2 := h2
  have lt2 : ∀ x ∈ p2, x.block < W.heap.size := by obtain ⟨m, hm⟩ := k2; exact DataW.trod_lt m _ _ _ hm
  obtain ⟨x2, rfl, e2, _⟩ := open_value (hval 2 27 v2 rfl rfl) h2
  have T2 : x2.t.length ≤ 140737488351232 := sized_v hsz (j := 2) (x := x2) rfl (by rw [← e2]; rfl)
  clear hA0 hval0 hsz0 hsz
  refine (law_ops t0 x1 x2 W hEnv (Nat.le_trans T0 (by decide)) (Nat.le_trans T1 (by decide)) (Nat.le_trans T2 (by decide))).mono fun e W' ⟨he, bel⟩ => ?_
  subst he
  exact ⟨_, rfl, _, _, _, [], _, [], hW', trodAll_mk1 (shut_bool Tryz.underlying4 _), (trodAll_cons_mk (Below.trod laidOut (by kernel_rfl) (of_decide_eq_true (by kernel_rfl)) k0 bel lt0) (trodAll_cons_mk (Below.trod laidOut (by kernel_rfl) (of_decide_eq_true (by kernel_rfl)) k1 bel lt1) (trodAll_cons_mk (Below.trod laidOut (by kernel_rfl) (of_decide_eq_true (by kernel_rfl)) k2 bel lt2) trodAll_mk0))), rfl, bel.frame _, fun h => by cases h⟩
theorem valueOps_row : Rows.ValueOpsSaid :=
  OpenClaim.holds_of_wide 4 Tryz.f4 rfl rfl rfl rfl rfl rfl rfl ⟨rfl, rfl, rfl, rfl, rfl⟩ rfl rfl rfl rfl rfl (by kernel_rfl) Tryz.func4 (by kernel_rfl)
    (of_decide_eq_true (by kernel_rfl)) (by unfold Func.isWrapper; first | (rw [if_pos (by decide +kernel)]; kernel_rfl) | (rw [if_neg (by decide +kernel)]; exact ⟨rfl, rfl⟩))
    (fun os started H enc _ => valueOps_lifted os started H enc)
theorem valueOps_card : Rows.ValueOpsCardSaid :=
  Claim7.holds_tied_plain_at .later [] [.data, .data, .data, .data, .sentinel, .sentinel, .listed, .data, .data, .pinned, .pinned] true (true, "2df1776b52db89be618cb2cc9767f232203ddef2cbc80537f057adf05aab1a8a") true
    valueOps_row (fun _ h => by cases h) (by kernel_rfl) (fun _ h => by cases h) valueOps_row_tie rfl ⟨rfl, rfl⟩ (by kernel_rfl) rfl
    (fun f fn hf hfn => by
      obtain rfl : f = 4 := Option.some.inj ((show Tryz.prog.funcNamed "justiciar/justiciarlaw01.ValueOps" = some 4 by kernel_rfl).symm.trans hf) |>.symm
      obtain rfl : fn = Tryz.f4 := (Option.some.inj (Tryz.func4.symm.trans hfn)).symm
      exact ⟨by kernel_rfl, fun j t ht => by
        rw [Tryz.params4] at ht
        have hm : t ∈ [9, 27, 27] := by simpa using Array.mem_of_getElem? ht
        have hall : ([9, 27, 27].all fun u => !Tryz.prog.wantsStandIn u) = true := by kernel_rfl
        exact (show Tryz.prog.wantsStandIn t = false by simpa using List.all_eq_true.1 hall t hm)⟩)
    (by kernel_rfl)
#print axioms valueOps_card
end Go.Proofs.YtpmfpfkahanlaaaGreatDoor
