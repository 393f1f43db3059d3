/- The statement ValueNumbers is proved: the laws of division, of subtraction and of the order; for every input, under the row's own condition alone (the listed package-level variables hold what the program's text lays; the card ties them). -/
import Derived.Test.YtpmfpfkahanlaaaGreatDoorHW
import Derived.Test.YtpmfpfkahanlaaaGreatDoorHA
import Derived.Deep.DeepCutAuto
import Derived.Test.YtpmfpfkahanlaaaGreatDoorHR
namespace Go.Proofs.YtpmfpfkahanlaaaGreatDoor
open Go.RowKit
set_option linter.unusedSimpArgs false
set_option linter.unusedVariables false
attribute [local go_sem] Later.cell Later.lt veq_self
attribute [local go_sem high] run_eqV run_neV

theorem k3few (a b c : V) (w : World) (g : Nat) (hg : g = w.heap.size) (ha : a.t.length ≤ 140737488355328) (hb : b.t.length ≤ 140737488355328) (hc : c.t.length ≤ 140737488355328) :
    Calls Tryz.prog 13 #[.slice (some ⟨g, 0, none⟩) 3 3] (w.alloc (.cells #[.int .i64 a.k, .int .i64 a.n, .string ⟨a.t.toArray⟩, .int .i64 b.k, .int .i64 b.n, .string ⟨b.t.toArray⟩, .int .i64 c.k, .int .i64 c.n, .string ⟨c.t.toArray⟩] 27)) fun e w' => ∃ q : Bool, e = .returned (.bool q) ∧ Below (w.alloc (.cells #[.int .i64 a.k, .int .i64 a.n, .string ⟨a.t.toArray⟩, .int .i64 b.k, .int .i64 b.n, .string ⟨b.t.toArray⟩, .int .i64 c.k, .int .i64 c.n, .string ⟨c.t.toArray⟩] 27)).heap.size (w.alloc (.cells #[.int .i64 a.k, .int .i64 a.n, .string ⟨a.t.toArray⟩, .int .i64 b.k, .int .i64 b.n, .string ⟨b.t.toArray⟩, .int .i64 c.k, .int .i64 c.n, .string ⟨c.t.toArray⟩] 27)) w' :=
  kfew [a, b, c] 3 rfl w g hg (by simp) fun v hv => by
    simp only [List.mem_cons, List.not_mem_nil, or_false] at hv
    rcases hv with rfl | rfl | rfl
    · exact ha
    · exact hb
    · exact hc
set_option maxRecDepth 100000 in
set_option maxHeartbeats 16000000 in
theorem law_numbers (a b c : V) (w : World) (hE : Env w) (ta : a.t.length ≤ 140737488355328) (tb : b.t.length ≤ 140737488355328) (tc : c.t.length ≤ 140737488355328) :
    Calls Tryz.prog 10 #[(.agg #[.int .i64 (a).k, .int .i64 (a).n, .string ⟨List.toArray (a).t⟩]), (.agg #[.int .i64 (b).k, .int .i64 (b).n, .string ⟨List.toArray (b).t⟩]), (.agg #[.int .i64 (c).k, .int .i64 (c).n, .string ⟨List.toArray (c).t⟩])] w fun e w' => e = .returned (.bool true) ∧ Below w.heap.size w w' := by
  have N0 := Lib.hid ((((BW.start hE).push a (g := w.heap.size) rfl).push b (g := w.heap.size + 1) (by simp)).push c (g := w.heap.size + 1 + 1) (by simp))
  clear hE
  go_enter Tryz.func10, Tryz.ntmps10
  go_wp2_with fail
  refine (k3few a b c _ _ (by simp) ta tb tc).mono ?_; rintro e w1 ⟨q, rfl, hb1⟩
  have N1 := Lib.hid ((N0.out.alloc (.cells #[.int .i64 a.k, .int .i64 a.n, .string ⟨a.t.toArray⟩, .int .i64 b.k, .int .i64 b.n, .string ⟨b.t.toArray⟩, .int .i64 c.k, .int .i64 c.n, .string ⟨c.t.toArray⟩] 27)).later hb1)
  clear hb1 N0
  obtain ⟨⟨f0a, f0b, f0c⟩, f0z⟩ := N1.out.at_ (List.Mem.head _)
  obtain ⟨⟨f1a, f1b, f1c⟩, f1z⟩ := N1.out.at_ (List.Mem.tail _ (List.Mem.head _))
  obtain ⟨⟨f2a, f2b, f2c⟩, f2z⟩ := N1.out.at_ (List.Mem.tail _ (List.Mem.tail _ (List.Mem.head _)))
  cases q with
  | false =>
    go_wp2_with fail
    refine (awake_any _ N1.out.env).mono ?_; rintro e w2 ⟨rfl, hb2⟩
    have N2 := Lib.hid (N1.out.later hb2)
    clear f0a f0b f0c f0z f1a f1b f1c f1z f2a f2b f2c f2z
    clear hb2 N1
    obtain ⟨⟨f0a, f0b, f0c⟩, f0z⟩ := N2.out.at_ (List.Mem.head _)
    obtain ⟨⟨f1a, f1b, f1c⟩, f1z⟩ := N2.out.at_ (List.Mem.tail _ (List.Mem.head _))
    obtain ⟨⟨f2a, f2b, f2c⟩, f2z⟩ := N2.out.at_ (List.Mem.tail _ (List.Mem.tail _ (List.Mem.head _)))
    go_wp2_with fail
    go_ret
    exact ⟨rfl, N2.out.b⟩
  | true =>
    cases hva : sValid a with
    | false =>
      have HV := Lib.hid hva
      clear hva
      go_wp2_with fail
      refine (kval HV.out _ (Nat.le_trans ta (by decide))).mono ?_; rintro e w3 ⟨rfl, hb3⟩
      have N3 := Lib.hid (N1.out.later hb3)
      clear f0a f0b f0c f0z f1a f1b f1c f1z f2a f2b f2c f2z
      clear hb3 N1
      obtain ⟨⟨f0a, f0b, f0c⟩, f0z⟩ := N3.out.at_ (List.Mem.head _)
      obtain ⟨⟨f1a, f1b, f1c⟩, f1z⟩ := N3.out.at_ (List.Mem.tail _ (List.Mem.head _))
      obtain ⟨⟨f2a, f2b, f2c⟩, f2z⟩ := N3.out.at_ (List.Mem.tail _ (List.Mem.tail _ (List.Mem.head _)))
      go_wp2_with fail
      refine (awake_any _ N3.out.env).mono ?_; rintro e w4 ⟨rfl, hb4⟩
      have N4 := Lib.hid (N3.out.later hb4)
      clear f0a f0b f0c f0z f1a f1b f1c f1z f2a f2b f2c f2z
      clear hb4 N3
      obtain ⟨⟨f0a, f0b, f0c⟩, f0z⟩ := N4.out.at_ (List.Mem.head _)
      obtain ⟨⟨f1a, f1b, f1c⟩, f1z⟩ := N4.out.at_ (List.Mem.tail _ (List.Mem.head _))
      obtain ⟨⟨f2a, f2b, f2c⟩, f2z⟩ := N4.out.at_ (List.Mem.tail _ (List.Mem.tail _ (List.Mem.head _)))
      go_wp2_with fail
      go_ret
      exact ⟨rfl, N4.out.b⟩
    | true =>
      have HVa := Lib.hid hva
      clear hva
      go_wp2_with fail
      refine (kval HVa.out _ (Nat.le_trans ta (by decide))).mono ?_; rintro e w5 ⟨rfl, hb5⟩
      have N5 := Lib.hid (N1.out.later hb5)
      clear f0a f0b f0c f0z f1a f1b f1c f1z f2a f2b f2c f2z
      clear hb5 N1
      obtain ⟨⟨f0a, f0b, f0c⟩, f0z⟩ := N5.out.at_ (List.Mem.head _)
      obtain ⟨⟨f1a, f1b, f1c⟩, f1z⟩ := N5.out.at_ (List.Mem.tail _ (List.Mem.head _))
      obtain ⟨⟨f2a, f2b, f2c⟩, f2z⟩ := N5.out.at_ (List.Mem.tail _ (List.Mem.tail _ (List.Mem.head _)))
      cases hvb : sValid b with
      | false =>
        have HV := Lib.hid hvb
        clear hvb
        go_wp2_with fail
        refine (kval HV.out _ (Nat.le_trans tb (by decide))).mono ?_; rintro e w6 ⟨rfl, hb6⟩
        have N6 := Lib.hid (N5.out.later hb6)
        clear f0a f0b f0c f0z f1a f1b f1c f1z f2a f2b f2c f2z
        clear hb6 N5
        obtain ⟨⟨f0a, f0b, f0c⟩, f0z⟩ := N6.out.at_ (List.Mem.head _)
        obtain ⟨⟨f1a, f1b, f1c⟩, f1z⟩ := N6.out.at_ (List.Mem.tail _ (List.Mem.head _))
        obtain ⟨⟨f2a, f2b, f2c⟩, f2z⟩ := N6.out.at_ (List.Mem.tail _ (List.Mem.tail _ (List.Mem.head _)))
        go_wp2_with fail
        refine (awake_any _ N6.out.env).mono ?_; rintro e w7 ⟨rfl, hb7⟩
        have N7 := Lib.hid (N6.out.later hb7)
        clear f0a f0b f0c f0z f1a f1b f1c f1z f2a f2b f2c f2z
        clear hb7 N6
        obtain ⟨⟨f0a, f0b, f0c⟩, f0z⟩ := N7.out.at_ (List.Mem.head _)
        obtain ⟨⟨f1a, f1b, f1c⟩, f1z⟩ := N7.out.at_ (List.Mem.tail _ (List.Mem.head _))
        obtain ⟨⟨f2a, f2b, f2c⟩, f2z⟩ := N7.out.at_ (List.Mem.tail _ (List.Mem.tail _ (List.Mem.head _)))
        go_wp2_with fail
        go_ret
        exact ⟨rfl, N7.out.b⟩
      | true =>
        have HVb := Lib.hid hvb
        clear hvb
        go_wp2_with fail
        refine (kval HVb.out _ (Nat.le_trans tb (by decide))).mono ?_; rintro e w8 ⟨rfl, hb8⟩
        have N8 := Lib.hid (N5.out.later hb8)
        clear f0a f0b f0c f0z f1a f1b f1c f1z f2a f2b f2c f2z
        clear hb8 N5
        obtain ⟨⟨f0a, f0b, f0c⟩, f0z⟩ := N8.out.at_ (List.Mem.head _)
        obtain ⟨⟨f1a, f1b, f1c⟩, f1z⟩ := N8.out.at_ (List.Mem.tail _ (List.Mem.head _))
        obtain ⟨⟨f2a, f2b, f2c⟩, f2z⟩ := N8.out.at_ (List.Mem.tail _ (List.Mem.tail _ (List.Mem.head _)))
        cases hvc : sValid c with
        | false =>
          have HV := Lib.hid hvc
          clear hvc
          go_wp2_with fail
          refine (kval HV.out _ (Nat.le_trans tc (by decide))).mono ?_; rintro e w9 ⟨rfl, hb9⟩
          have N9 := Lib.hid (N8.out.later hb9)
          clear f0a f0b f0c f0z f1a f1b f1c f1z f2a f2b f2c f2z
          clear hb9 N8
          obtain ⟨⟨f0a, f0b, f0c⟩, f0z⟩ := N9.out.at_ (List.Mem.head _)
          obtain ⟨⟨f1a, f1b, f1c⟩, f1z⟩ := N9.out.at_ (List.Mem.tail _ (List.Mem.head _))
          obtain ⟨⟨f2a, f2b, f2c⟩, f2z⟩ := N9.out.at_ (List.Mem.tail _ (List.Mem.tail _ (List.Mem.head _)))
          go_wp2_with fail
          refine (awake_any _ N9.out.env).mono ?_; rintro e w10 ⟨rfl, hb10⟩
          have N10 := Lib.hid (N9.out.later hb10)
          clear f0a f0b f0c f0z f1a f1b f1c f1z f2a f2b f2c f2z
          clear hb10 N9
          obtain ⟨⟨f0a, f0b, f0c⟩, f0z⟩ := N10.out.at_ (List.Mem.head _)
          obtain ⟨⟨f1a, f1b, f1c⟩, f1z⟩ := N10.out.at_ (List.Mem.tail _ (List.Mem.head _))
          obtain ⟨⟨f2a, f2b, f2c⟩, f2z⟩ := N10.out.at_ (List.Mem.tail _ (List.Mem.tail _ (List.Mem.head _)))
          go_wp2_with fail
          go_ret
          exact ⟨rfl, N10.out.b⟩
        | true =>
          have HVc := Lib.hid hvc
          clear hvc
          go_wp2_with fail
          refine (kval HVc.out _ (Nat.le_trans tc (by decide))).mono ?_; rintro e w11 ⟨rfl, hb11⟩
          have N11 := Lib.hid (N8.out.later hb11)
          clear f0a f0b f0c f0z f1a f1b f1c f1z f2a f2b f2c f2z
          clear hb11 N8
          obtain ⟨⟨f0a, f0b, f0c⟩, f0z⟩ := N11.out.at_ (List.Mem.head _)
          obtain ⟨⟨f1a, f1b, f1c⟩, f1z⟩ := N11.out.at_ (List.Mem.tail _ (List.Mem.head _))
          obtain ⟨⟨f2a, f2b, f2c⟩, f2z⟩ := N11.out.at_ (List.Mem.tail _ (List.Mem.tail _ (List.Mem.head _)))
          obtain ⟨q, e, h1⟩ : ∃ q e, vBinary [47] a b = (q, e) := ⟨_, _, rfl⟩
          obtain ⟨m, f, h2⟩ : ∃ m f, vBinary [109, 111, 100] a b = (m, f) := ⟨_, _, rfl⟩
          have H1 := Lib.hid h1
          have H2 := Lib.hid h2
          clear h1 h2
          go_wp2_with fail
          refine (kbin H1.out _ N11.out.env).mono ?_; rintro e w12 ⟨rfl, hb12⟩
          have N12 := Lib.hid (N11.out.later hb12)
          clear f0a f0b f0c f0z f1a f1b f1c f1z f2a f2b f2c f2z
          clear hb12 N11
          obtain ⟨⟨f0a, f0b, f0c⟩, f0z⟩ := N12.out.at_ (List.Mem.head _)
          obtain ⟨⟨f1a, f1b, f1c⟩, f1z⟩ := N12.out.at_ (List.Mem.tail _ (List.Mem.head _))
          obtain ⟨⟨f2a, f2b, f2c⟩, f2z⟩ := N12.out.at_ (List.Mem.tail _ (List.Mem.tail _ (List.Mem.head _)))
          go_wp2_with fail
          refine (kbin H2.out _ (N12.out.push q (by first | rfl | simp)).env).mono ?_; rintro e w13 ⟨rfl, hb13⟩
          have N13 := Lib.hid ((N12.out.push q (by first | rfl | simp)).later hb13)
          clear f0a f0b f0c f0z f1a f1b f1c f1z f2a f2b f2c f2z
          clear hb13 N12
          obtain ⟨⟨f0a, f0b, f0c⟩, f0z⟩ := N13.out.at_ (List.Mem.head _)
          obtain ⟨⟨f1a, f1b, f1c⟩, f1z⟩ := N13.out.at_ (List.Mem.tail _ (List.Mem.head _))
          obtain ⟨⟨f2a, f2b, f2c⟩, f2z⟩ := N13.out.at_ (List.Mem.tail _ (List.Mem.tail _ (List.Mem.head _)))
          obtain ⟨⟨f3a, f3b, f3c⟩, f3z⟩ := N13.out.at_ (List.Mem.tail _ (List.Mem.tail _ (List.Mem.tail _ (List.Mem.head _))))
          obtain ⟨q5, hq5⟩ : ∃ q5, (e == 0 && f == 0) = q5 := ⟨_, rfl⟩
          have HQ5 := Lib.hid hq5
          clear hq5
          go_upto_region 5 with fail
          have N14 : Hid (BW w (w13.alloc (.cells #[.int .i64 (m).k, .int .i64 (m).n, .string ⟨List.toArray (m).t⟩] 27)) [(w13.heap.size, m), (w12.heap.size, q), (w.heap.size + 1 + 1, c), (w.heap.size + 1, b), (w.heap.size, a)]) := Lib.hid (N13.out.push m (by first | rfl | simp))
          clear f0a f0b f0c f0z f1a f1b f1c f1z f2a f2b f2c f2z f3a f3b f3c f3z
          clear N13
          obtain ⟨⟨f0a, f0b, f0c⟩, f0z⟩ := N14.out.at_ (List.Mem.head _)
          obtain ⟨⟨f1a, f1b, f1c⟩, f1z⟩ := N14.out.at_ (List.Mem.tail _ (List.Mem.head _))
          obtain ⟨⟨f2a, f2b, f2c⟩, f2z⟩ := N14.out.at_ (List.Mem.tail _ (List.Mem.tail _ (List.Mem.head _)))
          obtain ⟨⟨f3a, f3b, f3c⟩, f3z⟩ := N14.out.at_ (List.Mem.tail _ (List.Mem.tail _ (List.Mem.tail _ (List.Mem.head _))))
          obtain ⟨⟨f4a, f4b, f4c⟩, f4z⟩ := N14.out.at_ (List.Mem.tail _ (List.Mem.tail _ (List.Mem.tail _ (List.Mem.tail _ (List.Mem.head _)))))
          go_cut [68] from 63 to 67 (fun s68 wx => s68 = .bool q5 ∧ Hid (BW w wx [(w13.heap.size, m), (w12.heap.size, q), (w.heap.size + 1 + 1, c), (w.heap.size + 1, b), (w.heap.size, a)]))
          case first =>
            have hq := HQ5.out
            by_cases he : e = 0
            · subst he
              by_cases hf : f = 0
              · subst hf
                go_wp2_with fail
                go_meet
                exact ⟨by rw [← hq]; rfl, N14⟩
              · have hf1 : (f == 0) = false := by simpa using hf
                go_wp2_with fail
                go_meet
                exact ⟨by rw [← hq, hf1]; rfl, N14⟩
            · have he1 : (e == 0) = false := by simpa using he
              go_wp2_with fail
              go_meet
              exact ⟨by rw [← hq, he1]; rfl, N14⟩
          case rest =>
            obtain ⟨rfl, LC⟩ := hcut
            clear f0a f0b f0c f0z f1a f1b f1c f1z f2a f2b f2c f2z f3a f3b f3c f3z f4a f4b f4c f4z
            clear N14
            obtain ⟨⟨f0a, f0b, f0c⟩, f0z⟩ := LC.out.at_ (List.Mem.head _)
            obtain ⟨⟨f1a, f1b, f1c⟩, f1z⟩ := LC.out.at_ (List.Mem.tail _ (List.Mem.head _))
            obtain ⟨⟨f2a, f2b, f2c⟩, f2z⟩ := LC.out.at_ (List.Mem.tail _ (List.Mem.tail _ (List.Mem.head _)))
            obtain ⟨⟨f3a, f3b, f3c⟩, f3z⟩ := LC.out.at_ (List.Mem.tail _ (List.Mem.tail _ (List.Mem.tail _ (List.Mem.head _))))
            obtain ⟨⟨f4a, f4b, f4c⟩, f4z⟩ := LC.out.at_ (List.Mem.tail _ (List.Mem.tail _ (List.Mem.tail _ (List.Mem.tail _ (List.Mem.head _)))))
            go_upto_if 68 with fail
            go_cut [11, 12, 13, 14, 51, 54, 55] from 69 to 96 (fun _ _ _ _ _ _ _ wx => Hid (BW w wx [(w13.heap.size, m), (w12.heap.size, q), (w.heap.size + 1 + 1, c), (w.heap.size + 1, b), (w.heap.size, a)]))
            case first =>
              cases q5 with
              | false =>
                go_wp2_with fail
                go_meet
                exact LC
              | true =>
                have hq := HQ5.out
                simp only [Bool.and_eq_true, beq_iff_eq] at hq
                obtain ⟨rfl, rfl⟩ := hq
                obtain ⟨p, g, h3⟩ : ∃ p g, vBinary [42] q b = (p, g) := ⟨_, _, rfl⟩
                obtain ⟨u, h, h4⟩ : ∃ u h, vBinary [43] p m = (u, h) := ⟨_, _, rfl⟩
                have hdm : g = 0 → h = 0 → q.k ≠ 0 → u = a := fun hg hh hk => by
                  have := div_mod HVa.out HVb.out (by rw [H1.out]) (by rw [H2.out]) (by rw [H1.out]; simp only; rw [h3]; exact hg) (by rw [H1.out, H2.out]; simp only; rw [h3]; simp only; rw [h4]; exact hh) (by rw [H1.out]; exact hk)
                  rw [H1.out, H2.out] at this
                  simp only at this
                  rw [h3] at this
                  simp only at this
                  rw [h4] at this
                  exact this
                have HDM := Lib.hid hdm
                have H3 := Lib.hid h3
                have H4 := Lib.hid h4
                clear h3 h4 hdm
                go_wp2_with fail
                refine (kbin H3.out _ LC.out.env).mono ?_; rintro e w15 ⟨rfl, hb15⟩
                have N15 := Lib.hid (LC.out.later hb15)
                clear f0a f0b f0c f0z f1a f1b f1c f1z f2a f2b f2c f2z f3a f3b f3c f3z f4a f4b f4c f4z
                clear hb15 LC
                obtain ⟨⟨f0a, f0b, f0c⟩, f0z⟩ := N15.out.at_ (List.Mem.head _)
                obtain ⟨⟨f1a, f1b, f1c⟩, f1z⟩ := N15.out.at_ (List.Mem.tail _ (List.Mem.head _))
                obtain ⟨⟨f2a, f2b, f2c⟩, f2z⟩ := N15.out.at_ (List.Mem.tail _ (List.Mem.tail _ (List.Mem.head _)))
                obtain ⟨⟨f3a, f3b, f3c⟩, f3z⟩ := N15.out.at_ (List.Mem.tail _ (List.Mem.tail _ (List.Mem.tail _ (List.Mem.head _))))
                obtain ⟨⟨f4a, f4b, f4c⟩, f4z⟩ := N15.out.at_ (List.Mem.tail _ (List.Mem.tail _ (List.Mem.tail _ (List.Mem.tail _ (List.Mem.head _)))))
                go_wp2_with fail
                refine (kbin H4.out _ (N15.out.push p (by first | rfl | simp)).env).mono ?_; rintro e w16 ⟨rfl, hb16⟩
                have N16 := Lib.hid ((N15.out.push p (by first | rfl | simp)).later hb16)
                clear f0a f0b f0c f0z f1a f1b f1c f1z f2a f2b f2c f2z f3a f3b f3c f3z f4a f4b f4c f4z
                clear hb16 N15
                obtain ⟨⟨f0a, f0b, f0c⟩, f0z⟩ := N16.out.at_ (List.Mem.head _)
                obtain ⟨⟨f1a, f1b, f1c⟩, f1z⟩ := N16.out.at_ (List.Mem.tail _ (List.Mem.head _))
                obtain ⟨⟨f2a, f2b, f2c⟩, f2z⟩ := N16.out.at_ (List.Mem.tail _ (List.Mem.tail _ (List.Mem.head _)))
                obtain ⟨⟨f3a, f3b, f3c⟩, f3z⟩ := N16.out.at_ (List.Mem.tail _ (List.Mem.tail _ (List.Mem.tail _ (List.Mem.head _))))
                obtain ⟨⟨f4a, f4b, f4c⟩, f4z⟩ := N16.out.at_ (List.Mem.tail _ (List.Mem.tail _ (List.Mem.tail _ (List.Mem.tail _ (List.Mem.head _)))))
                obtain ⟨⟨f5a, f5b, f5c⟩, f5z⟩ := N16.out.at_ (List.Mem.tail _ (List.Mem.tail _ (List.Mem.tail _ (List.Mem.tail _ (List.Mem.tail _ (List.Mem.head _))))))
                by_cases hg : g = 0
                · subst hg
                  by_cases hh : h = 0
                  · subst hh
                    by_cases hk : q.k = 0
                    · have hk1 : (q.k != 0) = false := by simpa using hk
                      go_wp2_with fail
                      go_meet
                      exact Lib.hid ((N16.out.push u (by first | rfl | simp)).drop.drop)
                    · have hk1 : (q.k != 0) = true := by simpa using hk
                      obtain rfl := HDM.out rfl rfl hk
                      go_wp2_with fail
                      go_meet
                      exact Lib.hid ((N16.out.push u (by first | rfl | simp)).drop.drop)
                  · have hh1 : (h == 0) = false := by simpa using hh
                    go_wp2_with fail
                    go_meet
                    exact Lib.hid ((N16.out.push u (by first | rfl | simp)).drop.drop)
                · have hg1 : (g == 0) = false := by simpa using hg
                  go_wp2_with fail
                  go_meet
                  exact Lib.hid ((N16.out.push u (by first | rfl | simp)).drop.drop)
            case rest =>
              have LD := hcut
              clear hcut
              clear f0a f0b f0c f0z f1a f1b f1c f1z f2a f2b f2c f2z f3a f3b f3c f3z f4a f4b f4c f4z
              clear LC
              obtain ⟨⟨f0a, f0b, f0c⟩, f0z⟩ := LD.out.at_ (List.Mem.head _)
              obtain ⟨⟨f1a, f1b, f1c⟩, f1z⟩ := LD.out.at_ (List.Mem.tail _ (List.Mem.head _))
              obtain ⟨⟨f2a, f2b, f2c⟩, f2z⟩ := LD.out.at_ (List.Mem.tail _ (List.Mem.tail _ (List.Mem.head _)))
              obtain ⟨⟨f3a, f3b, f3c⟩, f3z⟩ := LD.out.at_ (List.Mem.tail _ (List.Mem.tail _ (List.Mem.tail _ (List.Mem.head _))))
              obtain ⟨⟨f4a, f4b, f4c⟩, f4z⟩ := LD.out.at_ (List.Mem.tail _ (List.Mem.tail _ (List.Mem.tail _ (List.Mem.tail _ (List.Mem.head _)))))
              obtain ⟨n, g2, h5⟩ : ∃ n g2, vUnary [45] b = (n, g2) := ⟨_, _, rfl⟩
              have H5 := Lib.hid h5
              clear h5
              go_wp2_with fail
              refine (kun H5.out _ LD.out.env).mono ?_; rintro e w17 ⟨rfl, hb17⟩
              have N17 := Lib.hid (LD.out.later hb17)
              clear f0a f0b f0c f0z f1a f1b f1c f1z f2a f2b f2c f2z f3a f3b f3c f3z f4a f4b f4c f4z
              clear hb17 LD
              obtain ⟨⟨f0a, f0b, f0c⟩, f0z⟩ := N17.out.at_ (List.Mem.head _)
              obtain ⟨⟨f1a, f1b, f1c⟩, f1z⟩ := N17.out.at_ (List.Mem.tail _ (List.Mem.head _))
              obtain ⟨⟨f2a, f2b, f2c⟩, f2z⟩ := N17.out.at_ (List.Mem.tail _ (List.Mem.tail _ (List.Mem.head _)))
              obtain ⟨⟨f3a, f3b, f3c⟩, f3z⟩ := N17.out.at_ (List.Mem.tail _ (List.Mem.tail _ (List.Mem.tail _ (List.Mem.head _))))
              obtain ⟨⟨f4a, f4b, f4c⟩, f4z⟩ := N17.out.at_ (List.Mem.tail _ (List.Mem.tail _ (List.Mem.tail _ (List.Mem.tail _ (List.Mem.head _)))))
              go_upto_if 103 with fail
              have N18 : Hid (BW w (w17.alloc (.cells #[.int .i64 (n).k, .int .i64 (n).n, .string ⟨List.toArray (n).t⟩] 27)) [(w17.heap.size, n), (w13.heap.size, m), (w12.heap.size, q), (w.heap.size + 1 + 1, c), (w.heap.size + 1, b), (w.heap.size, a)]) := Lib.hid (N17.out.push n (by first | rfl | simp))
              clear f0a f0b f0c f0z f1a f1b f1c f1z f2a f2b f2c f2z f3a f3b f3c f3z f4a f4b f4c f4z
              clear N17
              obtain ⟨⟨f0a, f0b, f0c⟩, f0z⟩ := N18.out.at_ (List.Mem.head _)
              obtain ⟨⟨f1a, f1b, f1c⟩, f1z⟩ := N18.out.at_ (List.Mem.tail _ (List.Mem.head _))
              obtain ⟨⟨f2a, f2b, f2c⟩, f2z⟩ := N18.out.at_ (List.Mem.tail _ (List.Mem.tail _ (List.Mem.head _)))
              obtain ⟨⟨f3a, f3b, f3c⟩, f3z⟩ := N18.out.at_ (List.Mem.tail _ (List.Mem.tail _ (List.Mem.tail _ (List.Mem.head _))))
              obtain ⟨⟨f4a, f4b, f4c⟩, f4z⟩ := N18.out.at_ (List.Mem.tail _ (List.Mem.tail _ (List.Mem.tail _ (List.Mem.tail _ (List.Mem.head _)))))
              obtain ⟨⟨f5a, f5b, f5c⟩, f5z⟩ := N18.out.at_ (List.Mem.tail _ (List.Mem.tail _ (List.Mem.tail _ (List.Mem.tail _ (List.Mem.tail _ (List.Mem.head _))))))
              go_cut [17, 18, 19, 20] from 104 to 123 (fun _ _ _ _ wx => Hid (BW w wx [(w17.heap.size, n), (w13.heap.size, m), (w12.heap.size, q), (w.heap.size + 1 + 1, c), (w.heap.size + 1, b), (w.heap.size, a)]))
              case first =>
                by_cases hg : g2 = 0
                · subst hg
                  obtain ⟨x, h2, h6⟩ : ∃ x h2, vBinary [45] a b = (x, h2) := ⟨_, _, rfl⟩
                  have h7 : vBinary [43] a n = (x, h2) := by
                    have := minus_plus HVa.out HVb.out (by rw [H5.out])
                    rw [H5.out] at this
                    rw [← this]
                    exact h6
                  have H6 := Lib.hid h6
                  have H7 := Lib.hid h7
                  clear h6 h7
                  go_wp2_with fail
                  refine (kbin H6.out _ N18.out.env).mono ?_; rintro e w19 ⟨rfl, hb19⟩
                  have N19 := Lib.hid (N18.out.later hb19)
                  clear f0a f0b f0c f0z f1a f1b f1c f1z f2a f2b f2c f2z f3a f3b f3c f3z f4a f4b f4c f4z f5a f5b f5c f5z
                  clear hb19 N18
                  obtain ⟨⟨f0a, f0b, f0c⟩, f0z⟩ := N19.out.at_ (List.Mem.head _)
                  obtain ⟨⟨f1a, f1b, f1c⟩, f1z⟩ := N19.out.at_ (List.Mem.tail _ (List.Mem.head _))
                  obtain ⟨⟨f2a, f2b, f2c⟩, f2z⟩ := N19.out.at_ (List.Mem.tail _ (List.Mem.tail _ (List.Mem.head _)))
                  obtain ⟨⟨f3a, f3b, f3c⟩, f3z⟩ := N19.out.at_ (List.Mem.tail _ (List.Mem.tail _ (List.Mem.tail _ (List.Mem.head _))))
                  obtain ⟨⟨f4a, f4b, f4c⟩, f4z⟩ := N19.out.at_ (List.Mem.tail _ (List.Mem.tail _ (List.Mem.tail _ (List.Mem.tail _ (List.Mem.head _)))))
                  obtain ⟨⟨f5a, f5b, f5c⟩, f5z⟩ := N19.out.at_ (List.Mem.tail _ (List.Mem.tail _ (List.Mem.tail _ (List.Mem.tail _ (List.Mem.tail _ (List.Mem.head _))))))
                  go_wp2_with fail
                  refine (kbin H7.out _ (N19.out.push x (by first | rfl | simp)).env).mono ?_; rintro e w20 ⟨rfl, hb20⟩
                  have N20 := Lib.hid ((N19.out.push x (by first | rfl | simp)).later hb20)
                  clear f0a f0b f0c f0z f1a f1b f1c f1z f2a f2b f2c f2z f3a f3b f3c f3z f4a f4b f4c f4z f5a f5b f5c f5z
                  clear hb20 N19
                  obtain ⟨⟨f0a, f0b, f0c⟩, f0z⟩ := N20.out.at_ (List.Mem.head _)
                  obtain ⟨⟨f1a, f1b, f1c⟩, f1z⟩ := N20.out.at_ (List.Mem.tail _ (List.Mem.head _))
                  obtain ⟨⟨f2a, f2b, f2c⟩, f2z⟩ := N20.out.at_ (List.Mem.tail _ (List.Mem.tail _ (List.Mem.head _)))
                  obtain ⟨⟨f3a, f3b, f3c⟩, f3z⟩ := N20.out.at_ (List.Mem.tail _ (List.Mem.tail _ (List.Mem.tail _ (List.Mem.head _))))
                  obtain ⟨⟨f4a, f4b, f4c⟩, f4z⟩ := N20.out.at_ (List.Mem.tail _ (List.Mem.tail _ (List.Mem.tail _ (List.Mem.tail _ (List.Mem.head _)))))
                  obtain ⟨⟨f5a, f5b, f5c⟩, f5z⟩ := N20.out.at_ (List.Mem.tail _ (List.Mem.tail _ (List.Mem.tail _ (List.Mem.tail _ (List.Mem.tail _ (List.Mem.head _))))))
                  obtain ⟨⟨f6a, f6b, f6c⟩, f6z⟩ := N20.out.at_ (List.Mem.tail _ (List.Mem.tail _ (List.Mem.tail _ (List.Mem.tail _ (List.Mem.tail _ (List.Mem.tail _ (List.Mem.head _)))))))
                  go_wp2_with fail
                  go_meet
                  exact Lib.hid ((N20.out.push x (by first | rfl | simp)).drop.drop)
                · have hg1 : (g2 == 0) = false := by simpa using hg
                  go_wp2_with fail
                  go_meet
                  exact N18
              case rest =>
                have LE := hcut
                clear hcut
                clear f0a f0b f0c f0z f1a f1b f1c f1z f2a f2b f2c f2z f3a f3b f3c f3z f4a f4b f4c f4z f5a f5b f5c f5z
                clear N18
                obtain ⟨⟨f0a, f0b, f0c⟩, f0z⟩ := LE.out.at_ (List.Mem.head _)
                obtain ⟨⟨f1a, f1b, f1c⟩, f1z⟩ := LE.out.at_ (List.Mem.tail _ (List.Mem.head _))
                obtain ⟨⟨f2a, f2b, f2c⟩, f2z⟩ := LE.out.at_ (List.Mem.tail _ (List.Mem.tail _ (List.Mem.head _)))
                obtain ⟨⟨f3a, f3b, f3c⟩, f3z⟩ := LE.out.at_ (List.Mem.tail _ (List.Mem.tail _ (List.Mem.tail _ (List.Mem.head _))))
                obtain ⟨⟨f4a, f4b, f4c⟩, f4z⟩ := LE.out.at_ (List.Mem.tail _ (List.Mem.tail _ (List.Mem.tail _ (List.Mem.tail _ (List.Mem.head _)))))
                obtain ⟨⟨f5a, f5b, f5c⟩, f5z⟩ := LE.out.at_ (List.Mem.tail _ (List.Mem.tail _ (List.Mem.tail _ (List.Mem.tail _ (List.Mem.tail _ (List.Mem.head _))))))
                obtain ⟨ab, e1, o1⟩ : ∃ x y, vOrder a b = (x, y) := ⟨_, _, rfl⟩
                obtain ⟨ba, e2, o2⟩ : ∃ x y, vOrder b a = (x, y) := ⟨_, _, rfl⟩
                obtain ⟨bc, e3, o3⟩ : ∃ x y, vOrder b c = (x, y) := ⟨_, _, rfl⟩
                obtain ⟨ac, e4, o4⟩ : ∃ x y, vOrder a c = (x, y) := ⟨_, _, rfl⟩
                have O1 := Lib.hid o1
                have O2 := Lib.hid o2
                have O3 := Lib.hid o3
                have O4 := Lib.hid o4
                clear o1 o2 o3 o4
                go_wp2_with fail
                refine (kord O1.out _ LE.out.env).mono ?_; rintro e w21 ⟨rfl, hb21⟩
                have N21 := Lib.hid (LE.out.later hb21)
                clear f0a f0b f0c f0z f1a f1b f1c f1z f2a f2b f2c f2z f3a f3b f3c f3z f4a f4b f4c f4z f5a f5b f5c f5z
                clear hb21 LE
                obtain ⟨⟨f0a, f0b, f0c⟩, f0z⟩ := N21.out.at_ (List.Mem.head _)
                obtain ⟨⟨f1a, f1b, f1c⟩, f1z⟩ := N21.out.at_ (List.Mem.tail _ (List.Mem.head _))
                obtain ⟨⟨f2a, f2b, f2c⟩, f2z⟩ := N21.out.at_ (List.Mem.tail _ (List.Mem.tail _ (List.Mem.head _)))
                obtain ⟨⟨f3a, f3b, f3c⟩, f3z⟩ := N21.out.at_ (List.Mem.tail _ (List.Mem.tail _ (List.Mem.tail _ (List.Mem.head _))))
                obtain ⟨⟨f4a, f4b, f4c⟩, f4z⟩ := N21.out.at_ (List.Mem.tail _ (List.Mem.tail _ (List.Mem.tail _ (List.Mem.tail _ (List.Mem.head _)))))
                obtain ⟨⟨f5a, f5b, f5c⟩, f5z⟩ := N21.out.at_ (List.Mem.tail _ (List.Mem.tail _ (List.Mem.tail _ (List.Mem.tail _ (List.Mem.tail _ (List.Mem.head _))))))
                go_wp2_with fail
                refine (kord O2.out _ N21.out.env).mono ?_; rintro e w22 ⟨rfl, hb22⟩
                have N22 := Lib.hid (N21.out.later hb22)
                clear f0a f0b f0c f0z f1a f1b f1c f1z f2a f2b f2c f2z f3a f3b f3c f3z f4a f4b f4c f4z f5a f5b f5c f5z
                clear hb22 N21
                obtain ⟨⟨f0a, f0b, f0c⟩, f0z⟩ := N22.out.at_ (List.Mem.head _)
                obtain ⟨⟨f1a, f1b, f1c⟩, f1z⟩ := N22.out.at_ (List.Mem.tail _ (List.Mem.head _))
                obtain ⟨⟨f2a, f2b, f2c⟩, f2z⟩ := N22.out.at_ (List.Mem.tail _ (List.Mem.tail _ (List.Mem.head _)))
                obtain ⟨⟨f3a, f3b, f3c⟩, f3z⟩ := N22.out.at_ (List.Mem.tail _ (List.Mem.tail _ (List.Mem.tail _ (List.Mem.head _))))
                obtain ⟨⟨f4a, f4b, f4c⟩, f4z⟩ := N22.out.at_ (List.Mem.tail _ (List.Mem.tail _ (List.Mem.tail _ (List.Mem.tail _ (List.Mem.head _)))))
                obtain ⟨⟨f5a, f5b, f5c⟩, f5z⟩ := N22.out.at_ (List.Mem.tail _ (List.Mem.tail _ (List.Mem.tail _ (List.Mem.tail _ (List.Mem.tail _ (List.Mem.head _))))))
                go_wp2_with fail
                refine (kord O3.out _ N22.out.env).mono ?_; rintro e w23 ⟨rfl, hb23⟩
                have N23 := Lib.hid (N22.out.later hb23)
                clear f0a f0b f0c f0z f1a f1b f1c f1z f2a f2b f2c f2z f3a f3b f3c f3z f4a f4b f4c f4z f5a f5b f5c f5z
                clear hb23 N22
                obtain ⟨⟨f0a, f0b, f0c⟩, f0z⟩ := N23.out.at_ (List.Mem.head _)
                obtain ⟨⟨f1a, f1b, f1c⟩, f1z⟩ := N23.out.at_ (List.Mem.tail _ (List.Mem.head _))
                obtain ⟨⟨f2a, f2b, f2c⟩, f2z⟩ := N23.out.at_ (List.Mem.tail _ (List.Mem.tail _ (List.Mem.head _)))
                obtain ⟨⟨f3a, f3b, f3c⟩, f3z⟩ := N23.out.at_ (List.Mem.tail _ (List.Mem.tail _ (List.Mem.tail _ (List.Mem.head _))))
                obtain ⟨⟨f4a, f4b, f4c⟩, f4z⟩ := N23.out.at_ (List.Mem.tail _ (List.Mem.tail _ (List.Mem.tail _ (List.Mem.tail _ (List.Mem.head _)))))
                obtain ⟨⟨f5a, f5b, f5c⟩, f5z⟩ := N23.out.at_ (List.Mem.tail _ (List.Mem.tail _ (List.Mem.tail _ (List.Mem.tail _ (List.Mem.tail _ (List.Mem.head _))))))
                go_wp2_with fail
                refine (kord O4.out _ N23.out.env).mono ?_; rintro e w24 ⟨rfl, hb24⟩
                have N24 := Lib.hid (N23.out.later hb24)
                clear f0a f0b f0c f0z f1a f1b f1c f1z f2a f2b f2c f2z f3a f3b f3c f3z f4a f4b f4c f4z f5a f5b f5c f5z
                clear hb24 N23
                obtain ⟨⟨f0a, f0b, f0c⟩, f0z⟩ := N24.out.at_ (List.Mem.head _)
                obtain ⟨⟨f1a, f1b, f1c⟩, f1z⟩ := N24.out.at_ (List.Mem.tail _ (List.Mem.head _))
                obtain ⟨⟨f2a, f2b, f2c⟩, f2z⟩ := N24.out.at_ (List.Mem.tail _ (List.Mem.tail _ (List.Mem.head _)))
                obtain ⟨⟨f3a, f3b, f3c⟩, f3z⟩ := N24.out.at_ (List.Mem.tail _ (List.Mem.tail _ (List.Mem.tail _ (List.Mem.head _))))
                obtain ⟨⟨f4a, f4b, f4c⟩, f4z⟩ := N24.out.at_ (List.Mem.tail _ (List.Mem.tail _ (List.Mem.tail _ (List.Mem.tail _ (List.Mem.head _)))))
                obtain ⟨⟨f5a, f5b, f5c⟩, f5z⟩ := N24.out.at_ (List.Mem.tail _ (List.Mem.tail _ (List.Mem.tail _ (List.Mem.tail _ (List.Mem.tail _ (List.Mem.head _))))))
                by_cases z1 : e1 = 0
                case neg =>
                  have y1 : (e1 == 0) = false := by simpa using z1
                  go_wp2_with fail
                  refine (awake_any _ N24.out.env).mono ?_; rintro e w25 ⟨rfl, hb25⟩
                  have N25 := Lib.hid (N24.out.later hb25)
                  clear f0a f0b f0c f0z f1a f1b f1c f1z f2a f2b f2c f2z f3a f3b f3c f3z f4a f4b f4c f4z f5a f5b f5c f5z
                  clear hb25 N24
                  obtain ⟨⟨f0a, f0b, f0c⟩, f0z⟩ := N25.out.at_ (List.Mem.head _)
                  obtain ⟨⟨f1a, f1b, f1c⟩, f1z⟩ := N25.out.at_ (List.Mem.tail _ (List.Mem.head _))
                  obtain ⟨⟨f2a, f2b, f2c⟩, f2z⟩ := N25.out.at_ (List.Mem.tail _ (List.Mem.tail _ (List.Mem.head _)))
                  obtain ⟨⟨f3a, f3b, f3c⟩, f3z⟩ := N25.out.at_ (List.Mem.tail _ (List.Mem.tail _ (List.Mem.tail _ (List.Mem.head _))))
                  obtain ⟨⟨f4a, f4b, f4c⟩, f4z⟩ := N25.out.at_ (List.Mem.tail _ (List.Mem.tail _ (List.Mem.tail _ (List.Mem.tail _ (List.Mem.head _)))))
                  obtain ⟨⟨f5a, f5b, f5c⟩, f5z⟩ := N25.out.at_ (List.Mem.tail _ (List.Mem.tail _ (List.Mem.tail _ (List.Mem.tail _ (List.Mem.tail _ (List.Mem.head _))))))
                  go_wp2_with fail
                  go_ret
                  exact ⟨rfl, N25.out.b⟩
                subst z1
                by_cases z2 : e2 = 0
                case neg =>
                  have y2 : (e2 == 0) = false := by simpa using z2
                  go_wp2_with fail
                  refine (awake_any _ N24.out.env).mono ?_; rintro e w26 ⟨rfl, hb26⟩
                  have N26 := Lib.hid (N24.out.later hb26)
                  clear f0a f0b f0c f0z f1a f1b f1c f1z f2a f2b f2c f2z f3a f3b f3c f3z f4a f4b f4c f4z f5a f5b f5c f5z
                  clear hb26 N24
                  obtain ⟨⟨f0a, f0b, f0c⟩, f0z⟩ := N26.out.at_ (List.Mem.head _)
                  obtain ⟨⟨f1a, f1b, f1c⟩, f1z⟩ := N26.out.at_ (List.Mem.tail _ (List.Mem.head _))
                  obtain ⟨⟨f2a, f2b, f2c⟩, f2z⟩ := N26.out.at_ (List.Mem.tail _ (List.Mem.tail _ (List.Mem.head _)))
                  obtain ⟨⟨f3a, f3b, f3c⟩, f3z⟩ := N26.out.at_ (List.Mem.tail _ (List.Mem.tail _ (List.Mem.tail _ (List.Mem.head _))))
                  obtain ⟨⟨f4a, f4b, f4c⟩, f4z⟩ := N26.out.at_ (List.Mem.tail _ (List.Mem.tail _ (List.Mem.tail _ (List.Mem.tail _ (List.Mem.head _)))))
                  obtain ⟨⟨f5a, f5b, f5c⟩, f5z⟩ := N26.out.at_ (List.Mem.tail _ (List.Mem.tail _ (List.Mem.tail _ (List.Mem.tail _ (List.Mem.tail _ (List.Mem.head _))))))
                  go_wp2_with fail
                  go_ret
                  exact ⟨rfl, N26.out.b⟩
                subst z2
                by_cases z3 : e3 = 0
                case neg =>
                  have y3 : (e3 == 0) = false := by simpa using z3
                  go_wp2_with fail
                  refine (awake_any _ N24.out.env).mono ?_; rintro e w27 ⟨rfl, hb27⟩
                  have N27 := Lib.hid (N24.out.later hb27)
                  clear f0a f0b f0c f0z f1a f1b f1c f1z f2a f2b f2c f2z f3a f3b f3c f3z f4a f4b f4c f4z f5a f5b f5c f5z
                  clear hb27 N24
                  obtain ⟨⟨f0a, f0b, f0c⟩, f0z⟩ := N27.out.at_ (List.Mem.head _)
                  obtain ⟨⟨f1a, f1b, f1c⟩, f1z⟩ := N27.out.at_ (List.Mem.tail _ (List.Mem.head _))
                  obtain ⟨⟨f2a, f2b, f2c⟩, f2z⟩ := N27.out.at_ (List.Mem.tail _ (List.Mem.tail _ (List.Mem.head _)))
                  obtain ⟨⟨f3a, f3b, f3c⟩, f3z⟩ := N27.out.at_ (List.Mem.tail _ (List.Mem.tail _ (List.Mem.tail _ (List.Mem.head _))))
                  obtain ⟨⟨f4a, f4b, f4c⟩, f4z⟩ := N27.out.at_ (List.Mem.tail _ (List.Mem.tail _ (List.Mem.tail _ (List.Mem.tail _ (List.Mem.head _)))))
                  obtain ⟨⟨f5a, f5b, f5c⟩, f5z⟩ := N27.out.at_ (List.Mem.tail _ (List.Mem.tail _ (List.Mem.tail _ (List.Mem.tail _ (List.Mem.tail _ (List.Mem.head _))))))
                  go_wp2_with fail
                  go_ret
                  exact ⟨rfl, N27.out.b⟩
                subst z3
                by_cases z4 : e4 = 0
                case neg =>
                  have y4 : (e4 == 0) = false := by simpa using z4
                  go_wp2_with fail
                  refine (awake_any _ N24.out.env).mono ?_; rintro e w28 ⟨rfl, hb28⟩
                  have N28 := Lib.hid (N24.out.later hb28)
                  clear f0a f0b f0c f0z f1a f1b f1c f1z f2a f2b f2c f2z f3a f3b f3c f3z f4a f4b f4c f4z f5a f5b f5c f5z
                  clear hb28 N24
                  obtain ⟨⟨f0a, f0b, f0c⟩, f0z⟩ := N28.out.at_ (List.Mem.head _)
                  obtain ⟨⟨f1a, f1b, f1c⟩, f1z⟩ := N28.out.at_ (List.Mem.tail _ (List.Mem.head _))
                  obtain ⟨⟨f2a, f2b, f2c⟩, f2z⟩ := N28.out.at_ (List.Mem.tail _ (List.Mem.tail _ (List.Mem.head _)))
                  obtain ⟨⟨f3a, f3b, f3c⟩, f3z⟩ := N28.out.at_ (List.Mem.tail _ (List.Mem.tail _ (List.Mem.tail _ (List.Mem.head _))))
                  obtain ⟨⟨f4a, f4b, f4c⟩, f4z⟩ := N28.out.at_ (List.Mem.tail _ (List.Mem.tail _ (List.Mem.tail _ (List.Mem.tail _ (List.Mem.head _)))))
                  obtain ⟨⟨f5a, f5b, f5c⟩, f5z⟩ := N28.out.at_ (List.Mem.tail _ (List.Mem.tail _ (List.Mem.tail _ (List.Mem.tail _ (List.Mem.tail _ (List.Mem.head _))))))
                  go_wp2_with fail
                  go_ret
                  exact ⟨rfl, N28.out.b⟩
                subst z4
                obtain ⟨m1, q1⟩ := order_ok HVa.out HVb.out (by rw [O1.out])
                obtain ⟨m2, q2⟩ := order_ok HVb.out HVa.out (by rw [O2.out])
                obtain ⟨m3, q3⟩ := order_ok HVb.out HVc.out (by rw [O3.out])
                obtain ⟨m4, q4⟩ := order_ok HVa.out HVc.out (by rw [O4.out])
                rw [O1.out] at q1
                rw [O2.out] at q2
                rw [O3.out] at q3
                rw [O4.out] at q4
                simp only at q1 q2 q3 q4
                have s1 := bef_swap m1
                have s2 := bef_zero m1 HVa.out HVb.out
                have s3 := bef_trans m1 m3 m4
                have s4 := bef_range a b
                rw [← q1, ← q2] at s1
                rw [← q1] at s2 s4
                rw [← q1, ← q3, ← q4] at s3
                have hba : ba = -ab := s1
                subst hba
                have r1 : -1 ≤ ab := by omega
                have r2 : ab ≤ 1 := by omega
                have S2 := Lib.hid s2
                have S3 := Lib.hid s3
                clear q1 q2 q3 q4 s1 s2 s3 s4 m1 m2 m3 m4
                by_cases hab : a = b
                case pos =>
                  have hv0 := S2.out.2 hab
                  subst hv0
                  have hve : veq ⟨a.k, a.n, a.t⟩ ⟨b.k, b.n, b.t⟩ = true := veq_iff.2 hab
                  clear hab
                  by_cases x2 : bc ≤ 0
                  · have x3 := S3.out (Int.le_refl 0) x2
                    have x4 : decide (0 < ac) = false := decide_eq_false (by omega)
                    go_wp2_with fail
                    refine (awake_any _ N24.out.env).mono ?_; rintro e w29 ⟨rfl, hb29⟩
                    have N29 := Lib.hid (N24.out.later hb29)
                    clear f0a f0b f0c f0z f1a f1b f1c f1z f2a f2b f2c f2z f3a f3b f3c f3z f4a f4b f4c f4z f5a f5b f5c f5z
                    clear hb29 N24
                    obtain ⟨⟨f0a, f0b, f0c⟩, f0z⟩ := N29.out.at_ (List.Mem.head _)
                    obtain ⟨⟨f1a, f1b, f1c⟩, f1z⟩ := N29.out.at_ (List.Mem.tail _ (List.Mem.head _))
                    obtain ⟨⟨f2a, f2b, f2c⟩, f2z⟩ := N29.out.at_ (List.Mem.tail _ (List.Mem.tail _ (List.Mem.head _)))
                    obtain ⟨⟨f3a, f3b, f3c⟩, f3z⟩ := N29.out.at_ (List.Mem.tail _ (List.Mem.tail _ (List.Mem.tail _ (List.Mem.head _))))
                    obtain ⟨⟨f4a, f4b, f4c⟩, f4z⟩ := N29.out.at_ (List.Mem.tail _ (List.Mem.tail _ (List.Mem.tail _ (List.Mem.tail _ (List.Mem.head _)))))
                    obtain ⟨⟨f5a, f5b, f5c⟩, f5z⟩ := N29.out.at_ (List.Mem.tail _ (List.Mem.tail _ (List.Mem.tail _ (List.Mem.tail _ (List.Mem.tail _ (List.Mem.head _))))))
                    go_wp2_with fail
                    go_ret
                    exact ⟨rfl, N29.out.b⟩
                  · have x5 : 0 < bc := by omega
                    clear x2
                    go_wp2_with fail
                    refine (awake_any _ N24.out.env).mono ?_; rintro e w30 ⟨rfl, hb30⟩
                    have N30 := Lib.hid (N24.out.later hb30)
                    clear f0a f0b f0c f0z f1a f1b f1c f1z f2a f2b f2c f2z f3a f3b f3c f3z f4a f4b f4c f4z f5a f5b f5c f5z
                    clear hb30 N24
                    obtain ⟨⟨f0a, f0b, f0c⟩, f0z⟩ := N30.out.at_ (List.Mem.head _)
                    obtain ⟨⟨f1a, f1b, f1c⟩, f1z⟩ := N30.out.at_ (List.Mem.tail _ (List.Mem.head _))
                    obtain ⟨⟨f2a, f2b, f2c⟩, f2z⟩ := N30.out.at_ (List.Mem.tail _ (List.Mem.tail _ (List.Mem.head _)))
                    obtain ⟨⟨f3a, f3b, f3c⟩, f3z⟩ := N30.out.at_ (List.Mem.tail _ (List.Mem.tail _ (List.Mem.tail _ (List.Mem.head _))))
                    obtain ⟨⟨f4a, f4b, f4c⟩, f4z⟩ := N30.out.at_ (List.Mem.tail _ (List.Mem.tail _ (List.Mem.tail _ (List.Mem.tail _ (List.Mem.head _)))))
                    obtain ⟨⟨f5a, f5b, f5c⟩, f5z⟩ := N30.out.at_ (List.Mem.tail _ (List.Mem.tail _ (List.Mem.tail _ (List.Mem.tail _ (List.Mem.tail _ (List.Mem.head _))))))
                    go_wp2_with fail
                    go_ret
                    exact ⟨rfl, N30.out.b⟩
                have hne : ab ≠ 0 := fun e => hab (S2.out.1 e)
                have hn0 : (ab == 0) = false := by simpa using hne
                have hve : veq ⟨a.k, a.n, a.t⟩ ⟨b.k, b.n, b.t⟩ = false := by
                  cases h : veq ⟨a.k, a.n, a.t⟩ ⟨b.k, b.n, b.t⟩ with
                  | false => rfl
                  | true => exact absurd (veq_iff.1 h) hab
                clear hab hne
                by_cases x1 : ab ≤ 0
                · by_cases x2 : bc ≤ 0
                  · have x3 := S3.out x1 x2
                    have x4 : decide (0 < ac) = false := decide_eq_false (by omega)
                    go_wp2_with fail
                    refine (awake_any _ N24.out.env).mono ?_; rintro e w31 ⟨rfl, hb31⟩
                    have N31 := Lib.hid (N24.out.later hb31)
                    clear f0a f0b f0c f0z f1a f1b f1c f1z f2a f2b f2c f2z f3a f3b f3c f3z f4a f4b f4c f4z f5a f5b f5c f5z
                    clear hb31 N24
                    obtain ⟨⟨f0a, f0b, f0c⟩, f0z⟩ := N31.out.at_ (List.Mem.head _)
                    obtain ⟨⟨f1a, f1b, f1c⟩, f1z⟩ := N31.out.at_ (List.Mem.tail _ (List.Mem.head _))
                    obtain ⟨⟨f2a, f2b, f2c⟩, f2z⟩ := N31.out.at_ (List.Mem.tail _ (List.Mem.tail _ (List.Mem.head _)))
                    obtain ⟨⟨f3a, f3b, f3c⟩, f3z⟩ := N31.out.at_ (List.Mem.tail _ (List.Mem.tail _ (List.Mem.tail _ (List.Mem.head _))))
                    obtain ⟨⟨f4a, f4b, f4c⟩, f4z⟩ := N31.out.at_ (List.Mem.tail _ (List.Mem.tail _ (List.Mem.tail _ (List.Mem.tail _ (List.Mem.head _)))))
                    obtain ⟨⟨f5a, f5b, f5c⟩, f5z⟩ := N31.out.at_ (List.Mem.tail _ (List.Mem.tail _ (List.Mem.tail _ (List.Mem.tail _ (List.Mem.tail _ (List.Mem.head _))))))
                    go_wp2_with fail
                    go_ret
                    exact ⟨rfl, N31.out.b⟩
                  · have x5 : 0 < bc := by omega
                    clear x2
                    go_wp2_with fail
                    refine (awake_any _ N24.out.env).mono ?_; rintro e w32 ⟨rfl, hb32⟩
                    have N32 := Lib.hid (N24.out.later hb32)
                    clear f0a f0b f0c f0z f1a f1b f1c f1z f2a f2b f2c f2z f3a f3b f3c f3z f4a f4b f4c f4z f5a f5b f5c f5z
                    clear hb32 N24
                    obtain ⟨⟨f0a, f0b, f0c⟩, f0z⟩ := N32.out.at_ (List.Mem.head _)
                    obtain ⟨⟨f1a, f1b, f1c⟩, f1z⟩ := N32.out.at_ (List.Mem.tail _ (List.Mem.head _))
                    obtain ⟨⟨f2a, f2b, f2c⟩, f2z⟩ := N32.out.at_ (List.Mem.tail _ (List.Mem.tail _ (List.Mem.head _)))
                    obtain ⟨⟨f3a, f3b, f3c⟩, f3z⟩ := N32.out.at_ (List.Mem.tail _ (List.Mem.tail _ (List.Mem.tail _ (List.Mem.head _))))
                    obtain ⟨⟨f4a, f4b, f4c⟩, f4z⟩ := N32.out.at_ (List.Mem.tail _ (List.Mem.tail _ (List.Mem.tail _ (List.Mem.tail _ (List.Mem.head _)))))
                    obtain ⟨⟨f5a, f5b, f5c⟩, f5z⟩ := N32.out.at_ (List.Mem.tail _ (List.Mem.tail _ (List.Mem.tail _ (List.Mem.tail _ (List.Mem.tail _ (List.Mem.head _))))))
                    go_wp2_with fail
                    go_ret
                    exact ⟨rfl, N32.out.b⟩
                · have x6 : 0 < ab := by omega
                  clear x1
                  go_wp2_with fail
                  refine (awake_any _ N24.out.env).mono ?_; rintro e w33 ⟨rfl, hb33⟩
                  have N33 := Lib.hid (N24.out.later hb33)
                  clear f0a f0b f0c f0z f1a f1b f1c f1z f2a f2b f2c f2z f3a f3b f3c f3z f4a f4b f4c f4z f5a f5b f5c f5z
                  clear hb33 N24
                  obtain ⟨⟨f0a, f0b, f0c⟩, f0z⟩ := N33.out.at_ (List.Mem.head _)
                  obtain ⟨⟨f1a, f1b, f1c⟩, f1z⟩ := N33.out.at_ (List.Mem.tail _ (List.Mem.head _))
                  obtain ⟨⟨f2a, f2b, f2c⟩, f2z⟩ := N33.out.at_ (List.Mem.tail _ (List.Mem.tail _ (List.Mem.head _)))
                  obtain ⟨⟨f3a, f3b, f3c⟩, f3z⟩ := N33.out.at_ (List.Mem.tail _ (List.Mem.tail _ (List.Mem.tail _ (List.Mem.head _))))
                  obtain ⟨⟨f4a, f4b, f4c⟩, f4z⟩ := N33.out.at_ (List.Mem.tail _ (List.Mem.tail _ (List.Mem.tail _ (List.Mem.tail _ (List.Mem.head _)))))
                  obtain ⟨⟨f5a, f5b, f5c⟩, f5z⟩ := N33.out.at_ (List.Mem.tail _ (List.Mem.tail _ (List.Mem.tail _ (List.Mem.tail _ (List.Mem.tail _ (List.Mem.head _))))))
                  go_wp2_with fail
                  go_ret
                  exact ⟨rfl, N33.out.b⟩
end Go.Proofs.YtpmfpfkahanlaaaGreatDoor

/- The statement ValueNumbers is proved: the laws of division, of subtraction and of the order; for every input, under the row's own condition alone (the listed package-level variables hold what the program's text lays; the card ties them). -/
namespace Go.Proofs.YtpmfpfkahanlaaaGreatDoor
open Go.ChangeShapes Go.Joins Go.Deep Go.WideShapes Go.ChangeAt Go.RowKit
open Go.ChangeMaps (open_string shut_string)
set_option linter.unusedVariables false

set_option maxRecDepth 100000 in
set_option maxHeartbeats 4000000 in
theorem valueNumbers_lifted (os : Os) (started : os.Started) (H : Type) (enc : TypeId × Value → H) :
    ReturnsInHanded {} Tryz.checked os 10 .any (fun w args => (Rows.valueNumbersSpec.pre enc Tryz.prog Tryz.f10 [] false w args ∧ laidMetH Tryz.prog laid w) ∧ sizedMet enc Tryz.prog Tryz.f10 (OpenSpec.ofChange Rows.valueNumbersSpec) false w args)
      (Rows.valueNumbersSpec.post enc Tryz.prog Tryz.f10 false true false false) := by
  refine returns_listed (C := Tryz.checked) (X := fun w _ => laidMetH Tryz.prog laid w) (fun _ _ _ hh h => h.of_heap hh) own started (by kernel_rfl) Tryz.func10
    (ChangeSpec.witness_shaped (enc := enc) (C := Tryz.checked) (os := os) (X := fun w _ => laidMetH Tryz.prog laid w) false (World.laidAll Tryz.prog os laid) #[.agg #[.int .i64 0, .int .i64 0, .string ByteArray.empty], .agg #[.int .i64 0, .int .i64 0, .string ByteArray.empty], .agg #[.int .i64 0, .int .i64 0, .string ByteArray.empty]] 8 (World.laidAll_os _ _ _)
      (World.shaped_of_ZipB (by kernel_rfl) (by kernel_rfl)) (by kernel_rfl) (by kernel_rfl) (by kernel_rfl)
      (by rw [MakeChecks.laidMetH_plain _ _ _ (by kernel_rfl)]; exact laidMet_laidAll _ (by kernel_rfl) (by kernel_rfl))) ?_
  intro W base args ds gs before hval0 hW hcnd hsz0 hL hsh _
  have hsz : (DataW.weightsEach Tryz.prog (Tryz.f10.params.toList ++ Rows.valueNumbersSpec.plain.varTypes Tryz.prog) (ds ++ gs)).all (· ≤ reachBytes) = true := hsz0
  have hval : ∀ (j : Nat) t v, Tryz.f10.params[j]? = some t → args[j]? = some v → Value.okWide Tryz.prog W .any base t v := hval0
  have hW' := hW
  obtain ⟨p, q, hA0, hV, rfl, hfz, hnd⟩ := hW
  have hA : DataW.TrodAll enc Tryz.prog W 0 (fun _ => true) true Tryz.f10.params.toList args.toList ds p := hA0
  rw [Tryz.params10] at hA hval hsz
  obtain ⟨v0, vs0, d0, ds0, p0, q0, hargs, rfl, rfl, h0, r0⟩ := trodAll_cons hA
  obtain ⟨v1, vs1, d1, ds1, p1, q1, rfl, rfl, rfl, h1, r1⟩ := trodAll_cons r0
  obtain ⟨v2, vs2, d2, ds2, p2, q2, rfl, rfl, rfl, h2, r2⟩ := trodAll_cons r1
  obtain ⟨rfl, rfl, rfl⟩ := trodAll_nil r2
  obtain rfl : args = #[v0, v1, v2] := by cases args; simp_all
  obtain ⟨rfl, rfl⟩ := trodVars_none hV
  have hEnv := env_of_laid hL hsh
  have k0 := h0
  have lt0 : ∀ x ∈ p0, x.block < W.heap.size := by obtain ⟨m, hm⟩ := k0; exact DataW.trod_lt m _ _ _ hm
  obtain ⟨x0, rfl, e0, _⟩ := open_value (hval 0 27 v0 rfl rfl) h0
  have T0 : x0.t.length ≤ 140737488351232 := sized_v hsz (j := 0) (x := x0) rfl (by rw [← e0]; rfl)
  have k1 := h1
  have lt1 : ∀ x ∈ p1, x.block < W.heap.size := by obtain ⟨m, hm⟩ := k1; exact DataW.trod_lt m _ _ _ hm
  obtain ⟨x1, rfl, e1, _⟩ := open_value (hval 1 27 v1 rfl rfl) h1
  have T1 : x1.t.length ≤ 140737488351232 := sized_v hsz (j := 1) (x := x1) rfl (by rw [← e1]; rfl)
  have k2 := h2
  have lt2 : ∀ x ∈ p2, x.block < W.heap.size := by obtain ⟨m, hm⟩ := k2; exact DataW.trod_lt m _ _ _ hm
  obtain ⟨x2, rfl, e2, _⟩ := open_value (hval 2 27 v2 rfl rfl) h2
  have T2 : x2.t.length ≤ 140737488351232 := sized_v hsz (j := 2) (x := x2) rfl (by rw [← e2]; rfl)
  clear hA0 hval0 hsz0 hsz
  refine (law_numbers x0 x1 x2 W hEnv (Nat.le_trans T0 (by decide)) (Nat.le_trans T1 (by decide)) (Nat.le_trans T2 (by decide))).mono fun e W' ⟨he, bel⟩ => ?_
  subst he
  exact ⟨_, rfl, _, _, _, [], _, [], hW', trodAll_mk1 (shut_bool Tryz.underlying4 _), (trodAll_cons_mk (Below.trod laidOut (by kernel_rfl) (of_decide_eq_true (by kernel_rfl)) k0 bel lt0) (trodAll_cons_mk (Below.trod laidOut (by kernel_rfl) (of_decide_eq_true (by kernel_rfl)) k1 bel lt1) (trodAll_cons_mk (Below.trod laidOut (by kernel_rfl) (of_decide_eq_true (by kernel_rfl)) k2 bel lt2) trodAll_mk0))), rfl, bel.frame _, fun h => by cases h⟩
theorem valueNumbers_row : Rows.ValueNumbersSaid :=
  OpenClaim.holds_of_wide 10 Tryz.f10 rfl rfl rfl rfl rfl rfl rfl ⟨rfl, rfl, rfl, rfl, rfl⟩ rfl rfl rfl rfl rfl (by kernel_rfl) Tryz.func10 (by kernel_rfl)
    (of_decide_eq_true (by kernel_rfl)) (by unfold Func.isWrapper; first | (rw [if_pos (by decide +kernel)]; kernel_rfl) | (rw [if_neg (by decide +kernel)]; exact ⟨rfl, rfl⟩))
    (fun os started H enc _ => valueNumbers_lifted os started H enc)
theorem valueNumbers_card : Rows.ValueNumbersCardSaid :=
  Claim7.holds_tied_plain_at .later [] [.data, .data, .data, .data, .sentinel, .sentinel, .listed, .data, .data, .pinned, .pinned] true (true, "2df1776b52db89be618cb2cc9767f232203ddef2cbc80537f057adf05aab1a8a") true
    valueNumbers_row (fun _ h => by cases h) (by kernel_rfl) (fun _ h => by cases h) valueNumbers_row_tie rfl ⟨rfl, rfl⟩ (by kernel_rfl) rfl
    (fun f fn hf hfn => by
      obtain rfl : f = 10 := Option.some.inj ((show Tryz.prog.funcNamed "justiciar/justiciarlaw01.ValueNumbers" = some 10 by kernel_rfl).symm.trans hf) |>.symm
      obtain rfl : fn = Tryz.f10 := (Option.some.inj (Tryz.func10.symm.trans hfn)).symm
      exact ⟨by kernel_rfl, fun j t ht => by
        rw [Tryz.params10] at ht
        have hm : t ∈ [27, 27, 27] := by simpa using Array.mem_of_getElem? ht
        have hall : ([27, 27, 27].all fun u => !Tryz.prog.wantsStandIn u) = true := by kernel_rfl
        exact (show Tryz.prog.wantsStandIn t = false by simpa using List.all_eq_true.1 hall t hm)⟩)
    (by kernel_rfl)
#print axioms valueNumbers_card
end Go.Proofs.YtpmfpfkahanlaaaGreatDoor
