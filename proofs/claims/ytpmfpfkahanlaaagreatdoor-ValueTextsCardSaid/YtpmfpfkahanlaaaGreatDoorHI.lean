/- What awake's calls give, at their inputs. -/
import Derived.Test.YtpmfpfkahanlaaaGreatDoorHB
import Derived.Test.YtpmfpfkahanlaaaGreatDoorHE
import Derived.Test.YtpmfpfkahanlaaaGreatDoorHG
import Derived.Test.YtpmfpfkahanlaaaGreatDoorHF
import Derived.Test.YtpmfpfkahanlaaaGreatDoorHA
import Derived.Deep.RegionHeld3
import Derived.Deep.DrawnRows
import Derived.Deep.DeepCutAuto
namespace Go.Proofs.YtpmfpfkahanlaaaGreatDoor
open Go.RowKit
set_option linter.unusedSimpArgs false
set_option linter.unusedVariables false
theorem aw1 (w : World) (hE : Env w) : Calls Tryz.prog 27 #[.string ⟨#[97, 110, 100]⟩, .agg #[.int .i64 0, .int .i64 0, .string ⟨#[]⟩], .agg #[.int .i64 3, .int .i64 0, .string ⟨#[]⟩]] w fun e w' => e = .returned (.tuple #[.agg #[.int .i64 3, .int .i64 0, .string ⟨#[]⟩], .int .i64 0]) ∧ Below w.heap.size w w' := by
  have h := binary_any [97, 110, 100] vN (vB false) w hE.nul
  rw [show vBinary [97, 110, 100] vN (vB false) = ((vB false), 0) from rfl] at h
  exact h
theorem aw2 (w : World) (hE : Env w) : Calls Tryz.prog 27 #[.string ⟨#[111, 114]⟩, .agg #[.int .i64 0, .int .i64 0, .string ⟨#[]⟩], .agg #[.int .i64 3, .int .i64 1, .string ⟨#[]⟩]] w fun e w' => e = .returned (.tuple #[.agg #[.int .i64 3, .int .i64 1, .string ⟨#[]⟩], .int .i64 0]) ∧ Below w.heap.size w w' := by
  have h := binary_any [111, 114] vN (vB true) w hE.nul
  rw [show vBinary [111, 114] vN (vB true) = ((vB true), 0) from rfl] at h
  exact h
theorem aw3 (w : World) (hE : Env w) : Calls Tryz.prog 27 #[.string ⟨#[61]⟩, .agg #[.int .i64 0, .int .i64 0, .string ⟨#[]⟩], .agg #[.int .i64 0, .int .i64 0, .string ⟨#[]⟩]] w fun e w' => e = .returned (.tuple #[.agg #[.int .i64 0, .int .i64 0, .string ⟨#[]⟩], .int .i64 0]) ∧ Below w.heap.size w w' := by
  have h := binary_any [61] vN vN w hE.nul
  rw [show vBinary [61] vN vN = (vN, 0) from rfl] at h
  exact h
theorem aw4 (w : World) (hE : Env w) : Calls Tryz.prog 27 #[.string ⟨#[47]⟩, .agg #[.int .i64 1, .int .i64 (-7), .string ⟨#[]⟩], .agg #[.int .i64 1, .int .i64 2, .string ⟨#[]⟩]] w fun e w' => e = .returned (.tuple #[.agg #[.int .i64 1, .int .i64 (-3), .string ⟨#[]⟩], .int .i64 0]) ∧ Below w.heap.size w w' := by
  have h := binary_any [47] (vI (-7)) (vI (2)) w hE.nul
  rw [show vBinary [47] (vI (-7)) (vI (2)) = ((vI (-3)), 0) from by kernel_rfl] at h
  exact h
theorem aw5 (w : World) (hE : Env w) : Calls Tryz.prog 27 #[.string ⟨#[109, 111, 100]⟩, .agg #[.int .i64 1, .int .i64 (-7), .string ⟨#[]⟩], .agg #[.int .i64 1, .int .i64 2, .string ⟨#[]⟩]] w fun e w' => e = .returned (.tuple #[.agg #[.int .i64 1, .int .i64 (-1), .string ⟨#[]⟩], .int .i64 0]) ∧ Below w.heap.size w w' := by
  have h := binary_any [109, 111, 100] (vI (-7)) (vI (2)) w hE.nul
  rw [show vBinary [109, 111, 100] (vI (-7)) (vI (2)) = ((vI (-1)), 0) from by kernel_rfl] at h
  exact h
theorem lk3 : sLike [97, 98, 99] [97, 37, 95] = true := by
  unfold sLike
  show mL [99, 98, 97] [95, 37, 97] = true
  rw [mL_oc _ _ _ _ (by decide), mL_pc, mL_pc, mL_oc 97 97 _ _ (by decide), mL_nn]
  simp
theorem aw6 (w : World) (hE : Env w) : Calls Tryz.prog 27 #[.string ⟨#[108, 105, 107, 101]⟩, .agg #[.int .i64 2, .int .i64 0, .string ⟨#[97, 98, 99]⟩], .agg #[.int .i64 2, .int .i64 0, .string ⟨#[97, 37, 95]⟩]] w fun e w' => e = .returned (.tuple #[.agg #[.int .i64 3, .int .i64 1, .string ⟨#[]⟩], .int .i64 0]) ∧ Below w.heap.size w w' := by
  have h := binary_any [108, 105, 107, 101] (vS [97, 98, 99]) (vS [97, 37, 95]) w hE.nul
  rw [show vBinary [108, 105, 107, 101] (vS [97, 98, 99]) (vS [97, 37, 95]) = ((vB true), 0) from by rw [bin_lk rfl rfl, lk3]] at h
  exact h
theorem aw7 (w : World) (b : Nat) (hb : b = w.heap.size) (hE : Env (w.alloc (.cells #[.int .i64 2, .int .i64 0, .string ⟨#[97, 98, 99, 100]⟩, .int .i64 1, .int .i64 2, .string ⟨#[]⟩, .int .i64 1, .int .i64 2, .string ⟨#[]⟩] 27))) : Calls Tryz.prog 35 #[.string ⟨#[115, 117, 98, 115, 116, 114]⟩, .slice (some ⟨b, 0, none⟩) 3 3] (w.alloc (.cells #[.int .i64 2, .int .i64 0, .string ⟨#[97, 98, 99, 100]⟩, .int .i64 1, .int .i64 2, .string ⟨#[]⟩, .int .i64 1, .int .i64 2, .string ⟨#[]⟩] 27)) fun e w' => e = .returned (.tuple #[.agg #[.int .i64 2, .int .i64 0, .string ⟨#[98, 99]⟩], .int .i64 0]) ∧ Below (w.alloc (.cells #[.int .i64 2, .int .i64 0, .string ⟨#[97, 98, 99, 100]⟩, .int .i64 1, .int .i64 2, .string ⟨#[]⟩, .int .i64 1, .int .i64 2, .string ⟨#[]⟩] 27)).heap.size (w.alloc (.cells #[.int .i64 2, .int .i64 0, .string ⟨#[97, 98, 99, 100]⟩, .int .i64 1, .int .i64 2, .string ⟨#[]⟩, .int .i64 1, .int .i64 2, .string ⟨#[]⟩] 27)) w' := by
  subst hb
  have h := call_any [115, 117, 98, 115, 116, 114] _ _ 3 [(vS [97, 98, 99, 100]), (vI (2)), (vI (2))] _ hE (sl_new w [(vS [97, 98, 99, 100]), (vI (2)), (vI (2))] 27 (by decide))
  rw [show vCall [115, 117, 98, 115, 116, 114] [(vS [97, 98, 99, 100]), (vI (2)), (vI (2))] = ((vS [98, 99]), 0) from by kernel_rfl] at h
  exact h
theorem aw8 (w : World) (hE : Env w) : Calls Tryz.prog 43 #[.agg #[.int .i64 2, .int .i64 0, .string ⟨#[105, 116, 39, 115]⟩]] w fun e w' => e = .returned (.tuple #[.string ⟨#[39, 105, 116, 39, 39, 115, 39]⟩, .int .i64 0]) ∧ Below w.heap.size w w' := by
  have h := text_any (vS [105, 116, 39, 115]) w hE
  rw [show vText (vS [105, 116, 39, 115]) = ([39, 105, 116, 39, 39, 115, 39], 0) from rfl] at h
  exact h
theorem aw9 (w : World) (hE : Env w) : Calls Tryz.prog 45 #[.string ⟨#[39, 105, 116, 39, 39, 115, 39]⟩] w fun e w' => e = .returned (.tuple #[.agg #[.int .i64 2, .int .i64 0, .string ⟨#[105, 116, 39, 115]⟩], .int .i64 0]) ∧ Below w.heap.size w w' := by
  have h := parse_any [39, 105, 116, 39, 39, 115, 39] w hE (by decide)
  rw [show vParse [39, 105, 116, 39, 39, 115, 39] = ((vS [105, 116, 39, 115]), 0) from by kernel_rfl] at h
  exact h
theorem aw10 (w : World) (hE : Env w) : Calls Tryz.prog 25 #[.string ⟨#[110, 111, 116]⟩, .agg #[.int .i64 3, .int .i64 0, .string ⟨#[]⟩]] w fun e w' => e = .returned (.tuple #[.agg #[.int .i64 3, .int .i64 1, .string ⟨#[]⟩], .int .i64 0]) ∧ Below w.heap.size w w' := by
  have h := unary_any [110, 111, 116] 3 0 [] w hE.nul.n0 hE.nul.n1 hE.nul.n2 hE.nul.pos
  rw [show vUnary [110, 111, 116] ⟨3, 0, []⟩ = ((vB true), 0) from rfl] at h
  exact h
theorem aw11 (w : World) (b : Nat) (hb : b = w.heap.size) (hE : Env (w.alloc (.cells #[.int .i64 1, .int .i64 1, .string ⟨#[]⟩] 27))) : Calls Tryz.prog 29 #[.agg #[.int .i64 0, .int .i64 0, .string ⟨#[]⟩], .slice (some ⟨b, 0, none⟩) 1 1] (w.alloc (.cells #[.int .i64 1, .int .i64 1, .string ⟨#[]⟩] 27)) fun e w' => e = .returned (.tuple #[.agg #[.int .i64 0, .int .i64 0, .string ⟨#[]⟩], .int .i64 0]) ∧ Below (w.alloc (.cells #[.int .i64 1, .int .i64 1, .string ⟨#[]⟩] 27)).heap.size (w.alloc (.cells #[.int .i64 1, .int .i64 1, .string ⟨#[]⟩] 27)) w' := by
  subst hb
  have h := in_any vN _ _ 1 [(vI (1))] _ hE.nul (sl_new w [(vI (1))] 27 (by decide))
  rw [show vIn vN [(vI (1))] = (vN, 0) from by kernel_rfl] at h
  exact h
theorem aw12 (w : World) (hE : Env w) : Calls Tryz.prog 31 #[.agg #[.int .i64 1, .int .i64 2, .string ⟨#[]⟩], .agg #[.int .i64 1, .int .i64 1, .string ⟨#[]⟩], .agg #[.int .i64 1, .int .i64 3, .string ⟨#[]⟩]] w fun e w' => e = .returned (.tuple #[.agg #[.int .i64 3, .int .i64 1, .string ⟨#[]⟩], .int .i64 0]) ∧ Below w.heap.size w w' := by
  have h := between_any (vI (2)) (vI (1)) (vI (3)) w hE.nul
  rw [show vBetween (vI (2)) (vI (1)) (vI (3)) = ((vB true), 0) from by kernel_rfl] at h
  exact h
theorem aw13 (w : World) (b : Nat) (hb : b = w.heap.size) (hE : Env (w.alloc (.cells #[.int .i64 1, .int .i64 1, .string ⟨#[]⟩, .int .i64 0, .int .i64 0, .string ⟨#[]⟩, .int .i64 1, .int .i64 4, .string ⟨#[]⟩] 27))) : Calls Tryz.prog 37 #[.string ⟨#[115, 117, 109]⟩, .slice (some ⟨b, 0, none⟩) 3 3] (w.alloc (.cells #[.int .i64 1, .int .i64 1, .string ⟨#[]⟩, .int .i64 0, .int .i64 0, .string ⟨#[]⟩, .int .i64 1, .int .i64 4, .string ⟨#[]⟩] 27)) fun e w' => e = .returned (.tuple #[.agg #[.int .i64 1, .int .i64 5, .string ⟨#[]⟩], .int .i64 0]) ∧ Below (w.alloc (.cells #[.int .i64 1, .int .i64 1, .string ⟨#[]⟩, .int .i64 0, .int .i64 0, .string ⟨#[]⟩, .int .i64 1, .int .i64 4, .string ⟨#[]⟩] 27)).heap.size (w.alloc (.cells #[.int .i64 1, .int .i64 1, .string ⟨#[]⟩, .int .i64 0, .int .i64 0, .string ⟨#[]⟩, .int .i64 1, .int .i64 4, .string ⟨#[]⟩] 27)) w' := by
  subst hb
  have h := agg_any [115, 117, 109] _ _ 3 [(vI (1)), vN, (vI (4))] _ hE (sl_new w [(vI (1)), vN, (vI (4))] 27 (by decide))
  rw [show vAgg [115, 117, 109] [(vI (1)), vN, (vI (4))] = ((vI (5)), 0) from by kernel_rfl] at h
  exact h
theorem aw14 (w : World) (hE : Env w) : Calls Tryz.prog 33 #[.agg #[.int .i64 0, .int .i64 0, .string ⟨#[]⟩], .agg #[.int .i64 1, .int .i64 1, .string ⟨#[]⟩]] w fun e w' => e = .returned (.tuple #[.int .i64 1, .int .i64 0]) ∧ Below w.heap.size w w' := by
  have h := order_any vN (vI (1)) w hE.nul
  rw [show vOrder vN (vI (1)) = (1, 0) from rfl] at h
  exact h
theorem aw15 (w : World) (hE : Env w) : Calls Tryz.prog 15 #[.agg #[.int .i64 0, .int .i64 0, .string ⟨#[]⟩]] w fun e w' => e = .returned (.bool true) ∧ Below w.heap.size w w' := by
  have h := valid_e 0 0 [] w hE.nul
  rw [show sValid ⟨0, 0, []⟩ = true from by kernel_rfl] at h
  exact h
theorem aw16 (w : World) (hE : Env w) : Calls Tryz.prog 21 #[.slice none 0 0] w fun e w' => e = .returned (.bool true) ∧ Below w.heap.size w w' := isRow_any none 0 0 [] w hE.nul Sl.nil
theorem aw17 (w : World) (hE : Env w) : Calls Tryz.prog 19 #[.agg #[.int .i64 0, .int .i64 0, .string ⟨#[]⟩], .agg #[.int .i64 0, .int .i64 0, .string ⟨#[]⟩]] w fun e w' => e = .returned (.bool true) ∧ Below w.heap.size w w' := by
  have h := same_any 0 0 0 0 [] [] w
  rw [show veq ⟨0, 0, []⟩ ⟨0, 0, []⟩ = true from by kernel_rfl] at h
  exact h
theorem aw18 (w : World) (hE : Env w) : Calls Tryz.prog 23 #[.slice none 0 0, .slice none 0 0] w fun e w' => e = .returned (.bool true) ∧ Below w.heap.size w w' := sameRow_any none none 0 0 0 0 [] [] w Sl.nil Sl.nil
theorem aw19 (w : World) (hE : Env w) : Calls Tryz.prog 39 #[.string ⟨#[110, 118, 108]⟩] w fun e w' => e = .returned (.bool true) ∧ Below w.heap.size w w' := by
  have h := builtin_any [110, 118, 108] w
  rw [show isSig [110, 118, 108] = true from by kernel_rfl] at h
  exact h
theorem aw20 (w : World) (hE : Env w) : Calls Tryz.prog 41 #[.string ⟨#[109, 97, 120]⟩] w fun e w' => e = .returned (.bool true) ∧ Below w.heap.size w w' := by
  have h := isAgg_any [109, 97, 120] w
  rw [show sIsAgg [109, 97, 120] = true from by kernel_rfl] at h
  exact h
theorem aw21 (w : World) (hE : Env w) : Calls Tryz.prog 47 #[.int .i64 22] w fun e w' => e = .returned (.string ⟨#[122, 101, 114, 111, 95, 100, 105, 118, 105, 100, 101]⟩) ∧ Below w.heap.size w w' := (exc_any 22 w).mono fun _ _ ⟨h, e⟩ => ⟨h, e ▸ Below.refl _ _⟩
theorem aw22 (w : World) (hE : Env w) : Calls Tryz.prog 49 #[.string ⟨#[116, 111, 111, 95, 108, 111, 110, 103]⟩] w fun e w' => e = .returned (.int .i64 18) ∧ Below w.heap.size w w' := by
  have h := num_any [116, 111, 111, 95, 108, 111, 110, 103] w hE.sp
  rw [show sNum [116, 111, 111, 95, 108, 111, 110, 103] = 18 from by kernel_rfl] at h
  exact h
theorem aw23 (w : World) (hE : Env w) : Calls Tryz.prog 17 #[.agg #[.int .i64 3, .int .i64 1, .string ⟨#[]⟩]] w fun e w' => e = .returned (.bool true) ∧ Below w.heap.size w w' := by
  have h := true_any 3 1 [] w
  rw [show sTrue ⟨3, 1, []⟩ = true from by kernel_rfl] at h
  exact h
theorem aw11s (A : Option Addr) (w : World) (hE : Env w) (hS : Sl w A 1 [(vI (1))]) : Calls Tryz.prog 29 #[.agg #[.int .i64 0, .int .i64 0, .string ⟨#[]⟩], .slice A 1 1] w fun e w' => e = .returned (.tuple #[.agg #[.int .i64 0, .int .i64 0, .string ⟨#[]⟩], .int .i64 0]) ∧ Below w.heap.size w w' := by
  have h := in_any vN A 1 1 [(vI (1))] w hE.nul hS
  rw [show vIn vN [(vI (1))] = (vN, 0) from by kernel_rfl] at h
  exact h
theorem aw13s (A : Option Addr) (w : World) (hE : Env w) (hS : Sl w A 3 [(vI (1)), vN, (vI (4))]) : Calls Tryz.prog 37 #[.string ⟨#[115, 117, 109]⟩, .slice A 3 3] w fun e w' => e = .returned (.tuple #[.agg #[.int .i64 1, .int .i64 5, .string ⟨#[]⟩], .int .i64 0]) ∧ Below w.heap.size w w' := by
  have h := agg_any [115, 117, 109] A 3 3 [(vI (1)), vN, (vI (4))] w hE hS
  rw [show vAgg [115, 117, 109] [(vI (1)), vN, (vI (4))] = ((vI (5)), 0) from by kernel_rfl] at h
  exact h
end Go.Proofs.YtpmfpfkahanlaaaGreatDoor

/- awake, walked: the chapter's examples hold. -/
namespace Go.Proofs.YtpmfpfkahanlaaaGreatDoor
open Go.RowKit
set_option linter.unusedSimpArgs false
set_option linter.unusedVariables false
attribute [local go_sem] Later.cell Later.lt
attribute [local go_sem high] run_eqV run_neV
theorem veq_self (k n : Int) (t : List UInt8) : veq ⟨k, n, t⟩ ⟨k, n, t⟩ = true := by simp [veq]
attribute [local go_sem] veq_self
theorem held3 {WS w' : World} {g : Nat} {x0 x1 x2 : Value} (c0 : WS.cell? ⟨g, 0, none⟩ = some x0) (c1 : WS.cell? ⟨g, 1, none⟩ = some x1) (c2 : WS.cell? ⟨g, 2, none⟩ = some x2) (hz : g < WS.heap.size) (hb : Below WS.heap.size WS w') :
    (w'.cell? ⟨g, 0, none⟩ = some x0 ∧ w'.cell? ⟨g, 1, none⟩ = some x1 ∧ w'.cell? ⟨g, 2, none⟩ = some x2) ∧ Below WS.heap.size WS w' :=
  ⟨⟨(hb.cell (p := ⟨g, 0, none⟩) hz).trans c0, (hb.cell (p := ⟨g, 1, none⟩) hz).trans c1, (hb.cell (p := ⟨g, 2, none⟩) hz).trans c2⟩, hb⟩
theorem sl_at (w : World) (l : List V) (ty : TypeId) (b : Nat) (hb : b = w.heap.size) (hl : l.length ≤ 1000) : Sl (w.alloc (.cells (l.flatMap encL).toArray ty)) (some ⟨b, 0, none⟩) l.length l := by
  subst hb
  exact sl_new w l ty hl
theorem blk_at (w : World) (t : TypeId) (cs : Array Value) {b : Nat} (h : b = w.heap.size) : Blk (w.alloc (.cells cs t)) b t cs := by
  subst h
  exact blk_new w t cs
structure AW (w0 w : World) (B : Nat) (l : List (Nat × V)) : Prop where
  b0 : Blk w B 27 (cellsV (vB false))
  b1 : Blk w (B + 1) 27 (cellsV vN)
  b2 : Blk w (B + 2) 27 (cellsV (vB true))
  all : ∀ p ∈ l, Blk w p.1 27 (cellsV p.2)
  env : Env w
  b : Below w0.heap.size w0 w
theorem AW.later {w0 w w' : World} {B : Nat} {l : List (Nat × V)} (h : AW w0 w B l) (hb : Below w.heap.size w w') : AW w0 w' B l :=
  ⟨blk_later h.b0 hb, blk_later h.b1 hb, blk_later h.b2 hb, fun p hp => blk_later (h.all p hp) hb, h.env.later hb, h.b.trans (hb.mono h.b.size)⟩
theorem AW.alloc {w0 w : World} {B : Nat} {l : List (Nat × V)} (h : AW w0 w B l) (o : Obj) : AW w0 (w.alloc o) B l := h.later ((Below.refl _ _).alloc (Nat.le_refl _) _)
theorem AW.push {w0 w : World} {B : Nat} {l : List (Nat × V)} (h : AW w0 w B l) (v : V) : AW w0 (w.alloc (.cells (cellsV v) 27)) B ((w.heap.size, v) :: l) :=
  have h' := h.alloc (.cells (cellsV v) 27)
  ⟨h'.b0, h'.b1, h'.b2, fun p hp => (List.mem_cons.1 hp).elim (fun e => by subst e; exact blk_new w 27 _) (h'.all p), h'.env, h'.b⟩
theorem AW.start {w0 w : World} (hE : Env w) (hb : Below w0.heap.size w0 w) : AW w0 (((w.alloc (.cells (cellsV (vB false)) 27)).alloc (.cells (cellsV vN) 27)).alloc (.cells (cellsV (vB true)) 27)) w.heap.size [] := by
  have h1 := blk_new w 27 (cellsV (vB false))
  have h2 := blk_new (w.alloc (.cells (cellsV (vB false)) 27)) 27 (cellsV vN)
  have h3 := blk_new ((w.alloc (.cells (cellsV (vB false)) 27)).alloc (.cells (cellsV vN) 27)) 27 (cellsV (vB true))
  simp only [World.size_alloc] at h2 h3
  have e : Below w.heap.size w (((w.alloc (.cells (cellsV (vB false)) 27)).alloc (.cells (cellsV vN) 27)).alloc (.cells (cellsV (vB true)) 27)) := (((Below.refl _ _).alloc (Nat.le_refl _) _).alloc (by simp) _).alloc (by simp; omega) _
  exact ⟨blk_alloc (blk_alloc h1 _) _, blk_alloc h2 _, h3, fun p hp => absurd hp (by simp), hE.later e, hb.trans (e.mono hb.size)⟩
theorem AW.cells {w0 w : World} {B : Nat} {l : List (Nat × V)} (h : AW w0 w B l) :
    (w.cell? ⟨B, 0, none⟩ = some (.int .i64 3) ∧ w.cell? ⟨B, 1, none⟩ = some (.int .i64 0) ∧ w.cell? ⟨B, 2, none⟩ = some (.string ⟨#[]⟩)) ∧
    (w.cell? ⟨B + 1, 0, none⟩ = some (.int .i64 0) ∧ w.cell? ⟨B + 1, 1, none⟩ = some (.int .i64 0) ∧ w.cell? ⟨B + 1, 2, none⟩ = some (.string ⟨#[]⟩)) ∧
    (w.cell? ⟨B + 2, 0, none⟩ = some (.int .i64 3) ∧ w.cell? ⟨B + 2, 1, none⟩ = some (.int .i64 1) ∧ w.cell? ⟨B + 2, 2, none⟩ = some (.string ⟨#[]⟩)) ∧
    B < w.heap.size ∧ B + 1 < w.heap.size ∧ B + 2 < w.heap.size ∧ 0 < w.heap.size :=
  ⟨⟨blk_cell h.b0 0, blk_cell h.b0 1, blk_cell h.b0 2⟩, ⟨blk_cell h.b1 0, blk_cell h.b1 1, blk_cell h.b1 2⟩, ⟨blk_cell h.b2 0, blk_cell h.b2 1, blk_cell h.b2 2⟩, blk_lt h.b0, blk_lt h.b1, blk_lt h.b2, by have := blk_lt h.b0; omega⟩
theorem AW.put {w0 WS w : World} {B g : Nat} {l : List (Nat × V)} {u : V} (h : AW w0 WS B l) (hb : Below WS.heap.size WS w) (hg : WS.heap.size ≤ g) (hk : Blk w g 27 (cellsV u)) (v : V) :
    AW w0 (((w.setCell ⟨g, 0, none⟩ (.int .i64 v.k)).setCell ⟨g, 1, none⟩ (.int .i64 v.n)).setCell ⟨g, 2, none⟩ (.string ⟨v.t.toArray⟩)) B ((g, v) :: l) :=
  have h' := h.later (((hb.setCell (p := ⟨g, 0, none⟩) hg (.int .i64 v.k)).setCell (p := ⟨g, 1, none⟩) hg (.int .i64 v.n)).setCell (p := ⟨g, 2, none⟩) hg (.string ⟨v.t.toArray⟩))
  ⟨h'.b0, h'.b1, h'.b2, fun p hp => (List.mem_cons.1 hp).elim (fun e => by subst e; exact blk_set (blk_set (blk_set hk 0 _) 1 _) 2 _) (h'.all p), h'.env, h'.b⟩
theorem AW.at_ {w0 w : World} {B g : Nat} {v : V} {l : List (Nat × V)} (h : AW w0 w B l) (hm : (g, v) ∈ l) : (w.cell? ⟨g, 0, none⟩ = some (.int .i64 v.k) ∧ w.cell? ⟨g, 1, none⟩ = some (.int .i64 v.n) ∧ w.cell? ⟨g, 2, none⟩ = some (.string ⟨v.t.toArray⟩)) ∧ g < w.heap.size :=
  ⟨⟨blk_cell (h.all _ hm) 0, blk_cell (h.all _ hm) 1, blk_cell (h.all _ hm) 2⟩, blk_lt (h.all _ hm)⟩
attribute [local go_sem ↓] Go.wp_at_zero Go.wp_at_succ
set_option maxRecDepth 100000 in
set_option maxHeartbeats 8000000 in
theorem awake_any (w : World) (hE : Env w) : Calls Tryz.prog 14 #[] w fun e w' => e = .returned (.bool true) ∧ Below w.heap.size w w' := by
  have HE := Lib.hid hE
  clear hE
  go_enter Tryz.func14, Tryz.ntmps14
  go_wp2_with fail
  refine (rBool_any _ _).mono ?_; rintro e w1 ⟨rfl, hb1⟩
  have G1 := Lib.hid hb1
  clear hb1
  go_wp2_with fail
  refine (rNull_any _).mono ?_; rintro e w2 ⟨rfl, hb2⟩
  have G2 := Lib.hid (G1.out.trans (hb2.mono G1.out.size))
  clear hb2 G1
  go_wp2_with fail
  refine (rBool_any _ _).mono ?_; rintro e w3 ⟨rfl, hb3⟩
  have G3 := Lib.hid (G2.out.trans (hb3.mono G2.out.size))
  clear hb3 G2
  have L0 := Lib.hid (AW.start (HE.out.later G3.out) G3.out)
  clear G3
  go_wp2_with fail
  refine (aw1 _ L0.out.env).mono ?_; rintro e w4 ⟨rfl, hb4⟩
  have N4 := Lib.hid (L0.out.later hb4)
  clear hb4 L0
  obtain ⟨⟨p0, p1, p2⟩, ⟨q0, q1, q2⟩, ⟨r0, r1, r2⟩, z0, z1, z2, zz⟩ := N4.out.cells
  go_wp2_with fail
  refine (aw2 _ (N4.out.push (vB false)).env).mono ?_; rintro e w5 ⟨rfl, hb5⟩
  have N5 := Lib.hid ((N4.out.push (vB false)).later hb5)
  clear p0 p1 p2 q0 q1 q2 r0 r1 r2 z0 z1 z2 zz
  clear hb5 N4
  obtain ⟨⟨p0, p1, p2⟩, ⟨q0, q1, q2⟩, ⟨r0, r1, r2⟩, z0, z1, z2, zz⟩ := N5.out.cells
  go_wp2_with fail
  refine (aw3 _ (N5.out.push (vB true)).env).mono ?_; rintro e w6 ⟨rfl, hb6⟩
  have N6 := Lib.hid ((N5.out.push (vB true)).later hb6)
  clear p0 p1 p2 q0 q1 q2 r0 r1 r2 z0 z1 z2 zz
  clear hb6 N5
  obtain ⟨⟨p0, p1, p2⟩, ⟨q0, q1, q2⟩, ⟨r0, r1, r2⟩, z0, z1, z2, zz⟩ := N6.out.cells
  go_wp2_with fail
  refine (rInt_any _ _).mono ?_; rintro e w7 ⟨rfl, hb7⟩
  have N7 := Lib.hid ((N6.out.push vN).later hb7)
  clear p0 p1 p2 q0 q1 q2 r0 r1 r2 z0 z1 z2 zz
  clear hb7 N6
  obtain ⟨⟨p0, p1, p2⟩, ⟨q0, q1, q2⟩, ⟨r0, r1, r2⟩, z0, z1, z2, zz⟩ := N7.out.cells
  go_wp2_with fail
  refine (rInt_any _ _).mono ?_; rintro e w8 ⟨rfl, hb8⟩
  have N8 := Lib.hid (N7.out.later hb8)
  clear p0 p1 p2 q0 q1 q2 r0 r1 r2 z0 z1 z2 zz
  clear hb8 N7
  obtain ⟨⟨p0, p1, p2⟩, ⟨q0, q1, q2⟩, ⟨r0, r1, r2⟩, z0, z1, z2, zz⟩ := N8.out.cells
  go_wp2_with fail
  refine (aw4 _ N8.out.env).mono ?_; rintro e w9 ⟨rfl, hb9⟩
  have N9 := Lib.hid (N8.out.later hb9)
  clear p0 p1 p2 q0 q1 q2 r0 r1 r2 z0 z1 z2 zz
  clear hb9 N8
  obtain ⟨⟨p0, p1, p2⟩, ⟨q0, q1, q2⟩, ⟨r0, r1, r2⟩, z0, z1, z2, zz⟩ := N9.out.cells
  go_wp2_with fail
  refine (rInt_any _ _).mono ?_; rintro e w10 ⟨rfl, hb10⟩
  have N10 := Lib.hid ((N9.out.push (vI (-3))).later hb10)
  clear p0 p1 p2 q0 q1 q2 r0 r1 r2 z0 z1 z2 zz
  clear hb10 N9
  obtain ⟨⟨p0, p1, p2⟩, ⟨q0, q1, q2⟩, ⟨r0, r1, r2⟩, z0, z1, z2, zz⟩ := N10.out.cells
  go_wp2_with fail
  refine (rInt_any _ _).mono ?_; rintro e w11 ⟨rfl, hb11⟩
  have N11 := Lib.hid (N10.out.later hb11)
  clear p0 p1 p2 q0 q1 q2 r0 r1 r2 z0 z1 z2 zz
  clear hb11 N10
  obtain ⟨⟨p0, p1, p2⟩, ⟨q0, q1, q2⟩, ⟨r0, r1, r2⟩, z0, z1, z2, zz⟩ := N11.out.cells
  go_wp2_with fail
  refine (aw5 _ N11.out.env).mono ?_; rintro e w12 ⟨rfl, hb12⟩
  have N12 := Lib.hid (N11.out.later hb12)
  clear p0 p1 p2 q0 q1 q2 r0 r1 r2 z0 z1 z2 zz
  clear hb12 N11
  obtain ⟨⟨p0, p1, p2⟩, ⟨q0, q1, q2⟩, ⟨r0, r1, r2⟩, z0, z1, z2, zz⟩ := N12.out.cells
  go_wp2_with fail
  refine (rString_any [97, 98, 99] _).mono ?_; rintro e w13 ⟨rfl, hb13⟩
  have N13 := Lib.hid ((N12.out.push (vI (-1))).later hb13)
  clear p0 p1 p2 q0 q1 q2 r0 r1 r2 z0 z1 z2 zz
  clear hb13 N12
  obtain ⟨⟨p0, p1, p2⟩, ⟨q0, q1, q2⟩, ⟨r0, r1, r2⟩, z0, z1, z2, zz⟩ := N13.out.cells
  go_wp2_with fail
  refine (rString_any [97, 37, 95] _).mono ?_; rintro e w14 ⟨rfl, hb14⟩
  have N14 := Lib.hid (N13.out.later hb14)
  clear p0 p1 p2 q0 q1 q2 r0 r1 r2 z0 z1 z2 zz
  clear hb14 N13
  obtain ⟨⟨p0, p1, p2⟩, ⟨q0, q1, q2⟩, ⟨r0, r1, r2⟩, z0, z1, z2, zz⟩ := N14.out.cells
  go_wp2_with fail
  refine (aw6 _ N14.out.env).mono ?_; rintro e w15 ⟨rfl, hb15⟩
  have N15 := Lib.hid (N14.out.later hb15)
  clear p0 p1 p2 q0 q1 q2 r0 r1 r2 z0 z1 z2 zz
  clear hb15 N14
  obtain ⟨⟨p0, p1, p2⟩, ⟨q0, q1, q2⟩, ⟨r0, r1, r2⟩, z0, z1, z2, zz⟩ := N15.out.cells
  go_wp2_with fail
  refine (rString_any [97, 98, 99, 100] _).mono ?_; rintro e w16 ⟨rfl, hb16⟩
  have N16 := Lib.hid ((N15.out.push (vB true)).later hb16)
  clear p0 p1 p2 q0 q1 q2 r0 r1 r2 z0 z1 z2 zz
  clear hb16 N15
  obtain ⟨⟨p0, p1, p2⟩, ⟨q0, q1, q2⟩, ⟨r0, r1, r2⟩, z0, z1, z2, zz⟩ := N16.out.cells
  go_wp2_with fail
  refine (rInt_any _ _).mono ?_; rintro e w17 ⟨rfl, hb17⟩
  have N17 := Lib.hid (N16.out.later hb17)
  clear p0 p1 p2 q0 q1 q2 r0 r1 r2 z0 z1 z2 zz
  clear hb17 N16
  obtain ⟨⟨p0, p1, p2⟩, ⟨q0, q1, q2⟩, ⟨r0, r1, r2⟩, z0, z1, z2, zz⟩ := N17.out.cells
  go_wp2_with fail
  refine (rInt_any _ _).mono ?_; rintro e w18 ⟨rfl, hb18⟩
  have N18 := Lib.hid (N17.out.later hb18)
  clear p0 p1 p2 q0 q1 q2 r0 r1 r2 z0 z1 z2 zz
  clear hb18 N17
  obtain ⟨⟨p0, p1, p2⟩, ⟨q0, q1, q2⟩, ⟨r0, r1, r2⟩, z0, z1, z2, zz⟩ := N18.out.cells
  go_wp2_with fail
  refine (aw7 _ _ (by simp) (N18.out.alloc (.cells #[.int .i64 2, .int .i64 0, .string ⟨#[97, 98, 99, 100]⟩, .int .i64 1, .int .i64 2, .string ⟨#[]⟩, .int .i64 1, .int .i64 2, .string ⟨#[]⟩] 27)).env).mono ?_; rintro e w19 ⟨rfl, hb19⟩
  have N19 := Lib.hid ((N18.out.alloc (.cells #[.int .i64 2, .int .i64 0, .string ⟨#[97, 98, 99, 100]⟩, .int .i64 1, .int .i64 2, .string ⟨#[]⟩, .int .i64 1, .int .i64 2, .string ⟨#[]⟩] 27)).later hb19)
  clear p0 p1 p2 q0 q1 q2 r0 r1 r2 z0 z1 z2 zz
  clear hb19 N18
  obtain ⟨⟨p0, p1, p2⟩, ⟨q0, q1, q2⟩, ⟨r0, r1, r2⟩, z0, z1, z2, zz⟩ := N19.out.cells
  go_wp2_with fail
  refine (rString_any [105, 116, 39, 115] _).mono ?_; rintro e w20 ⟨rfl, hb20⟩
  have N20 := Lib.hid ((N19.out.push (vS [98, 99])).later hb20)
  clear p0 p1 p2 q0 q1 q2 r0 r1 r2 z0 z1 z2 zz
  clear hb20 N19
  obtain ⟨⟨p0, p1, p2⟩, ⟨q0, q1, q2⟩, ⟨r0, r1, r2⟩, z0, z1, z2, zz⟩ := N20.out.cells
  go_wp2_with fail
  refine (aw8 _ N20.out.env).mono ?_; rintro e w21 ⟨rfl, hb21⟩
  have N21 := Lib.hid (N20.out.later hb21)
  clear p0 p1 p2 q0 q1 q2 r0 r1 r2 z0 z1 z2 zz
  clear hb21 N20
  obtain ⟨⟨p0, p1, p2⟩, ⟨q0, q1, q2⟩, ⟨r0, r1, r2⟩, z0, z1, z2, zz⟩ := N21.out.cells
  go_wp2_with fail
  refine (aw9 _ N21.out.env).mono ?_; rintro e w22 ⟨rfl, hb22⟩
  have N22 := Lib.hid (N21.out.later hb22)
  clear p0 p1 p2 q0 q1 q2 r0 r1 r2 z0 z1 z2 zz
  clear hb22 N21
  obtain ⟨⟨p0, p1, p2⟩, ⟨q0, q1, q2⟩, ⟨r0, r1, r2⟩, z0, z1, z2, zz⟩ := N22.out.cells
  go_wp2_with fail
  refine (aw10 _ (N22.out.push (vS [105, 116, 39, 115])).env).mono ?_; rintro e w23 ⟨rfl, hb23⟩
  have N23 := Lib.hid ((N22.out.push (vS [105, 116, 39, 115])).later hb23)
  clear p0 p1 p2 q0 q1 q2 r0 r1 r2 z0 z1 z2 zz
  clear hb23 N22
  obtain ⟨⟨p0, p1, p2⟩, ⟨q0, q1, q2⟩, ⟨r0, r1, r2⟩, z0, z1, z2, zz⟩ := N23.out.cells
  go_upto_region 12 with fail
  have LW : Hid (AW w (w23.alloc (.cells #[.int .i64 3, .int .i64 1, .string ⟨#[]⟩] 27)) w3.heap.size [(w23.heap.size, (vB true)), (w22.heap.size, (vS [105, 116, 39, 115])), (w19.heap.size, (vS [98, 99])), (w15.heap.size, (vB true)), (w12.heap.size, (vI (-1))), (w9.heap.size, (vI (-3))), (w6.heap.size, vN), (w5.heap.size, (vB true)), (w4.heap.size, (vB false))]) := Lib.hid (N23.out.push (vB true))
  clear p0 p1 p2 q0 q1 q2 r0 r1 r2 z0 z1 z2 zz
  clear N23
  have gl : w23.heap.size < (w23.alloc (.cells #[.int .i64 3, .int .i64 1, .string ⟨#[]⟩] 27)).heap.size := by simp
  generalize w23.alloc (.cells #[.int .i64 3, .int .i64 1, .string ⟨#[]⟩] 27) = WS at LW gl ⊢
  obtain ⟨⟨p0, p1, p2⟩, ⟨q0, q1, q2⟩, ⟨r0, r1, r2⟩, z0, z1, z2, zz⟩ := LW.out.cells
  go_cut [24, 25] from 93 to 99 (fun sa sb wx => ∃ g : Nat, sa = .pointer (some ⟨g, 0, none⟩) ∧ sb = .int .i64 0 ∧ Hid (AW w wx w3.heap.size ((g, vN) :: [(w23.heap.size, (vB true)), (w22.heap.size, (vS [105, 116, 39, 115])), (w19.heap.size, (vS [98, 99])), (w15.heap.size, (vB true)), (w12.heap.size, (vI (-1))), (w9.heap.size, (vI (-3))), (w6.heap.size, vN), (w5.heap.size, (vB true)), (w4.heap.size, (vB false))])))
  case first =>
    clear p0 p1 p2 r0 r1 r2
    go_region_held3 (fun w' => (w'.cell? ⟨w3.heap.size + 1, 0, none⟩ = some (.int .i64 0) ∧ w'.cell? ⟨w3.heap.size + 1, 1, none⟩ = some (.int .i64 0) ∧ w'.cell? ⟨w3.heap.size + 1, 2, none⟩ = some (.string ⟨#[]⟩)) ∧ Below WS.heap.size WS w') ((go_split_ands; refine held3 q0 q1 q2 z1 ?_; (repeat' (first | (with_reducible exact Below.refl _ _) | (with_reducible assumption) | (with_reducible refine Below.alloc ?_ ?_ _) | (with_reducible refine Below.drew ?_) | (with_reducible refine Below.drewN' ?_ _) | (with_reducible refine Below.setCell ?_ ?_ _) | (refine Below.via ?_ (by assumption) ?_) | go_size))))
      (first | (go_at_call 57; (fail_if_success (have := hbwA)); refine (rInt_any _ _).mono ?_; rintro e wA ⟨rfl, hbwA⟩; (obtain ⟨hcwA, hfwA⟩ := bfacts hbwA; have hzwA := hbwA.size; (try simp only [World.size_alloc, World.size_setCell, World.size_drew] at hzwA); (try have hpwA : 0 < wA.heap.size := by omega); (try have : WS.heap.size < wA.heap.size := by omega); (try have : WS.heap.size + 1 < wA.heap.size := by omega); (try have : WS.heap.size + 1 + 1 < wA.heap.size := by omega); (try have : WS.heap.size + 1 + 1 + 1 < wA.heap.size := by omega); (try have : WS.heap.size + 1 + 1 + 1 + 1 < wA.heap.size := by omega); (try have : WS.heap.size + 1 + 1 + 1 + 1 + 1 < wA.heap.size := by omega); (try have : WS.heap.size < wA.heap.size + 1 := by omega); (try have : WS.heap.size + 1 < wA.heap.size + 1 := by omega); (try have : WS.heap.size + 1 + 1 < wA.heap.size + 1 := by omega); (try have : WS.heap.size + 1 + 1 + 1 < wA.heap.size + 1 := by omega); (try have : WS.heap.size + 1 + 1 + 1 + 1 < wA.heap.size + 1 := by omega); (have hswA : WS.heap.size ≤ wA.heap.size := by (go_split_ands; have h5 : Below WS.heap.size WS wA := (by (repeat' (first | (with_reducible exact Below.refl _ _) | (with_reducible assumption) | (with_reducible refine Below.alloc ?_ ?_ _) | (with_reducible refine Below.drew ?_) | (with_reducible refine Below.drewN' ?_ _) | (with_reducible refine Below.setCell ?_ ?_ _) | (refine Below.via ?_ (by assumption) ?_) | go_size))); exact h5.size)))) | (go_at_call 57; (fail_if_success (have := hbwB)); refine (rInt_any _ _).mono ?_; rintro e wB ⟨rfl, hbwB⟩; (obtain ⟨hcwB, hfwB⟩ := bfacts hbwB; have hzwB := hbwB.size; (try simp only [World.size_alloc, World.size_setCell, World.size_drew] at hzwB); (try have hpwB : 0 < wB.heap.size := by omega); (try have : WS.heap.size < wB.heap.size := by omega); (try have : WS.heap.size + 1 < wB.heap.size := by omega); (try have : WS.heap.size + 1 + 1 < wB.heap.size := by omega); (try have : WS.heap.size + 1 + 1 + 1 < wB.heap.size := by omega); (try have : WS.heap.size + 1 + 1 + 1 + 1 < wB.heap.size := by omega); (try have : WS.heap.size + 1 + 1 + 1 + 1 + 1 < wB.heap.size := by omega); (try have : WS.heap.size < wB.heap.size + 1 := by omega); (try have : WS.heap.size + 1 < wB.heap.size + 1 := by omega); (try have : WS.heap.size + 1 + 1 < wB.heap.size + 1 := by omega); (try have : WS.heap.size + 1 + 1 + 1 < wB.heap.size + 1 := by omega); (try have : WS.heap.size + 1 + 1 + 1 + 1 < wB.heap.size + 1 := by omega); (try have : wA.heap.size < wB.heap.size := by omega); (try have : wA.heap.size + 1 < wB.heap.size := by omega); (try have : wA.heap.size + 1 + 1 < wB.heap.size := by omega); (try have : wA.heap.size + 1 + 1 + 1 < wB.heap.size := by omega); (try have : wA.heap.size + 1 + 1 + 1 + 1 < wB.heap.size := by omega); (try have : wA.heap.size + 1 + 1 + 1 + 1 + 1 < wB.heap.size := by omega); (try have : wA.heap.size < wB.heap.size + 1 := by omega); (try have : wA.heap.size + 1 < wB.heap.size + 1 := by omega); (try have : wA.heap.size + 1 + 1 < wB.heap.size + 1 := by omega); (try have : wA.heap.size + 1 + 1 + 1 < wB.heap.size + 1 := by omega); (try have : wA.heap.size + 1 + 1 + 1 + 1 < wB.heap.size + 1 := by omega); (have hswB : WS.heap.size ≤ wB.heap.size := by (go_split_ands; have h5 : Below WS.heap.size WS wB := (by (repeat' (first | (with_reducible exact Below.refl _ _) | (with_reducible assumption) | (with_reducible refine Below.alloc ?_ ?_ _) | (with_reducible refine Below.drew ?_) | (with_reducible refine Below.drewN' ?_ _) | (with_reducible refine Below.setCell ?_ ?_ _) | (refine Below.via ?_ (by assumption) ?_) | go_size))); exact h5.size)))) | (go_at_call 29; refine (aw11s _ _ (LW.out.later (by go_split_ands; (repeat' (first | (with_reducible exact Below.refl _ _) | (with_reducible assumption) | (with_reducible refine Below.alloc ?_ ?_ _) | (with_reducible refine Below.drew ?_) | (with_reducible refine Below.drewN' ?_ _) | (with_reducible refine Below.setCell ?_ ?_ _) | (refine Below.via ?_ (by assumption) ?_) | go_size)))).env (by first | exact sl_at _ [(vI (1))] 27 _ (by simp) (by decide) | exact (sl_at _ [(vI (1))] 27 _ (by simp) (by decide)).alloc _)).mono ?_; rintro e wC ⟨rfl, hbwC⟩; (obtain ⟨hcwC, hfwC⟩ := bfacts hbwC; have hzwC := hbwC.size; (try simp only [World.size_alloc, World.size_setCell, World.size_drew] at hzwC); (try have hpwC : 0 < wC.heap.size := by omega); (try have : WS.heap.size < wC.heap.size := by omega); (try have : WS.heap.size + 1 < wC.heap.size := by omega); (try have : WS.heap.size + 1 + 1 < wC.heap.size := by omega); (try have : WS.heap.size + 1 + 1 + 1 < wC.heap.size := by omega); (try have : WS.heap.size + 1 + 1 + 1 + 1 < wC.heap.size := by omega); (try have : WS.heap.size + 1 + 1 + 1 + 1 + 1 < wC.heap.size := by omega); (try have : WS.heap.size < wC.heap.size + 1 := by omega); (try have : WS.heap.size + 1 < wC.heap.size + 1 := by omega); (try have : WS.heap.size + 1 + 1 < wC.heap.size + 1 := by omega); (try have : WS.heap.size + 1 + 1 + 1 < wC.heap.size + 1 := by omega); (try have : WS.heap.size + 1 + 1 + 1 + 1 < wC.heap.size + 1 := by omega); (try have : wA.heap.size < wC.heap.size := by omega); (try have : wA.heap.size + 1 < wC.heap.size := by omega); (try have : wA.heap.size + 1 + 1 < wC.heap.size := by omega); (try have : wA.heap.size + 1 + 1 + 1 < wC.heap.size := by omega); (try have : wA.heap.size + 1 + 1 + 1 + 1 < wC.heap.size := by omega); (try have : wA.heap.size + 1 + 1 + 1 + 1 + 1 < wC.heap.size := by omega); (try have : wA.heap.size < wC.heap.size + 1 := by omega); (try have : wA.heap.size + 1 < wC.heap.size + 1 := by omega); (try have : wA.heap.size + 1 + 1 < wC.heap.size + 1 := by omega); (try have : wA.heap.size + 1 + 1 + 1 < wC.heap.size + 1 := by omega); (try have : wA.heap.size + 1 + 1 + 1 + 1 < wC.heap.size + 1 := by omega); (try have : wB.heap.size < wC.heap.size := by omega); (try have : wB.heap.size + 1 < wC.heap.size := by omega); (try have : wB.heap.size + 1 + 1 < wC.heap.size := by omega); (try have : wB.heap.size + 1 + 1 + 1 < wC.heap.size := by omega); (try have : wB.heap.size + 1 + 1 + 1 + 1 < wC.heap.size := by omega); (try have : wB.heap.size + 1 + 1 + 1 + 1 + 1 < wC.heap.size := by omega); (try have : wB.heap.size < wC.heap.size + 1 := by omega); (try have : wB.heap.size + 1 < wC.heap.size + 1 := by omega); (try have : wB.heap.size + 1 + 1 < wC.heap.size + 1 := by omega); (try have : wB.heap.size + 1 + 1 + 1 < wC.heap.size + 1 := by omega); (try have : wB.heap.size + 1 + 1 + 1 + 1 < wC.heap.size + 1 := by omega); (have hswC : WS.heap.size ≤ wC.heap.size := by (go_split_ands; have h5 : Below WS.heap.size WS wC := (by (repeat' (first | (with_reducible exact Below.refl _ _) | (with_reducible assumption) | (with_reducible refine Below.alloc ?_ ?_ _) | (with_reducible refine Below.drew ?_) | (with_reducible refine Below.drewN' ?_ _) | (with_reducible refine Below.setCell ?_ ?_ _) | (refine Below.via ?_ (by assumption) ?_) | go_size))); exact h5.size)))))
    all_goals (go_wp2_with fail; go_meet)
    all_goals first | exact ⟨_, rfl, rfl, Lib.hid ((LW.out.later (by go_split_ands; (repeat' (first | (with_reducible exact Below.refl _ _) | (with_reducible assumption) | (with_reducible refine Below.alloc ?_ ?_ _) | (with_reducible refine Below.drew ?_) | (with_reducible refine Below.drewN' ?_ _) | (with_reducible refine Below.setCell ?_ ?_ _) | (refine Below.via ?_ (by assumption) ?_) | go_size)))).push vN)⟩ | exact ⟨_, rfl, rfl, Lib.hid (AW.put (u := vN) LW.out (by go_split_ands; (repeat' (first | (with_reducible exact Below.refl _ _) | (with_reducible assumption) | (with_reducible refine Below.alloc ?_ ?_ _) | (with_reducible refine Below.drew ?_) | (with_reducible refine Below.drewN' ?_ _) | (with_reducible refine Below.setCell ?_ ?_ _) | (refine Below.via ?_ (by assumption) ?_) | go_size))) (by omega) (by repeat (first | exact blk_new _ _ _ | exact blk_at _ _ _ (by simp) | refine blk_alloc ?_ _ | refine blk_later ?_ (by assumption))) vN)⟩
  case rest =>
  obtain ⟨g24, rfl, rfl, L24⟩ := hcut
  clear LW gl p0 p1 p2 q0 q1 q2 r0 r1 r2 z0 z1 z2 zz
  obtain ⟨⟨p0, p1, p2⟩, ⟨q0, q1, q2⟩, ⟨r0, r1, r2⟩, z0, z1, z2, zz⟩ := L24.out.cells
  go_wp2_with fail
  refine (rInt_any _ _).mono ?_; rintro e w24 ⟨rfl, hb24⟩
  have N24 := Lib.hid (L24.out.later hb24)
  clear p0 p1 p2 q0 q1 q2 r0 r1 r2 z0 z1 z2 zz
  clear hb24 L24
  obtain ⟨⟨p0, p1, p2⟩, ⟨q0, q1, q2⟩, ⟨r0, r1, r2⟩, z0, z1, z2, zz⟩ := N24.out.cells
  go_wp2_with fail
  refine (rInt_any _ _).mono ?_; rintro e w25 ⟨rfl, hb25⟩
  have N25 := Lib.hid (N24.out.later hb25)
  clear p0 p1 p2 q0 q1 q2 r0 r1 r2 z0 z1 z2 zz
  clear hb25 N24
  obtain ⟨⟨p0, p1, p2⟩, ⟨q0, q1, q2⟩, ⟨r0, r1, r2⟩, z0, z1, z2, zz⟩ := N25.out.cells
  go_wp2_with fail
  refine (rInt_any _ _).mono ?_; rintro e w26 ⟨rfl, hb26⟩
  have N26 := Lib.hid (N25.out.later hb26)
  clear p0 p1 p2 q0 q1 q2 r0 r1 r2 z0 z1 z2 zz
  clear hb26 N25
  obtain ⟨⟨p0, p1, p2⟩, ⟨q0, q1, q2⟩, ⟨r0, r1, r2⟩, z0, z1, z2, zz⟩ := N26.out.cells
  go_wp2_with fail
  refine (aw12 _ N26.out.env).mono ?_; rintro e w27 ⟨rfl, hb27⟩
  have N27 := Lib.hid (N26.out.later hb27)
  clear p0 p1 p2 q0 q1 q2 r0 r1 r2 z0 z1 z2 zz
  clear hb27 N26
  obtain ⟨⟨p0, p1, p2⟩, ⟨q0, q1, q2⟩, ⟨r0, r1, r2⟩, z0, z1, z2, zz⟩ := N27.out.cells
  go_upto_region 14 with fail
  have LW : Hid (AW w (w27.alloc (.cells #[.int .i64 3, .int .i64 1, .string ⟨#[]⟩] 27)) w3.heap.size [(w27.heap.size, (vB true)), (g24, vN), (w23.heap.size, (vB true)), (w22.heap.size, (vS [105, 116, 39, 115])), (w19.heap.size, (vS [98, 99])), (w15.heap.size, (vB true)), (w12.heap.size, (vI (-1))), (w9.heap.size, (vI (-3))), (w6.heap.size, vN), (w5.heap.size, (vB true)), (w4.heap.size, (vB false))]) := Lib.hid (N27.out.push (vB true))
  clear p0 p1 p2 q0 q1 q2 r0 r1 r2 z0 z1 z2 zz
  clear N27
  have gl : w27.heap.size < (w27.alloc (.cells #[.int .i64 3, .int .i64 1, .string ⟨#[]⟩] 27)).heap.size := by simp
  generalize w27.alloc (.cells #[.int .i64 3, .int .i64 1, .string ⟨#[]⟩] 27) = WS at LW gl ⊢
  obtain ⟨⟨p0, p1, p2⟩, ⟨q0, q1, q2⟩, ⟨r0, r1, r2⟩, z0, z1, z2, zz⟩ := LW.out.cells
  go_cut [28, 29] from 107 to 114 (fun sa sb wx => ∃ g : Nat, sa = .pointer (some ⟨g, 0, none⟩) ∧ sb = .int .i64 0 ∧ Hid (AW w wx w3.heap.size ((g, (vI (5))) :: [(w27.heap.size, (vB true)), (g24, vN), (w23.heap.size, (vB true)), (w22.heap.size, (vS [105, 116, 39, 115])), (w19.heap.size, (vS [98, 99])), (w15.heap.size, (vB true)), (w12.heap.size, (vI (-1))), (w9.heap.size, (vI (-3))), (w6.heap.size, vN), (w5.heap.size, (vB true)), (w4.heap.size, (vB false))])))
  case first =>
    clear p0 p1 p2 r0 r1 r2
    go_region_held3 (fun w' => (w'.cell? ⟨w3.heap.size + 1, 0, none⟩ = some (.int .i64 0) ∧ w'.cell? ⟨w3.heap.size + 1, 1, none⟩ = some (.int .i64 0) ∧ w'.cell? ⟨w3.heap.size + 1, 2, none⟩ = some (.string ⟨#[]⟩)) ∧ Below WS.heap.size WS w') ((go_split_ands; refine held3 q0 q1 q2 z1 ?_; (repeat' (first | (with_reducible exact Below.refl _ _) | (with_reducible assumption) | (with_reducible refine Below.alloc ?_ ?_ _) | (with_reducible refine Below.drew ?_) | (with_reducible refine Below.drewN' ?_ _) | (with_reducible refine Below.setCell ?_ ?_ _) | (refine Below.via ?_ (by assumption) ?_) | go_size))))
      (first | (go_at_call 57; (fail_if_success (have := hbwA)); refine (rInt_any _ _).mono ?_; rintro e wA ⟨rfl, hbwA⟩; (obtain ⟨hcwA, hfwA⟩ := bfacts hbwA; have hzwA := hbwA.size; (try simp only [World.size_alloc, World.size_setCell, World.size_drew] at hzwA); (try have hpwA : 0 < wA.heap.size := by omega); (try have : WS.heap.size < wA.heap.size := by omega); (try have : WS.heap.size + 1 < wA.heap.size := by omega); (try have : WS.heap.size + 1 + 1 < wA.heap.size := by omega); (try have : WS.heap.size + 1 + 1 + 1 < wA.heap.size := by omega); (try have : WS.heap.size + 1 + 1 + 1 + 1 < wA.heap.size := by omega); (try have : WS.heap.size + 1 + 1 + 1 + 1 + 1 < wA.heap.size := by omega); (try have : WS.heap.size < wA.heap.size + 1 := by omega); (try have : WS.heap.size + 1 < wA.heap.size + 1 := by omega); (try have : WS.heap.size + 1 + 1 < wA.heap.size + 1 := by omega); (try have : WS.heap.size + 1 + 1 + 1 < wA.heap.size + 1 := by omega); (try have : WS.heap.size + 1 + 1 + 1 + 1 < wA.heap.size + 1 := by omega); (have hswA : WS.heap.size ≤ wA.heap.size := by (go_split_ands; have h5 : Below WS.heap.size WS wA := (by (repeat' (first | (with_reducible exact Below.refl _ _) | (with_reducible assumption) | (with_reducible refine Below.alloc ?_ ?_ _) | (with_reducible refine Below.drew ?_) | (with_reducible refine Below.drewN' ?_ _) | (with_reducible refine Below.setCell ?_ ?_ _) | (refine Below.via ?_ (by assumption) ?_) | go_size))); exact h5.size)))) | (go_at_call 57; (fail_if_success (have := hbwB)); refine (rInt_any _ _).mono ?_; rintro e wB ⟨rfl, hbwB⟩; (obtain ⟨hcwB, hfwB⟩ := bfacts hbwB; have hzwB := hbwB.size; (try simp only [World.size_alloc, World.size_setCell, World.size_drew] at hzwB); (try have hpwB : 0 < wB.heap.size := by omega); (try have : WS.heap.size < wB.heap.size := by omega); (try have : WS.heap.size + 1 < wB.heap.size := by omega); (try have : WS.heap.size + 1 + 1 < wB.heap.size := by omega); (try have : WS.heap.size + 1 + 1 + 1 < wB.heap.size := by omega); (try have : WS.heap.size + 1 + 1 + 1 + 1 < wB.heap.size := by omega); (try have : WS.heap.size + 1 + 1 + 1 + 1 + 1 < wB.heap.size := by omega); (try have : WS.heap.size < wB.heap.size + 1 := by omega); (try have : WS.heap.size + 1 < wB.heap.size + 1 := by omega); (try have : WS.heap.size + 1 + 1 < wB.heap.size + 1 := by omega); (try have : WS.heap.size + 1 + 1 + 1 < wB.heap.size + 1 := by omega); (try have : WS.heap.size + 1 + 1 + 1 + 1 < wB.heap.size + 1 := by omega); (try have : wA.heap.size < wB.heap.size := by omega); (try have : wA.heap.size + 1 < wB.heap.size := by omega); (try have : wA.heap.size + 1 + 1 < wB.heap.size := by omega); (try have : wA.heap.size + 1 + 1 + 1 < wB.heap.size := by omega); (try have : wA.heap.size + 1 + 1 + 1 + 1 < wB.heap.size := by omega); (try have : wA.heap.size + 1 + 1 + 1 + 1 + 1 < wB.heap.size := by omega); (try have : wA.heap.size < wB.heap.size + 1 := by omega); (try have : wA.heap.size + 1 < wB.heap.size + 1 := by omega); (try have : wA.heap.size + 1 + 1 < wB.heap.size + 1 := by omega); (try have : wA.heap.size + 1 + 1 + 1 < wB.heap.size + 1 := by omega); (try have : wA.heap.size + 1 + 1 + 1 + 1 < wB.heap.size + 1 := by omega); (have hswB : WS.heap.size ≤ wB.heap.size := by (go_split_ands; have h5 : Below WS.heap.size WS wB := (by (repeat' (first | (with_reducible exact Below.refl _ _) | (with_reducible assumption) | (with_reducible refine Below.alloc ?_ ?_ _) | (with_reducible refine Below.drew ?_) | (with_reducible refine Below.drewN' ?_ _) | (with_reducible refine Below.setCell ?_ ?_ _) | (refine Below.via ?_ (by assumption) ?_) | go_size))); exact h5.size)))) | (go_at_call 37; refine (aw13s _ _ (LW.out.later (by go_split_ands; (repeat' (first | (with_reducible exact Below.refl _ _) | (with_reducible assumption) | (with_reducible refine Below.alloc ?_ ?_ _) | (with_reducible refine Below.drew ?_) | (with_reducible refine Below.drewN' ?_ _) | (with_reducible refine Below.setCell ?_ ?_ _) | (refine Below.via ?_ (by assumption) ?_) | go_size)))).env (by first | exact sl_at _ [(vI (1)), vN, (vI (4))] 27 _ (by simp) (by decide) | exact (sl_at _ [(vI (1)), vN, (vI (4))] 27 _ (by simp) (by decide)).alloc _)).mono ?_; rintro e wC ⟨rfl, hbwC⟩; (obtain ⟨hcwC, hfwC⟩ := bfacts hbwC; have hzwC := hbwC.size; (try simp only [World.size_alloc, World.size_setCell, World.size_drew] at hzwC); (try have hpwC : 0 < wC.heap.size := by omega); (try have : WS.heap.size < wC.heap.size := by omega); (try have : WS.heap.size + 1 < wC.heap.size := by omega); (try have : WS.heap.size + 1 + 1 < wC.heap.size := by omega); (try have : WS.heap.size + 1 + 1 + 1 < wC.heap.size := by omega); (try have : WS.heap.size + 1 + 1 + 1 + 1 < wC.heap.size := by omega); (try have : WS.heap.size + 1 + 1 + 1 + 1 + 1 < wC.heap.size := by omega); (try have : WS.heap.size < wC.heap.size + 1 := by omega); (try have : WS.heap.size + 1 < wC.heap.size + 1 := by omega); (try have : WS.heap.size + 1 + 1 < wC.heap.size + 1 := by omega); (try have : WS.heap.size + 1 + 1 + 1 < wC.heap.size + 1 := by omega); (try have : WS.heap.size + 1 + 1 + 1 + 1 < wC.heap.size + 1 := by omega); (try have : wA.heap.size < wC.heap.size := by omega); (try have : wA.heap.size + 1 < wC.heap.size := by omega); (try have : wA.heap.size + 1 + 1 < wC.heap.size := by omega); (try have : wA.heap.size + 1 + 1 + 1 < wC.heap.size := by omega); (try have : wA.heap.size + 1 + 1 + 1 + 1 < wC.heap.size := by omega); (try have : wA.heap.size + 1 + 1 + 1 + 1 + 1 < wC.heap.size := by omega); (try have : wA.heap.size < wC.heap.size + 1 := by omega); (try have : wA.heap.size + 1 < wC.heap.size + 1 := by omega); (try have : wA.heap.size + 1 + 1 < wC.heap.size + 1 := by omega); (try have : wA.heap.size + 1 + 1 + 1 < wC.heap.size + 1 := by omega); (try have : wA.heap.size + 1 + 1 + 1 + 1 < wC.heap.size + 1 := by omega); (try have : wB.heap.size < wC.heap.size := by omega); (try have : wB.heap.size + 1 < wC.heap.size := by omega); (try have : wB.heap.size + 1 + 1 < wC.heap.size := by omega); (try have : wB.heap.size + 1 + 1 + 1 < wC.heap.size := by omega); (try have : wB.heap.size + 1 + 1 + 1 + 1 < wC.heap.size := by omega); (try have : wB.heap.size + 1 + 1 + 1 + 1 + 1 < wC.heap.size := by omega); (try have : wB.heap.size < wC.heap.size + 1 := by omega); (try have : wB.heap.size + 1 < wC.heap.size + 1 := by omega); (try have : wB.heap.size + 1 + 1 < wC.heap.size + 1 := by omega); (try have : wB.heap.size + 1 + 1 + 1 < wC.heap.size + 1 := by omega); (try have : wB.heap.size + 1 + 1 + 1 + 1 < wC.heap.size + 1 := by omega); (have hswC : WS.heap.size ≤ wC.heap.size := by (go_split_ands; have h5 : Below WS.heap.size WS wC := (by (repeat' (first | (with_reducible exact Below.refl _ _) | (with_reducible assumption) | (with_reducible refine Below.alloc ?_ ?_ _) | (with_reducible refine Below.drew ?_) | (with_reducible refine Below.drewN' ?_ _) | (with_reducible refine Below.setCell ?_ ?_ _) | (refine Below.via ?_ (by assumption) ?_) | go_size))); exact h5.size)))))
    all_goals (go_wp2_with fail; go_meet)
    all_goals first | exact ⟨_, rfl, rfl, Lib.hid ((LW.out.later (by go_split_ands; (repeat' (first | (with_reducible exact Below.refl _ _) | (with_reducible assumption) | (with_reducible refine Below.alloc ?_ ?_ _) | (with_reducible refine Below.drew ?_) | (with_reducible refine Below.drewN' ?_ _) | (with_reducible refine Below.setCell ?_ ?_ _) | (refine Below.via ?_ (by assumption) ?_) | go_size)))).push (vI (5)))⟩ | exact ⟨_, rfl, rfl, Lib.hid (AW.put (u := vN) LW.out (by go_split_ands; (repeat' (first | (with_reducible exact Below.refl _ _) | (with_reducible assumption) | (with_reducible refine Below.alloc ?_ ?_ _) | (with_reducible refine Below.drew ?_) | (with_reducible refine Below.drewN' ?_ _) | (with_reducible refine Below.setCell ?_ ?_ _) | (refine Below.via ?_ (by assumption) ?_) | go_size))) (by omega) (by repeat (first | exact blk_new _ _ _ | exact blk_at _ _ _ (by simp) | refine blk_alloc ?_ _ | refine blk_later ?_ (by assumption))) (vI (5)))⟩
  case rest =>
  obtain ⟨g28, rfl, rfl, L28⟩ := hcut
  clear LW gl p0 p1 p2 q0 q1 q2 r0 r1 r2 z0 z1 z2 zz
  obtain ⟨⟨p0, p1, p2⟩, ⟨q0, q1, q2⟩, ⟨r0, r1, r2⟩, z0, z1, z2, zz⟩ := L28.out.cells
  go_wp2_with fail
  refine wp_region_later (by kernel_rfl) (by kernel_rfl) ?_; (repeat (quiet_step ((first | (go_at_call 57; exact later _ (rInt_any _ _)) | (go_at_call 33; exact later _ (aw14 _ (L28.out.env.later (Later.b _)))))))); refine wpQuiet_nil ?_; intro w' hw'; obtain ⟨⟨w', hb⟩, hw''⟩ := hw'; subst hw''
  have L3 := Lib.hid (L28.out.later hb)
  clear p0 p1 p2 q0 q1 q2 r0 r1 r2 z0 z1 z2 zz
  clear hb L28
  obtain ⟨⟨p0, p1, p2⟩, ⟨q0, q1, q2⟩, ⟨r0, r1, r2⟩, z0, z1, z2, zz⟩ := L3.out.cells
  obtain ⟨⟨c0a, c0b, c0c⟩, _⟩ := L3.out.at_ (List.Mem.head _)
  obtain ⟨⟨c1a, c1b, c1c⟩, _⟩ := L3.out.at_ (List.Mem.tail _ (List.Mem.head _))
  obtain ⟨⟨c2a, c2b, c2c⟩, _⟩ := L3.out.at_ (List.Mem.tail _ (List.Mem.tail _ (List.Mem.head _)))
  obtain ⟨⟨c3a, c3b, c3c⟩, _⟩ := L3.out.at_ (List.Mem.tail _ (List.Mem.tail _ (List.Mem.tail _ (List.Mem.head _))))
  obtain ⟨⟨c4a, c4b, c4c⟩, _⟩ := L3.out.at_ (List.Mem.tail _ (List.Mem.tail _ (List.Mem.tail _ (List.Mem.tail _ (List.Mem.head _)))))
  obtain ⟨⟨c5a, c5b, c5c⟩, _⟩ := L3.out.at_ (List.Mem.tail _ (List.Mem.tail _ (List.Mem.tail _ (List.Mem.tail _ (List.Mem.tail _ (List.Mem.head _))))))
  obtain ⟨⟨c6a, c6b, c6c⟩, _⟩ := L3.out.at_ (List.Mem.tail _ (List.Mem.tail _ (List.Mem.tail _ (List.Mem.tail _ (List.Mem.tail _ (List.Mem.tail _ (List.Mem.head _)))))))
  obtain ⟨⟨c7a, c7b, c7c⟩, _⟩ := L3.out.at_ (List.Mem.tail _ (List.Mem.tail _ (List.Mem.tail _ (List.Mem.tail _ (List.Mem.tail _ (List.Mem.tail _ (List.Mem.tail _ (List.Mem.head _))))))))
  obtain ⟨⟨c8a, c8b, c8c⟩, _⟩ := L3.out.at_ (List.Mem.tail _ (List.Mem.tail _ (List.Mem.tail _ (List.Mem.tail _ (List.Mem.tail _ (List.Mem.tail _ (List.Mem.tail _ (List.Mem.tail _ (List.Mem.head _)))))))))
  obtain ⟨⟨c9a, c9b, c9c⟩, _⟩ := L3.out.at_ (List.Mem.tail _ (List.Mem.tail _ (List.Mem.tail _ (List.Mem.tail _ (List.Mem.tail _ (List.Mem.tail _ (List.Mem.tail _ (List.Mem.tail _ (List.Mem.tail _ (List.Mem.head _))))))))))
  obtain ⟨⟨c10a, c10b, c10c⟩, _⟩ := L3.out.at_ (List.Mem.tail _ (List.Mem.tail _ (List.Mem.tail _ (List.Mem.tail _ (List.Mem.tail _ (List.Mem.tail _ (List.Mem.tail _ (List.Mem.tail _ (List.Mem.tail _ (List.Mem.tail _ (List.Mem.head _)))))))))))
  obtain ⟨⟨c11a, c11b, c11c⟩, _⟩ := L3.out.at_ (List.Mem.tail _ (List.Mem.tail _ (List.Mem.tail _ (List.Mem.tail _ (List.Mem.tail _ (List.Mem.tail _ (List.Mem.tail _ (List.Mem.tail _ (List.Mem.tail _ (List.Mem.tail _ (List.Mem.tail _ (List.Mem.head _))))))))))))
  replace c0a : w'.cell? ⟨g28, 0, none⟩ = some (.int .i64 1) := c0a
  replace c0b : w'.cell? ⟨g28, 1, none⟩ = some (.int .i64 5) := c0b
  replace c0c : w'.cell? ⟨g28, 2, none⟩ = some (.string ⟨#[]⟩) := c0c
  have s0 : g28 < w'.heap.size := blk_lt (L3.out.all _ (List.Mem.head _))
  replace c1a : w'.cell? ⟨w27.heap.size, 0, none⟩ = some (.int .i64 3) := c1a
  replace c1b : w'.cell? ⟨w27.heap.size, 1, none⟩ = some (.int .i64 1) := c1b
  replace c1c : w'.cell? ⟨w27.heap.size, 2, none⟩ = some (.string ⟨#[]⟩) := c1c
  have s1 : w27.heap.size < w'.heap.size := blk_lt (L3.out.all _ (List.Mem.tail _ (List.Mem.head _)))
  replace c2a : w'.cell? ⟨g24, 0, none⟩ = some (.int .i64 0) := c2a
  replace c2b : w'.cell? ⟨g24, 1, none⟩ = some (.int .i64 0) := c2b
  replace c2c : w'.cell? ⟨g24, 2, none⟩ = some (.string ⟨#[]⟩) := c2c
  have s2 : g24 < w'.heap.size := blk_lt (L3.out.all _ (List.Mem.tail _ (List.Mem.tail _ (List.Mem.head _))))
  replace c3a : w'.cell? ⟨w23.heap.size, 0, none⟩ = some (.int .i64 3) := c3a
  replace c3b : w'.cell? ⟨w23.heap.size, 1, none⟩ = some (.int .i64 1) := c3b
  replace c3c : w'.cell? ⟨w23.heap.size, 2, none⟩ = some (.string ⟨#[]⟩) := c3c
  have s3 : w23.heap.size < w'.heap.size := blk_lt (L3.out.all _ (List.Mem.tail _ (List.Mem.tail _ (List.Mem.tail _ (List.Mem.head _)))))
  replace c4a : w'.cell? ⟨w22.heap.size, 0, none⟩ = some (.int .i64 2) := c4a
  replace c4b : w'.cell? ⟨w22.heap.size, 1, none⟩ = some (.int .i64 0) := c4b
  replace c4c : w'.cell? ⟨w22.heap.size, 2, none⟩ = some (.string ⟨#[105, 116, 39, 115]⟩) := c4c
  have s4 : w22.heap.size < w'.heap.size := blk_lt (L3.out.all _ (List.Mem.tail _ (List.Mem.tail _ (List.Mem.tail _ (List.Mem.tail _ (List.Mem.head _))))))
  replace c5a : w'.cell? ⟨w19.heap.size, 0, none⟩ = some (.int .i64 2) := c5a
  replace c5b : w'.cell? ⟨w19.heap.size, 1, none⟩ = some (.int .i64 0) := c5b
  replace c5c : w'.cell? ⟨w19.heap.size, 2, none⟩ = some (.string ⟨#[98, 99]⟩) := c5c
  have s5 : w19.heap.size < w'.heap.size := blk_lt (L3.out.all _ (List.Mem.tail _ (List.Mem.tail _ (List.Mem.tail _ (List.Mem.tail _ (List.Mem.tail _ (List.Mem.head _)))))))
  replace c6a : w'.cell? ⟨w15.heap.size, 0, none⟩ = some (.int .i64 3) := c6a
  replace c6b : w'.cell? ⟨w15.heap.size, 1, none⟩ = some (.int .i64 1) := c6b
  replace c6c : w'.cell? ⟨w15.heap.size, 2, none⟩ = some (.string ⟨#[]⟩) := c6c
  have s6 : w15.heap.size < w'.heap.size := blk_lt (L3.out.all _ (List.Mem.tail _ (List.Mem.tail _ (List.Mem.tail _ (List.Mem.tail _ (List.Mem.tail _ (List.Mem.tail _ (List.Mem.head _))))))))
  replace c7a : w'.cell? ⟨w12.heap.size, 0, none⟩ = some (.int .i64 1) := c7a
  replace c7b : w'.cell? ⟨w12.heap.size, 1, none⟩ = some (.int .i64 (-1)) := c7b
  replace c7c : w'.cell? ⟨w12.heap.size, 2, none⟩ = some (.string ⟨#[]⟩) := c7c
  have s7 : w12.heap.size < w'.heap.size := blk_lt (L3.out.all _ (List.Mem.tail _ (List.Mem.tail _ (List.Mem.tail _ (List.Mem.tail _ (List.Mem.tail _ (List.Mem.tail _ (List.Mem.tail _ (List.Mem.head _)))))))))
  replace c8a : w'.cell? ⟨w9.heap.size, 0, none⟩ = some (.int .i64 1) := c8a
  replace c8b : w'.cell? ⟨w9.heap.size, 1, none⟩ = some (.int .i64 (-3)) := c8b
  replace c8c : w'.cell? ⟨w9.heap.size, 2, none⟩ = some (.string ⟨#[]⟩) := c8c
  have s8 : w9.heap.size < w'.heap.size := blk_lt (L3.out.all _ (List.Mem.tail _ (List.Mem.tail _ (List.Mem.tail _ (List.Mem.tail _ (List.Mem.tail _ (List.Mem.tail _ (List.Mem.tail _ (List.Mem.tail _ (List.Mem.head _))))))))))
  replace c9a : w'.cell? ⟨w6.heap.size, 0, none⟩ = some (.int .i64 0) := c9a
  replace c9b : w'.cell? ⟨w6.heap.size, 1, none⟩ = some (.int .i64 0) := c9b
  replace c9c : w'.cell? ⟨w6.heap.size, 2, none⟩ = some (.string ⟨#[]⟩) := c9c
  have s9 : w6.heap.size < w'.heap.size := blk_lt (L3.out.all _ (List.Mem.tail _ (List.Mem.tail _ (List.Mem.tail _ (List.Mem.tail _ (List.Mem.tail _ (List.Mem.tail _ (List.Mem.tail _ (List.Mem.tail _ (List.Mem.tail _ (List.Mem.head _)))))))))))
  replace c10a : w'.cell? ⟨w5.heap.size, 0, none⟩ = some (.int .i64 3) := c10a
  replace c10b : w'.cell? ⟨w5.heap.size, 1, none⟩ = some (.int .i64 1) := c10b
  replace c10c : w'.cell? ⟨w5.heap.size, 2, none⟩ = some (.string ⟨#[]⟩) := c10c
  have s10 : w5.heap.size < w'.heap.size := blk_lt (L3.out.all _ (List.Mem.tail _ (List.Mem.tail _ (List.Mem.tail _ (List.Mem.tail _ (List.Mem.tail _ (List.Mem.tail _ (List.Mem.tail _ (List.Mem.tail _ (List.Mem.tail _ (List.Mem.tail _ (List.Mem.head _))))))))))))
  replace c11a : w'.cell? ⟨w4.heap.size, 0, none⟩ = some (.int .i64 3) := c11a
  replace c11b : w'.cell? ⟨w4.heap.size, 1, none⟩ = some (.int .i64 0) := c11b
  replace c11c : w'.cell? ⟨w4.heap.size, 2, none⟩ = some (.string ⟨#[]⟩) := c11c
  have s11 : w4.heap.size < w'.heap.size := blk_lt (L3.out.all _ (List.Mem.tail _ (List.Mem.tail _ (List.Mem.tail _ (List.Mem.tail _ (List.Mem.tail _ (List.Mem.tail _ (List.Mem.tail _ (List.Mem.tail _ (List.Mem.tail _ (List.Mem.tail _ (List.Mem.tail _ (List.Mem.head _)))))))))))))
  go_wp2_with fail
  refine (aw15 _ L3.out.env).mono ?_; rintro e v0 ⟨rfl, hv0⟩
  have M0 := Lib.hid (L3.out.later hv0)
  clear p0 p1 p2 q0 q1 q2 r0 r1 r2 z0 z1 z2 zz
  clear hv0 L3
  clear c0a c0b c0c s0
  clear c1a c1b c1c s1
  clear c2a c2b c2c s2
  clear c3a c3b c3c s3
  clear c4a c4b c4c s4
  clear c5a c5b c5c s5
  clear c6a c6b c6c s6
  clear c7a c7b c7c s7
  clear c8a c8b c8c s8
  clear c9a c9b c9c s9
  clear c10a c10b c10c s10
  clear c11a c11b c11c s11
  obtain ⟨⟨p0, p1, p2⟩, ⟨q0, q1, q2⟩, ⟨r0, r1, r2⟩, z0, z1, z2, zz⟩ := M0.out.cells
  go_wp2_with fail
  refine (aw16 _ M0.out.env).mono ?_; rintro e v1 ⟨rfl, hv1⟩
  have M1 := Lib.hid (M0.out.later hv1)
  clear p0 p1 p2 q0 q1 q2 r0 r1 r2 z0 z1 z2 zz
  clear hv1 M0
  obtain ⟨⟨p0, p1, p2⟩, ⟨q0, q1, q2⟩, ⟨r0, r1, r2⟩, z0, z1, z2, zz⟩ := M1.out.cells
  go_wp2_with fail
  refine (aw17 _ M1.out.env).mono ?_; rintro e v2 ⟨rfl, hv2⟩
  have M2 := Lib.hid (M1.out.later hv2)
  clear p0 p1 p2 q0 q1 q2 r0 r1 r2 z0 z1 z2 zz
  clear hv2 M1
  obtain ⟨⟨p0, p1, p2⟩, ⟨q0, q1, q2⟩, ⟨r0, r1, r2⟩, z0, z1, z2, zz⟩ := M2.out.cells
  go_wp2_with fail
  refine (aw18 _ M2.out.env).mono ?_; rintro e v3 ⟨rfl, hv3⟩
  have M3 := Lib.hid (M2.out.later hv3)
  clear p0 p1 p2 q0 q1 q2 r0 r1 r2 z0 z1 z2 zz
  clear hv3 M2
  obtain ⟨⟨p0, p1, p2⟩, ⟨q0, q1, q2⟩, ⟨r0, r1, r2⟩, z0, z1, z2, zz⟩ := M3.out.cells
  go_wp2_with fail
  refine (aw19 _ M3.out.env).mono ?_; rintro e v4 ⟨rfl, hv4⟩
  have M4 := Lib.hid (M3.out.later hv4)
  clear p0 p1 p2 q0 q1 q2 r0 r1 r2 z0 z1 z2 zz
  clear hv4 M3
  obtain ⟨⟨p0, p1, p2⟩, ⟨q0, q1, q2⟩, ⟨r0, r1, r2⟩, z0, z1, z2, zz⟩ := M4.out.cells
  go_wp2_with fail
  refine (aw20 _ M4.out.env).mono ?_; rintro e v5 ⟨rfl, hv5⟩
  have M5 := Lib.hid (M4.out.later hv5)
  clear p0 p1 p2 q0 q1 q2 r0 r1 r2 z0 z1 z2 zz
  clear hv5 M4
  obtain ⟨⟨p0, p1, p2⟩, ⟨q0, q1, q2⟩, ⟨r0, r1, r2⟩, z0, z1, z2, zz⟩ := M5.out.cells
  go_wp2_with fail
  refine (aw21 _ M5.out.env).mono ?_; rintro e v6 ⟨rfl, hv6⟩
  have M6 := Lib.hid (M5.out.later hv6)
  clear p0 p1 p2 q0 q1 q2 r0 r1 r2 z0 z1 z2 zz
  clear hv6 M5
  obtain ⟨⟨p0, p1, p2⟩, ⟨q0, q1, q2⟩, ⟨r0, r1, r2⟩, z0, z1, z2, zz⟩ := M6.out.cells
  go_wp2_with fail
  refine (aw22 _ M6.out.env).mono ?_; rintro e v7 ⟨rfl, hv7⟩
  have M7 := Lib.hid (M6.out.later hv7)
  clear p0 p1 p2 q0 q1 q2 r0 r1 r2 z0 z1 z2 zz
  clear hv7 M6
  obtain ⟨⟨p0, p1, p2⟩, ⟨q0, q1, q2⟩, ⟨r0, r1, r2⟩, z0, z1, z2, zz⟩ := M7.out.cells
  go_wp2_with fail
  refine (aw23 _ M7.out.env).mono ?_; rintro e v8 ⟨rfl, hv8⟩
  have M8 := Lib.hid (M7.out.later hv8)
  clear p0 p1 p2 q0 q1 q2 r0 r1 r2 z0 z1 z2 zz
  clear hv8 M7
  obtain ⟨⟨p0, p1, p2⟩, ⟨q0, q1, q2⟩, ⟨r0, r1, r2⟩, z0, z1, z2, zz⟩ := M8.out.cells
  go_wp2_with fail
  go_ret
  exact ⟨rfl, M8.out.b⟩
end Go.Proofs.YtpmfpfkahanlaaaGreatDoor
