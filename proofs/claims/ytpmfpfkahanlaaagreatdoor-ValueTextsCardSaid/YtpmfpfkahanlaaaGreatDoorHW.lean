/- Words for the laws' walks. -/
import Derived.Test.YtpmfpfkahanlaaaGreatDoorHI
import Derived.Test.YtpmfpfkahanlaaaGreatDoorHD
namespace Go.Proofs.YtpmfpfkahanlaaaGreatDoor
open Go.RowKit
set_option linter.unusedSimpArgs false
set_option linter.unusedVariables false

theorem kbin {op : List UInt8} {a b r : V} {x : Int} (h : vBinary op a b = (r, x)) (w : World) (hE : Env w) :
    Calls Tryz.prog 27 #[.string ⟨op.toArray⟩, (.agg #[.int .i64 (a).k, .int .i64 (a).n, .string ⟨List.toArray (a).t⟩]), (.agg #[.int .i64 (b).k, .int .i64 (b).n, .string ⟨List.toArray (b).t⟩])] w fun e w' => e = .returned (.tuple #[(.agg #[.int .i64 (r).k, .int .i64 (r).n, .string ⟨List.toArray (r).t⟩]), .int .i64 x]) ∧ Below w.heap.size w w' := by
  have := binary_any op a b w hE.nul
  rw [h] at this
  exact this
theorem kun {op : List UInt8} {a r : V} {x : Int} (h : vUnary op a = (r, x)) (w : World) (hE : Env w) :
    Calls Tryz.prog 25 #[.string ⟨op.toArray⟩, (.agg #[.int .i64 (a).k, .int .i64 (a).n, .string ⟨List.toArray (a).t⟩])] w fun e w' => e = .returned (.tuple #[(.agg #[.int .i64 (r).k, .int .i64 (r).n, .string ⟨List.toArray (r).t⟩]), .int .i64 x]) ∧ Below w.heap.size w w' := by
  have := unary_any op a.k a.n a.t w hE.nul.n0 hE.nul.n1 hE.nul.n2 hE.nul.pos
  rw [show (⟨a.k, a.n, a.t⟩ : V) = a from rfl, h] at this
  exact this
theorem ktrue {a : V} {b : Bool} (h : sTrue a = b) (w : World) :
    Calls Tryz.prog 17 #[(.agg #[.int .i64 (a).k, .int .i64 (a).n, .string ⟨List.toArray (a).t⟩])] w fun e w' => e = .returned (.bool b) ∧ Below w.heap.size w w' := by
  have := true_any a.k a.n a.t w
  rw [show (⟨a.k, a.n, a.t⟩ : V) = a from rfl, h] at this
  exact this
theorem kstr (t : List UInt8) (w : World) : Calls Tryz.prog 54 #[.string ⟨t.toArray⟩] w fun e w' => e = .returned (.agg #[.int .i64 (2), .int .i64 (0), .string ⟨List.toArray (t)⟩]) ∧ Below w.heap.size w w' := rString_any t w
/-- Values that lie in blocks of the call's own. -/
structure BW (w0 w : World) (l : List (Nat × V)) : Prop where
  all : ∀ p ∈ l, Blk w p.1 27 (cellsV p.2)
  env : Env w
  b : Below w0.heap.size w0 w
theorem BW.start {w : World} (hE : Env w) : BW w w [] := ⟨fun p hp => absurd hp (by simp), hE, Below.refl _ _⟩
theorem BW.later {w0 w w' : World} {l : List (Nat × V)} (h : BW w0 w l) (hb : Below w.heap.size w w') : BW w0 w' l :=
  ⟨fun p hp => blk_later (h.all p hp) hb, h.env.later hb, h.b.trans (hb.mono h.b.size)⟩
theorem BW.alloc {w0 w : World} {l : List (Nat × V)} (h : BW w0 w l) (o : Obj) : BW w0 (w.alloc o) l := h.later ((Below.refl _ _).alloc (Nat.le_refl _) _)
theorem BW.push {w0 w : World} {l : List (Nat × V)} (h : BW w0 w l) (v : V) {g : Nat} (hg : g = w.heap.size) : BW w0 (w.alloc (.cells (cellsV v) 27)) ((g, v) :: l) := by
  subst hg
  have h' := h.alloc (.cells (cellsV v) 27)
  exact ⟨fun p hp => (List.mem_cons.1 hp).elim (fun e => by subst e; exact blk_new w 27 _) (h'.all p), h'.env, h'.b⟩
theorem BW.at_ {w0 w : World} {g : Nat} {v : V} {l : List (Nat × V)} (h : BW w0 w l) (hm : (g, v) ∈ l) : (w.cell? ⟨g, 0, none⟩ = some (.int .i64 v.k) ∧ w.cell? ⟨g, 1, none⟩ = some (.int .i64 v.n) ∧ w.cell? ⟨g, 2, none⟩ = some (.string ⟨v.t.toArray⟩)) ∧ g < w.heap.size :=
  ⟨⟨blk_cell (h.all _ hm) 0, blk_cell (h.all _ hm) 1, blk_cell (h.all _ hm) 2⟩, blk_lt (h.all _ hm)⟩
theorem BW.drop {w0 w : World} {x : Nat × V} {l : List (Nat × V)} (h : BW w0 w (x :: l)) : BW w0 w l := ⟨fun p hp => h.all p (List.mem_cons_of_mem _ hp), h.env, h.b⟩
theorem kord {a b : V} {n x : Int} (h : vOrder a b = (n, x)) (w : World) (hE : Env w) :
    Calls Tryz.prog 33 #[(.agg #[.int .i64 (a).k, .int .i64 (a).n, .string ⟨List.toArray (a).t⟩]), (.agg #[.int .i64 (b).k, .int .i64 (b).n, .string ⟨List.toArray (b).t⟩])] w fun e w' => e = .returned (.tuple #[.int .i64 n, .int .i64 x]) ∧ Below w.heap.size w w' := by
  have := order_any a b w hE.nul
  rw [h] at this
  exact this
theorem kval {a : V} {b : Bool} (h : sValid a = b) (w : World) (ht : a.t.length ≤ 140737488355328) :
    Calls Tryz.prog 16 #[(.agg #[.int .i64 (a).k, .int .i64 (a).n, .string ⟨List.toArray (a).t⟩])] w fun e w' => e = .returned (.bool b) ∧ Below w.heap.size w w' := by
  have := rValid_any a.k a.n a.t w ht
  rw [show (⟨a.k, a.n, a.t⟩ : V) = a from rfl, h] at this
  exact this
theorem kfew (l : List V) (n : Nat) (hn : n = l.length) (w : World) (b : Nat) (hb : b = w.heap.size) (hl : l.length ≤ 1000) (ht : ∀ v ∈ l, v.t.length ≤ 140737488355328) :
    Calls Tryz.prog 13 #[.slice (some ⟨b, 0, none⟩) n n] (w.alloc (.cells (l.flatMap encL).toArray 27)) fun e w' => ∃ q : Bool, e = .returned (.bool q) ∧ Below (w.alloc (.cells (l.flatMap encL).toArray 27)).heap.size (w.alloc (.cells (l.flatMap encL).toArray 27)) w' := by
  subst hn hb
  exact (few_any _ _ _ l _ (sl_new w l 27 hl) ht).mono fun _ _ ⟨q, h1, h2, _⟩ => ⟨q, h1, h2⟩
end Go.Proofs.YtpmfpfkahanlaaaGreatDoor
