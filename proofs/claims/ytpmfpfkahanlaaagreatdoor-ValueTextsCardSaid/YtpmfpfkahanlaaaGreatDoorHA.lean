/- The values of the program as Lean data, and what the functions of package value compute, in plain Lean. -/
import Derived.Lib.Bytealg
import Derived.Lib.ItoaNum
import Derived.Lib.Replace
import Derived.Test.YtpmfpfkahanlaaaGreatDoorProg
import Derived.WalkKit
import Derived.Handy
import Derived.Lib.Hide
import Derived.Deep.Light
import Derived.Deep.QuietTactic
import Derived.BigQuiet
import Derived.Laws.StructEq
import Derived.WideMake
import Derived.Maps.Own
import Derived.Lib.AtoiAllCases
import Derived.Lib.Case
import Derived.Lib.Small
import Derived.Lib.ItoaLen
import Derived.Shelf.Strings.Builder1
import Derived.Shelf.Strings.Builder2
import Derived.Shelf.Strings.OnBuilder
import Derived.Shelf.Small.Utf8
import Derived.Shelf.Small.Strs
import Derived.Shelf.Small.Wraps
import Derived.Shelf.Strings.BuilderF
import Derived.Shelf.Strings.BuilderK
import Derived.Shelf.Strings.BuilderRune
import Derived.Shelf.Strconv.Atoi
import Derived.Shelf.Strconv.Itoa0
import Derived.Shelf.Strconv.Itoa1
import Derived.Shelf.LaysM
import Derived.Shelf.Strconv.Itoa2
import Derived.Shelf.Strconv.Itoa3
import Derived.Shelf.Strconv.AtoiErrFast
import Derived.Shelf.Strconv.ParseIntEmpty
import Derived.Shelf.Strconv.AtoiFail
import Derived.Shelf.Strconv.Clone
import Derived.Shelf.Strconv.SyntaxError
import Derived.Shelf.LaysC
import Derived.Shelf.Strconv.ToError
import Derived.Shelf.Strconv.Lower
import Derived.Shelf.Strconv.ParseUint10
import Derived.Shelf.Strconv.ParseUint10Empty
import Derived.Shelf.Strconv.ParseUint10Any
import Derived.Shelf.Strconv.ParseInt10
import Derived.Shelf.Strconv.AtoiLong
import Derived.Shelf.Strconv.AtoiInnerAll
import Derived.Shelf.Strconv.RangeError
import Derived.Shelf.Strconv.ToErrorRange
import Derived.Shelf.Strconv.AtoiAll
import Derived.Shelf.Strconv.ErrVarAll
import Derived.Shelf.Strings.Search1
import Derived.Shelf.Strings.Search2
import Derived.Shelf.Strings.Search3
import Derived.Shelf.Strings.Count
import Derived.Shelf.Strings.Shaped
import Derived.Shelf.GgClosure.StringsIndexFunc
import Derived.Ground.GgwProg
import Derived.Shelf.GgClosure.StringsIndexFuncTop
import Derived.Shelf.GgClosure.StringsRunes
import Derived.Shelf.Strings.Split
import Derived.Shelf.Strings.Fields
import Derived.Shelf.Strings.Replace
import Derived.Shelf.Strings.SplitShaped
import Derived.Shelf.Unicode.Latin
import Derived.Shelf.Unicode.DecodeSlow
import Derived.Shelf.Unicode.DecodeAny
import Derived.Shelf.Unicode.Is16White
import Derived.Shelf.Unicode.IsSpaceAny
import Derived.Shelf.Unicode.Is16WhiteD
import Derived.Shelf.Unicode.IsSpaceAnyD
import Derived.Shelf.Strings.FieldsAny
import Derived.Shelf.Strings.FieldsFuncAny
import Derived.Shelf.Unicode.CaseLookup
import Derived.Shelf.Unicode.CaseConvert
import Derived.Shelf.Unicode.CaseTo
import Derived.Shelf.Unicode.CaseLaid
import Derived.Shelf.Strings.MapAny
import Derived.Shelf.Strings.CaseAny
import Derived.Shelf.Unicode.Is16Any
import Derived.Shelf.Unicode.Is32Any
import Derived.Shelf.Unicode.ExclAny
import Derived.Shelf.Strings.FuncGrows
import Derived.Shelf.Slices.Turned
import Derived.Shelf.SlicesQ.IndexFunc
import Derived.Shelf.SlicesQ.Contains
import Derived.Shelf.SlicesQ.Equal
import Derived.Ground.SlgqProg
import Derived.Ground.SlgfProg
namespace Go.Proofs.YtpmfpfkahanlaaaGreatDoor

structure V where
  k : Int
  n : Int
  t : List UInt8

def bn (b : Bool) : Int := if b then 1 else 0
def vN : V := ⟨0, 0, []⟩
def vI (n : Int) : V := ⟨1, n, []⟩
def vS (t : List UInt8) : V := ⟨2, 0, t⟩
def vB (b : Bool) : V := ⟨3, bn b, []⟩
def veq (a b : V) : Bool := a.k == b.k && (a.n == b.n && a.t == b.t)

def sIsInt (n : Int) : Bool := decide (-1099511627776 ≤ n) && decide (n ≤ 1099511627776)
def sIsStr (t : List UInt8) : Bool := decide (t.length ≤ 200) && t.all fun c => decide (32 ≤ c.toNat) && decide (c.toNat ≤ 126)
def sValid (v : V) : Bool :=
  if v.k == 0 then veq v vN
  else if v.k == 1 then v.t == [] && sIsInt v.n
  else if v.k == 2 then v.n == 0 && sIsStr v.t
  else if v.k == 3 then v.t == [] && (v.n == 0 || v.n == 1)
  else false
def sTrue (v : V) : Bool := veq v (vB true)
def sFits (v : V) (k : Int) : Bool := v.k == 0 || v.k == k
def sWhole (n : Int) : V × Int := if sIsInt n then (vI n, 0) else (vN, 21)
def sWritten (t : List UInt8) : V × Int := if (200 : Int) < (t.length : Int) then (vN, 21) else (vS t, 0)
def sLogic (op : List UInt8) (a b : V) : V :=
  if veq a (vB (op == [111, 114])) || veq b (vB (op == [111, 114])) then vB (op == [111, 114])
  else if a.k == 0 || b.k == 0 then vN
  else vB (op == [97, 110, 100])
def ltB (a b : List UInt8) : Bool := Op.bytesLess a b
def sCmp (a b : V) : Int := if a.k == 2 then Lib.compareBytes a.t b.t else if a.n < b.n then -1 else if b.n < a.n then 1 else 0
def sCompared (op : List UInt8) (c : Int) : Bool :=
  if op == [61] then c == 0 else if op == [60, 62] then c != 0 else if op == [60] then decide (c < 0) else if op == [60, 61] then decide (c ≤ 0) else if op == [62] then decide (0 < c) else decide (0 ≤ c)
/-- ref.Less. -/
def rLess (a b : V) : Int := if (a.k == 2 && ltB a.t b.t) || (a.k != 2 && decide (a.n < b.n)) then -1 else if veq a b then 0 else 1
def w64 (n : Int) : Int := (n + 9223372036854775808) % 18446744073709551616 - 9223372036854775808
def sArith (op : List UInt8) (a b : Int) : V × Int :=
  if op == [43] then sWhole (a + b) else if op == [45] then sWhole (a - b)
  else if op == [42] then (if a != 0 && decide (2199023255552 / max a (-a) < max b (-b)) then (vN, 21) else sWhole (w64 (a * b)))
  else if b == 0 then (vN, 22) else if op == [47] then sWhole (w64 (a.tdiv b)) else sWhole (a.tmod b)
/-- ref.arithmetic. -/
def rArith (op : List UInt8) (a b : Int) : V × Int :=
  if op == [43] then sWhole (a + b) else if op == [45] then sWhole (a - b)
  else if op == [42] then (if a != 0 && (b != 0 && decide (2199023255552 / max b (-b) < max a (-a))) then (vN, 21) else sWhole (w64 (a * b)))
  else if b == 0 then (vN, 22) else if op == [47] then sWhole (w64 (a.tdiv b)) else sWhole (a.tmod b)
def sUnary (op : List UInt8) (a : V) : V × Int :=
  if !(op == [45] || op == [110, 111, 116]) || !sValid a then (vN, 2)
  else if !sFits a (if op == [45] then 1 else 3) then (vN, 16)
  else if a.k == 0 then (vN, 0)
  else if op == [45] then sWhole (-a.n) else (vB (a.n == 0), 0)
/-- ref.Unary. -/
def rUnary (op : List UInt8) (a : V) : V × Int :=
  if !(op == [45] || op == [110, 111, 116]) || !sValid a then (vN, 2)
  else if a.k == 0 then (a, 0)
  else if op == [45] && a.k == 1 then (vI (-a.n), 0)
  else if op == [110, 111, 116] && a.k == 3 then (vB (a.n == 0), 0)
  else (vN, 16)
def sBefore (c : Int) (a b : V) : Int := if a.k == 0 && b.k == 0 then 0 else if a.k == 0 then 1 else if b.k == 0 then -1 else c
end Go.Proofs.YtpmfpfkahanlaaaGreatDoor

/- like: what a pattern says, over the bytes from behind. -/
namespace Go.Proofs.YtpmfpfkahanlaaaGreatDoor

def mL : List UInt8 → List UInt8 → Bool
  | [], [] => true
  | _ :: _, [] => false
  | [], c :: q => c == 37 && mL [] q
  | x :: u, c :: q => if c == 37 then mL u (c :: q) || mL (x :: u) q else (c == 95 || c == x) && mL u q
termination_by u q => u.length + q.length
def sLike (s p : List UInt8) : Bool := mL s.reverse p.reverse

theorem mL_nn : mL [] [] = true := by rw [mL]
theorem mL_cn (x : UInt8) (u : List UInt8) : mL (x :: u) [] = false := by rw [mL]
theorem mL_nc (c : UInt8) (q : List UInt8) : mL [] (c :: q) = (c == 37 && mL [] q) := by rw [mL]
theorem mL_pc (x : UInt8) (u q : List UInt8) : mL (x :: u) (37 :: q) = (mL u (37 :: q) || mL (x :: u) q) := by rw [mL]; simp
theorem mL_oc (x c : UInt8) (u q : List UInt8) (h : c ≠ 37) : mL (x :: u) (c :: q) = ((c == 95 || c == x) && mL u q) := by
  rw [mL, if_neg (by simpa using h)]
theorem mL_mono (u q : List UInt8) (h : mL u q = true) : mL u (37 :: q) = true := by
  cases u with
  | nil => rw [mL_nc, h]; rfl
  | cons x u => rw [mL_pc, h, Bool.or_true]

/-- The byte at a place is '%'. -/
def pc (p : List UInt8) (i : Nat) : Bool := p[i]? == some 37
/-- What 'skip' makes of a row of places. -/
def sk (p : List UInt8) (f : Nat → Bool) : Nat → Bool
  | 0 => f 0
  | i + 1 => f (i + 1) || (sk p f i && pc p i)
/-- The row of package value's like, behind the bytes u (from behind). -/
def rowA (u p : List UInt8) (i : Nat) : Bool := if pc p i then mL u (37 :: (p.take i).reverse) else mL u (p.take i).reverse
/-- The row of the reference's Like. -/
def rowB (u p : List UInt8) (i : Nat) : Bool := mL u (p.take i).reverse

theorem rev_take_succ (p : List UInt8) (i : Nat) (h : i < p.length) : (p.take (i + 1)).reverse = p[i] :: (p.take i).reverse := by
  rw [List.take_succ_eq_append_getElem h, List.reverse_append]
  rfl
theorem pc_of (p : List UInt8) (i : Nat) (h : i < p.length) : pc p i = (p[i] == 37) := by
  unfold pc; rw [List.getElem?_eq_getElem h]; rfl
theorem pc_out (p : List UInt8) (i : Nat) (h : ¬ i < p.length) : pc p i = false := by
  unfold pc; rw [List.getElem?_eq_none (by omega)]; rfl

/-- The row that the round over the pattern makes, i places done. -/
def nx (c : UInt8) (p : List UInt8) (at_ : Nat → Bool) (i m : Nat) : Bool :=
  (decide (m < i) && at_ m && pc p m) || (match m with
    | 0 => false
    | m' + 1 => decide (m' < i) && at_ m' && !pc p m' && (p[m']? == some 95 || p[m']? == some c))

theorem rowA_start (p : List UInt8) : ∀ i, i ≤ p.length → sk p (fun i => i == 0) i = rowA [] p i
  | 0, _ => by
    unfold sk rowA
    simp only [List.take_zero, List.reverse_nil, mL_nc, mL_nn]
    cases pc p 0 <;> rfl
  | i + 1, h => by
    have hi : i < p.length := by omega
    have ih := rowA_start p i (by omega)
    unfold sk
    rw [ih]
    have e1 : ∀ q, rowA [] p q = mL [] (p.take q).reverse := fun q => by
      unfold rowA
      split
      · rw [mL_nc]; rfl
      · rfl
    rw [e1, e1, rev_take_succ p i hi, mL_nc, pc_of p i hi]
    simp [Bool.and_comm]
theorem rowA_step (c : UInt8) (u p : List UInt8) : ∀ i, i ≤ p.length → sk p (nx c p (rowA u p) p.length) i = rowA (c :: u) p i
  | 0, _ => by
    unfold sk nx
    by_cases h0 : 0 < p.length
    · simp only [decide_eq_true h0, Bool.true_and, Bool.or_false, rowA, List.take_zero, List.reverse_nil]
      cases pc p 0 with
      | true => simp only [if_true, Bool.and_true, mL_pc, mL_cn, Bool.or_false]
      | false => simp [mL_cn]
    · simp only [decide_eq_false h0, Bool.false_and, Bool.or_false, rowA, pc_out p 0 h0, List.take_zero, List.reverse_nil, mL_cn]
      simp
  | i + 1, h => by
    have hi : i < p.length := by omega
    have ih := rowA_step c u p i (by omega)
    unfold sk
    rw [ih]
    have hn : nx c p (rowA u p) p.length (i + 1) = ((rowA u p (i + 1) && pc p (i + 1)) || (rowA u p i && !pc p i && (p[i] == 95 || p[i] == c))) := by
      unfold nx
      by_cases h1 : i + 1 < p.length
      · simp only [decide_eq_true h1, decide_eq_true hi, Bool.true_and, List.getElem?_eq_getElem hi]
        rfl
      · simp only [decide_eq_false h1, decide_eq_true hi, Bool.true_and, Bool.false_and, pc_out p (i + 1) h1, Bool.and_false, List.getElem?_eq_getElem hi]
        rfl
    rw [hn]
    have hp := pc_of p i hi
    have ht := rev_take_succ p i hi
    cases h37 : pc p i with
    | true =>
      rw [h37] at hp
      have e : p[i] = 37 := by simpa using hp.symm
      rw [e] at ht
      have hA : rowA (c :: u) p i = mL (c :: u) (37 :: (p.take i).reverse) := by unfold rowA; rw [h37]; rfl
      cases h2 : pc p (i + 1) with
      | true =>
        have hB : rowA (c :: u) p (i + 1) = mL (c :: u) (37 :: 37 :: (p.take i).reverse) := by unfold rowA; rw [h2, ht]; rfl
        have hC : rowA u p (i + 1) = mL u (37 :: 37 :: (p.take i).reverse) := by unfold rowA; rw [h2, ht]; rfl
        rw [hA, hB, hC, mL_pc c u (37 :: _)]
        simp
      | false =>
        have hB : rowA (c :: u) p (i + 1) = mL (c :: u) (37 :: (p.take i).reverse) := by unfold rowA; rw [h2, ht]; rfl
        rw [hA, hB]
        simp
    | false =>
      rw [h37] at hp
      have e : p[i] ≠ 37 := by simpa using hp.symm
      have hA : rowA u p i = mL u (p.take i).reverse := by unfold rowA; rw [h37]; rfl
      have hm : mL (c :: u) (p[i] :: (p.take i).reverse) = ((p[i] == 95 || p[i] == c) && rowA u p i) := by rw [mL_oc _ _ _ _ e, hA]
      cases h2 : pc p (i + 1) with
      | true =>
        have hB : rowA (c :: u) p (i + 1) = mL (c :: u) (37 :: p[i] :: (p.take i).reverse) := by unfold rowA; rw [h2, ht]; rfl
        have hC : rowA u p (i + 1) = mL u (37 :: p[i] :: (p.take i).reverse) := by unfold rowA; rw [h2, ht]; rfl
        rw [hB, hC, mL_pc, hm]
        simp [Bool.and_comm]
      | false =>
        have hB : rowA (c :: u) p (i + 1) = mL (c :: u) (p[i] :: (p.take i).reverse) := by unfold rowA; rw [h2, ht]; rfl
        rw [hB, hm]
        simp [Bool.and_comm]
end Go.Proofs.YtpmfpfkahanlaaaGreatDoor

/- The names of exceptions: what is computed. -/
namespace Go.Proofs.YtpmfpfkahanlaaaGreatDoor
def sExc (e : Int) : List UInt8 :=
  if e == 22 then [122, 101, 114, 111, 95, 100, 105, 118, 105, 100, 101]
  else if e == 21 || e == 16 || e == 17 then [118, 97, 108, 117, 101, 95, 101, 114, 114, 111, 114]
  else if e == 25 then [116, 111, 111, 95, 109, 97, 110, 121, 95, 114, 111, 119, 115]
  else if e == 4 then [110, 111, 95, 100, 97, 116, 97, 95, 102, 111, 117, 110, 100]
  else if e == 29 then [99, 97, 110, 110, 111, 116, 95, 115, 101, 114, 105, 97, 108, 105, 122, 101]
  else if e == 28 then [100, 101, 97, 100, 108, 111, 99, 107]
  else if e == 26 then [115, 110, 97, 112, 115, 104, 111, 116, 95, 116, 111, 111, 95, 111, 108, 100]
  else if e == 19 then [110, 111, 95, 114, 105, 103, 104, 116, 115]
  else if e == 23 || e == 13 then [110, 111, 116, 95, 118, 97, 108, 105, 100]
  else if e == 20 then [116, 111, 111, 95, 100, 101, 101, 112]
  else if e == 32 then [105, 110, 95, 100, 111, 117, 98, 116]
  else if e == 3 then [110, 111, 95, 114, 111, 111, 109]
  else []
def excL : List (List UInt8) := [[110, 111, 95, 100, 97, 116, 97, 95, 102, 111, 117, 110, 100], [116, 111, 111, 95, 109, 97, 110, 121, 95, 114, 111, 119, 115], [122, 101, 114, 111, 95, 100, 105, 118, 105, 100, 101], [118, 97, 108, 117, 101, 95, 101, 114, 114, 111, 114], [100, 117, 112, 95, 118, 97, 108, 95, 111, 110, 95, 105, 110, 100, 101, 120], [99, 104, 101, 99, 107, 95, 118, 105, 111, 108, 97, 116, 101, 100], [110, 117, 108, 108, 95, 118, 105, 111, 108, 97, 116, 101, 100], [112, 97, 114, 101, 110, 116, 95, 109, 105, 115, 115, 105, 110, 103], [99, 104, 105, 108, 100, 95, 102, 111, 117, 110, 100], [109, 117, 116, 97, 116, 105, 110, 103], [100, 101, 97, 100, 108, 111, 99, 107], [99, 97, 110, 110, 111, 116, 95, 115, 101, 114, 105, 97, 108, 105, 122, 101], [105, 110, 118, 97, 108, 105, 100, 95, 99, 117, 114, 115, 111, 114], [115, 110, 97, 112, 115, 104, 111, 116, 95, 116, 111, 111, 95, 111, 108, 100], [110, 111, 95, 114, 105, 103, 104, 116, 115], [110, 111, 116, 95, 118, 97, 108, 105, 100], [116, 111, 111, 95, 100, 101, 101, 112], [116, 111, 111, 95, 108, 111, 110, 103], [105, 110, 95, 100, 111, 117, 98, 116], [110, 111, 95, 114, 111, 111, 109]]
def idxL : List (List UInt8) → List UInt8 → Nat → Int
  | [], _, _ => -1
  | x :: r, s, i => if x = s then i else idxL r s (i + 1)
def sNum (s : List UInt8) : Int := idxL excL s 0 + 1
def aggL : List (List UInt8) := [[99, 111, 117, 110, 116], [115, 117, 109], [109, 105, 110], [109, 97, 120]]
def hasL (l : List (List UInt8)) (s : List UInt8) : Bool := l.contains s
def sIsAgg (s : List UInt8) : Bool := hasL aggL s
end Go.Proofs.YtpmfpfkahanlaaaGreatDoor

/- Quotes doubled and halved: plain laws on strings.ReplaceAll's list. -/
namespace Go.Proofs.YtpmfpfkahanlaaaGreatDoor
open Go

/-- Each quote doubled. -/
def esc : List UInt8 → List UInt8
  | [] => []
  | c :: r => if c = 39 then 39 :: 39 :: esc r else c :: esc r
/-- Pairs of quotes halved, from the left. -/
def unesc : List UInt8 → List UInt8
  | [] => []
  | [c] => [c]
  | c :: d :: r => if c = 39 ∧ d = 39 then 39 :: unesc r else c :: unesc (d :: r)
theorem pre1 (c : UInt8) (r : List UInt8) : ([39] : List UInt8).isPrefixOf (c :: r) = (c == 39) := by
  by_cases h : c = 39
  · subst h; simp [List.isPrefixOf]
  · have h1 : ((39 : UInt8) == c) = false := by simpa using fun e => h e.symm
    have h2 : (c == 39) = false := by simpa using h
    simp [List.isPrefixOf, h1, h2]
theorem rk_skip (old new : List UInt8) (k : Nat) (b : UInt8) (l : List UInt8) (hp : old.isPrefixOf (b :: l) = false) : Lib.replaceK old new k (b :: l) = b :: Lib.replaceK old new k l := by
  cases k with
  | zero => rfl
  | succ k =>
    have hge := Lib.index_ge l old
    unfold Lib.replaceK
    rw [Lib.index, hp]
    cases hi : (Lib.index l old == -1) with
    | true => simp
    | false =>
      have hne : ¬ Lib.index l old = -1 := by simpa using hi
      have e1 : (Lib.index l old + 1 == -1) = false := by simp; omega
      have e2 : (Lib.index l old + 1).toNat = (Lib.index l old).toNat + 1 := by omega
      simp only [Bool.false_eq_true, if_false, e1, e2, List.take_succ_cons, List.cons_append]
      congr 3
      rw [show (Lib.index l old).toNat + 1 + old.length = (Lib.index l old).toNat + old.length + 1 by omega, List.drop_succ_cons]
theorem rk_hit (old new : List UInt8) (k : Nat) (s : List UInt8) (hp : old.isPrefixOf s = true) (hs : s ≠ []) : Lib.replaceK old new (k + 1) s = new ++ Lib.replaceK old new k (s.drop old.length) := by
  cases s with
  | nil => exact absurd rfl hs
  | cons b l =>
    have hi : Lib.index (b :: l) old = (0 : Nat) := by rw [Lib.index, hp]; rfl
    rw [Lib.replaceK_hit old new k _ 0 hi]
    simp
theorem count_skip (old : List UInt8) (b : UInt8) (l : List UInt8) (hp : old.isPrefixOf (b :: l) = false) (f : Nat) : Lib.countFrom old f (b :: l) = Lib.countFrom old f l := by
  cases f with
  | zero => rfl
  | succ f =>
    have hge := Lib.index_ge l old
    unfold Lib.countFrom
    rw [Lib.index, hp]
    cases hi : (Lib.index l old == -1) with
    | true => simp
    | false =>
      have hne : ¬ Lib.index l old = -1 := by simpa using hi
      have e1 : (Lib.index l old + 1 == -1) = false := by simp; omega
      have e2 : (Lib.index l old + 1).toNat = (Lib.index l old).toNat + 1 := by omega
      simp only [Bool.false_eq_true, if_false, e1, e2]
      rw [show (Lib.index l old).toNat + 1 + old.length = (Lib.index l old).toNat + old.length + 1 by omega, List.drop_succ_cons]
theorem count_hit (old : List UInt8) (s : List UInt8) (f : Nat) (hp : old.isPrefixOf s = true) (hs : s ≠ []) : Lib.countFrom old (f + 1) s = 1 + Lib.countFrom old f (s.drop old.length) := by
  cases s with
  | nil => exact absurd rfl hs
  | cons b l =>
    have hi : Lib.index (b :: l) old = 0 := by rw [Lib.index, hp]; rfl
    rw [Lib.countFrom, hi]
    simp
theorem esc_go : ∀ (s : List UInt8) (f : Nat), s.length < f → Lib.replaceK [39] [39, 39] (Lib.countFrom [39] f s) s = esc s
  | [], f, h => by
    cases f with
    | zero => rfl
    | succ f => rfl
  | b :: l, f, h => by
    by_cases hb : b = 39
    · subst hb
      obtain ⟨f', rfl⟩ : ∃ f', f = f' + 1 := ⟨f - 1, by simp at h; omega⟩
      rw [count_hit _ _ _ (by rw [pre1]; rfl) (by simp), Nat.add_comm, rk_hit _ _ _ _ (by rw [pre1]; rfl) (by simp)]
      simp only [List.length_singleton, List.drop_succ_cons, List.drop_zero]
      rw [esc_go l f' (by simpa using h)]
      rfl
    · have hp : ([39] : List UInt8).isPrefixOf (b :: l) = false := by rw [pre1]; simpa using hb
      rw [count_skip _ _ _ hp, rk_skip _ _ _ _ _ hp, esc_go l f (by simp at h; omega)]
      simp [esc, hb]
theorem esc_eq (t : List UInt8) : Lib.replaceAll t [39] [39, 39] = esc t := by
  unfold Lib.replaceAll Lib.replace
  rw [if_neg (by decide)]
  unfold Lib.replaceNum
  rw [if_pos (.inl (by decide))]
  exact esc_go t _ (Nat.lt_succ_self _)
theorem pre2 (c d : UInt8) (r : List UInt8) : ([39, 39] : List UInt8).isPrefixOf (c :: d :: r) = (c == 39 && d == 39) := by
  by_cases h : c = 39
  · subst h
    by_cases h' : d = 39
    · subst h'; simp [List.isPrefixOf]
    · have h1 : ((39 : UInt8) == d) = false := by simpa using fun e => h' e.symm
      have h2 : (d == 39) = false := by simpa using h'
      simp [List.isPrefixOf, h1, h2]
  · have h1 : ((39 : UInt8) == c) = false := by simpa using fun e => h e.symm
    have h2 : (c == 39) = false := by simpa using h
    simp [List.isPrefixOf, h1, h2]
theorem unesc_go : ∀ (s : List UInt8) (f : Nat), s.length < f → Lib.replaceK [39, 39] [39] (Lib.countFrom [39, 39] f s) s = unesc s
  | [], f, h => by
    cases f with
    | zero => rfl
    | succ f => rfl
  | [c], f, h => by
    have hp : ([39, 39] : List UInt8).isPrefixOf [c] = false := by simp [List.isPrefixOf]
    rw [count_skip _ _ _ hp, rk_skip _ _ _ _ _ hp]
    have := unesc_go [] f (by simp at h; simp; omega)
    rw [this]
    rfl
  | c :: d :: r, f, h => by
    by_cases hb : c = 39 ∧ d = 39
    · obtain ⟨rfl, rfl⟩ := hb
      obtain ⟨f', rfl⟩ : ∃ f', f = f' + 1 := ⟨f - 1, by simp at h; omega⟩
      rw [count_hit _ _ _ (by rw [pre2]; rfl) (by simp), Nat.add_comm, rk_hit _ _ _ _ (by rw [pre2]; rfl) (by simp)]
      simp only [List.length_cons, List.length_nil, List.drop_succ_cons, List.drop_zero]
      rw [unesc_go r f' (by simp at h; omega)]
      simp [unesc]
    · have hp : ([39, 39] : List UInt8).isPrefixOf (c :: d :: r) = false := by
        rw [pre2]
        simpa using hb
      rw [count_skip _ _ _ hp, rk_skip _ _ _ _ _ hp, unesc_go (d :: r) f (by simp at h; simp; omega)]
      rw [unesc, if_neg hb]
theorem unesc_eq (t : List UInt8) : Lib.replaceAll t [39, 39] [39] = unesc t := by
  unfold Lib.replaceAll Lib.replace
  rw [if_neg (by decide)]
  unfold Lib.replaceNum
  rw [if_pos (.inl (by decide))]
  exact unesc_go t _ (Nat.lt_succ_self _)
theorem esc_length (t : List UInt8) : (esc t).length ≤ 2 * t.length := by
  induction t with
  | nil => simp [esc]
  | cons c r ih => unfold esc; split <;> simp <;> omega
end Go.Proofs.YtpmfpfkahanlaaaGreatDoor

/- Words for the walks: what is kept below a block number, and the small functions of package value. -/
namespace Go.Proofs.YtpmfpfkahanlaaaGreatDoor
open Go.RowKit
set_option linter.unusedSimpArgs false
set_option linter.unusedVariables false

theorem bfacts {W w1 : World} (hb : Below W.heap.size W w1) : (∀ b o, b < W.heap.size → w1.cell? ⟨b, o, none⟩ = W.cell? ⟨b, o, none⟩) ∧ (∀ b o, b < W.heap.size → w1.frozen? ⟨b, o, none⟩ = W.frozen? ⟨b, o, none⟩) :=
  ⟨fun b o h => hb.cell (p := ⟨b, o, none⟩) h, fun b o h => hb.frozen (p := ⟨b, o, none⟩) h⟩
theorem Below.via {B B' : Nat} {a b c : World} (h : Below B a b) (k : Below B' b c) (hB : B ≤ B') : Below B a c := h.trans (k.mono hB)
theorem Below.drewN' {B : Nat} {a w : World} (h : Below B a w) (n : Nat) : Below B a (w.drewN n) := ⟨h.os, h.tape, h.output, h.size, h.block⟩
theorem ret_bool {a b : Bool} (h : a = b) : Ending.returned (.bool a) = .returned (.bool b) := by rw [h]
theorem ret_int {a b : Int} (h : a = b) : Ending.returned (.int .i64 a) = .returned (.int .i64 b) := by rw [h]
theorem ret_v {k n k' n' : Int} {t t' : List UInt8} (h : V.mk k n t = V.mk k' n' t') : Ending.returned (.agg #[.int .i64 (k), .int .i64 (n), .string ⟨List.toArray (t)⟩]) = .returned (.agg #[.int .i64 (k'), .int .i64 (n'), .string ⟨List.toArray (t')⟩]) := by cases h; rfl
theorem ret_r {k n k' n' e e' : Int} {t t' : List UInt8} (h : (V.mk k n t, e) = (V.mk k' n' t', e')) : Ending.returned (.tuple #[(.agg #[.int .i64 (k), .int .i64 (n), .string ⟨List.toArray (t)⟩]), .int .i64 e]) = .returned (.tuple #[(.agg #[.int .i64 (k'), .int .i64 (n'), .string ⟨List.toArray (t')⟩]), .int .i64 e']) := by cases h; rfl

/-- The model's '==' and '!=' at the values. -/
theorem run_eqV (k n k' n' : Int) (t t' : List UInt8) (w : World) : Sem.run Tryz.prog (binOp .eql 27 (.agg #[.int .i64 (k), .int .i64 (n), .string ⟨List.toArray (t)⟩]) (.agg #[.int .i64 (k'), .int .i64 (n'), .string ⟨List.toArray (t')⟩])) w = .ok (.bool (veq ⟨k, n, t⟩ ⟨k', n', t'⟩)) w := by
  have u3 := Tryz.underlying3
  have u25 := Tryz.underlying25
  have u9 := Tryz.underlying9
  have hS : Tryz.prog.underlying 27 = some (.struct (Tryz.prog.fieldsOf 27)) := by kernel_rfl
  have hp : Tryz.prog.stoodInHeld 27 = false := by kernel_rfl
  rw [run_eql_struct, show (10000 : Nat) = 9999 + 1 from rfl, run_equalIn_agg w 9999 27 _ _ hS hp]
  simp only [Program.fieldsOf, Tryz.underlying27]
  go_simp
  by_cases h1 : k = k' <;> by_cases h2 : n = n' <;> by_cases h3 : t = t' <;> simp [h1, h2, h3, veq]
theorem run_neV (k n k' n' : Int) (t t' : List UInt8) (w : World) : Sem.run Tryz.prog (binOp .neq 27 (.agg #[.int .i64 (k), .int .i64 (n), .string ⟨List.toArray (t)⟩]) (.agg #[.int .i64 (k'), .int .i64 (n'), .string ⟨List.toArray (t')⟩])) w = .ok (.bool (!veq ⟨k, n, t⟩ ⟨k', n', t'⟩)) w := by
  have u3 := Tryz.underlying3
  have u25 := Tryz.underlying25
  have u9 := Tryz.underlying9
  have hS : Tryz.prog.underlying 27 = some (.struct (Tryz.prog.fieldsOf 27)) := by kernel_rfl
  have hp : Tryz.prog.stoodInHeld 27 = false := by kernel_rfl
  rw [run_neq_struct, show (10000 : Nat) = 9999 + 1 from rfl, run_equalIn_agg w 9999 27 _ _ hS hp]
  simp only [Program.fieldsOf, Tryz.underlying27]
  go_simp
  by_cases h1 : k = k' <;> by_cases h2 : n = n' <;> by_cases h3 : t = t' <;> simp [h1, h2, h3, veq]
attribute [local go_sem high] run_eqV run_neV

/-- A later world: all that lay in W lies there. -/
structure Later (W : World) where
  w : World
  b : Below W.heap.size W w
instance (W : World) : Inhabited (Later W) := ⟨⟨W, Below.refl _ _⟩⟩
theorem Later.cell {W : World} (p : Later W) (b o : Nat) (h : b < W.heap.size) : p.w.cell? ⟨b, o, none⟩ = W.cell? ⟨b, o, none⟩ := p.b.cell (p := ⟨b, o, none⟩) h
theorem Later.lt {W : World} (p : Later W) (b : Nat) (h : b < W.heap.size) : b < p.w.heap.size := Nat.lt_of_lt_of_le h p.b.size
attribute [local go_sem] Later.cell Later.lt
theorem wp_region_later {P : Program} {id : Nat} {Q : Exit → Act → World → Prop} {a : Act} {w : World} {l : List Oper} (hm : P.follows .mixedOrders = true) (hB : Region.lexB .any l.toArray = true)
    (h : wpQuiet P l.toArray (fun w' => ∃ p : Later w, w' = p.w) (fun a' => ∀ w', (∃ p : Later w, w' = p.w) → Q .normal a' w') l a) : (Code.region id l.toArray true).wp P Q a w :=
  wp_region_quiet (C := fun w' => ∃ p : Later w, w' = p.w) hm hB ⟨⟨_, (Below.refl _ _).drew⟩, rfl⟩ (by simpa using h)
theorem later {P : Program} {f : FuncId} {args : Array Value} {W : World} {v : Value} (p : Later W) (h : Calls P f args p.w fun e w' => e = .returned v ∧ Below p.w.heap.size p.w w') :
    Calls P f args p.w fun e w'' => e = .returned v ∧ ∃ q : Later W, w'' = q.w :=
  h.mono fun _ w'' ⟨he, hb⟩ => ⟨he, ⟨w'', p.b.trans (hb.mono p.b.size)⟩, rfl⟩

theorem bool_any (b : Bool) (w : World) :
    Calls Tryz.prog 61 #[.bool b] w fun e w' => e = .returned (.agg #[.int .i64 (vB b).k, .int .i64 (vB b).n, .string ⟨List.toArray (vB b).t⟩]) ∧ Below w.heap.size w w' := by
  cases b
  all_goals
    go_enter Tryz.func61, Tryz.ntmps61
    go_wp2
    go_returns
    refine ⟨rfl, ?_⟩
    (repeat' (first | (with_reducible exact Below.refl _ _) | (with_reducible assumption) | (with_reducible refine Below.alloc ?_ ?_ _) | (with_reducible refine Below.drew ?_) | (with_reducible refine Below.drewN' ?_ _) | (with_reducible refine Below.setCell ?_ ?_ _) | (refine Below.via ?_ (by assumption) ?_) | go_size))
theorem true_any (k n : Int) (t : List UInt8) (w : World) :
    Calls Tryz.prog 17 #[(.agg #[.int .i64 (k), .int .i64 (n), .string ⟨List.toArray (t)⟩])] w fun e w' => e = .returned (.bool (sTrue ⟨k, n, t⟩)) ∧ Below w.heap.size w w' := by
  go_enter Tryz.func17, Tryz.ntmps17
  go_wp2_with fail
  refine wp_region_later (by kernel_rfl) (by kernel_rfl) ?_; (repeat (quiet_step ((go_at_call 61; exact later _ (bool_any _ _))))); refine wpQuiet_nil ?_; intro w' hw'; obtain ⟨⟨w', hb⟩, hw''⟩ := hw'; subst hw''
  go_wp2
  go_returns
  refine ⟨rfl, ?_⟩
  (repeat' (first | (with_reducible exact Below.refl _ _) | (with_reducible assumption) | (with_reducible refine Below.alloc ?_ ?_ _) | (with_reducible refine Below.drew ?_) | (with_reducible refine Below.drewN' ?_ _) | (with_reducible refine Below.setCell ?_ ?_ _) | (refine Below.via ?_ (by assumption) ?_) | go_size))
end Go.Proofs.YtpmfpfkahanlaaaGreatDoor

/- The small functions of package value and of the reference, walked. -/
namespace Go.Proofs.YtpmfpfkahanlaaaGreatDoor
open Go.RowKit
set_option linter.unusedSimpArgs false
set_option linter.unusedVariables false
attribute [local go_sem] Later.cell Later.lt
attribute [local go_sem high] run_eqV run_neV

theorem isInt_any (n : Int) (w : World) :
    Calls Tryz.prog 58 #[.int .i64 n] w fun e w' => e = .returned (.bool (sIsInt n)) ∧ w = w' := by
  go_enter Tryz.func58, Tryz.ntmps58
  go_wp2
  all_goals (((try simp only [Exit.inBlock, Exit.then]); refine bodyPost_ret (by simp only [results, Tryz.results58]; go_simp; try rfl) rfl ?_); refine ⟨ret_bool ?_, rfl⟩)
  all_goals (go_light; first | (simp_all [sIsInt]; done) | ((try simp [sIsInt]); (repeat' split) <;> (try simp_all) <;> (try omega)))
theorem rIsInt_any (n : Int) (w : World) :
    Calls Tryz.prog 60 #[.int .i64 n] w fun e w' => e = .returned (.bool (sIsInt n)) ∧ w = w' := by
  go_enter Tryz.func60, Tryz.ntmps60
  go_wp2
  all_goals (((try simp only [Exit.inBlock, Exit.then]); refine bodyPost_ret (by simp only [results, Tryz.results60]; go_simp; try rfl) rfl ?_); refine ⟨ret_bool ?_, rfl⟩)
  all_goals (go_light; first | (simp_all [sIsInt]; done) | ((try simp [sIsInt]); (repeat' split) <;> (try simp_all) <;> (try omega)))
theorem int_any (n : Int) (w : World) :
    Calls Tryz.prog 106 #[.int .i64 n] w fun e w' => e = .returned (.agg #[.int .i64 (vI n).k, .int .i64 (vI n).n, .string ⟨List.toArray (vI n).t⟩]) ∧ Below w.heap.size w w' := by
  go_enter Tryz.func106, Tryz.ntmps106
  go_wp2
  all_goals (((try simp only [Exit.inBlock, Exit.then]); refine bodyPost_ret (by simp only [results, Tryz.results106]; go_simp; try rfl) rfl ?_); refine ⟨ret_v ?_, ?_⟩)
  all_goals (first | ((repeat' (first | (with_reducible exact Below.refl _ _) | (with_reducible assumption) | (with_reducible refine Below.alloc ?_ ?_ _) | (with_reducible refine Below.drew ?_) | (with_reducible refine Below.drewN' ?_ _) | (with_reducible refine Below.setCell ?_ ?_ _) | (refine Below.via ?_ (by assumption) ?_) | go_size)); done) | skip)
  all_goals (go_light; first | (simp_all [vI]; done) | ((try simp [vI]); (repeat' split) <;> (try simp_all) <;> (try omega)))
theorem rInt_any (n : Int) (w : World) :
    Calls Tryz.prog 57 #[.int .i64 n] w fun e w' => e = .returned (.agg #[.int .i64 (vI n).k, .int .i64 (vI n).n, .string ⟨List.toArray (vI n).t⟩]) ∧ Below w.heap.size w w' := by
  go_enter Tryz.func57, Tryz.ntmps57
  go_wp2
  all_goals (((try simp only [Exit.inBlock, Exit.then]); refine bodyPost_ret (by simp only [results, Tryz.results57]; go_simp; try rfl) rfl ?_); refine ⟨ret_v ?_, ?_⟩)
  all_goals (first | ((repeat' (first | (with_reducible exact Below.refl _ _) | (with_reducible assumption) | (with_reducible refine Below.alloc ?_ ?_ _) | (with_reducible refine Below.drew ?_) | (with_reducible refine Below.drewN' ?_ _) | (with_reducible refine Below.setCell ?_ ?_ _) | (refine Below.via ?_ (by assumption) ?_) | go_size)); done) | skip)
  all_goals (go_light; first | (simp_all [vI]; done) | ((try simp [vI]); (repeat' split) <;> (try simp_all) <;> (try omega)))
theorem str_any (t : List UInt8) (w : World) :
    Calls Tryz.prog 103 #[.string ⟨t.toArray⟩] w fun e w' => e = .returned (.agg #[.int .i64 (vS t).k, .int .i64 (vS t).n, .string ⟨List.toArray (vS t).t⟩]) ∧ Below w.heap.size w w' := by
  go_enter Tryz.func103, Tryz.ntmps103
  go_wp2
  all_goals (((try simp only [Exit.inBlock, Exit.then]); refine bodyPost_ret (by simp only [results, Tryz.results103]; go_simp; try rfl) rfl ?_); refine ⟨ret_v ?_, ?_⟩)
  all_goals (first | ((repeat' (first | (with_reducible exact Below.refl _ _) | (with_reducible assumption) | (with_reducible refine Below.alloc ?_ ?_ _) | (with_reducible refine Below.drew ?_) | (with_reducible refine Below.drewN' ?_ _) | (with_reducible refine Below.setCell ?_ ?_ _) | (refine Below.via ?_ (by assumption) ?_) | go_size)); done) | skip)
  all_goals (go_light; first | (simp_all [vS]; done) | ((try simp [vS]); (repeat' split) <;> (try simp_all) <;> (try omega)))
theorem rString_any (t : List UInt8) (w : World) :
    Calls Tryz.prog 54 #[.string ⟨t.toArray⟩] w fun e w' => e = .returned (.agg #[.int .i64 (vS t).k, .int .i64 (vS t).n, .string ⟨List.toArray (vS t).t⟩]) ∧ Below w.heap.size w w' := by
  go_enter Tryz.func54, Tryz.ntmps54
  go_wp2
  all_goals (((try simp only [Exit.inBlock, Exit.then]); refine bodyPost_ret (by simp only [results, Tryz.results54]; go_simp; try rfl) rfl ?_); refine ⟨ret_v ?_, ?_⟩)
  all_goals (first | ((repeat' (first | (with_reducible exact Below.refl _ _) | (with_reducible assumption) | (with_reducible refine Below.alloc ?_ ?_ _) | (with_reducible refine Below.drew ?_) | (with_reducible refine Below.drewN' ?_ _) | (with_reducible refine Below.setCell ?_ ?_ _) | (refine Below.via ?_ (by assumption) ?_) | go_size)); done) | skip)
  all_goals (go_light; first | (simp_all [vS]; done) | ((try simp [vS]); (repeat' split) <;> (try simp_all) <;> (try omega)))
theorem rNull_any  (w : World) :
    Calls Tryz.prog 56 #[] w fun e w' => e = .returned (.agg #[.int .i64 (vN).k, .int .i64 (vN).n, .string ⟨List.toArray (vN).t⟩]) ∧ Below w.heap.size w w' := by
  go_enter Tryz.func56, Tryz.ntmps56
  go_wp2
  all_goals (((try simp only [Exit.inBlock, Exit.then]); refine bodyPost_ret (by simp only [results, Tryz.results56]; go_simp; try rfl) rfl ?_); refine ⟨ret_v ?_, ?_⟩)
  all_goals (first | ((repeat' (first | (with_reducible exact Below.refl _ _) | (with_reducible assumption) | (with_reducible refine Below.alloc ?_ ?_ _) | (with_reducible refine Below.drew ?_) | (with_reducible refine Below.drewN' ?_ _) | (with_reducible refine Below.setCell ?_ ?_ _) | (refine Below.via ?_ (by assumption) ?_) | go_size)); done) | skip)
  all_goals (go_light; first | (simp_all [vN]; done) | ((try simp [vN]); (repeat' split) <;> (try simp_all) <;> (try omega)))
theorem rBool_any (b : Bool) (w : World) :
    Calls Tryz.prog 55 #[.bool b] w fun e w' => e = .returned (.agg #[.int .i64 (vB b).k, .int .i64 (vB b).n, .string ⟨List.toArray (vB b).t⟩]) ∧ Below w.heap.size w w' := by
  cases b
  all_goals
    go_enter Tryz.func55, Tryz.ntmps55
    go_wp2
    go_returns
    refine ⟨rfl, ?_⟩
    (repeat' (first | (with_reducible exact Below.refl _ _) | (with_reducible assumption) | (with_reducible refine Below.alloc ?_ ?_ _) | (with_reducible refine Below.drew ?_) | (with_reducible refine Below.drewN' ?_ _) | (with_reducible refine Below.setCell ?_ ?_ _) | (refine Below.via ?_ (by assumption) ?_) | go_size))
theorem rTrue_any (k n : Int) (t : List UInt8) (w : World) :
    Calls Tryz.prog 18 #[(.agg #[.int .i64 (k), .int .i64 (n), .string ⟨List.toArray (t)⟩])] w fun e w' => e = .returned (.bool (sTrue ⟨k, n, t⟩)) ∧ Below w.heap.size w w' := by
  go_enter Tryz.func18, Tryz.ntmps18
  go_wp2_with fail
  refine wp_region_later (by kernel_rfl) (by kernel_rfl) ?_; (repeat (quiet_step ((go_at_call 55; exact later _ (rBool_any _ _))))); refine wpQuiet_nil ?_; intro w' hw'; obtain ⟨⟨w', hb⟩, hw''⟩ := hw'; subst hw''
  go_wp2
  go_returns
  refine ⟨rfl, ?_⟩
  (repeat' (first | (with_reducible exact Below.refl _ _) | (with_reducible assumption) | (with_reducible refine Below.alloc ?_ ?_ _) | (with_reducible refine Below.drew ?_) | (with_reducible refine Below.drewN' ?_ _) | (with_reducible refine Below.setCell ?_ ?_ _) | (refine Below.via ?_ (by assumption) ?_) | go_size))
theorem same_any (k n k' n' : Int) (t t' : List UInt8) (w : World) :
    Calls Tryz.prog 19 #[(.agg #[.int .i64 (k), .int .i64 (n), .string ⟨List.toArray (t)⟩]), (.agg #[.int .i64 (k'), .int .i64 (n'), .string ⟨List.toArray (t')⟩])] w fun e w' => e = .returned (.bool (veq ⟨k, n, t⟩ ⟨k', n', t'⟩)) ∧ Below w.heap.size w w' := by
  go_enter Tryz.func19, Tryz.ntmps19
  go_wp2
  all_goals (((try simp only [Exit.inBlock, Exit.then]); refine bodyPost_ret (by simp only [results, Tryz.results19]; go_simp; try rfl) rfl ?_); refine ⟨ret_bool ?_, ?_⟩)
  all_goals (first | ((repeat' (first | (with_reducible exact Below.refl _ _) | (with_reducible assumption) | (with_reducible refine Below.alloc ?_ ?_ _) | (with_reducible refine Below.drew ?_) | (with_reducible refine Below.drewN' ?_ _) | (with_reducible refine Below.setCell ?_ ?_ _) | (refine Below.via ?_ (by assumption) ?_) | go_size)); done) | skip)
  all_goals (go_light; first | (simp_all [veq]; done) | ((try simp [veq]); (repeat' split) <;> (try simp_all) <;> (try omega)))
theorem rSame_any (k n k' n' : Int) (t t' : List UInt8) (w : World) :
    Calls Tryz.prog 20 #[(.agg #[.int .i64 (k), .int .i64 (n), .string ⟨List.toArray (t)⟩]), (.agg #[.int .i64 (k'), .int .i64 (n'), .string ⟨List.toArray (t')⟩])] w fun e w' => e = .returned (.bool (veq ⟨k, n, t⟩ ⟨k', n', t'⟩)) ∧ Below w.heap.size w w' := by
  go_enter Tryz.func20, Tryz.ntmps20
  go_wp2
  all_goals (((try simp only [Exit.inBlock, Exit.then]); refine bodyPost_ret (by simp only [results, Tryz.results20]; go_simp; try rfl) rfl ?_); refine ⟨ret_bool ?_, ?_⟩)
  all_goals (first | ((repeat' (first | (with_reducible exact Below.refl _ _) | (with_reducible assumption) | (with_reducible refine Below.alloc ?_ ?_ _) | (with_reducible refine Below.drew ?_) | (with_reducible refine Below.drewN' ?_ _) | (with_reducible refine Below.setCell ?_ ?_ _) | (refine Below.via ?_ (by assumption) ?_) | go_size)); done) | skip)
  all_goals (go_light; first | (simp_all [veq]; done) | ((try simp [veq]); (repeat' split) <;> (try simp_all) <;> (try omega)))
theorem whole_any (n : Int) (w : World) (n0 : w.cell? ⟨0, 0, none⟩ = some (.int .i64 0)) (n1 : w.cell? ⟨0, 1, none⟩ = some (.int .i64 0)) (n2 : w.cell? ⟨0, 2, none⟩ = some (.string ⟨#[]⟩)) (hpos : 0 < w.heap.size) :
    Calls Tryz.prog 65 #[.int .i64 n] w fun e w' => e = .returned (.tuple #[.agg #[.int .i64 (sWhole n).1.k, .int .i64 (sWhole n).1.n, .string ⟨List.toArray (sWhole n).1.t⟩], .int .i64 (sWhole n).2]) ∧ Below w.heap.size w w' := by
  go_enter Tryz.func65, Tryz.ntmps65
  go_wp2_with (first | (go_at_call 58; refine (isInt_any _ _).mono ?_; rintro e w' ⟨rfl, rfl⟩) | (go_at_call 106; refine (int_any _ _).mono ?_; rintro e w1 ⟨rfl, hbw1⟩; obtain ⟨hcw1, hfw1⟩ := bfacts hbw1; have hzw1 := hbw1.size; (try simp only [World.size_alloc, World.size_setCell, World.size_drew] at hzw1); (try have hpw1 : 0 < w1.heap.size := by omega); (try have : w.heap.size < w1.heap.size := by omega); (try have : w.heap.size + 1 < w1.heap.size := by omega); (try have : w.heap.size + 1 + 1 < w1.heap.size := by omega); (try have : w.heap.size + 1 + 1 + 1 < w1.heap.size := by omega); (try have : w.heap.size + 1 + 1 + 1 + 1 < w1.heap.size := by omega); (try have : w.heap.size + 1 + 1 + 1 + 1 + 1 < w1.heap.size := by omega); (try have : w.heap.size < w1.heap.size + 1 := by omega); (try have : w.heap.size + 1 < w1.heap.size + 1 := by omega); (try have : w.heap.size + 1 + 1 < w1.heap.size + 1 := by omega); (try have : w.heap.size + 1 + 1 + 1 < w1.heap.size + 1 := by omega); (try have : w.heap.size + 1 + 1 + 1 + 1 < w1.heap.size + 1 := by omega)))
  all_goals (((try simp only [Exit.inBlock, Exit.then]); refine bodyPost_ret (by simp only [results, Tryz.results65]; go_simp; try rfl) rfl ?_); refine ⟨ret_r ?_, ?_⟩)
  all_goals (first | ((repeat' (first | (with_reducible exact Below.refl _ _) | (with_reducible assumption) | (with_reducible refine Below.alloc ?_ ?_ _) | (with_reducible refine Below.drew ?_) | (with_reducible refine Below.drewN' ?_ _) | (with_reducible refine Below.setCell ?_ ?_ _) | (refine Below.via ?_ (by assumption) ?_) | go_size)); done) | skip)
  all_goals (go_light; first | (simp_all [sWhole, vN]; done) | ((try simp [sWhole, vN]); (repeat' split) <;> (try simp_all) <;> (try omega)))
theorem rNumber_any (n : Int) (w : World) :
    Calls Tryz.prog 95 #[.int .i64 n] w fun e w' => e = .returned (.tuple #[.agg #[.int .i64 (sWhole n).1.k, .int .i64 (sWhole n).1.n, .string ⟨List.toArray (sWhole n).1.t⟩], .int .i64 (sWhole n).2]) ∧ Below w.heap.size w w' := by
  go_enter Tryz.func95, Tryz.ntmps95
  go_wp2_with (first | (go_at_call 60; refine (rIsInt_any _ _).mono ?_; rintro e w' ⟨rfl, rfl⟩) | (go_at_call 57; refine (rInt_any _ _).mono ?_; rintro e w1 ⟨rfl, hbw1⟩; obtain ⟨hcw1, hfw1⟩ := bfacts hbw1; have hzw1 := hbw1.size; (try simp only [World.size_alloc, World.size_setCell, World.size_drew] at hzw1); (try have hpw1 : 0 < w1.heap.size := by omega); (try have : w.heap.size < w1.heap.size := by omega); (try have : w.heap.size + 1 < w1.heap.size := by omega); (try have : w.heap.size + 1 + 1 < w1.heap.size := by omega); (try have : w.heap.size + 1 + 1 + 1 < w1.heap.size := by omega); (try have : w.heap.size + 1 + 1 + 1 + 1 < w1.heap.size := by omega); (try have : w.heap.size + 1 + 1 + 1 + 1 + 1 < w1.heap.size := by omega); (try have : w.heap.size < w1.heap.size + 1 := by omega); (try have : w.heap.size + 1 < w1.heap.size + 1 := by omega); (try have : w.heap.size + 1 + 1 < w1.heap.size + 1 := by omega); (try have : w.heap.size + 1 + 1 + 1 < w1.heap.size + 1 := by omega); (try have : w.heap.size + 1 + 1 + 1 + 1 < w1.heap.size + 1 := by omega)))
  all_goals (((try simp only [Exit.inBlock, Exit.then]); refine bodyPost_ret (by simp only [results, Tryz.results95]; go_simp; try rfl) rfl ?_); refine ⟨ret_r ?_, ?_⟩)
  all_goals (first | ((repeat' (first | (with_reducible exact Below.refl _ _) | (with_reducible assumption) | (with_reducible refine Below.alloc ?_ ?_ _) | (with_reducible refine Below.drew ?_) | (with_reducible refine Below.drewN' ?_ _) | (with_reducible refine Below.setCell ?_ ?_ _) | (refine Below.via ?_ (by assumption) ?_) | go_size)); done) | skip)
  all_goals (go_light; first | (simp_all [sWhole, vN]; done) | ((try simp [sWhole, vN]); (repeat' split) <;> (try simp_all) <;> (try omega)))
theorem written_any (t : List UInt8) (w : World) (ht : t.length ≤ 9223372036854775807) (n0 : w.cell? ⟨0, 0, none⟩ = some (.int .i64 0)) (n1 : w.cell? ⟨0, 1, none⟩ = some (.int .i64 0)) (n2 : w.cell? ⟨0, 2, none⟩ = some (.string ⟨#[]⟩)) (hpos : 0 < w.heap.size) :
    Calls Tryz.prog 71 #[.string ⟨t.toArray⟩] w fun e w' => e = .returned (.tuple #[.agg #[.int .i64 (sWritten t).1.k, .int .i64 (sWritten t).1.n, .string ⟨List.toArray (sWritten t).1.t⟩], .int .i64 (sWritten t).2]) ∧ Below w.heap.size w w' := by
  go_enter Tryz.func71, Tryz.ntmps71
  go_wp2_with (first | (go_at_call 103; refine (str_any _ _).mono ?_; rintro e w1 ⟨rfl, hbw1⟩; obtain ⟨hcw1, hfw1⟩ := bfacts hbw1; have hzw1 := hbw1.size; (try simp only [World.size_alloc, World.size_setCell, World.size_drew] at hzw1); (try have hpw1 : 0 < w1.heap.size := by omega); (try have : w.heap.size < w1.heap.size := by omega); (try have : w.heap.size + 1 < w1.heap.size := by omega); (try have : w.heap.size + 1 + 1 < w1.heap.size := by omega); (try have : w.heap.size + 1 + 1 + 1 < w1.heap.size := by omega); (try have : w.heap.size + 1 + 1 + 1 + 1 < w1.heap.size := by omega); (try have : w.heap.size + 1 + 1 + 1 + 1 + 1 < w1.heap.size := by omega); (try have : w.heap.size < w1.heap.size + 1 := by omega); (try have : w.heap.size + 1 < w1.heap.size + 1 := by omega); (try have : w.heap.size + 1 + 1 < w1.heap.size + 1 := by omega); (try have : w.heap.size + 1 + 1 + 1 < w1.heap.size + 1 := by omega); (try have : w.heap.size + 1 + 1 + 1 + 1 < w1.heap.size + 1 := by omega)))
  all_goals (((try simp only [Exit.inBlock, Exit.then]); refine bodyPost_ret (by simp only [results, Tryz.results71]; go_simp; try rfl) rfl ?_); refine ⟨ret_r ?_, ?_⟩)
  all_goals (first | ((repeat' (first | (with_reducible exact Below.refl _ _) | (with_reducible assumption) | (with_reducible refine Below.alloc ?_ ?_ _) | (with_reducible refine Below.drew ?_) | (with_reducible refine Below.drewN' ?_ _) | (with_reducible refine Below.setCell ?_ ?_ _) | (refine Below.via ?_ (by assumption) ?_) | go_size)); done) | skip)
  all_goals (go_light; first | (simp_all [sWritten, vN]; done) | ((try simp [sWritten, vN]); (repeat' split) <;> (try simp_all) <;> (try omega)))
theorem fits_any (k n j : Int) (t : List UInt8) (w : World) :
    Calls Tryz.prog 64 #[(.agg #[.int .i64 (k), .int .i64 (n), .string ⟨List.toArray (t)⟩]), .int .i64 j] w fun e w' => e = .returned (.bool (sFits ⟨k, n, t⟩ j)) ∧ Below w.heap.size w w' := by
  go_enter Tryz.func64, Tryz.ntmps64
  go_wp2
  all_goals (((try simp only [Exit.inBlock, Exit.then]); refine bodyPost_ret (by simp only [results, Tryz.results64]; go_simp; try rfl) rfl ?_); refine ⟨ret_bool ?_, ?_⟩)
  all_goals (first | ((repeat' (first | (with_reducible exact Below.refl _ _) | (with_reducible assumption) | (with_reducible refine Below.alloc ?_ ?_ _) | (with_reducible refine Below.drew ?_) | (with_reducible refine Below.drewN' ?_ _) | (with_reducible refine Below.setCell ?_ ?_ _) | (refine Below.via ?_ (by assumption) ?_) | go_size)); done) | skip)
  all_goals (go_light; first | (simp_all [sFits]; done) | ((try simp [sFits]); (repeat' split) <;> (try simp_all) <;> (try omega)))
set_option maxHeartbeats 1000000 in
theorem logic_any (op : List UInt8) (k n k' n' : Int) (t t' : List UInt8) (w : World)
    (n0 : w.cell? ⟨0, 0, none⟩ = some (.int .i64 0)) (n1 : w.cell? ⟨0, 1, none⟩ = some (.int .i64 0)) (n2 : w.cell? ⟨0, 2, none⟩ = some (.string ⟨#[]⟩)) (hpos : 0 < w.heap.size) :
    Calls Tryz.prog 68 #[.string ⟨op.toArray⟩, (.agg #[.int .i64 (k), .int .i64 (n), .string ⟨List.toArray (t)⟩]), (.agg #[.int .i64 (k'), .int .i64 (n'), .string ⟨List.toArray (t')⟩])] w fun e w' => e = .returned (.agg #[.int .i64 (sLogic op ⟨k, n, t⟩ ⟨k', n', t'⟩).k, .int .i64 (sLogic op ⟨k, n, t⟩ ⟨k', n', t'⟩).n, .string ⟨List.toArray (sLogic op ⟨k, n, t⟩ ⟨k', n', t'⟩).t⟩]) ∧ Below w.heap.size w w' := by
  go_enter Tryz.func68, Tryz.ntmps68
  go_wp2_with fail
  refine (bool_any _ _).mono ?_; rintro e w1 ⟨rfl, hbw1⟩; obtain ⟨hcw1, hfw1⟩ := bfacts hbw1; have hzw1 := hbw1.size; (try simp only [World.size_alloc, World.size_setCell, World.size_drew] at hzw1); (try have hpw1 : 0 < w1.heap.size := by omega); (try have : w.heap.size < w1.heap.size := by omega); (try have : w.heap.size + 1 < w1.heap.size := by omega); (try have : w.heap.size + 1 + 1 < w1.heap.size := by omega); (try have : w.heap.size + 1 + 1 + 1 < w1.heap.size := by omega); (try have : w.heap.size + 1 + 1 + 1 + 1 < w1.heap.size := by omega); (try have : w.heap.size + 1 + 1 + 1 + 1 + 1 < w1.heap.size := by omega); (try have : w.heap.size < w1.heap.size + 1 := by omega); (try have : w.heap.size + 1 < w1.heap.size + 1 := by omega); (try have : w.heap.size + 1 + 1 < w1.heap.size + 1 := by omega); (try have : w.heap.size + 1 + 1 + 1 < w1.heap.size + 1 := by omega); (try have : w.heap.size + 1 + 1 + 1 + 1 < w1.heap.size + 1 := by omega)
  go_wp2_with (go_at_call 61; refine (bool_any _ _).mono ?_; rintro e w2 ⟨rfl, hbw2⟩; obtain ⟨hcw2, hfw2⟩ := bfacts hbw2; have hzw2 := hbw2.size; (try simp only [World.size_alloc, World.size_setCell, World.size_drew] at hzw2); (try have hpw2 : 0 < w2.heap.size := by omega); (try have : w.heap.size < w2.heap.size := by omega); (try have : w.heap.size + 1 < w2.heap.size := by omega); (try have : w.heap.size + 1 + 1 < w2.heap.size := by omega); (try have : w.heap.size + 1 + 1 + 1 < w2.heap.size := by omega); (try have : w.heap.size + 1 + 1 + 1 + 1 < w2.heap.size := by omega); (try have : w.heap.size + 1 + 1 + 1 + 1 + 1 < w2.heap.size := by omega); (try have : w.heap.size < w2.heap.size + 1 := by omega); (try have : w.heap.size + 1 < w2.heap.size + 1 := by omega); (try have : w.heap.size + 1 + 1 < w2.heap.size + 1 := by omega); (try have : w.heap.size + 1 + 1 + 1 < w2.heap.size + 1 := by omega); (try have : w.heap.size + 1 + 1 + 1 + 1 < w2.heap.size + 1 := by omega); (try have : w1.heap.size < w2.heap.size := by omega); (try have : w1.heap.size + 1 < w2.heap.size := by omega); (try have : w1.heap.size + 1 + 1 < w2.heap.size := by omega); (try have : w1.heap.size + 1 + 1 + 1 < w2.heap.size := by omega); (try have : w1.heap.size + 1 + 1 + 1 + 1 < w2.heap.size := by omega); (try have : w1.heap.size + 1 + 1 + 1 + 1 + 1 < w2.heap.size := by omega); (try have : w1.heap.size < w2.heap.size + 1 := by omega); (try have : w1.heap.size + 1 < w2.heap.size + 1 := by omega); (try have : w1.heap.size + 1 + 1 < w2.heap.size + 1 := by omega); (try have : w1.heap.size + 1 + 1 + 1 < w2.heap.size + 1 := by omega); (try have : w1.heap.size + 1 + 1 + 1 + 1 < w2.heap.size + 1 := by omega))
  all_goals (((try simp only [Exit.inBlock, Exit.then]); refine bodyPost_ret (by simp only [results, Tryz.results68]; go_simp; try rfl) rfl ?_); refine ⟨ret_v ?_, ?_⟩)
  all_goals (first | ((repeat' (first | (with_reducible exact Below.refl _ _) | (with_reducible assumption) | (with_reducible refine Below.alloc ?_ ?_ _) | (with_reducible refine Below.drew ?_) | (with_reducible refine Below.drewN' ?_ _) | (with_reducible refine Below.setCell ?_ ?_ _) | (refine Below.via ?_ (by assumption) ?_) | go_size)); done) | skip)
  all_goals (go_light; first | (simp_all [sLogic, vN]; done) | ((try simp [sLogic, vN]); (repeat' split) <;> (try simp_all) <;> (try omega)))
end Go.Proofs.YtpmfpfkahanlaaaGreatDoor

/- Map literals with string keys: how they are laid, and what a look-up gives. -/
namespace Go.Proofs.YtpmfpfkahanlaaaGreatDoor
open Go.RowKit
set_option linter.unusedSimpArgs false
set_option linter.unusedVariables false

def look {α : Type} : List (List UInt8 × α) → List UInt8 → Option α
  | [], _ => none
  | (k, v) :: r, s => if s == k then some v else look r s
def ents : Nat → List (List UInt8 × Value) → List MapEntry
  | _, [] => []
  | i, (k, v) :: r => MapEntry.mk (.string ⟨k.toArray⟩) v i :: ents (i + 1) r

theorem beqB (a b : List UInt8) : ((⟨a.toArray⟩ : ByteArray) == ⟨b.toArray⟩) = (a == b) := by
  rw [beq_toListBytes, ByteArray.toList_eq, ByteArray.toList_eq]
theorem find_ents (s : List UInt8) : ∀ (l : List (List UInt8 × Value)) (i j : Nat), ∃ r, Instr.findNow .string (.string ⟨s.toArray⟩) (ents i l) j = some r ∧ r.map (·.2) = look l s
  | [], i, j => ⟨none, rfl, rfl⟩
  | (k, v) :: l, i, j => by
    obtain ⟨r, h1, h2⟩ := find_ents s l (i + 1) (j + 1)
    simp only [ents, Instr.findNow, Instr.sameNow, beqB, look]
    by_cases h : s = k
    · exact ⟨some (j, v), by simp [h], by simp [h]⟩
    · exact ⟨r, by rw [show (s == k) = false by simpa using h]; exact h1, by rw [if_neg (by simpa using h)]; exact h2⟩

/-- The look-up of a string in a map that lies so. -/
theorem run_look {T et : TypeId} {z : Value} (l : List (List UInt8 × Value)) (s : List UInt8) (b c : Nat) (w : World) (ht : Tryz.prog.underlying T = some (.map 9 et)) (hz : (zeroValue et).run Tryz.prog w = .ok z w)
    (hb : w.heap[b]? = some (.map (ents 0 l).toArray c)) (ok : Bool) :
    (Instr.lookup T (.map (some b)) (.string ⟨s.toArray⟩) ok).run Tryz.prog w = .ok (if ok then .tuple #[(look l s).getD z, .bool (look l s).isSome] else (look l s).getD z) w := by
  obtain ⟨r, h1, h2⟩ := find_ents s l 0 0
  have h9 := Tryz.underlying9
  have hc : ∀ e, (Instr.checkKey e 10000 9 (.string ⟨s.toArray⟩)).run Tryz.prog w = .ok () w := fun e => MapKept.run_checkKey h9 (by simp [MapKept.IsKey]) e 9999
  have hf : (Instr.findKey 9 (.string ⟨s.toArray⟩) (ents 0 l)).run Tryz.prog w = .ok r w := MapKept.run_findKey h9 h1
  simp only [Instr.lookup, Sem.run_bind, run_underlying ht, Result.andThen_ok, MapKept.run_getObj_map hb, Sem.run_pure, hc, hf]
  rw [← h2]
  cases r with
  | none => cases ok <;> simp [hz]
  | some r => cases ok <;> simp

set_option maxRecDepth 100000 in
/-- One row of a map's literal, its key not there yet. -/
theorem wpList_ins {ops : Array Oper} {rest : List Oper} {o : Oper} {a : Act} {Q : Exit → Act → World → Prop} (w : World) (hg : o.guard = none) (hd : o.dst = none) (m x v : Operand) (T et : TypeId) (hop : o.op = Op.insert T m x v) (ht : Tryz.prog.underlying T = some (.map 9 et))
    (es : List MapEntry) (c b : Nat) (hbw : b = w.heap.size) (hm : a.eval m = .map (some b)) (k : List UInt8) (val : Value) (hx : a.eval x = .string ⟨k.toArray⟩) (hv : a.eval v = val)
    (hf : Instr.findNow .string (.string ⟨k.toArray⟩) es 0 = some none)
    (hK : wpList Tryz.prog ops Q rest a (w.alloc (.map (es ++ [MapEntry.mk (.string ⟨k.toArray⟩) val c]).toArray (c + 1)))) :
    wpList Tryz.prog ops Q (o :: rest) a (w.alloc (.map es.toArray c)) := by
  subst hbw
  refine wpList_plain hg fun K' hK' => ?_
  have h9 := Tryz.underlying9
  have hb := (MapKept.heap_alloc w (.map es.toArray c)).1
  have hc : ∀ W, (Instr.checkKey false 10000 9 (.string ⟨k.toArray⟩)).run Tryz.prog W = .ok () W := fun W => MapKept.run_checkKey h9 (by simp [MapKept.IsKey]) false 9999
  have hfk : ∀ W, (Instr.findKey 9 (.string ⟨k.toArray⟩) es).run Tryz.prog W = .ok none W := fun W => MapKept.run_findKey h9 hf
  have hrun : (Instr.mapUpdate T (.map (some w.heap.size)) (.string ⟨k.toArray⟩) val).run Tryz.prog (w.alloc (.map es.toArray c)) = .ok () (w.alloc (.map (es ++ [MapEntry.mk (.string ⟨k.toArray⟩) val c]).toArray (c + 1))) := by
    simp only [Instr.mapUpdate, Sem.run_bind, run_underlying ht, Result.andThen_ok, MapKept.run_getObj_map hb, hc, hfk, MapKept.run_setObj_map _ hb]
    show Result.ok () _ = Result.ok () _
    congr 1
    show World.mk _ _ _ _ _ = World.mk _ _ _ _ _
    congr 1
    show (w.heap.push _).setIfInBounds w.heap.size _ = w.heap.push _
    have key : ∀ (h : Array Obj) (x y y' : Obj), y = y' → (h.push x).setIfInBounds h.size y = h.push y' := by
      rintro ⟨l⟩ x y y' rfl
      simp
    exact key _ _ _ _ (by simp)
  unfold Oper.wp
  simp [execOp, hop, hm, hx, hv, hrun, Result.andThen]
  show K' (a.put o.dst undef) _
  rw [show a.put o.dst undef = a by rw [hd]; rfl]
  exact hK' _ _ hK

def opT : List (List UInt8 × Int) :=
  [([43], 1), ([45], 1), ([42], 1), ([47], 1), ([109, 111, 100], 1), ([124, 124], 2), ([108, 105, 107, 101], 2), ([97, 110, 100], 3), ([111, 114], 3), ([61], 0), ([60, 62], 0), ([60], 0), ([60, 61], 0), ([62], 0), ([62, 61], 0)]
def opV : List (List UInt8 × Value) := opT.map fun p => (p.1, .int .i64 p.2)
def opObj : Obj := .map (ents 0 opV).toArray 15
theorem look_map {α β : Type} (f : α → β) (s : List UInt8) : ∀ l : List (List UInt8 × α), look (l.map fun p => (p.1, f p.2)) s = (look l s).map f
  | [] => rfl
  | (k, v) :: r => by
    simp only [List.map_cons, look, look_map f s r]
    split <;> rfl
def opK (s : List UInt8) : Int := (look opT s).getD 0
def isOp (s : List UInt8) : Bool := (look opT s).isSome

set_option maxRecDepth 100000 in
set_option maxHeartbeats 1000000 in
theorem ops_any (w : World) :
    Calls Tryz.prog 67 #[] w fun e w' => e = .returned (.map (some w.heap.size)) ∧ w' = w.alloc opObj := by
  have hmm := @run_makeMap Tryz.prog
  go_enter Tryz.func67, Tryz.ntmps67
  go_wp2_with (refine wpList_ins _ rfl rfl _ _ _ 68 25 rfl Tryz.underlying68 _ _ _ (by simp) rfl _ _ rfl rfl rfl ?_)
  ((try simp only [Exit.inBlock, Exit.then]); refine bodyPost_ret (by simp only [results, Tryz.results67]; go_simp; try rfl) rfl ?_)
  exact ⟨rfl, rfl⟩
end Go.Proofs.YtpmfpfkahanlaaaGreatDoor

/- More of what the functions of package value compute. -/
namespace Go.Proofs.YtpmfpfkahanlaaaGreatDoor
def unK (op : List UInt8) : Int := if op == [45] then 1 else if op == [110, 111, 116] then 3 else 0
def unIs (op : List UInt8) : Bool := op == [45] || op == [110, 111, 116]
def vUnary (op : List UInt8) (a : V) : V × Int :=
  if !unIs op || !sValid a then (vN, 2)
  else if !sFits a (unK op) then (vN, 16)
  else if a.k == 0 then (vN, 0)
  else if op == [45] then sWhole (w64 (-a.n)) else (vB (a.n == 0), 0)
/-- ref.Unary. -/
def rUnary2 (op : List UInt8) (a : V) : V × Int :=
  if !unIs op || !sValid a then (vN, 2)
  else if a.k == 0 then (a, 0)
  else if op == [45] && a.k == 1 then (vI (w64 (-a.n)), 0)
  else if op == [110, 111, 116] && a.k == 3 then (vB (a.n == 0), 0)
  else (vN, 16)
end Go.Proofs.YtpmfpfkahanlaaaGreatDoor

/- Binary of package value: what is computed. -/
namespace Go.Proofs.YtpmfpfkahanlaaaGreatDoor
def binK (op : List UInt8) (a b : V) : Int := if opK op == 0 then max a.k b.k else opK op
def binLogic (op : List UInt8) : Bool := op == [97, 110, 100] || op == [111, 114]
def vBinary (op : List UInt8) (a b : V) : V × Int :=
  if !isOp op || !(sValid a && sValid b) then (vN, 2)
  else if !sFits a (binK op a b) || !sFits b (binK op a b) then (vN, 16)
  else if binK op a b == 3 && binLogic op then (sLogic op a b, 0)
  else if a.k == 0 || b.k == 0 then (vN, 0)
  else if opK op == 0 then (vB (sCompared op (sCmp a b)), 0)
  else if op == [124, 124] then sWritten (a.t ++ b.t)
  else if op == [108, 105, 107, 101] then (vB (sLike a.t b.t), 0)
  else sArith op a.n b.n
theorem look_mem {α : Type} {s : List UInt8} {v : α} : ∀ {l : List (List UInt8 × α)}, look l s = some v → (s, v) ∈ l
  | [], h => by cases h
  | (k, x) :: r, h => by
    unfold look at h
    by_cases e : s = k
    · subst e
      rw [if_pos (by simp)] at h
      cases h
      exact List.mem_cons_self
    · rw [if_neg (by simpa using e)] at h
      exact List.mem_cons_of_mem _ (look_mem h)
def vOrder (a b : V) : Int × Int :=
  if !(sValid a && sValid b) then (0, 2)
  else if a.k != b.k && (a.k != 0 && b.k != 0) then (0, 16)
  else (sBefore (sCmp a b) a b, 0)
def rOrder (a b : V) : Int × Int :=
  if !(sValid a && sValid b) then (0, 2)
  else if a.k != b.k && (a.k != 0 && b.k != 0) then (0, 16)
  else (sBefore (rLess a b) a b, 0)
def vBetween (a b c : V) : V × Int :=
  if !(sValid a && (sValid b && sValid c)) || (vBinary [62, 61] a b).2 == 2 then (vN, 2)
  else if (vBinary [62, 61] a b).2 != 0 then (vN, (vBinary [62, 61] a b).2)
  else if (vBinary [60, 61] a c).2 != 0 then (vN, (vBinary [60, 61] a c).2)
  else (sLogic [97, 110, 100] (vBinary [62, 61] a b).1 (vBinary [60, 61] a c).1, 0)
def inGo (x : V) : V → List V → V × Int
  | acc, [] => (acc, 0)
  | acc, y :: r =>
    if (vBinary [61] x y).2 != 0 then (vN, (vBinary [61] x y).2)
    else if sTrue (sLogic [111, 114] acc (vBinary [61] x y).1) then (sLogic [111, 114] acc (vBinary [61] x y).1, 0)
    else inGo x (sLogic [111, 114] acc (vBinary [61] x y).1) r
def vIn (x : V) (l : List V) : V × Int :=
  if !sValid x || !l.all sValid then (vN, 2) else inGo x (vB false) l
end Go.Proofs.YtpmfpfkahanlaaaGreatDoor

/- Functions and aggregates of package value, and texts: what is computed. -/
namespace Go.Proofs.YtpmfpfkahanlaaaGreatDoor
set_option linter.unusedVariables false

def sumN : List V → Int
  | [] => 0
  | v :: r => v.n + sumN r
theorem sumN_append (l r : List V) : sumN (l ++ r) = sumN l + sumN r := by
  induction l with
  | nil => simp [sumN]
  | cons x l ih => simp only [List.cons_append, sumN, ih]; omega
def minGo : V → List V → V
  | m, [] => m
  | m, y :: r => minGo (if sCmp y m < 0 then y else m) r
def maxGo : V → List V → V
  | m, [] => m
  | m, y :: r => maxGo (if 0 < sCmp y m then y else m) r
def present (l : List V) : List V := l.filter fun v => v.k != 0
def aggOf (op : List UInt8) (p : List V) : V × Int :=
  if op == [99, 111, 117, 110, 116] then sWhole (p.length : Int)
  else match p with
  | [] => (vN, 0)
  | x :: r =>
    if (x :: r).any (fun v => v.k != (if op == [115, 117, 109] then 1 else x.k)) then (vN, 16)
    else if op == [109, 105, 110] then (minGo x r, 0)
    else if op == [109, 97, 120] then (maxGo x r, 0)
    else sWhole (sumN (x :: r))
def vAgg (op : List UInt8) (l : List V) : V × Int :=
  if !l.all sValid then (vN, 2)
  else if !sIsAgg op then (vN, 13)
  else aggOf op (present l)
theorem present_append (l r : List V) : present (l ++ r) = present l ++ present r := List.filter_append ..
def sigT : List (List UInt8 × List UInt8) :=
  [([97, 98, 115], [105]), ([115, 105, 103, 110], [105]), ([108, 101, 110, 103, 116, 104], [116]), ([117, 112, 112, 101, 114], [116]), ([108, 111, 119, 101, 114], [116]), ([115, 117, 98, 115, 116, 114], [116, 105, 105]), ([116, 111, 95, 116, 101, 120, 116], [105]), ([116, 111, 95, 105, 110, 116], [116]), ([110, 118, 108], [97, 97]), ([110, 117, 108, 108, 105, 102], [97, 97]), ([108, 101, 97, 115, 116], [97, 97]), ([103, 114, 101, 97, 116, 101, 115, 116], [97, 97])]
def sigOf (s : List UInt8) : List UInt8 := (look sigT s).getD []
def isSig (s : List UInt8) : Bool := (look sigT s).isSome
def kindOf (c : Int) : Int := if c == 105 then 1 else if c == 116 then 2 else 0
def sKinds (s : List UInt8) : List Int := (sigOf s).map fun c => kindOf (c.toNat : Int)
def atoiV (t : List UInt8) : Option Int := match Lib.atoiAll t with | .ok v => some v | _ => none
def sToInt (t : List UInt8) : V × Int := match atoiV t with
  | none => (vN, 21)
  | some n => if Lib.itoa n == t then sWhole n else (vN, 21)
def sLeast (x y : V) : V := if 0 < sCmp x y then y else x
def sGreatest (x y : V) : V := if sCmp x y < 0 then y else x
def subP (len a : Int) : Int := min (max a 1 - 1) len
def subC (len p a : Int) : Int := min (max a 0) (len - p)
def sSub (t : List UInt8) (a b : Int) : List UInt8 := (t.drop (subP t.length a).toNat).take (subC t.length (subP t.length a) b).toNat
def goK : List Int → List V → Int → Option Int
  | k :: ks, v :: vs, c => if !sFits v (if k == 0 then max c v.k else k) then none else goK ks vs (if k == 0 then max c v.k else c)
  | _, _, c => some c
def v0 (l : List V) : V := l.headD vN
def v1 (l : List V) : V := l.tail.headD vN
def v2 (l : List V) : V := l.tail.tail.headD vN
def vCalled (op : List UInt8) (l : List V) : V × Int :=
  if op == [97, 98, 115] then sWhole (max (v0 l).n (-(v0 l).n))
  else if op == [115, 105, 103, 110] then sWhole (min (max (v0 l).n (-1)) 1)
  else if op == [108, 101, 110, 103, 116, 104] then sWhole ((v0 l).t.length : Int)
  else if op == [117, 112, 112, 101, 114] then sWritten (Lib.toUpperA (v0 l).t)
  else if op == [108, 111, 119, 101, 114] then sWritten (Lib.toLowerA (v0 l).t)
  else if op == [115, 117, 98, 115, 116, 114] then sWritten (sSub (v0 l).t (v1 l).n (v2 l).n)
  else if op == [116, 111, 95, 116, 101, 120, 116] then sWritten (Lib.itoa (v0 l).n)
  else if op == [116, 111, 95, 105, 110, 116] then sToInt (v0 l).t
  else if op == [108, 101, 97, 115, 116] then (sLeast (v0 l) (v1 l), 0)
  else (sGreatest (v0 l) (v1 l), 0)
theorem sig_cases {op : List UInt8} (h : isSig op = true) : op = [97, 98, 115] ∨ op = [115, 105, 103, 110] ∨ op = [108, 101, 110, 103, 116, 104] ∨ op = [117, 112, 112, 101, 114] ∨ op = [108, 111, 119, 101, 114] ∨ op = [115, 117, 98, 115, 116, 114] ∨ op = [116, 111, 95, 116, 101, 120, 116] ∨ op = [116, 111, 95, 105, 110, 116] ∨ op = [110, 118, 108] ∨ op = [110, 117, 108, 108, 105, 102] ∨ op = [108, 101, 97, 115, 116] ∨ op = [103, 114, 101, 97, 116, 101, 115, 116] := by
  unfold isSig at h
  obtain ⟨v, hv⟩ := Option.isSome_iff_exists.1 h
  have hm := look_mem hv
  unfold sigT at hm
  simp only [List.mem_cons, Prod.mk.injEq, List.not_mem_nil, or_false] at hm
  rcases hm with ⟨h1, h2⟩ | ⟨h1, h2⟩ | ⟨h1, h2⟩ | ⟨h1, h2⟩ | ⟨h1, h2⟩ | ⟨h1, h2⟩ | ⟨h1, h2⟩ | ⟨h1, h2⟩ | ⟨h1, h2⟩ | ⟨h1, h2⟩ | ⟨h1, h2⟩ | ⟨h1, h2⟩
  all_goals simp [h1]
theorem len1 {l : List V} (h : l.length = 1) : ∃ x, l = [x] := List.length_eq_one_iff.1 h
theorem len2 {l : List V} (h : l.length = 2) : ∃ x y, l = [x, y] := by
  match l, h with
  | [x, y], _ => exact ⟨x, y, rfl⟩
theorem len3 {l : List V} (h : l.length = 3) : ∃ x y z, l = [x, y, z] := by
  match l, h with
  | [x, y, z], _ => exact ⟨x, y, z, rfl⟩
def vAfter (op : List UInt8) (l : List V) (cm : Int) : V × Int :=
  if cm != 0 && l.any (fun v => !sFits v cm) then (vN, 16)
  else if op == [110, 118, 108] then (if (v0 l).k == 0 then v1 l else v0 l, 0)
  else if op == [110, 117, 108, 108, 105, 102] then (if (v0 l).k != 0 && veq (v0 l) (v1 l) then vN else v0 l, 0)
  else if l.any (veq vN) then (vN, 0)
  else vCalled op l
def vLoop (op : List UInt8) (l : List V) : V × Int := match goK (sKinds op) l 0 with
  | none => (vN, 16)
  | some cm => vAfter op l cm
def vCall (op : List UInt8) (l : List V) : V × Int :=
  if !l.all sValid then (vN, 2)
  else if !isSig op then (vN, 13)
  else if (sKinds op).length != l.length then (vN, 17)
  else vLoop op l
def atoiN (t : List UInt8) : Int := match Lib.atoiAll t with | .ok v => v | .range => Lib.atoiSat t | _ => 0
def isQ (t : List UInt8) : Bool := decide (2 ≤ t.length) && (t[0]? == some 39 && t[t.length - 1]? == some 39)
def sWr (v : V) : List UInt8 :=
  if v.k == 1 then Lib.itoa v.n
  else if v.k == 2 then [39] ++ esc v.t ++ [39]
  else if v.k == 3 then Lib.formatBool (v.n == 1)
  else [110, 117, 108, 108]
def vText (v : V) : List UInt8 × Int := if !sValid v then ([], 2) else (sWr v, 0)
def cand (t : List UInt8) : V :=
  if t == [116, 114, 117, 101] || t == [102, 97, 108, 115, 101] then vB (t == [116, 114, 117, 101])
  else if isQ t then vS (unesc ((t.drop 1).take (t.length - 2)))
  else if t != [110, 117, 108, 108] then vI (atoiN t)
  else vN
def vParse (t : List UInt8) : V × Int := if !sValid (cand t) || sWr (cand t) != t then (vN, 30) else (cand t, 0)
end Go.Proofs.YtpmfpfkahanlaaaGreatDoor

/- What the reference computes. -/
namespace Go.Proofs.YtpmfpfkahanlaaaGreatDoor
set_option linter.unusedVariables false

def rCmpOp (op : List UInt8) : Bool := hasL [[61], [60, 62], [60], [60, 61], [62], [62, 61]] op
def rArOp (op : List UInt8) : Bool := hasL [[43], [45], [42], [47], [109, 111, 100]] op
def rKinds (op : List UInt8) : List Int :=
  if rArOp op then [1]
  else if op == [124, 124] || op == [108, 105, 107, 101] then [2]
  else if op == [97, 110, 100] || op == [111, 114] then [3]
  else if rCmpOp op then [1, 2, 3] else []
def rTakes (l : List Int) (k : Int) : Bool := l.contains k || k == 0
def rTyped (op : List UInt8) (a b : Int) : Int := if !rTakes (rKinds op) a || (!rTakes (rKinds op) b || (a != 0 && (b != 0 && a != b))) then 16 else 0
def rBinary (op : List UInt8) (a b : V) : V × Int :=
  if rKinds op == [] || (!sValid a || !sValid b) then (vN, 2)
  else if rTyped op a.k b.k != 0 then (vN, rTyped op a.k b.k)
  else if op == [97, 110, 100] || op == [111, 114] then (sLogic op a b, 0)
  else if a.k == 0 || b.k == 0 then (vN, 0)
  else if op == [108, 105, 107, 101] then (vB (sLike a.t b.t), 0)
  else if op == [124, 124] then (if (200 : Int) < (a.t.length : Int) + (b.t.length : Int) then (vN, 21) else (vS (a.t ++ b.t), 0))
  else if rCmpOp op then (vB (sCompared op (rLess a b)), 0)
  else rArith op a.n b.n

def rInGo (x : V) : V → List V → V × Int
  | acc, [] => (acc, 0)
  | acc, y :: r =>
    if (rBinary [61] x y).2 != 0 then (vN, (rBinary [61] x y).2)
    else if veq (sLogic [111, 114] acc (rBinary [61] x y).1) (vB true) then (sLogic [111, 114] acc (rBinary [61] x y).1, 0)
    else rInGo x (sLogic [111, 114] acc (rBinary [61] x y).1) r
def rIn (x : V) (l : List V) : V × Int := if !sValid x || !l.all sValid then (vN, 2) else rInGo x (vB false) l
def rBetween (a b c : V) : V × Int :=
  if !sValid a || (!sValid b || !sValid c) then (vN, 2)
  else if (rBinary [62, 61] a b).2 != 0 then (vN, (rBinary [62, 61] a b).2)
  else if (rBinary [60, 61] a c).2 != 0 then (vN, (rBinary [60, 61] a c).2)
  else (sLogic [97, 110, 100] (rBinary [62, 61] a b).1 (rBinary [60, 61] a c).1, 0)
def rq : List UInt8 → List UInt8
  | [] => []
  | [c] => [c]
  | c :: d :: r => if c = 39 then c :: rq r else c :: rq (d :: r)
def rWh (t : List UInt8) : Option Int := match atoiV t with
  | some n => if sIsInt n && Lib.itoa n == t then some n else none
  | none => none
def rcand (t : List UInt8) : Option V :=
  if t == [110, 117, 108, 108] then some vN
  else if t == [116, 114, 117, 101] || t == [102, 97, 108, 115, 101] then some (vB (t == [116, 114, 117, 101]))
  else if decide (2 ≤ t.length) && t[0]? == some 39 then some (vS (rq ((t.drop 1).take (t.length - 2))))
  else (rWh t).map vI
def rText (v : V) : List UInt8 × Int := vText v
def rParse (t : List UInt8) : V × Int := match rcand t with
  | none => (vN, 30)
  | some v => if (vText v).2 != 0 || (vText v).1 != t then (vN, 30) else (v, 0)
def rFitGo : List Int → List Int → Int → Int
  | w :: ws, k :: ks, o => if k == 0 then rFitGo ws ks o else if (w != 0 && w != k) || (w == 0 && (o != 0 && o != k)) then 16 else rFitGo ws ks k
  | _, _, _ => 0
def rFits (op : List UInt8) (ks : List Int) : Int := if (sKinds op).length != ks.length then 17 else rFitGo (sKinds op) ks 0
def rCasedB (f t c : UInt8) : UInt8 := if f ≤ c ∧ c ≤ f + 25 then c - f + t else c
def rPart (t : List UInt8) (a b : Int) : List UInt8 :=
  if (t.length : Int) < max a 1 || decide (b < 1) then [] else (t.drop (max a 1 - 1).toNat).take ((min (t.length : Int) (max a 1 - 1 + min b 200)).toNat - (max a 1 - 1).toNat)
def rCalled (op : List UInt8) (l : List V) : V × Int :=
  if op == [97, 98, 115] then (vI (max (v0 l).n (-(v0 l).n)), 0)
  else if op == [115, 105, 103, 110] then (vI (min (max (v0 l).n (-1)) 1), 0)
  else if op == [116, 111, 95, 116, 101, 120, 116] then (vS (Lib.itoa (v0 l).n), 0)
  else if op == [108, 101, 110, 103, 116, 104] then (vI ((v0 l).t.length : Int), 0)
  else if op == [117, 112, 112, 101, 114] then (vS ((v0 l).t.map (rCasedB 97 65)), 0)
  else if op == [108, 111, 119, 101, 114] then (vS ((v0 l).t.map (rCasedB 65 97)), 0)
  else if op == [116, 111, 95, 105, 110, 116] then (match rWh (v0 l).t with | some n => (vI n, 0) | none => (vN, 21))
  else if op == [115, 117, 98, 115, 116, 114] then (vS (rPart (v0 l).t (v1 l).n (v2 l).n), 0)
  else (if decide (rLess (v0 l) (v1 l) ≤ 0) == (op == [108, 101, 97, 115, 116]) then v0 l else v1 l, 0)
def rCall (op : List UInt8) (l : List V) : V × Int :=
  if !l.all sValid then (vN, 2)
  else if !isSig op then (vN, 13)
  else if rFits op (l.map V.k) != 0 then (vN, rFits op (l.map V.k))
  else if op == [110, 118, 108] then (if (v0 l).k == 0 then v1 l else v0 l, 0)
  else if op == [110, 117, 108, 108, 105, 102] then (if veq (v0 l) (v1 l) then vN else v0 l, 0)
  else if l.any (fun v => v.k == 0) then (vN, 0)
  else rCalled op l

def rMinMax (op : List UInt8) : V → List V → V
  | m, [] => m
  | m, y :: r => rMinMax op (if (op == [109, 105, 110] && decide (rLess y m < 0)) || (op == [109, 97, 120] && decide (0 < rLess y m)) then y else m) r
def rAggOf (op : List UInt8) (p : List V) : V × Int :=
  if op == [99, 111, 117, 110, 116] then (vI (p.length : Int), 0)
  else match p with
  | [] => (vN, 0)
  | x :: r =>
    if (x :: r).any (fun v => v.k != x.k || (op == [115, 117, 109] && v.k != 1)) then (vN, 16)
    else if op == [115, 117, 109] then sWhole (sumN (x :: r))
    else (rMinMax op x (x :: r), 0)
def rAgg (op : List UInt8) (l : List V) : V × Int :=
  if !l.all sValid then (vN, 2)
  else if !sIsAgg op then (vN, 13)
  else rAggOf op (present l)
end Go.Proofs.YtpmfpfkahanlaaaGreatDoor

/- The values that are valid, one form each; comparisons and arithmetic of package value are the reference's. -/
namespace Go.Proofs.YtpmfpfkahanlaaaGreatDoor
set_option linter.unusedSimpArgs false
set_option linter.unusedVariables false

theorem veq_e {a b : V} (h : veq a b = true) : a = b := by
  obtain ⟨k, n, t⟩ := a
  obtain ⟨k', n', t'⟩ := b
  simp [veq] at h
  obtain ⟨rfl, rfl, rfl⟩ := h
  rfl
theorem sv_cases {v : V} (h : sValid v = true) : v = vN ∨ (∃ n, v = vI n ∧ -1099511627776 ≤ n ∧ n ≤ 1099511627776) ∨ (∃ t, v = vS t ∧ sIsStr t = true) ∨ (∃ b, v = vB b) := by
  obtain ⟨k, n, t⟩ := v
  by_cases h0 : k = 0
  · subst h0
    left
    exact veq_e (by simpa [sValid] using h)
  by_cases h1 : k = 1
  · subst h1
    right; left
    simp [sValid, sIsInt] at h
    obtain ⟨rfl, h2, h3⟩ := h
    exact ⟨n, rfl, h2, h3⟩
  by_cases h2 : k = 2
  · subst h2
    right; right; left
    simp [sValid] at h
    obtain ⟨rfl, h3⟩ := h
    exact ⟨t, rfl, h3⟩
  by_cases h3 : k = 3
  · subst h3
    right; right; right
    simp [sValid] at h
    obtain ⟨rfl, rfl | rfl⟩ := h
    · exact ⟨false, rfl⟩
    · exact ⟨true, rfl⟩
  · simp [sValid, h0, h1, h2, h3] at h
theorem sv_n : sValid vN = true := rfl
theorem sv_i {n : Int} (h : -1099511627776 ≤ n) (h' : n ≤ 1099511627776) : sValid (vI n) = true := by simp [sValid, vI, sIsInt, h, h']
theorem sv_i' {n : Int} (h : sValid (vI n) = true) : -1099511627776 ≤ n ∧ n ≤ 1099511627776 := by
  rcases sv_cases h with e | ⟨m, e, h1, h2⟩ | ⟨t, e, _⟩ | ⟨x, e⟩
  · simp [vI, vN] at e
  · simp [vI] at e
    subst e
    exact ⟨h1, h2⟩
  · simp [vI, vS] at e
  · simp [vI, vB] at e
theorem sv_s {t : List UInt8} (h : sIsStr t = true) : sValid (vS t) = true := by simp [sValid, vS, h]
theorem sv_b (b : Bool) : sValid (vB b) = true := by cases b <;> rfl
theorem vI_inj {a b : Int} : vI a = vI b ↔ a = b := by simp [vI]
theorem vS_inj {a b : List UInt8} : vS a = vS b ↔ a = b := by simp [vS]
theorem vB_inj {a b : Bool} : vB a = vB b ↔ a = b := by cases a <;> cases b <;> simp [vB, bn]
theorem veq_iff {a b : V} : veq a b = true ↔ a = b := ⟨veq_e, by rintro rfl; simp [veq]⟩
theorem veq_dec (a b : V) [Decidable (a = b)] : veq a b = decide (a = b) := by rw [Bool.eq_iff_iff, veq_iff, decide_eq_true_eq]
theorem kI (n : Int) : (vI n).k = 1 := rfl
theorem kS (t : List UInt8) : (vS t).k = 2 := rfl
theorem kB (b : Bool) : (vB b).k = 3 := rfl
theorem kN : vN.k = 0 := rfl

theorem cmpB_less : ∀ (a b : List UInt8), Lib.compareBytes a b = if Op.bytesLess a b then -1 else if a = b then 0 else 1
  | [], [] => rfl
  | [], y :: b => rfl
  | x :: a, [] => by simp [Lib.compareBytes, Op.bytesLess]
  | x :: a, y :: b => by
    unfold Lib.compareBytes Op.bytesLess
    by_cases h : x < y
    · simp [h]
    · by_cases h2 : y < x
      · have hne : x ≠ y := by rintro rfl; exact h h2
        simp [h, h2, hne]
      · have e : x = y := UInt8.le_antisymm (UInt8.not_lt.1 h2) (UInt8.not_lt.1 h)
        subst e
        rw [if_neg h, if_neg h, cmpB_less a b]
        simp [h]
theorem cmpB_zero : ∀ (a b : List UInt8), Lib.compareBytes a b = 0 ↔ a = b
  | [], [] => by simp [Lib.compareBytes]
  | [], y :: b => by simp [Lib.compareBytes]
  | x :: a, [] => by simp [Lib.compareBytes]
  | x :: a, y :: b => by
    unfold Lib.compareBytes
    by_cases h : x < y
    · have hne : x ≠ y := by rintro rfl; exact UInt8.lt_irrefl _ h
      simp [h, hne]
    · by_cases h2 : y < x
      · have hne : x ≠ y := by rintro rfl; exact h h2
        simp [h, h2, hne]
      · have e : x = y := UInt8.le_antisymm (UInt8.not_lt.1 h2) (UInt8.not_lt.1 h)
        subst e
        rw [if_neg h, if_neg h, cmpB_zero a b]
        simp
theorem cmpB_swap : ∀ (a b : List UInt8), Lib.compareBytes b a = - Lib.compareBytes a b
  | [], [] => rfl
  | [], y :: b => rfl
  | x :: a, [] => rfl
  | x :: a, y :: b => by
    unfold Lib.compareBytes
    by_cases h : x < y
    · have h2 : ¬ y < x := fun h2 => UInt8.lt_irrefl _ (UInt8.lt_trans h h2)
      simp [h, h2]
    · by_cases h2 : y < x
      · simp [h, h2]
      · simp [h, h2, cmpB_swap a b]
theorem cmpB_range (a b : List UInt8) : Lib.compareBytes a b = -1 ∨ Lib.compareBytes a b = 0 ∨ Lib.compareBytes a b = 1 := by
  rw [cmpB_less]
  split
  · exact .inl rfl
  · split
    · exact .inr (.inl rfl)
    · exact .inr (.inr rfl)
theorem cmpB_trans : ∀ (a b c : List UInt8), Lib.compareBytes a b ≤ 0 → Lib.compareBytes b c ≤ 0 → Lib.compareBytes a c ≤ 0
  | [], _, [], _, _ => by simp [Lib.compareBytes]
  | [], _, z :: c, _, _ => by simp [Lib.compareBytes]
  | x :: a, [], _, h, _ => by simp [Lib.compareBytes] at h
  | x :: a, y :: b, [], _, h => by simp [Lib.compareBytes] at h
  | x :: a, y :: b, z :: c, h1, h2 => by
    unfold Lib.compareBytes at h1 h2 ⊢
    by_cases hxz : x < z
    · simp [hxz]
    rw [if_neg hxz]
    have hxy : x ≤ y := by
      by_cases h : x < y
      · exact UInt8.le_of_lt h
      · rw [if_neg h] at h1
        by_cases h' : y < x
        · rw [if_pos h'] at h1; omega
        · exact UInt8.not_lt.1 h'
    have hyz : y ≤ z := by
      by_cases h : y < z
      · exact UInt8.le_of_lt h
      · rw [if_neg h] at h2
        by_cases h' : z < y
        · rw [if_pos h'] at h2; omega
        · exact UInt8.not_lt.1 h'
    have hzx : z ≤ x := UInt8.not_lt.1 hxz
    have e1 : x = y := UInt8.le_antisymm hxy (UInt8.le_trans hyz hzx)
    have e2 : y = z := UInt8.le_antisymm hyz (UInt8.le_trans hzx hxy)
    subst e1
    subst e2
    have hi : ¬ x < x := UInt8.lt_irrefl x
    rw [if_neg hi, if_neg hi] at h1 h2
    rw [if_neg hi]
    exact cmpB_trans a b c h1 h2

theorem cmp_less {a b : V} (hk : a.k = b.k) (ha : sValid a = true) (hb : sValid b = true) : sCmp a b = rLess a b := by
  rcases sv_cases ha with rfl | ⟨n, rfl, h1, h2⟩ | ⟨t, rfl, h1⟩ | ⟨x, rfl⟩ <;> rcases sv_cases hb with rfl | ⟨n', rfl, h1', h2'⟩ | ⟨t', rfl, h1'⟩ | ⟨x', rfl⟩
  all_goals first | (exfalso; simp [vN, vI, vS, vB] at hk; done) | skip
  · rfl
  · simp only [sCmp, rLess, vI, veq]
    by_cases h : n < n'
    · simp [h]
    · by_cases h2 : n' < n
      · have : n ≠ n' := by omega
        simp [h, h2, this]
      · have : n = n' := by omega
        simp [this]
  · show Lib.compareBytes t t' = if (true && Op.bytesLess t t' || false) = true then -1 else if (true && (true && t == t')) = true then 0 else 1
    rw [cmpB_less]
    simp
  · cases x <;> cases x' <;> rfl

/-- The product goes beyond. -/
def far (a b : Int) : Bool := decide (2199023255552 < max a (-a) * max b (-b))
theorem far_swap (a b : Int) : far a b = far b a := by unfold far; rw [Int.mul_comm]
theorem far_v (a b : Int) : (a != 0 && decide (2199023255552 / max a (-a) < max b (-b))) = far a b := by
  unfold far
  by_cases h : a = 0
  · subst h
    simp
  · have hp : 0 < max a (-a) := by omega
    have e : (a != 0) = true := by simpa using h
    rw [e, Bool.true_and, Bool.eq_iff_iff, decide_eq_true_eq, decide_eq_true_eq, Int.ediv_lt_iff_lt_mul hp, Int.mul_comm]
theorem far_r (a b : Int) : (a != 0 && (b != 0 && decide (2199023255552 / max b (-b) < max a (-a)))) = far a b := by
  by_cases h : a = 0
  · subst h
    unfold far
    simp
  · have e : (a != 0) = true := by simpa using h
    rw [e, Bool.true_and, far_swap, ← far_v]
theorem arith_eq (op : List UInt8) (a b : Int) : sArith op a b = rArith op a b := by
  unfold sArith rArith
  rw [far_v, far_r]
end Go.Proofs.YtpmfpfkahanlaaaGreatDoor

/- The laws of the three truths: what package value computes meets them. -/
namespace Go.Proofs.YtpmfpfkahanlaaaGreatDoor
set_option linter.unusedSimpArgs false
set_option linter.unusedVariables false

def tOps : List (List UInt8) := [[97, 110, 100], [111, 114], [43], [42]]
def cOps : List (List UInt8) := [[60], [61], [62]]
theorem arith_comm (op : List UInt8) (h : op = [43] ∨ op = [42]) (a b : Int) : sArith op a b = sArith op b a := by
  unfold sArith
  rw [far_v, far_v, far_swap, Int.add_comm, Int.mul_comm]
  rcases h with rfl | rfl <;> rfl
theorem comm_ops {op : List UInt8} (h : op ∈ tOps) {a b : V} (ha : sValid a = true) (hb : sValid b = true) : vBinary op a b = vBinary op b a := by
  simp only [tOps, List.mem_cons, List.not_mem_nil, or_false] at h
  rcases h with rfl | rfl | rfl | rfl
  all_goals rcases sv_cases ha with rfl | ⟨n, rfl, _, _⟩ | ⟨t, rfl, _⟩ | ⟨x, rfl⟩ <;> rcases sv_cases hb with rfl | ⟨n', rfl, _, _⟩ | ⟨t', rfl, _⟩ | ⟨x', rfl⟩
  all_goals unfold vBinary
  all_goals simp only [ha, hb]
  all_goals first
    | rfl
    | (show sArith [43] n n' = sArith [43] n' n; exact arith_comm _ (.inl rfl) _ _)
    | (show sArith [42] n n' = sArith [42] n' n; exact arith_comm _ (.inr rfl) _ _)
    | (cases x <;> cases x' <;> rfl)
    | (cases x <;> rfl)
    | (cases x' <;> rfl)
theorem morgan {o1 o2 : List UInt8} (h : (o1 = [97, 110, 100] ∧ o2 = [111, 114]) ∨ (o1 = [111, 114] ∧ o2 = [97, 110, 100])) {a b : V} (ha : sValid a = true) (hb : sValid b = true) (he : (vBinary o1 a b).2 = 0) :
    (vBinary o2 (vUnary [110, 111, 116] a).1 (vUnary [110, 111, 116] b).1).2 = 0 ∧ (vUnary [110, 111, 116] (vBinary o1 a b).1).1 = (vBinary o2 (vUnary [110, 111, 116] a).1 (vUnary [110, 111, 116] b).1).1 ∧ (vUnary [110, 111, 116] (vUnary [110, 111, 116] a).1).1 = a := by
  have hf : (sFits a 3 && sFits b 3) = true := by
    have h1 : isOp o1 = true := by rcases h with ⟨rfl, rfl⟩ | ⟨rfl, rfl⟩ <;> rfl
    have h2 : binK o1 a b = 3 := by rcases h with ⟨rfl, rfl⟩ | ⟨rfl, rfl⟩ <;> rfl
    unfold vBinary at he
    rw [h1, ha, hb, h2] at he
    cases h3 : sFits a 3 <;> cases h4 : sFits b 3 <;> simp [h3, h4] at he ⊢
  rcases sv_cases ha with rfl | ⟨n, rfl, _, _⟩ | ⟨t, rfl, _⟩ | ⟨x, rfl⟩ <;> rcases sv_cases hb with rfl | ⟨n', rfl, _, _⟩ | ⟨t', rfl, _⟩ | ⟨x', rfl⟩
  all_goals first | (exfalso; simp [sFits, vI, vS, vB, vN] at hf; done) | skip
  · rcases h with ⟨rfl, rfl⟩ | ⟨rfl, rfl⟩ <;> exact ⟨rfl, rfl, rfl⟩
  · rcases h with ⟨rfl, rfl⟩ | ⟨rfl, rfl⟩ <;> cases x' <;> exact ⟨rfl, rfl, rfl⟩
  · rcases h with ⟨rfl, rfl⟩ | ⟨rfl, rfl⟩ <;> cases x <;> exact ⟨rfl, rfl, rfl⟩
  · rcases h with ⟨rfl, rfl⟩ | ⟨rfl, rfl⟩ <;> cases x <;> cases x' <;> exact ⟨rfl, rfl, rfl⟩
def cntT (a b : V) : List (List UInt8) → Int
  | [] => 0
  | op :: r => (if sTrue (vBinary op a b).1 then 1 else 0) + cntT a b r
def cntN (a b : V) : List (List UInt8) → Int
  | [] => 0
  | op :: r => (if (vBinary op a b).1.k == 0 then 1 else 0) + cntN a b r
theorem cmp_val {op : List UInt8} (h : op ∈ cOps) {a b : V} (ha : sValid a = true) (hb : sValid b = true) (he : (vBinary op a b).2 = 0) :
    (vBinary op a b).1 = if a.k == 0 || b.k == 0 then vN else vB (sCompared op (sCmp a b)) := by
  have h1 : isOp op = true ∧ opK op = 0 ∧ binLogic op = false := by
    simp only [cOps, List.mem_cons, List.not_mem_nil, or_false] at h
    rcases h with rfl | rfl | rfl <;> exact ⟨rfl, rfl, rfl⟩
  unfold vBinary at he ⊢
  rw [h1.1, ha, hb, h1.2.1, h1.2.2] at he ⊢
  simp only [Bool.not_true, Bool.and_true, Bool.or_false, Bool.false_eq_true, if_false, Bool.and_false, beq_self_eq_true, if_true] at he ⊢
  split at he
  · cases he
  · rename_i hf
    rw [if_neg hf]
    split <;> rfl
theorem cnt_null {a b : V} (ha : sValid a = true) (hb : sValid b = true) (h0 : (a.k == 0 || b.k == 0) = true) (he : ∀ op ∈ cOps, (vBinary op a b).2 = 0) : cntN a b cOps = 3 := by
  have v : ∀ op ∈ cOps, (vBinary op a b).1 = vN := fun op h => by rw [cmp_val h ha hb (he op h), if_pos h0]
  simp [cOps, cntN, v [60] (by simp [cOps]), v [61] (by simp [cOps]), v [62] (by simp [cOps]), vN]
theorem kB_ne (b : Bool) : ((vB b).k == 0) = false := rfl
theorem true_vB (b : Bool) : sTrue (vB b) = b := by cases b <;> rfl
theorem cnt_one {a b : V} (ha : sValid a = true) (hb : sValid b = true) (h0 : (a.k == 0 || b.k == 0) = false) (he : ∀ op ∈ cOps, (vBinary op a b).2 = 0) : cntT a b cOps = 1 ∧ cntN a b cOps = 0 := by
  have v : ∀ op ∈ cOps, (vBinary op a b).1 = vB (sCompared op (sCmp a b)) := fun op h => by rw [cmp_val h ha hb (he op h), h0]; rfl
  have v1 := v [60] (by simp [cOps])
  have v2 := v [61] (by simp [cOps])
  have v3 := v [62] (by simp [cOps])
  simp only [cOps, cntT, cntN, v1, v2, v3, true_vB, kB_ne]
  constructor
  · simp only [sCompared]
    generalize sCmp a b = c
    by_cases h1 : c < 0
    · have h2 : ¬ c = 0 := by omega
      have h3 : ¬ 0 < c := by omega
      simp [h1, h2, h3]
    · by_cases h2 : c = 0
      · subst h2; rfl
      · have h3 : 0 < c := by omega
        simp [h1, h2, h3]
  · rfl
end Go.Proofs.YtpmfpfkahanlaaaGreatDoor

/- The laws of numbers and of the order: what package value computes meets them. -/
namespace Go.Proofs.YtpmfpfkahanlaaaGreatDoor
set_option linter.unusedSimpArgs false
set_option linter.unusedVariables false

theorem sWhole_ok {n : Int} (h : (sWhole n).2 = 0) : -1099511627776 ≤ n ∧ n ≤ 1099511627776 ∧ sWhole n = (vI n, 0) := by
  unfold sWhole at h ⊢
  cases hi : sIsInt n with
  | false => rw [hi] at h; cases h
  | true =>
    have := hi
    simp [sIsInt] at this
    exact ⟨this.1, this.2, rfl⟩
theorem sWhole_in {n : Int} (h : -1099511627776 ≤ n) (h' : n ≤ 1099511627776) : sWhole n = (vI n, 0) := by
  unfold sWhole
  rw [show sIsInt n = true by simp [sIsInt, h, h']]
  rfl
theorem bin_ar {op : List UInt8} (h1 : isOp op = true) (h2 : opK op = 1) (h7 : (op == [124, 124]) = false) (h8 : (op == [108, 105, 107, 101]) = false) {a b : Int} (ha : sValid (vI a) = true) (hb : sValid (vI b) = true) : vBinary op (vI a) (vI b) = sArith op a b := by
  unfold vBinary binK
  rw [ha, hb, h1, h2, h7, h8]
  rfl
theorem bin_ar_kind {op : List UInt8} (h1 : isOp op = true) (h2 : opK op = 1) (h9 : binLogic op = false) {a b : V} (ha : sValid a = true) (hb : sValid b = true) (he : (vBinary op a b).2 = 0) : ((a.k == 0 || b.k == 0) = true ∧ vBinary op a b = (vN, 0)) ∨ ∃ n m, a = vI n ∧ b = vI m := by
  rcases sv_cases ha with rfl | ⟨n, rfl, _, _⟩ | ⟨t, rfl, _⟩ | ⟨x, rfl⟩ <;> rcases sv_cases hb with rfl | ⟨n', rfl, _, _⟩ | ⟨t', rfl, _⟩ | ⟨x', rfl⟩
  all_goals first
    | (right; exact ⟨_, _, rfl, rfl⟩)
    | (exfalso; unfold vBinary binK at he; simp only [ha, hb, h1, h2, h9] at he; simp [sFits, vI, vS, vB, vN] at he; done)
    | (left; refine ⟨rfl, ?_⟩; unfold vBinary binK; simp only [ha, hb, h1, h2, h9]; rfl)
theorem w64_in {n : Int} (h : -9223372036854775808 ≤ n) (h' : n ≤ 9223372036854775807) : w64 n = n := by unfold w64; omega
theorem natAbs_le {a : Int} (h : -1099511627776 ≤ a) (h' : a ≤ 1099511627776) : a.natAbs ≤ 1099511627776 := by omega
theorem tdiv_in {a : Int} (b : Int) (h : -1099511627776 ≤ a) (h' : a ≤ 1099511627776) : -1099511627776 ≤ a.tdiv b ∧ a.tdiv b ≤ 1099511627776 := by
  have h1 : (a.tdiv b).natAbs ≤ a.natAbs := Int.natAbs_tdiv_le_natAbs a b
  omega
theorem tmod_in {a : Int} (b : Int) (h : -1099511627776 ≤ a) (h' : a ≤ 1099511627776) : -1099511627776 ≤ a.tmod b ∧ a.tmod b ≤ 1099511627776 := by
  have h1 : (a.tmod b).natAbs ≤ a.natAbs := by rw [Int.natAbs_tmod]; exact Nat.mod_le _ _
  omega
theorem div_mod {a b : V} (ha : sValid a = true) (hb : sValid b = true) (he : (vBinary [47] a b).2 = 0) (hf : (vBinary [109, 111, 100] a b).2 = 0)
    (hg : (vBinary [42] (vBinary [47] a b).1 b).2 = 0) (hh : (vBinary [43] (vBinary [42] (vBinary [47] a b).1 b).1 (vBinary [109, 111, 100] a b).1).2 = 0) (hk : (vBinary [47] a b).1.k ≠ 0) :
    (vBinary [43] (vBinary [42] (vBinary [47] a b).1 b).1 (vBinary [109, 111, 100] a b).1).1 = a := by
  rcases bin_ar_kind (op := [47]) rfl rfl rfl ha hb he with ⟨_, h⟩ | ⟨n, m, rfl, rfl⟩
  · rw [h] at hk; exact absurd rfl hk
  have hn : -1099511627776 ≤ n ∧ n ≤ 1099511627776 := sv_i' ha
  have hm : -1099511627776 ≤ m ∧ m ≤ 1099511627776 := sv_i' hb
  have td := tdiv_in m hn.1 hn.2
  have tm := tmod_in m hn.1 hn.2
  by_cases hm0 : m = 0
  · subst hm0
    rw [bin_ar rfl rfl rfl rfl ha hb] at he
    cases he
  have hm1 : (m == 0) = false := by simpa using hm0
  have e1 : vBinary [47] (vI n) (vI m) = (vI (n.tdiv m), 0) := by
    rw [bin_ar rfl rfl rfl rfl ha hb]
    show (if m == 0 then (vN, 22) else sWhole (w64 (n.tdiv m))) = _
    rw [hm1, w64_in (by omega) (by omega), sWhole_in td.1 td.2]
    rfl
  have e2 : vBinary [109, 111, 100] (vI n) (vI m) = (vI (n.tmod m), 0) := by
    rw [bin_ar rfl rfl rfl rfl ha hb]
    show (if m == 0 then (vN, 22) else sWhole (n.tmod m)) = _
    rw [hm1, sWhole_in tm.1 tm.2]
    rfl
  rw [e1, e2] at hh ⊢
  rw [e1] at hg
  simp only at hg hh ⊢
  have hv := sv_i td.1 td.2
  rw [bin_ar (op := [42]) rfl rfl rfl rfl hv hb] at hg hh ⊢
  have hdm : n.tdiv m * m + n.tmod m = n := by rw [Int.mul_comm]; exact Int.mul_tdiv_add_tmod n m
  have e3 : sArith [42] (n.tdiv m) m = (vI (n.tdiv m * m), 0) := by
    have hp : -2199023255552 ≤ n.tdiv m * m ∧ n.tdiv m * m ≤ 2199023255552 := by omega
    have hq : sArith [42] (n.tdiv m) m = if far (n.tdiv m) m then (vN, 21) else sWhole (w64 (n.tdiv m * m)) := by
      rw [← far_v]; rfl
    rw [hq] at hg ⊢
    cases hfar : far (n.tdiv m) m with
    | true => rw [hfar] at hg; cases hg
    | false =>
      rw [hfar] at hg
      simp only [Bool.false_eq_true, if_false] at hg ⊢
      rw [w64_in (by omega) (by omega)] at hg ⊢
      exact (sWhole_ok hg).2.2
  rw [e3] at hh hg ⊢
  have hb1 : -1099511627776 ≤ n.tdiv m * m ∧ n.tdiv m * m ≤ 1099511627776 := by
    have : n.tmod m = n - n.tdiv m * m := by omega
    by_cases h0 : 0 ≤ n
    · have := Int.tmod_nonneg m h0
      have : 0 ≤ n.tdiv m * m := by
        have h1 : (n.tmod m) ≤ n := by
          have := Int.natAbs_tmod n m
          have := Nat.mod_le n.natAbs m.natAbs
          omega
        omega
      omega
    · have h1 : n.tmod m ≤ 0 := by
        have := Int.tmod_nonneg m (show (0 : Int) ≤ -n by omega)
        rw [Int.neg_tmod] at this
        omega
      have h2 : n ≤ n.tmod m := by
        have := Int.natAbs_tmod n m
        have := Nat.mod_le n.natAbs m.natAbs
        omega
      omega
  simp only at hh ⊢
  rw [bin_ar (op := [43]) rfl rfl rfl rfl (sv_i hb1.1 hb1.2) (sv_i tm.1 tm.2)]
  show (sWhole (n.tdiv m * m + n.tmod m)).1 = _
  rw [hdm, sWhole_in hn.1 hn.2]
theorem minus_plus {a b : V} (ha : sValid a = true) (hb : sValid b = true) (h : (vUnary [45] b).2 = 0) : vBinary [45] a b = vBinary [43] a (vUnary [45] b).1 := by
  rcases sv_cases hb with rfl | ⟨m, rfl, h1, h2⟩ | ⟨t, rfl, h1⟩ | ⟨x, rfl⟩
  · rcases sv_cases ha with rfl | ⟨n, rfl, _, _⟩ | ⟨t, rfl, _⟩ | ⟨x, rfl⟩
    all_goals (show vBinary [45] _ vN = vBinary [43] _ vN; unfold vBinary; simp only [ha, hb]; rfl)
  · have e : vUnary [45] (vI m) = (vI (-m), 0) := by
      have e1 : vUnary [45] (vI m) = sWhole (w64 (-m)) := by unfold vUnary; rw [hb]; rfl
      rw [e1, w64_in (by omega) (by omega), sWhole_in (by omega) (by omega)]
    have hb' := sv_i (n := -m) (by omega) (by omega)
    rw [e]
    simp only
    rcases sv_cases ha with rfl | ⟨n, rfl, _, _⟩ | ⟨t, rfl, _⟩ | ⟨x, rfl⟩
    · unfold vBinary; simp only [ha, hb, hb']; rfl
    · rw [bin_ar rfl rfl rfl rfl ha hb, bin_ar rfl rfl rfl rfl ha hb']
      show sWhole (n - m) = sWhole (n + -m)
      rw [Int.sub_eq_add_neg]
    · unfold vBinary; simp only [ha, hb, hb']; rfl
    · unfold vBinary; simp only [ha, hb, hb']; rfl
  · unfold vUnary at h; rw [hb] at h; cases h
  · unfold vUnary at h; rw [hb] at h; cases h

/-- One kind. -/
theorem sCmp_swap {a b : V} (hk : a.k = b.k) : sCmp b a = - sCmp a b := by
  unfold sCmp
  rw [hk]
  split
  · exact cmpB_swap _ _
  · by_cases h : a.n < b.n
    · have : ¬ b.n < a.n := by omega
      simp [h, this]
    · by_cases h' : b.n < a.n
      · simp [h, h']
      · simp [h, h']
theorem sCmp_range (a b : V) : sCmp a b = -1 ∨ sCmp a b = 0 ∨ sCmp a b = 1 := by
  unfold sCmp
  split
  · exact cmpB_range _ _
  · split
    · exact .inl rfl
    · split
      · exact .inr (.inr rfl)
      · exact .inr (.inl rfl)
theorem sCmp_zero {a b : V} (hk : a.k = b.k) (ha : sValid a = true) (hb : sValid b = true) : sCmp a b = 0 ↔ a = b := by
  rcases sv_cases ha with rfl | ⟨n, rfl, h1, h2⟩ | ⟨t, rfl, h1⟩ | ⟨x, rfl⟩ <;> rcases sv_cases hb with rfl | ⟨n', rfl, h1', h2'⟩ | ⟨t', rfl, h1'⟩ | ⟨x', rfl⟩
  all_goals first | (exfalso; simp [vN, vI, vS, vB] at hk; done) | skip
  · exact ⟨fun _ => rfl, fun _ => rfl⟩
  · rw [vI_inj]
    simp only [sCmp, vI]
    by_cases h : n < n'
    · simp [h]; omega
    · by_cases h' : n' < n
      · simp [h, h']; omega
      · simp [h, h']; omega
  · rw [vS_inj]
    exact cmpB_zero _ _
  · cases x <;> cases x' <;> simp [sCmp, vB, bn]
theorem sCmp_trans {a b c : V} (hk : a.k = b.k) (hk' : b.k = c.k) (h : sCmp a b ≤ 0) (h' : sCmp b c ≤ 0) : sCmp a c ≤ 0 := by
  unfold sCmp at h h' ⊢
  rw [hk, hk'] at h ⊢
  rw [hk'] at h'
  split
  · rename_i hc
    rw [if_pos hc] at h h'
    exact cmpB_trans _ _ _ h h'
  · rename_i hc
    rw [if_neg hc] at h h'
    have h1 : a.n ≤ b.n := by
      by_cases x : a.n < b.n
      · omega
      · rw [if_neg x] at h
        by_cases y : b.n < a.n
        · rw [if_pos y] at h; omega
        · omega
    have h2 : b.n ≤ c.n := by
      by_cases x : b.n < c.n
      · omega
      · rw [if_neg x] at h'
        by_cases y : c.n < b.n
        · rw [if_pos y] at h'; omega
        · omega
    by_cases x : a.n < c.n
    · rw [if_pos x]; omega
    · rw [if_neg x, if_neg (by omega)]; omega
/-- The order of two values that may be compared. -/
def may (a b : V) : Prop := a.k = b.k ∨ a.k = 0 ∨ b.k = 0
theorem order_ok {a b : V} (ha : sValid a = true) (hb : sValid b = true) (h : (vOrder a b).2 = 0) : may a b ∧ (vOrder a b).1 = sBefore (sCmp a b) a b := by
  unfold vOrder at h ⊢
  rw [ha, hb] at h ⊢
  simp only [Bool.and_true, Bool.not_true, Bool.false_eq_true, if_false] at h ⊢
  split at h
  · cases h
  · rename_i hc
    rw [if_neg hc]
    refine ⟨?_, rfl⟩
    unfold may
    by_cases h1 : a.k = b.k
    · exact .inl h1
    · by_cases h2 : a.k = 0
      · exact .inr (.inl h2)
      · by_cases h3 : b.k = 0
        · exact .inr (.inr h3)
        · exact absurd (by simp [h1, h2, h3]) hc
theorem null_of {a : V} (ha : sValid a = true) (h : a.k = 0) : a = vN := by
  rcases sv_cases ha with rfl | ⟨n, rfl, h1, h2⟩ | ⟨t, rfl, h1⟩ | ⟨x, rfl⟩
  · rfl
  all_goals cases h
theorem bef_range (a b : V) : sBefore (sCmp a b) a b = -1 ∨ sBefore (sCmp a b) a b = 0 ∨ sBefore (sCmp a b) a b = 1 := by
  unfold sBefore
  split
  · exact .inr (.inl rfl)
  · split
    · exact .inr (.inr rfl)
    · split
      · exact .inl rfl
      · exact sCmp_range a b
theorem bef_swap {a b : V} (h : may a b) : sBefore (sCmp b a) b a = - sBefore (sCmp a b) a b := by
  unfold sBefore
  by_cases h1 : a.k = 0
  · by_cases h2 : b.k = 0 <;> simp [h1, h2]
  · by_cases h2 : b.k = 0
    · simp [h1, h2]
    · have hk : a.k = b.k := by rcases h with h | h | h <;> first | exact h | exact absurd h ‹_›
      simp [h1, h2, sCmp_swap hk]
theorem bef_zero {a b : V} (h : may a b) (ha : sValid a = true) (hb : sValid b = true) : sBefore (sCmp a b) a b = 0 ↔ a = b := by
  unfold sBefore
  by_cases h1 : a.k = 0
  · by_cases h2 : b.k = 0
    · rw [null_of ha h1, null_of hb h2]; simp [vN]
    · simp only [h1, h2, beq_self_eq_true, Bool.true_and, beq_iff_eq, if_false, if_true]
      constructor
      · intro e; cases e
      · rintro rfl; exact absurd h1 h2
  · by_cases h2 : b.k = 0
    · simp only [h1, h2, beq_iff_eq, Bool.and_eq_true, false_and, if_false, if_true]
      constructor
      · intro e; cases e
      · rintro rfl; exact absurd h2 h1
    · have hk : a.k = b.k := by rcases h with h | h | h <;> first | exact h | exact absurd h ‹_›
      simp [h1, h2, sCmp_zero hk ha hb]
theorem bef_trans {a b c : V} (h : may a b) (h' : may b c) (h'' : may a c) (x : sBefore (sCmp a b) a b ≤ 0) (y : sBefore (sCmp b c) b c ≤ 0) : sBefore (sCmp a c) a c ≤ 0 := by
  unfold sBefore at x y ⊢
  by_cases h1 : a.k = 0
  · by_cases h2 : b.k = 0
    · by_cases h3 : c.k = 0
      · simp [h1, h3]
      · simp [h2, h3] at y
    · simp [h1, h2] at x
  · by_cases h3 : c.k = 0
    · simp [h1, h3]
    · by_cases h2 : b.k = 0
      · simp [h2, h3] at y
      · have k1 : a.k = b.k := by rcases h with h | h | h <;> first | exact h | exact absurd h ‹_›
        have k2 : b.k = c.k := by rcases h' with h | h | h <;> first | exact h | exact absurd h ‹_›
        simp only [h1, h2, h3, beq_iff_eq, Bool.and_eq_true, false_and, if_false] at x y ⊢
        exact sCmp_trans k1 k2 x y
end Go.Proofs.YtpmfpfkahanlaaaGreatDoor

/- The laws of like: what package value computes meets them. -/
namespace Go.Proofs.YtpmfpfkahanlaaaGreatDoor
set_option linter.unusedSimpArgs false
set_option linter.unusedVariables false

theorem mL_pct : ∀ u : List UInt8, mL u [37] = true
  | [] => by rw [mL_nc, mL_nn]; rfl
  | x :: u => by rw [mL_pc, mL_pct u, Bool.true_or]
theorem mL_self : ∀ u : List UInt8, (∀ c ∈ u, c ≠ 37 ∧ c ≠ 95) → mL u u = true
  | [], _ => mL_nn
  | x :: u, h => by
    rw [mL_oc _ _ _ _ (h x List.mem_cons_self).1, mL_self u fun c hc => h c (List.mem_cons_of_mem _ hc)]
    simp
theorem mL_drop (u q : List UInt8) (h : mL u q = true) : ∀ v : List UInt8, mL (v ++ u) (37 :: q) = true
  | [] => mL_mono u q h
  | x :: v => by rw [List.cons_append, mL_pc, mL_drop u q h v, Bool.true_or]
def plainS (s : List UInt8) : Bool := s.all fun c => c != 37 && c != 95
theorem like_all (s : List UInt8) : sLike s [37] = true := mL_pct _
theorem plain_mem {s : List UInt8} (h : plainS s = true) : ∀ c ∈ s.reverse, c ≠ 37 ∧ c ≠ 95 := by
  intro c hc
  have := List.all_eq_true.1 h c (List.mem_reverse.1 hc)
  simpa using this
theorem like_self {s : List UInt8} (h : plainS s = true) : sLike s s = true := mL_self _ (plain_mem h)
theorem like_more {s : List UInt8} (t : List UInt8) (h : plainS s = true) : sLike (s ++ t) (s ++ [37]) = true := by
  unfold sLike
  rw [List.reverse_append, List.reverse_append]
  exact mL_drop _ _ (mL_self _ (plain_mem h)) _
theorem isStr_app {s t : List UInt8} (h : sIsStr (s ++ t) = true) : sIsStr s = true := by
  unfold sIsStr at h ⊢
  rw [List.all_append, List.length_append] at h
  simp only [Bool.and_eq_true, decide_eq_true_eq] at h ⊢
  exact ⟨by omega, h.2.1⟩
theorem isStr_pct {s : List UInt8} (h : sIsStr s = true) (hl : s.length + 1 ≤ 200) : sIsStr (s ++ [37]) = true := by
  unfold sIsStr at h ⊢
  rw [List.all_append, List.length_append]
  simp only [Bool.and_eq_true, decide_eq_true_eq] at h ⊢
  exact ⟨by simpa using hl, h.2, by decide⟩
theorem bin_lk {s p : List UInt8} (hs : sIsStr s = true) (hp : sIsStr p = true) : vBinary [108, 105, 107, 101] (vS s) (vS p) = (vB (sLike s p), 0) := by
  unfold vBinary
  rw [sv_s hs, sv_s hp]
  rfl
theorem lk_all {s t : List UInt8} (h : sIsStr (s ++ t) = true) : vBinary [108, 105, 107, 101] (vS s) (vS [37]) = (vB true, 0) := by
  rw [bin_lk (isStr_app h) (by rfl), like_all]
theorem lk_self {s t : List UInt8} (h : sIsStr (s ++ t) = true) (hp : plainS s = true) : vBinary [108, 105, 107, 101] (vS s) (vS s) = (vB true, 0) := by
  rw [bin_lk (isStr_app h) (isStr_app h), like_self hp]
theorem lk_more {s t : List UInt8} (h : sIsStr (s ++ t) = true) (hp : plainS s = true) (hl : s.length + 1 ≤ 200) : vBinary [108, 105, 107, 101] (vS (s ++ t)) (vS (s ++ [37])) = (vB true, 0) := by
  rw [bin_lk h (isStr_pct (isStr_app h) hl), like_more t hp]
end Go.Proofs.YtpmfpfkahanlaaaGreatDoor

/- A slice of kinds, as it lies. -/
namespace Go.Proofs.YtpmfpfkahanlaaaGreatDoor
open Go.RowKit

/-- A slice of kinds reads as l. -/
structure Ks (w : World) (A : Option Addr) (n : Nat) (l : List Int) : Prop where
  len : l.length = n
  at_ : 0 < n → ∃ b off, A = some ⟨b, off, none⟩ ∧ b < w.heap.size ∧ ∀ j (h : j < l.length), w.cell? ⟨b, off + j, none⟩ = some (.int .i64 l[j])
theorem Ks.later {w w' : World} {A : Option Addr} {n : Nat} {l : List Int} (h : Ks w A n l) (hb : Below w.heap.size w w') : Ks w' A n l :=
  ⟨h.len, fun hn => by
    obtain ⟨b, off, rfl, hlt, hc⟩ := h.at_ hn
    refine ⟨b, off, rfl, Nat.lt_of_lt_of_le hlt hb.size, fun j hj => ?_⟩
    rw [hb.cell (p := ⟨b, _, none⟩) hlt]
    exact hc j hj⟩
theorem ks_new (w : World) (l : List Int) : Ks (w.alloc (.cells (l.map (Value.int .i64)).toArray 25)) (some ⟨w.heap.size, 0, none⟩) l.length l :=
  ⟨rfl, fun _ => ⟨_, 0, rfl, by simp, fun j h => by rw [Nat.zero_add, World.cell?_alloc_new]; simp [List.getElem?_eq_getElem h]⟩⟩
theorem Ks.nil {w : World} {A : Option Addr} : Ks w A 0 [] := ⟨rfl, fun h => absurd h (by omega)⟩
end Go.Proofs.YtpmfpfkahanlaaaGreatDoor

/-
  DERIVED: THE SHELF's CONTRACTS AT THIS DUMP, IN PLAIN WORDS (tools/lay-plain.mjs out of 'TryzShelfCut.lean', which tools/lay-shelf.mjs wrote): THE SAME DECLARATIONS UNDER THE SAME NAMES: 'import', 'namespace', 'open', 'def', 'theorem' AND NOTHING ELSE: no command of the shelf's: FOR A HAND-IN. Each laying: the table of numbers ('.._ren') and one theorem, a field a fact of the dump's own or the kernel's comparison; each contract: ONE APPLICATION.
-/
namespace Go.Proofs
open Go.Shelf
def Tryz.lays158_ren : Go.Shelf.Ren := ⟨fun | 158 => 121 | 165 => 133 | 166 => 134 | 167 => 135 | 169 => 136 | 230 => 137 | 203 => 138 | 240 => 154 | 241 => 155 | 197 => 144 | 118 => 156 | 168 => 157 | 270 => 158 | 262 => 159 | 276 => 169 | 277 => 170 | 260 => 164 | 242 => 171 | 313 => 172 | 278 => 185 | 274 => 186 | 275 => 187 | n => n, fun | 9 => 9 | 4 => 4 | 3 => 3 | 5 => 5 | 72 => 124 | 0 => 0 | 76 => 98 | 75 => 97 | 107 => 129 | 70 => 122 | 20 => 20 | 37 => 100 | 127 => 141 | 21 => 21 | 105 => 130 | 164 => 161 | 162 => 167 | 203 => 165 | 119 => 138 | 46 => 151 | 139 => 175 | 138 => 174 | 51 => 158 | 160 => 190 | 208 => 204 | 206 => 202 | 80 => 127 | n => n, fun | 13 => 6 | 3 => 7 | 4 => 8 | n => n⟩
theorem Tryz.lays158 : Go.Proofs.Lays.n158 Tryz.prog Tryz.lays158_ren := {
  mixed := by kernel_rfl
  f118 := Tryz.func156.trans (congrArg some (by kernel_rfl))
  f158 := Tryz.func121.trans (congrArg some (by kernel_rfl))
  f165 := Tryz.func133.trans (congrArg some (by kernel_rfl))
  f166 := Tryz.func134.trans (congrArg some (by kernel_rfl))
  f167 := Tryz.func135.trans (congrArg some (by kernel_rfl))
  f168 := Tryz.func157.trans (congrArg some (by kernel_rfl))
  f169 := Tryz.func136.trans (congrArg some (by kernel_rfl))
  f197 := Tryz.func144.trans (congrArg some (by kernel_rfl))
  f203 := Tryz.func138.trans (congrArg some (by kernel_rfl))
  f230 := Tryz.func137.trans (congrArg some (by kernel_rfl))
  f240 := Tryz.func154.trans (congrArg some (by kernel_rfl))
  f241 := Tryz.func155.trans (congrArg some (by kernel_rfl))
  f242 := Tryz.func171.trans (congrArg some (by kernel_rfl))
  f260 := Tryz.func164.trans (congrArg some (by kernel_rfl))
  f262 := Tryz.func159.trans (congrArg some (by kernel_rfl))
  f270 := Tryz.func158.trans (congrArg some (by kernel_rfl))
  f274 := Tryz.func186.trans (congrArg some (by kernel_rfl))
  f275 := Tryz.func187.trans (congrArg some (by kernel_rfl))
  f276 := Tryz.func169.trans (congrArg some (by kernel_rfl))
  f277 := Tryz.func170.trans (congrArg some (by kernel_rfl))
  f278 := Tryz.func185.trans (congrArg some (by kernel_rfl))
  f313 := Tryz.func172.trans (congrArg some (by kernel_rfl))
  t0 := Tryz.underlying0
  a0 := Tryz.isAgg0
  z0 := Tryz.sizeOf0
  v0 := Tryz.zeroValue0
  t3 := Tryz.underlying3
  a3 := Tryz.isAgg3
  z3 := Tryz.sizeOf3
  v3 := Tryz.zeroValue3
  t4 := Tryz.underlying4
  a4 := Tryz.isAgg4
  z4 := Tryz.sizeOf4
  v4 := Tryz.zeroValue4
  t5 := Tryz.underlying5
  a5 := Tryz.isAgg5
  z5 := Tryz.sizeOf5
  v5 := Tryz.zeroValue5
  t9 := Tryz.underlying9
  a9 := Tryz.isAgg9
  z9 := Tryz.sizeOf9
  v9 := Tryz.zeroValue9
  t20 := Tryz.underlying20
  a20 := Tryz.isAgg20
  z20 := Tryz.sizeOf20
  v20 := Tryz.zeroValue20
  t21 := Tryz.underlying21
  a21 := Tryz.isAgg21
  z21 := Tryz.sizeOf21
  v21 := Tryz.zeroValue21
  t37 := Tryz.underlying100
  a37 := Tryz.isAgg100
  z37 := Tryz.sizeOf100
  v37 := Tryz.zeroValue100
  t46 := Tryz.underlying151
  a46 := Tryz.isAgg151
  z46 := Tryz.sizeOf151
  v46 := Tryz.zeroValue151
  t51 := Tryz.underlying158
  a51 := Tryz.isAgg158
  z51 := Tryz.sizeOf158
  v51 := Tryz.zeroValue158
  t70 := Tryz.underlying122
  a70 := Tryz.isAgg122
  z70 := Tryz.sizeOf122
  v70 := Tryz.zeroValue122
  t72 := Tryz.underlying124
  a72 := Tryz.isAgg124
  z72 := Tryz.sizeOf124
  v72 := Tryz.zeroValue124
  t75 := Tryz.underlying97
  a75 := Tryz.isAgg97
  z75 := Tryz.sizeOf97
  v75 := Tryz.zeroValue97
  t76 := Tryz.underlying98
  a76 := Tryz.isAgg98
  z76 := Tryz.sizeOf98
  v76 := Tryz.zeroValue98
  t105 := Tryz.underlying130
  a105 := Tryz.isAgg130
  z105 := Tryz.sizeOf130
  v105 := Tryz.zeroValue130
  t107 := Tryz.underlying129
  a107 := Tryz.isAgg129
  z107 := Tryz.sizeOf129
  v107 := Tryz.zeroValue129
  t119 := Tryz.underlying138
  a119 := Tryz.isAgg138
  z119 := Tryz.sizeOf138
  t127 := Tryz.underlying141
  a127 := Tryz.isAgg141
  z127 := Tryz.sizeOf141
  v127 := Tryz.zeroValue141
  t138 := Tryz.underlying174
  a138 := Tryz.isAgg174
  z138 := Tryz.sizeOf174
  v138 := Tryz.zeroValue174
  t139 := Tryz.underlying175
  a139 := Tryz.isAgg175
  z139 := Tryz.sizeOf175
  v139 := Tryz.zeroValue175
  t160 := Tryz.underlying190
  a160 := Tryz.isAgg190
  z160 := Tryz.sizeOf190
  v160 := Tryz.zeroValue190
  t162 := Tryz.underlying167
  a162 := Tryz.isAgg167
  z162 := Tryz.sizeOf167
  v162 := Tryz.zeroValue167
  t164 := Tryz.underlying161
  a164 := Tryz.isAgg161
  z164 := Tryz.sizeOf161
  v164 := Tryz.zeroValue161
  t203 := Tryz.underlying165
  a203 := Tryz.isAgg165
  z203 := Tryz.sizeOf165
  v203 := Tryz.zeroValue165
  t206 := Tryz.underlying202
  a206 := Tryz.isAgg202
  z206 := Tryz.sizeOf202
  v206 := Tryz.zeroValue202
  t208 := Tryz.underlying204
  a208 := Tryz.isAgg204
  z208 := Tryz.sizeOf204
  v208 := Tryz.zeroValue204
  g3 := by kernel_rfl
  g4 := by kernel_rfl
  g13 := by kernel_rfl }
theorem Tryz.Builder_Extra_158 : Builder.Extra Tryz.prog Tryz.lays158_ren := {
  sizeBuilder := by kernel_rfl
  liesBuilder := by kernel_rfl
  t5 := Tryz.underlying5
  a5 := Tryz.isAgg5
  z5 := Tryz.sizeOf5
  v5 := Tryz.zeroValue5
  infoByte := by kernel_rfl
  cellsByte := by kernel_rfl
  sizeByte := by kernel_rfl
  neB5 := by decide }
open Go.RowKit in
/-- strings.ToUpper: "ToUpper returns s with all Unicode letters mapped to their upper case.": ON ASCII TEXT OF AT MOST 2^47 BYTES. Below the heap's end the world is as it was: where a letter turns, the call makes a builder and its buffer. (LAID: no walk: one application.) -/
theorem Tryz.strings_ToUpper_ascii (s : ByteArray) (w : World) (hs : s.size ≤ 140737488355328) (hascii : ∀ (j : Nat) (b : UInt8), s.data.toList[j]? = some b → b.toNat < 128) :
    Calls Tryz.prog 121 #[.string s] w fun e w' => e = .returned (.string ⟨(Lib.toUpperA s.data.toList).toArray⟩) ∧ Below w.heap.size w w' := Any.strings_ToUpper_ascii Tryz.lays158 Tryz.Builder_Extra_158 s w hs hascii
def Tryz.lays159_ren : Go.Shelf.Ren := ⟨fun | 159 => 122 | 165 => 133 | 166 => 134 | 167 => 135 | 169 => 136 | 230 => 137 | 204 => 139 | 240 => 154 | 241 => 155 | 197 => 144 | 118 => 156 | 168 => 157 | 270 => 158 | 262 => 159 | 276 => 169 | 277 => 170 | 260 => 164 | 242 => 171 | 313 => 172 | 278 => 185 | 274 => 186 | 275 => 187 | n => n, fun | 9 => 9 | 4 => 4 | 3 => 3 | 5 => 5 | 72 => 124 | 0 => 0 | 76 => 98 | 75 => 97 | 107 => 129 | 70 => 122 | 20 => 20 | 37 => 100 | 127 => 141 | 21 => 21 | 105 => 130 | 164 => 161 | 162 => 167 | 203 => 165 | 119 => 138 | 46 => 151 | 139 => 175 | 138 => 174 | 51 => 158 | 160 => 190 | 208 => 204 | 206 => 202 | 80 => 127 | n => n, fun | 13 => 6 | 3 => 7 | 4 => 8 | n => n⟩
theorem Tryz.lays159 : Go.Proofs.Lays.n159 Tryz.prog Tryz.lays159_ren := {
  mixed := by kernel_rfl
  f118 := Tryz.func156.trans (congrArg some (by kernel_rfl))
  f159 := Tryz.func122.trans (congrArg some (by kernel_rfl))
  f165 := Tryz.func133.trans (congrArg some (by kernel_rfl))
  f166 := Tryz.func134.trans (congrArg some (by kernel_rfl))
  f167 := Tryz.func135.trans (congrArg some (by kernel_rfl))
  f168 := Tryz.func157.trans (congrArg some (by kernel_rfl))
  f169 := Tryz.func136.trans (congrArg some (by kernel_rfl))
  f197 := Tryz.func144.trans (congrArg some (by kernel_rfl))
  f204 := Tryz.func139.trans (congrArg some (by kernel_rfl))
  f230 := Tryz.func137.trans (congrArg some (by kernel_rfl))
  f240 := Tryz.func154.trans (congrArg some (by kernel_rfl))
  f241 := Tryz.func155.trans (congrArg some (by kernel_rfl))
  f242 := Tryz.func171.trans (congrArg some (by kernel_rfl))
  f260 := Tryz.func164.trans (congrArg some (by kernel_rfl))
  f262 := Tryz.func159.trans (congrArg some (by kernel_rfl))
  f270 := Tryz.func158.trans (congrArg some (by kernel_rfl))
  f274 := Tryz.func186.trans (congrArg some (by kernel_rfl))
  f275 := Tryz.func187.trans (congrArg some (by kernel_rfl))
  f276 := Tryz.func169.trans (congrArg some (by kernel_rfl))
  f277 := Tryz.func170.trans (congrArg some (by kernel_rfl))
  f278 := Tryz.func185.trans (congrArg some (by kernel_rfl))
  f313 := Tryz.func172.trans (congrArg some (by kernel_rfl))
  t0 := Tryz.underlying0
  a0 := Tryz.isAgg0
  z0 := Tryz.sizeOf0
  v0 := Tryz.zeroValue0
  t3 := Tryz.underlying3
  a3 := Tryz.isAgg3
  z3 := Tryz.sizeOf3
  v3 := Tryz.zeroValue3
  t4 := Tryz.underlying4
  a4 := Tryz.isAgg4
  z4 := Tryz.sizeOf4
  v4 := Tryz.zeroValue4
  t5 := Tryz.underlying5
  a5 := Tryz.isAgg5
  z5 := Tryz.sizeOf5
  v5 := Tryz.zeroValue5
  t9 := Tryz.underlying9
  a9 := Tryz.isAgg9
  z9 := Tryz.sizeOf9
  v9 := Tryz.zeroValue9
  t20 := Tryz.underlying20
  a20 := Tryz.isAgg20
  z20 := Tryz.sizeOf20
  v20 := Tryz.zeroValue20
  t21 := Tryz.underlying21
  a21 := Tryz.isAgg21
  z21 := Tryz.sizeOf21
  v21 := Tryz.zeroValue21
  t37 := Tryz.underlying100
  a37 := Tryz.isAgg100
  z37 := Tryz.sizeOf100
  v37 := Tryz.zeroValue100
  t46 := Tryz.underlying151
  a46 := Tryz.isAgg151
  z46 := Tryz.sizeOf151
  v46 := Tryz.zeroValue151
  t51 := Tryz.underlying158
  a51 := Tryz.isAgg158
  z51 := Tryz.sizeOf158
  v51 := Tryz.zeroValue158
  t70 := Tryz.underlying122
  a70 := Tryz.isAgg122
  z70 := Tryz.sizeOf122
  v70 := Tryz.zeroValue122
  t72 := Tryz.underlying124
  a72 := Tryz.isAgg124
  z72 := Tryz.sizeOf124
  v72 := Tryz.zeroValue124
  t75 := Tryz.underlying97
  a75 := Tryz.isAgg97
  z75 := Tryz.sizeOf97
  v75 := Tryz.zeroValue97
  t76 := Tryz.underlying98
  a76 := Tryz.isAgg98
  z76 := Tryz.sizeOf98
  v76 := Tryz.zeroValue98
  t105 := Tryz.underlying130
  a105 := Tryz.isAgg130
  z105 := Tryz.sizeOf130
  v105 := Tryz.zeroValue130
  t107 := Tryz.underlying129
  a107 := Tryz.isAgg129
  z107 := Tryz.sizeOf129
  v107 := Tryz.zeroValue129
  t119 := Tryz.underlying138
  a119 := Tryz.isAgg138
  z119 := Tryz.sizeOf138
  t127 := Tryz.underlying141
  a127 := Tryz.isAgg141
  z127 := Tryz.sizeOf141
  v127 := Tryz.zeroValue141
  t138 := Tryz.underlying174
  a138 := Tryz.isAgg174
  z138 := Tryz.sizeOf174
  v138 := Tryz.zeroValue174
  t139 := Tryz.underlying175
  a139 := Tryz.isAgg175
  z139 := Tryz.sizeOf175
  v139 := Tryz.zeroValue175
  t160 := Tryz.underlying190
  a160 := Tryz.isAgg190
  z160 := Tryz.sizeOf190
  v160 := Tryz.zeroValue190
  t162 := Tryz.underlying167
  a162 := Tryz.isAgg167
  z162 := Tryz.sizeOf167
  v162 := Tryz.zeroValue167
  t164 := Tryz.underlying161
  a164 := Tryz.isAgg161
  z164 := Tryz.sizeOf161
  v164 := Tryz.zeroValue161
  t203 := Tryz.underlying165
  a203 := Tryz.isAgg165
  z203 := Tryz.sizeOf165
  v203 := Tryz.zeroValue165
  t206 := Tryz.underlying202
  a206 := Tryz.isAgg202
  z206 := Tryz.sizeOf202
  v206 := Tryz.zeroValue202
  t208 := Tryz.underlying204
  a208 := Tryz.isAgg204
  z208 := Tryz.sizeOf204
  v208 := Tryz.zeroValue204
  g3 := by kernel_rfl
  g4 := by kernel_rfl
  g13 := by kernel_rfl }
theorem Tryz.Builder_Extra_159 : Builder.Extra Tryz.prog Tryz.lays159_ren := {
  sizeBuilder := by kernel_rfl
  liesBuilder := by kernel_rfl
  t5 := Tryz.underlying5
  a5 := Tryz.isAgg5
  z5 := Tryz.sizeOf5
  v5 := Tryz.zeroValue5
  infoByte := by kernel_rfl
  cellsByte := by kernel_rfl
  sizeByte := by kernel_rfl
  neB5 := by decide }
open Go.RowKit in
/-- strings.ToLower: "ToLower returns s with all Unicode letters mapped to their lower case.": ON ASCII TEXT OF AT MOST 2^47 BYTES. Below the heap's end the world is as it was: where a letter turns, the call makes a builder and its buffer. (LAID: no walk: one application.) -/
theorem Tryz.strings_ToLower_ascii (s : ByteArray) (w : World) (hs : s.size ≤ 140737488355328) (hascii : ∀ (j : Nat) (b : UInt8), s.data.toList[j]? = some b → b.toNat < 128) :
    Calls Tryz.prog 122 #[.string s] w fun e w' => e = .returned (.string ⟨(Lib.toLowerA s.data.toList).toArray⟩) ∧ Below w.heap.size w w' := Any.strings_ToLower_ascii Tryz.lays159 Tryz.Builder_Extra_159 s w hs hascii
def Tryz.lays106_ren : Go.Shelf.Ren := ⟨fun | 106 => 114 | 213 => 132 | 265 => 153 | n => n, fun | 9 => 9 | 3 => 3 | n => n, fun | n => n⟩
theorem Tryz.lays106 : Go.Proofs.Lays.n106 Tryz.prog Tryz.lays106_ren := {
  mixed := by kernel_rfl
  f106 := Tryz.func114.trans (congrArg some (by kernel_rfl))
  f213 := Tryz.func132.trans (congrArg some (by kernel_rfl))
  f265 := Tryz.func153.trans (congrArg some (by kernel_rfl))
  t3 := Tryz.underlying3
  a3 := Tryz.isAgg3
  z3 := Tryz.sizeOf3
  v3 := Tryz.zeroValue3
  t9 := Tryz.underlying9
  a9 := Tryz.isAgg9
  z9 := Tryz.sizeOf9
  v9 := Tryz.zeroValue9 }
open Go.RowKit in
/-- strings.Compare: "Compare returns an integer comparing two strings lexicographically. The result will be 0 if a == b, -1 if a < b, and +1 if a > b.": IT RETURNS 'Lib.compareBytes a b'; the world is as it was. (LAID: no walk: one application.) -/
theorem Tryz.strings_Compare (a b : ByteArray) (w : World) :
    Calls Tryz.prog 114 #[.string a, .string b] w fun e w' => e = .returned (.int .i64 (Lib.compareBytes a.data.toList b.data.toList)) ∧ w' = w := Any.strings_Compare Tryz.lays106 a b w
def Tryz.lays121_ren : Go.Shelf.Ren := ⟨fun | 121 => 126 | 214 => 141 | n => n, fun | 4 => 4 | 9 => 9 | n => n, fun | n => n⟩
theorem Tryz.lays121 : Go.Proofs.Lays.n121 Tryz.prog Tryz.lays121_ren := {
  mixed := by kernel_rfl
  f121 := Tryz.func126.trans (congrArg some (by kernel_rfl))
  f214 := Tryz.func141.trans (congrArg some (by kernel_rfl))
  t4 := Tryz.underlying4
  a4 := Tryz.isAgg4
  z4 := Tryz.sizeOf4
  v4 := Tryz.zeroValue4
  t9 := Tryz.underlying9
  a9 := Tryz.isAgg9
  z9 := Tryz.sizeOf9
  v9 := Tryz.zeroValue9 }
open Go.RowKit in
/-- strconv.FormatBool: "FormatBool returns "true" or "false" according to the value of b.": IT RETURNS 'Lib.formatBool b'; the world is as it was. (LAID: no walk: one application.) -/
theorem Tryz.strconv_FormatBool (b : Bool) (w : World) :
    Calls Tryz.prog 126 #[.bool b] w fun e w' => e = .returned (.string ⟨(Lib.formatBool b).toArray⟩) ∧ w' = w := Any.strconv_FormatBool Tryz.lays121 b w
def Tryz.laysM171_ren : Go.Shelf.Ren := ⟨fun | 171 => 123 | 243 => 140 | 246 => 160 | 283 => 173 | 284 => 174 | 285 => 175 | 286 => 176 | 129 => 189 | 317 => 188 | 318 => 190 | 319 => 191 | 320 => 192 | 337 => 195 | 338 => 196 | n => n, fun | 3 => 3 | 9 => 9 | 2 => 2 | 4 => 4 | 171 => 168 | 0 => 0 | 53 => 148 | 37 => 100 | 5 => 5 | 173 => 171 | 212 => 194 | 51 => 158 | 20 => 20 | 213 => 195 | 46 => 151 | 232 => 206 | 233 => 207 | n => n, fun | 17 => 9 | 18 => 10 | 19 => 11 | n => n⟩
theorem Tryz.laysM171 : Go.Proofs.LaysM.n171 Tryz.prog Tryz.laysM171_ren := {
  mixed := by kernel_rfl
  f129 := Tryz.func189.trans (congrArg some (by kernel_rfl))
  f171 := Tryz.func123.trans (congrArg some (by kernel_rfl))
  f243 := Tryz.func140.trans (congrArg some (by kernel_rfl))
  f246 := Tryz.func160.trans (congrArg some (by kernel_rfl))
  f283 := Tryz.func173.trans (congrArg some (by kernel_rfl))
  f284 := Tryz.func174.trans (congrArg some (by kernel_rfl))
  f285 := Tryz.func175.trans (congrArg some (by kernel_rfl))
  f286 := Tryz.func176.trans (congrArg some (by kernel_rfl))
  f317 := Tryz.func188.trans (congrArg some (by kernel_rfl))
  f318 := Tryz.func190.trans (congrArg some (by kernel_rfl))
  f319 := Tryz.func191.trans (congrArg some (by kernel_rfl))
  f320 := Tryz.func192.trans (congrArg some (by kernel_rfl))
  f337 := Tryz.func195.trans (congrArg some (by kernel_rfl))
  f338 := Tryz.func196.trans (congrArg some (by kernel_rfl))
  t0 := Tryz.underlying0
  a0 := Tryz.isAgg0
  z0 := Tryz.sizeOf0
  v0 := Tryz.zeroValue0
  t2 := Tryz.underlying2
  a2 := Tryz.isAgg2
  z2 := Tryz.sizeOf2
  v2 := Tryz.zeroValue2
  t3 := Tryz.underlying3
  a3 := Tryz.isAgg3
  z3 := Tryz.sizeOf3
  v3 := Tryz.zeroValue3
  t4 := Tryz.underlying4
  a4 := Tryz.isAgg4
  z4 := Tryz.sizeOf4
  v4 := Tryz.zeroValue4
  t5 := Tryz.underlying5
  a5 := Tryz.isAgg5
  z5 := Tryz.sizeOf5
  v5 := Tryz.zeroValue5
  t9 := Tryz.underlying9
  a9 := Tryz.isAgg9
  z9 := Tryz.sizeOf9
  v9 := Tryz.zeroValue9
  t20 := Tryz.underlying20
  a20 := Tryz.isAgg20
  z20 := Tryz.sizeOf20
  v20 := Tryz.zeroValue20
  t37 := Tryz.underlying100
  a37 := Tryz.isAgg100
  z37 := Tryz.sizeOf100
  v37 := Tryz.zeroValue100
  t46 := Tryz.underlying151
  a46 := Tryz.isAgg151
  z46 := Tryz.sizeOf151
  v46 := Tryz.zeroValue151
  t51 := Tryz.underlying158
  a51 := Tryz.isAgg158
  z51 := Tryz.sizeOf158
  v51 := Tryz.zeroValue158
  t53 := Tryz.underlying148
  a53 := Tryz.isAgg148
  z53 := Tryz.sizeOf148
  v53 := Tryz.zeroValue148
  t171 := Tryz.underlying168
  a171 := Tryz.isAgg168
  z171 := Tryz.sizeOf168
  v171 := Tryz.zeroValue168
  t173 := Tryz.underlying171
  a173 := Tryz.isAgg171
  z173 := Tryz.sizeOf171
  v173 := Tryz.zeroValue171
  t212 := Tryz.underlying194
  a212 := Tryz.isAgg194
  z212 := Tryz.sizeOf194
  v212 := Tryz.zeroValue194
  t213 := Tryz.underlying195
  a213 := Tryz.isAgg195
  z213 := Tryz.sizeOf195
  t232 := Tryz.underlying206
  a232 := Tryz.isAgg206
  z232 := Tryz.sizeOf206
  v232 := Tryz.zeroValue206
  t233 := Tryz.underlying207
  a233 := Tryz.isAgg207
  z233 := Tryz.sizeOf207
  v233 := Tryz.zeroValue207
  g17 := by kernel_rfl
  g18 := by kernel_rfl
  g19 := by kernel_rfl
  i0 := by kernel_rfl
  i2 := by kernel_rfl
  i3 := by kernel_rfl
  i4 := by kernel_rfl
  i5 := by kernel_rfl
  i9 := by kernel_rfl
  i20 := by kernel_rfl
  i37 := by kernel_rfl
  i46 := by kernel_rfl
  i51 := by kernel_rfl
  i53 := by kernel_rfl
  i171 := by kernel_rfl
  i173 := by kernel_rfl
  i212 := by kernel_rfl
  i232 := by kernel_rfl
  i233 := by kernel_rfl
  m17 := by kernel_rfl
  m18 := by kernel_rfl
  m19 := by kernel_rfl }
open Go.RowKit Go.Sort Go.Lib in
/-- strconv.Itoa: "Itoa is equivalent to FormatInt(int64(i), 10).": i's DECIMAL NUMERAL ('Lib.itoa': a '-' where i is negative, then the digits), FOR EVERY int. The world behind the call: the world before it, new blocks behind the heap (the library's 'var a [24]byte'), draws. (LAID: no walk: one application.) -/
theorem Tryz.strconv_Itoa (n : Int) (h0 : -9223372036854775808 ≤ n) (h1 : n ≤ 9223372036854775807) (w : World) (htab : Lib.TabIs Tryz.prog w "internal/strconv.uint64pow10" .u64 Lib.pow10Tab) :
    Calls Tryz.prog 123 #[.int .i64 n] w fun e w' => e = .returned (.string ⟨(Lib.itoa n).toArray⟩) ∧ ∃ k os, w' = grow (w.drewN k) os := Any.strconv_Itoa Tryz.laysM171 n h0 h1 w htab
def Tryz.laysC172_ren : Go.Shelf.Ren := ⟨fun | 172 => 105 | 244 => 128 | 245 => 129 | 247 => 145 | 279 => 146 | 280 => 147 | 281 => 148 | 282 => 149 | 287 => 165 | 316 => 166 | 171 => 123 | 205 => 167 | 321 => 181 | 322 => 182 | 243 => 140 | 246 => 160 | 283 => 173 | 284 => 174 | 285 => 175 | 286 => 176 | 129 => 189 | 317 => 188 | 318 => 190 | 319 => 191 | 320 => 192 | 337 => 195 | 338 => 196 | n => n, fun | 9 => 9 | 3 => 3 | 75 => 97 | 76 => 98 | 4 => 4 | 5 => 5 | 167 => 132 | 37 => 100 | 0 => 0 | 85 => 133 | 2 => 2 | 168 => 135 | 53 => 148 | 175 => 149 | 46 => 151 | 210 => 153 | 127 => 141 | 145 => 179 | 143 => 177 | 21 => 21 | 171 => 168 | 173 => 171 | 212 => 194 | 51 => 158 | 20 => 20 | 213 => 195 | 232 => 206 | 233 => 207 | 80 => 127 | n => n, fun | 15 => 3 | 16 => 4 | 17 => 9 | 18 => 10 | 19 => 11 | n => n⟩
theorem Tryz.laysC172 : Go.Proofs.LaysC.n172 Tryz.prog Tryz.laysC172_ren := {
  mixed := by kernel_rfl
  f129 := Tryz.func189.trans (congrArg some (by kernel_rfl))
  f171 := Tryz.func123.trans (congrArg some (by kernel_rfl))
  f172 := Tryz.func105.trans (congrArg some (by kernel_rfl))
  f205 := Tryz.func167.trans (congrArg some (by kernel_rfl))
  f243 := Tryz.func140.trans (congrArg some (by kernel_rfl))
  f244 := Tryz.func128.trans (congrArg some (by kernel_rfl))
  f245 := Tryz.func129.trans (congrArg some (by kernel_rfl))
  f246 := Tryz.func160.trans (congrArg some (by kernel_rfl))
  f247 := Tryz.func145.trans (congrArg some (by kernel_rfl))
  f279 := Tryz.func146.trans (congrArg some (by kernel_rfl))
  f280 := Tryz.func147.trans (congrArg some (by kernel_rfl))
  f281 := Tryz.func148.trans (congrArg some (by kernel_rfl))
  f282 := Tryz.func149.trans (congrArg some (by kernel_rfl))
  f283 := Tryz.func173.trans (congrArg some (by kernel_rfl))
  f284 := Tryz.func174.trans (congrArg some (by kernel_rfl))
  f285 := Tryz.func175.trans (congrArg some (by kernel_rfl))
  f286 := Tryz.func176.trans (congrArg some (by kernel_rfl))
  f287 := Tryz.func165.trans (congrArg some (by kernel_rfl))
  f316 := Tryz.func166.trans (congrArg some (by kernel_rfl))
  f317 := Tryz.func188.trans (congrArg some (by kernel_rfl))
  f318 := Tryz.func190.trans (congrArg some (by kernel_rfl))
  f319 := Tryz.func191.trans (congrArg some (by kernel_rfl))
  f320 := Tryz.func192.trans (congrArg some (by kernel_rfl))
  f321 := Tryz.func181.trans (congrArg some (by kernel_rfl))
  f322 := Tryz.func182.trans (congrArg some (by kernel_rfl))
  f337 := Tryz.func195.trans (congrArg some (by kernel_rfl))
  f338 := Tryz.func196.trans (congrArg some (by kernel_rfl))
  t0 := Tryz.underlying0
  a0 := Tryz.isAgg0
  z0 := Tryz.sizeOf0
  v0 := Tryz.zeroValue0
  t2 := Tryz.underlying2
  a2 := Tryz.isAgg2
  z2 := Tryz.sizeOf2
  v2 := Tryz.zeroValue2
  t3 := Tryz.underlying3
  a3 := Tryz.isAgg3
  z3 := Tryz.sizeOf3
  v3 := Tryz.zeroValue3
  t4 := Tryz.underlying4
  a4 := Tryz.isAgg4
  z4 := Tryz.sizeOf4
  v4 := Tryz.zeroValue4
  t5 := Tryz.underlying5
  a5 := Tryz.isAgg5
  z5 := Tryz.sizeOf5
  v5 := Tryz.zeroValue5
  t9 := Tryz.underlying9
  a9 := Tryz.isAgg9
  z9 := Tryz.sizeOf9
  v9 := Tryz.zeroValue9
  t20 := Tryz.underlying20
  a20 := Tryz.isAgg20
  z20 := Tryz.sizeOf20
  v20 := Tryz.zeroValue20
  t21 := Tryz.underlying21
  a21 := Tryz.isAgg21
  z21 := Tryz.sizeOf21
  v21 := Tryz.zeroValue21
  t37 := Tryz.underlying100
  a37 := Tryz.isAgg100
  z37 := Tryz.sizeOf100
  v37 := Tryz.zeroValue100
  t46 := Tryz.underlying151
  a46 := Tryz.isAgg151
  z46 := Tryz.sizeOf151
  v46 := Tryz.zeroValue151
  t51 := Tryz.underlying158
  a51 := Tryz.isAgg158
  z51 := Tryz.sizeOf158
  v51 := Tryz.zeroValue158
  t53 := Tryz.underlying148
  a53 := Tryz.isAgg148
  z53 := Tryz.sizeOf148
  v53 := Tryz.zeroValue148
  t75 := Tryz.underlying97
  a75 := Tryz.isAgg97
  z75 := Tryz.sizeOf97
  v75 := Tryz.zeroValue97
  t76 := Tryz.underlying98
  a76 := Tryz.isAgg98
  z76 := Tryz.sizeOf98
  v76 := Tryz.zeroValue98
  t85 := Tryz.underlying133
  a85 := Tryz.isAgg133
  z85 := Tryz.sizeOf133
  v85 := Tryz.zeroValue133
  t127 := Tryz.underlying141
  a127 := Tryz.isAgg141
  z127 := Tryz.sizeOf141
  v127 := Tryz.zeroValue141
  t143 := Tryz.underlying177
  a143 := Tryz.isAgg177
  z143 := Tryz.sizeOf177
  v143 := Tryz.zeroValue177
  t145 := Tryz.underlying179
  a145 := Tryz.isAgg179
  z145 := Tryz.sizeOf179
  v145 := Tryz.zeroValue179
  t167 := Tryz.underlying132
  a167 := Tryz.isAgg132
  z167 := Tryz.sizeOf132
  v167 := Tryz.zeroValue132
  t168 := Tryz.underlying135
  a168 := Tryz.isAgg135
  z168 := Tryz.sizeOf135
  v168 := Tryz.zeroValue135
  t171 := Tryz.underlying168
  a171 := Tryz.isAgg168
  z171 := Tryz.sizeOf168
  v171 := Tryz.zeroValue168
  t173 := Tryz.underlying171
  a173 := Tryz.isAgg171
  z173 := Tryz.sizeOf171
  v173 := Tryz.zeroValue171
  t175 := Tryz.underlying149
  a175 := Tryz.isAgg149
  z175 := Tryz.sizeOf149
  v175 := Tryz.zeroValue149
  t210 := Tryz.underlying153
  a210 := Tryz.isAgg153
  z210 := Tryz.sizeOf153
  v210 := Tryz.zeroValue153
  t212 := Tryz.underlying194
  a212 := Tryz.isAgg194
  z212 := Tryz.sizeOf194
  v212 := Tryz.zeroValue194
  t213 := Tryz.underlying195
  a213 := Tryz.isAgg195
  z213 := Tryz.sizeOf195
  t232 := Tryz.underlying206
  a232 := Tryz.isAgg206
  z232 := Tryz.sizeOf206
  v232 := Tryz.zeroValue206
  t233 := Tryz.underlying207
  a233 := Tryz.isAgg207
  z233 := Tryz.sizeOf207
  v233 := Tryz.zeroValue207
  g15 := by kernel_rfl
  g16 := by kernel_rfl
  g17 := by kernel_rfl
  g18 := by kernel_rfl
  g19 := by kernel_rfl
  t80 := Tryz.underlying127
  a80 := Tryz.isAgg127
  z80 := Tryz.sizeOf127
  v80 := Tryz.zeroValue127
  i0 := by kernel_rfl
  i2 := by kernel_rfl
  i3 := by kernel_rfl
  i4 := by kernel_rfl
  i5 := by kernel_rfl
  i9 := by kernel_rfl
  i20 := by kernel_rfl
  i21 := by kernel_rfl
  i37 := by kernel_rfl
  i46 := by kernel_rfl
  i51 := by kernel_rfl
  i53 := by kernel_rfl
  i75 := by kernel_rfl
  i76 := by kernel_rfl
  i80 := by kernel_rfl
  i85 := by kernel_rfl
  i127 := by kernel_rfl
  i143 := by kernel_rfl
  i145 := by kernel_rfl
  i167 := by kernel_rfl
  i168 := by kernel_rfl
  i171 := by kernel_rfl
  i173 := by kernel_rfl
  i175 := by kernel_rfl
  i210 := by kernel_rfl
  i212 := by kernel_rfl
  i232 := by kernel_rfl
  i233 := by kernel_rfl
  m15 := by kernel_rfl
  m16 := by kernel_rfl
  m17 := by kernel_rfl
  m18 := by kernel_rfl
  m19 := by kernel_rfl
  c0 := by kernel_rfl
  c2 := by kernel_rfl
  c3 := by kernel_rfl
  c4 := by kernel_rfl
  c5 := by kernel_rfl
  c9 := by kernel_rfl
  c20 := by kernel_rfl
  c21 := by kernel_rfl
  c37 := by kernel_rfl
  c46 := by kernel_rfl
  c51 := by kernel_rfl
  c53 := by kernel_rfl
  c75 := by kernel_rfl
  c76 := by kernel_rfl
  c80 := by kernel_rfl
  c85 := by kernel_rfl
  c127 := by kernel_rfl
  c143 := by kernel_rfl
  c145 := by kernel_rfl
  c167 := by kernel_rfl
  c168 := by kernel_rfl
  c171 := by kernel_rfl
  c173 := by kernel_rfl
  c175 := by kernel_rfl
  c210 := by kernel_rfl
  c212 := by kernel_rfl
  c213 := by kernel_rfl
  c232 := by kernel_rfl
  c233 := by kernel_rfl }
open Go.RowKit in
/-- strconv.Atoi, AT EVERY STRING THAT SPELLS AN int ('Lib.atoiAll .. = .ok v'; of whatever length: leading zeros count): v, AND NO ERROR. The world: as it was, or with the one new row that '[]byte(..)' lays. (LAID: no walk: one application.) -/
theorem Tryz.strconv_Atoi_ok (s : ByteArray) (hmax : s.size ≤ 9223372036854775806) (v : Int) (h : Lib.atoiAll s.data.toList = .ok v) (w : World) :
    Calls Tryz.prog 105 #[.string s] w fun e w' => e = .returned (.tuple #[.int .i64 v, .nilIface]) ∧ (w' = w ∨ ∃ t, w' = Lib.bytesWorld w 5 t) := Any.strconv_Atoi_ok Tryz.laysC172 s hmax v h w
open Go.RowKit in
theorem Tryz.strconv_Atoi_syntax_var (s : ByteArray) (hlim : s.size ≤ 281474976710656) (h : Lib.atoiAll s.data.toList = Lib.atoiAll []) (tp : TypeId) (p : Value) (w : World) (hvar : w.var? Tryz.prog "strconv.ErrSyntax" = some #[.iface tp p]) :
    Calls Tryz.prog 105 #[.string s] w fun e w' => ∃ N, e = .returned (.tuple #[.int .i64 0, .iface 135 (.pointer (some ⟨N, 0, none⟩))]) ∧ w.heap.size ≤ N ∧ w'.heap[N]? = some (.cells #[.string ⟨#[65, 116, 111, 105]⟩, .string s, .iface tp p] 153 (0, 0)) ∧ Below w.heap.size w w' := Any.strconv_Atoi_syntax_var Tryz.laysC172 s hlim h tp p w hvar
open Go.RowKit in
theorem Tryz.strconv_Atoi_range_var (s : ByteArray) (hlim : s.size ≤ 281474976710656) (h : Lib.atoiAll s.data.toList = .range) (tp : TypeId) (p : Value) (w : World) (hvar : w.var? Tryz.prog "strconv.ErrRange" = some #[.iface tp p]) :
    Calls Tryz.prog 105 #[.string s] w fun e w' => ∃ N, e = .returned (.tuple #[.int .i64 (Lib.atoiSat s.data.toList), .iface 135 (.pointer (some ⟨N, 0, none⟩))]) ∧ w.heap.size ≤ N ∧ w'.heap[N]? = some (.cells #[.string ⟨#[65, 116, 111, 105]⟩, .string s, .iface tp p] 153 (0, 0)) ∧ Below w.heap.size w w' := Any.strconv_Atoi_range_var Tryz.laysC172 s hlim h tp p w hvar
def Tryz.laysGw17_ren : Go.Shelf.Ren := ⟨fun | 17 => 111 | 15 => 131 | 20 => 152 | n => n, fun | 9 => 9 | 23 => 106 | 4 => 4 | 3 => 3 | 0 => 0 | 21 => 21 | n => n, fun | n => n⟩
theorem Tryz.laysGw17 : Go.Proofs.LaysGw.n17 Tryz.prog Tryz.laysGw17_ren := {
  mixed := by kernel_rfl
  f15 := Tryz.func131.trans (congrArg some (by kernel_rfl))
  f17 := Tryz.func111.trans (congrArg some (by kernel_rfl))
  f20 := Tryz.func152.trans (congrArg some (by kernel_rfl))
  t0 := Tryz.underlying0
  a0 := Tryz.isAgg0
  z0 := Tryz.sizeOf0
  v0 := Tryz.zeroValue0
  i0 := by kernel_rfl
  t3 := Tryz.underlying3
  a3 := Tryz.isAgg3
  z3 := Tryz.sizeOf3
  v3 := Tryz.zeroValue3
  i3 := by kernel_rfl
  t4 := Tryz.underlying4
  a4 := Tryz.isAgg4
  z4 := Tryz.sizeOf4
  v4 := Tryz.zeroValue4
  i4 := by kernel_rfl
  t9 := Tryz.underlying9
  a9 := Tryz.isAgg9
  z9 := Tryz.sizeOf9
  v9 := Tryz.zeroValue9
  i9 := by kernel_rfl
  t21 := Tryz.underlying21
  a21 := Tryz.isAgg21
  z21 := Tryz.sizeOf21
  v21 := Tryz.zeroValue21
  i21 := by kernel_rfl
  t23 := Tryz.underlying106
  a23 := Tryz.isAgg106
  z23 := Tryz.sizeOf106
  v23 := Tryz.zeroValue106
  i23 := by kernel_rfl }
open Go.RowKit Go.Lib in
theorem Tryz.strings_ContainsFunc (g : Nat) (lb : Array Value) (eg : ∀ args w, (callFunc g args).run Tryz.prog w = .ok (.enter g args) w) (p : Nat → Bool) (s : ByteArray) (w : World) (hp : PredAt Tryz.prog g lb encR p w) :
    Calls Tryz.prog 111 #[.string s, .func (.func g) #[] lb] w fun e w' => e = .returned (.bool (decide (0 ≤ Lib.idxFunc p true s))) ∧ Below w.heap.size w w' := Any.strings_ContainsFunc Tryz.laysGw17 g lb eg p s w hp
def Tryz.lays157_ren : Go.Shelf.Ren := ⟨fun | 157 => 130 | 229 => 150 | 199 => 151 | 261 => 168 | 311 => 183 | 312 => 184 | n => n, fun | 9 => 9 | 31 => 53 | 3 => 3 | 5 => 5 | 4 => 4 | 119 => 138 | 0 => 0 | 40 => 106 | 152 => 155 | 21 => 21 | 154 => 157 | 51 => 158 | 141 => 160 | 196 => 183 | 193 => 180 | 198 => 185 | 49 => 57 | 194 => 181 | 201 => 188 | 226 => 199 | 46 => 151 | 227 => 200 | n => n, fun | 0 => 1 | 6 => 5 | n => n⟩
theorem Tryz.lays157 : Go.Proofs.Lays.n157 Tryz.prog Tryz.lays157_ren := {
  mixed := by kernel_rfl
  f157 := Tryz.func130.trans (congrArg some (by kernel_rfl))
  f199 := Tryz.func151.trans (congrArg some (by kernel_rfl))
  f229 := Tryz.func150.trans (congrArg some (by kernel_rfl))
  f261 := Tryz.func168.trans (congrArg some (by kernel_rfl))
  f311 := Tryz.func183.trans (congrArg some (by kernel_rfl))
  f312 := Tryz.func184.trans (congrArg some (by kernel_rfl))
  t0 := Tryz.underlying0
  a0 := Tryz.isAgg0
  z0 := Tryz.sizeOf0
  v0 := Tryz.zeroValue0
  t3 := Tryz.underlying3
  a3 := Tryz.isAgg3
  z3 := Tryz.sizeOf3
  v3 := Tryz.zeroValue3
  t4 := Tryz.underlying4
  a4 := Tryz.isAgg4
  z4 := Tryz.sizeOf4
  v4 := Tryz.zeroValue4
  t5 := Tryz.underlying5
  a5 := Tryz.isAgg5
  z5 := Tryz.sizeOf5
  v5 := Tryz.zeroValue5
  t9 := Tryz.underlying9
  a9 := Tryz.isAgg9
  z9 := Tryz.sizeOf9
  v9 := Tryz.zeroValue9
  t21 := Tryz.underlying21
  a21 := Tryz.isAgg21
  z21 := Tryz.sizeOf21
  v21 := Tryz.zeroValue21
  t31 := Tryz.underlying53
  a31 := Tryz.isAgg53
  z31 := Tryz.sizeOf53
  v31 := Tryz.zeroValue53
  t40 := Tryz.underlying106
  a40 := Tryz.isAgg106
  z40 := Tryz.sizeOf106
  v40 := Tryz.zeroValue106
  t46 := Tryz.underlying151
  a46 := Tryz.isAgg151
  z46 := Tryz.sizeOf151
  v46 := Tryz.zeroValue151
  t49 := Tryz.underlying57
  a49 := Tryz.isAgg57
  z49 := Tryz.sizeOf57
  v49 := Tryz.zeroValue57
  t51 := Tryz.underlying158
  a51 := Tryz.isAgg158
  z51 := Tryz.sizeOf158
  v51 := Tryz.zeroValue158
  t119 := Tryz.underlying138
  a119 := Tryz.isAgg138
  z119 := Tryz.sizeOf138
  t141 := Tryz.underlying160
  a141 := Tryz.isAgg160
  z141 := Tryz.sizeOf160
  v141 := Tryz.zeroValue160
  t152 := Tryz.underlying155
  a152 := Tryz.isAgg155
  z152 := Tryz.sizeOf155
  v152 := Tryz.zeroValue155
  t154 := Tryz.underlying157
  a154 := Tryz.isAgg157
  z154 := Tryz.sizeOf157
  v154 := Tryz.zeroValue157
  t193 := Tryz.underlying180
  a193 := Tryz.isAgg180
  z193 := Tryz.sizeOf180
  v193 := Tryz.zeroValue180
  t194 := Tryz.underlying181
  a194 := Tryz.isAgg181
  z194 := Tryz.sizeOf181
  v194 := Tryz.zeroValue181
  t196 := Tryz.underlying183
  a196 := Tryz.isAgg183
  z196 := Tryz.sizeOf183
  v196 := Tryz.zeroValue183
  t198 := Tryz.underlying185
  a198 := Tryz.isAgg185
  z198 := Tryz.sizeOf185
  v198 := Tryz.zeroValue185
  t201 := Tryz.underlying188
  a201 := Tryz.isAgg188
  z201 := Tryz.sizeOf188
  v201 := Tryz.zeroValue188
  t226 := Tryz.underlying199
  a226 := Tryz.isAgg199
  z226 := Tryz.sizeOf199
  v226 := Tryz.zeroValue199
  t227 := Tryz.underlying200
  a227 := Tryz.isAgg200
  z227 := Tryz.sizeOf200
  v227 := Tryz.zeroValue200
  g0 := by kernel_rfl
  g6 := by kernel_rfl }
open Go.RowKit Go.Lib in
/-- strings.Fields, the table by 'Lib.TabIs' (as strings.TrimSpace's contract). 'hg': the table's number, by its name: at a dump 'by kernel_rfl'. (LAID: no walk: one application.) -/
theorem Tryz.strings_Fields (s : ByteArray) (w : World) (hs : s.size < 4294967281) (hascii : ∀ (j : Nat) b, s.data.toList[j]? = some b → b.toNat < 128) (htab : Lib.TabIs Tryz.prog w "strings.asciiSpace" .u8 Lib.asciiSpaceTab) :
    Calls Tryz.prog 130 #[.string s] w fun e w' =>
      e = .returned (.slice (some ⟨w.heap.size, 0, none⟩) (Lib.fields s.data.toList).length (Lib.fields s.data.toList).length) ∧ w' = w.alloc (.cells ((Lib.fields s.data.toList).map fun l => Value.string ⟨l.toArray⟩).toArray 9) := Any.strings_Fields Tryz.lays157 (by kernel_rfl) (by kernel_rfl) s w hs hascii htab
def Tryz.lays155_ren : Go.Shelf.Ren := ⟨fun | 155 => 104 | 154 => 127 | 138 => 142 | 165 => 133 | 143 => 143 | 166 => 134 | 197 => 144 | 169 => 136 | 195 => 161 | 218 => 162 | 240 => 154 | 241 => 155 | 219 => 163 | 260 => 164 | 276 => 169 | 277 => 170 | 217 => 177 | 225 => 178 | 224 => 179 | 267 => 180 | 266 => 193 | 314 => 194 | n => n, fun | 9 => 9 | 3 => 3 | 4 => 4 | 72 => 124 | 0 => 0 | 76 => 98 | 105 => 130 | 21 => 21 | 5 => 5 | 70 => 122 | 20 => 20 | 37 => 100 | 75 => 97 | 127 => 141 | 164 => 161 | 46 => 151 | 119 => 138 | 139 => 175 | 138 => 174 | 146 => 197 | 51 => 158 | 80 => 127 | n => n, fun | 1 => 2 | 3 => 7 | 4 => 8 | n => n⟩
theorem Tryz.lays155 : Go.Proofs.Lays.n155 Tryz.prog Tryz.lays155_ren := {
  mixed := by kernel_rfl
  f138 := Tryz.func142.trans (congrArg some (by kernel_rfl))
  f143 := Tryz.func143.trans (congrArg some (by kernel_rfl))
  f154 := Tryz.func127.trans (congrArg some (by kernel_rfl))
  f155 := Tryz.func104.trans (congrArg some (by kernel_rfl))
  f165 := Tryz.func133.trans (congrArg some (by kernel_rfl))
  f166 := Tryz.func134.trans (congrArg some (by kernel_rfl))
  f169 := Tryz.func136.trans (congrArg some (by kernel_rfl))
  f195 := Tryz.func161.trans (congrArg some (by kernel_rfl))
  f197 := Tryz.func144.trans (congrArg some (by kernel_rfl))
  f217 := Tryz.func177.trans (congrArg some (by kernel_rfl))
  f218 := Tryz.func162.trans (congrArg some (by kernel_rfl))
  f219 := Tryz.func163.trans (congrArg some (by kernel_rfl))
  f224 := Tryz.func179.trans (congrArg some (by kernel_rfl))
  f225 := Tryz.func178.trans (congrArg some (by kernel_rfl))
  f240 := Tryz.func154.trans (congrArg some (by kernel_rfl))
  f241 := Tryz.func155.trans (congrArg some (by kernel_rfl))
  f260 := Tryz.func164.trans (congrArg some (by kernel_rfl))
  f266 := Tryz.func193.trans (congrArg some (by kernel_rfl))
  f267 := Tryz.func180.trans (congrArg some (by kernel_rfl))
  f276 := Tryz.func169.trans (congrArg some (by kernel_rfl))
  f277 := Tryz.func170.trans (congrArg some (by kernel_rfl))
  f314 := Tryz.func194.trans (congrArg some (by kernel_rfl))
  t0 := Tryz.underlying0
  a0 := Tryz.isAgg0
  z0 := Tryz.sizeOf0
  v0 := Tryz.zeroValue0
  t3 := Tryz.underlying3
  a3 := Tryz.isAgg3
  z3 := Tryz.sizeOf3
  v3 := Tryz.zeroValue3
  t4 := Tryz.underlying4
  a4 := Tryz.isAgg4
  z4 := Tryz.sizeOf4
  v4 := Tryz.zeroValue4
  t5 := Tryz.underlying5
  a5 := Tryz.isAgg5
  z5 := Tryz.sizeOf5
  v5 := Tryz.zeroValue5
  t9 := Tryz.underlying9
  a9 := Tryz.isAgg9
  z9 := Tryz.sizeOf9
  v9 := Tryz.zeroValue9
  t20 := Tryz.underlying20
  a20 := Tryz.isAgg20
  z20 := Tryz.sizeOf20
  v20 := Tryz.zeroValue20
  t21 := Tryz.underlying21
  a21 := Tryz.isAgg21
  z21 := Tryz.sizeOf21
  v21 := Tryz.zeroValue21
  t37 := Tryz.underlying100
  a37 := Tryz.isAgg100
  z37 := Tryz.sizeOf100
  v37 := Tryz.zeroValue100
  t46 := Tryz.underlying151
  a46 := Tryz.isAgg151
  z46 := Tryz.sizeOf151
  v46 := Tryz.zeroValue151
  t51 := Tryz.underlying158
  a51 := Tryz.isAgg158
  z51 := Tryz.sizeOf158
  v51 := Tryz.zeroValue158
  t70 := Tryz.underlying122
  a70 := Tryz.isAgg122
  z70 := Tryz.sizeOf122
  v70 := Tryz.zeroValue122
  t72 := Tryz.underlying124
  a72 := Tryz.isAgg124
  z72 := Tryz.sizeOf124
  v72 := Tryz.zeroValue124
  t75 := Tryz.underlying97
  a75 := Tryz.isAgg97
  z75 := Tryz.sizeOf97
  v75 := Tryz.zeroValue97
  t76 := Tryz.underlying98
  a76 := Tryz.isAgg98
  z76 := Tryz.sizeOf98
  v76 := Tryz.zeroValue98
  t105 := Tryz.underlying130
  a105 := Tryz.isAgg130
  z105 := Tryz.sizeOf130
  v105 := Tryz.zeroValue130
  t119 := Tryz.underlying138
  a119 := Tryz.isAgg138
  z119 := Tryz.sizeOf138
  t127 := Tryz.underlying141
  a127 := Tryz.isAgg141
  z127 := Tryz.sizeOf141
  v127 := Tryz.zeroValue141
  t138 := Tryz.underlying174
  a138 := Tryz.isAgg174
  z138 := Tryz.sizeOf174
  v138 := Tryz.zeroValue174
  t139 := Tryz.underlying175
  a139 := Tryz.isAgg175
  z139 := Tryz.sizeOf175
  v139 := Tryz.zeroValue175
  t146 := Tryz.underlying197
  a146 := Tryz.isAgg197
  z146 := Tryz.sizeOf197
  v146 := Tryz.zeroValue197
  t164 := Tryz.underlying161
  a164 := Tryz.isAgg161
  z164 := Tryz.sizeOf161
  v164 := Tryz.zeroValue161
  g1 := by kernel_rfl
  g3 := by kernel_rfl
  g4 := by kernel_rfl }
theorem Tryz.Builder_Extra_155 : Builder.Extra Tryz.prog Tryz.lays155_ren := {
  sizeBuilder := by kernel_rfl
  liesBuilder := by kernel_rfl
  t5 := Tryz.underlying5
  a5 := Tryz.isAgg5
  z5 := Tryz.sizeOf5
  v5 := Tryz.zeroValue5
  infoByte := by kernel_rfl
  cellsByte := by kernel_rfl
  sizeByte := by kernel_rfl
  neB5 := by decide }
open Go.RowKit Go.Lib in
/-- strings.ReplaceAll: "ReplaceAll returns a copy of the string s with all non-overlapping instances of old replaced by new.": AT AN old THAT IS NOT EMPTY: 'Lib.replaceAll s old new'. (LAID: no walk: one application.) -/
theorem Tryz.strings_ReplaceAll (s old new : ByteArray) (m : Int) (w : World) (hs : s.size < 4294967281) (hm : w.cell? ⟨2, 0, none⟩ = some (.int .i64 m)) (h1 : 1 ≤ old.size) (hlen : s.size + Lib.countB s old * new.size ≤ 140737488355328) :
    Calls Tryz.prog 104 #[.string s, .string old, .string new] w fun e w' =>
      e = .returned (.string ⟨(Lib.replaceAll s.data.toList old.data.toList new.data.toList).toArray⟩) ∧ Below w.heap.size w w' := Any.strings_ReplaceAll Tryz.lays155 Tryz.Builder_Extra_155 s old new m w hs hm h1 hlen
def Tryz.lays109_ren : Go.Shelf.Ren := ⟨fun | 109 => 108 | n => n, fun | 31 => 53 | 9 => 9 | 3 => 3 | 0 => 0 | 4 => 4 | n => n, fun | n => n⟩
theorem Tryz.lays109 : Go.Proofs.Lays.n109 Tryz.prog Tryz.lays109_ren := {
  mixed := by kernel_rfl
  f109 := Tryz.func108.trans (congrArg some (by kernel_rfl))
  t0 := Tryz.underlying0
  a0 := Tryz.isAgg0
  z0 := Tryz.sizeOf0
  v0 := Tryz.zeroValue0
  t3 := Tryz.underlying3
  a3 := Tryz.isAgg3
  z3 := Tryz.sizeOf3
  v3 := Tryz.zeroValue3
  t4 := Tryz.underlying4
  a4 := Tryz.isAgg4
  z4 := Tryz.sizeOf4
  v4 := Tryz.zeroValue4
  t9 := Tryz.underlying9
  a9 := Tryz.isAgg9
  z9 := Tryz.sizeOf9
  v9 := Tryz.zeroValue9
  t31 := Tryz.underlying53
  a31 := Tryz.isAgg53
  z31 := Tryz.sizeOf53
  v31 := Tryz.zeroValue53 }
open Go.Lib in
/-- slices.Index at []string: "Index returns the index of the first occurrence of v in s, or -1 if not present.": IT RETURNS 'Lib.idxOfS (the elements) v'; the world is as it was. 'zs': what the cells behind the slice's address hold (its spare capacity too, if you have it); 'zs.take n': its elements. (LAID: no walk: one application.) -/
theorem Tryz.slices_Index_string (b off n c : Nat) (zs : List ByteArray) (x : ByteArray) (w : World) (hz : n ≤ zs.length) (hbig : n ≤ 9223372036854775807) (hc : ∀ j, j < zs.length → w.cell? ⟨b, off + j, none⟩ = some (.string (zs.getD j ByteArray.empty))) :
    Calls Tryz.prog 108 #[.slice (some ⟨b, off, none⟩) n c, .string x] w fun e w' => e = .returned (.int .i64 (Lib.idxOfS (zs.take n) x)) ∧ w' = w := Any.slices_Index_string Tryz.lays109 b off n c zs x w hz hbig hc
def Tryz.lays110_ren : Go.Shelf.Ren := ⟨fun | 110 => 98 | 109 => 108 | n => n, fun | 31 => 53 | 9 => 9 | 4 => 4 | 3 => 3 | 0 => 0 | n => n, fun | n => n⟩
theorem Tryz.lays110 : Go.Proofs.Lays.n110 Tryz.prog Tryz.lays110_ren := {
  mixed := by kernel_rfl
  f109 := Tryz.func108.trans (congrArg some (by kernel_rfl))
  f110 := Tryz.func98.trans (congrArg some (by kernel_rfl))
  t0 := Tryz.underlying0
  a0 := Tryz.isAgg0
  z0 := Tryz.sizeOf0
  v0 := Tryz.zeroValue0
  t3 := Tryz.underlying3
  a3 := Tryz.isAgg3
  z3 := Tryz.sizeOf3
  v3 := Tryz.zeroValue3
  t4 := Tryz.underlying4
  a4 := Tryz.isAgg4
  z4 := Tryz.sizeOf4
  v4 := Tryz.zeroValue4
  t9 := Tryz.underlying9
  a9 := Tryz.isAgg9
  z9 := Tryz.sizeOf9
  v9 := Tryz.zeroValue9
  t31 := Tryz.underlying53
  a31 := Tryz.isAgg53
  z31 := Tryz.sizeOf53
  v31 := Tryz.zeroValue53 }
open Go.Lib in
/-- slices.Contains at []string: "Contains reports whether v is present in s.": IT RETURNS 'Lib.containsS (the elements) v', which is true just where v is among them ('Lib.containsS_iff'); the world is as it was. ITS CALLEE slices.Index IS MET BY ITS OWN CONTRACT OFF THE SHELF (lay that first): no loop is walked here. (LAID: no walk: one application.) -/
theorem Tryz.slices_Contains_string (b off n c : Nat) (zs : List ByteArray) (x : ByteArray) (w : World) (hz : n ≤ zs.length) (hbig : n ≤ 9223372036854775807) (hc : ∀ j, j < zs.length → w.cell? ⟨b, off + j, none⟩ = some (.string (zs.getD j ByteArray.empty))) :
    Calls Tryz.prog 98 #[.slice (some ⟨b, off, none⟩) n c, .string x] w fun e w' => e = .returned (.bool (Lib.containsS (zs.take n) x)) ∧ w' = w := Any.slices_Contains_string Tryz.lays110 b off n c zs x w hz hbig hc
def Tryz.anyV_ren : Go.Shelf.Ren := ⟨fun | 8 => 85 | 6 => 119 | n => n, fun | 22 => 22 | 23 => 27 | 25 => 28 | 4 => 4 | 3 => 3 | 0 => 0 | n => n, fun | n => n⟩
theorem Tryz.anyV : Go.Proofs.SlLaysH0.n8 Tryz.prog Tryz.anyV_ren := {
  mixed := by kernel_rfl
  f6 := ⟨Tryz.f119.name, by decide, Tryz.func119.trans (congrArg some (by kernel_rfl))⟩
  f8 := ⟨Tryz.f85.name, by decide, Tryz.func85.trans (congrArg some (by kernel_rfl))⟩
  t0 := Tryz.underlying0
  a0 := Tryz.isAgg0
  z0 := Tryz.sizeOf0
  v0 := Tryz.zeroValue0
  t3 := Tryz.underlying3
  a3 := Tryz.isAgg3
  z3 := Tryz.sizeOf3
  v3 := Tryz.zeroValue3
  t4 := Tryz.underlying4
  a4 := Tryz.isAgg4
  z4 := Tryz.sizeOf4
  v4 := Tryz.zeroValue4
  t22 := Tryz.underlying22
  a22 := Tryz.isAgg22
  z22 := Tryz.sizeOf22
  v22 := Tryz.zeroValue22
  t25 := Tryz.underlying28
  a25 := Tryz.isAgg28
  z25 := Tryz.sizeOf28
  v25 := Tryz.zeroValue28 }
def Tryz.hasV_ren : Go.Shelf.Ren := ⟨fun | 7 => 87 | 6 => 120 | n => n, fun | 22 => 22 | 24 => 27 | 4 => 4 | 0 => 0 | 3 => 3 | n => n, fun | n => n⟩
theorem Tryz.hasV : Go.Proofs.SlLaysQ.n7 Tryz.prog Tryz.hasV_ren := {
  mixed := by kernel_rfl
  f6 := ⟨Tryz.f120.name, by decide, Tryz.func120.trans (congrArg some (by kernel_rfl))⟩
  f7 := ⟨Tryz.f87.name, by decide, Tryz.func87.trans (congrArg some (by kernel_rfl))⟩
  t0 := Tryz.underlying0
  a0 := Tryz.isAgg0
  z0 := Tryz.sizeOf0
  v0 := Tryz.zeroValue0
  t3 := Tryz.underlying3
  a3 := Tryz.isAgg3
  z3 := Tryz.sizeOf3
  v3 := Tryz.zeroValue3
  t4 := Tryz.underlying4
  a4 := Tryz.isAgg4
  z4 := Tryz.sizeOf4
  v4 := Tryz.zeroValue4
  t22 := Tryz.underlying22
  a22 := Tryz.isAgg22
  z22 := Tryz.sizeOf22
  v22 := Tryz.zeroValue22 }
def Tryz.sameV_ren : Go.Shelf.Ren := ⟨fun | 8 => 63 | n => n, fun | 22 => 67 | 24 => 27 | 4 => 4 | 3 => 3 | 0 => 0 | n => n, fun | n => n⟩
theorem Tryz.sameV : Go.Proofs.SlLaysQ.n8 Tryz.prog Tryz.sameV_ren := {
  mixed := by kernel_rfl
  f8 := ⟨Tryz.f63.name, by decide, Tryz.func63.trans (congrArg some (by kernel_rfl))⟩
  t0 := Tryz.underlying0
  a0 := Tryz.isAgg0
  z0 := Tryz.sizeOf0
  v0 := Tryz.zeroValue0
  t3 := Tryz.underlying3
  a3 := Tryz.isAgg3
  z3 := Tryz.sizeOf3
  v3 := Tryz.zeroValue3
  t4 := Tryz.underlying4
  a4 := Tryz.isAgg4
  z4 := Tryz.sizeOf4
  v4 := Tryz.zeroValue4
  t22 := Tryz.underlying67
  a22 := Tryz.isAgg67
  z22 := Tryz.sizeOf67
  v22 := Tryz.zeroValue67 }
end Go.Proofs
