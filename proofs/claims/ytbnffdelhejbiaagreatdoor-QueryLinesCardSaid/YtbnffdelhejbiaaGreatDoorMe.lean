/- Loops, lists, readings as trees. A part of the proof: no condition of mine beyond what each theorem states. -/
import Derived.Test.YtbnffdelhejbiaaGreatDoorMd
import Derived.KernelRfl
import Derived.Extends
import Derived.Sort.Grow
import Derived.Deep.Draws
import Derived.Laws.Strings
import Derived.OpenShut
import Derived.Deep.Slices
import Derived.ReadAgain
import Derived.Shelf.Strings.Builder1

namespace Go.Tith

/-- More rounds than any list has elements. -/
def fuel : Nat := 18446744073709551616

/-- What a function's body computes on trees. -/
def autoF (P : Program) (G : Nat → Option (TypeId × DV)) (l : List (FuncId × Spec)) (K : Nat → Option (List Nat × List Nat)) (fn : Func) (ds : List DV) : Option (List DV) :=
  match fn.body with
  | some c => if ds.length ≤ fn.ntmps then treeF ⟨P, look l, G, K⟩ fuel c fn.results.toList ds else none
  | none => none

/-- The same, with effects. -/
def autoE (P : Program) (G : Nat → Option (TypeId × DV)) (l : List (FuncId × Spec)) (K : Nat → Option (List Nat × List Nat)) (fn : Func) (avs : List AV) (h : Heap) : Option (AV × Heap) :=
  match fn.body with
  | some c => if avs.length ≤ fn.ntmps then (runF ⟨P, look l, G, K⟩ fuel c fn.results.toList avs h).map fun r => (packA r.1, r.2) else none
  | none => none

def bodyOK (l : List (FuncId × Spec)) (fn : Func) : Bool :=
  match fn.body with
  | some c => codeOK fn.ntmps (look l) c && !(fn.name == "runtime.NumGoroutine")
  | none => false

theorem auto_meets {P : Program} {G : Nat → Option (TypeId × DV)} {l : List (FuncId × Spec)} {f : FuncId} {fn : Func} (K : Nat → Option (List Nat × List Nat)) (ml : AllMeet P G l) (hm : P.follows .mixedOrders = true) (hf : P.funcs[f]? = some fn) (ok : bodyOK l fn = true) :
    Meets P G f (.pure (autoF P G l K fn)) := by
  unfold bodyOK at ok
  split at ok
  · rename_i c hb
    simp only [Bool.and_eq_true, Bool.not_eq_true'] at ok
    refine pure_fn K ml hm hf hb ok.2 ok.1 fun ds r hr => ?_
    unfold autoF at hr
    simp only [hb] at hr
    split at hr
    · rename_i hl; exact ⟨hl, fuel, hr⟩
    · cases hr
  · cases ok

theorem auto_meetsE {P : Program} {G : Nat → Option (TypeId × DV)} {l : List (FuncId × Spec)} {f : FuncId} {fn : Func} (K : Nat → Option (List Nat × List Nat)) (ml : AllMeet P G l) (hm : P.follows .mixedOrders = true) (hf : P.funcs[f]? = some fn) (ok : bodyOK l fn = true) :
    Meets P G f (.eff (autoE P G l K fn)) := by
  unfold bodyOK at ok
  split at ok
  · rename_i c hb
    simp only [Bool.and_eq_true, Bool.not_eq_true'] at ok
    refine eff_fn K ml hm hf hb ok.2 ok.1 fun avs h r h' hr => ?_
    unfold autoE at hr
    simp only [hb] at hr
    split at hr
    · rename_i hl
      simp only [Option.map_eq_some_iff] at hr
      obtain ⟨⟨outs, h2⟩, h3, h4⟩ := hr
      simp only [Prod.mk.injEq] at h4
      obtain ⟨rfl, rfl⟩ := h4
      exact ⟨hl, fuel, outs, h3, rfl⟩
    · cases hr
  · cases ok

end Go.Tith

namespace Go.Tith
open Go.Sort (grow)

section
variable {P : Program} {G : Nat → Option (TypeId × DV)} {C C' : Con} {w w' : World} {h : Heap}

theorem step_ext (hl : ∀ b, C.K b ≠ .other → b < w.heap.size) (hos : w'.os = w.os) (htape : w'.tape = w.tape) (hout : w'.output = w.output) (hsz : w.heap.size ≤ w'.heap.size) (hblk : ∀ i : Nat, i < w.heap.size → w'.heap[i]? = w.heap[i]?) :
    Step C w hNil C w' hNil ∧ ∀ b, C.K b ≠ .other → b < w'.heap.size := by
  refine ⟨⟨hos, htape, hout, hsz, fun b hb => ?_, fun _ _ => rfl, fun id bt bc hb => by simp [hNil] at hb, fun τ F hF => by simp [hNil] at hF⟩, fun b hb => Nat.lt_of_lt_of_le (hl b hb) hsz⟩
  unfold keptB
  split
  · assumption
  · rename_i hb'; exact .inl ⟨hb', hblk b hb⟩
  · exact ⟨rfl, hblk b hb⟩

theorem step_extends (hl : ∀ b, C.K b ≠ .other → b < w.heap.size) (x : w.Extends w') : Step C w hNil C w' hNil ∧ ∀ b, C.K b ≠ .other → b < w'.heap.size :=
  step_ext hl x.os x.tape x.output x.size x.block

theorem step_grow (hl : ∀ b, C.K b ≠ .other → b < w.heap.size) (k : Nat) (os : Array Obj) : Step C w hNil C (grow (w.drewN k) os) hNil ∧ ∀ b, C.K b ≠ .other → b < (grow (w.drewN k) os).heap.size := by
  refine step_ext hl rfl rfl rfl (by simp [grow, World.drewN]) fun i hi => ?_
  simp only [grow, World.drewN]
  rw [Array.getElem?_append_left hi]

theorem vs_str1 {a : ByteArray} {vs : List Value} (r : relVs P C w hNil ([.str a].map .d) vs) : vs = [.string a] := by
  simp [relVs, relV1, relD, DV.isAgg] at r; exact r
theorem vs_str2 {a b : ByteArray} {vs : List Value} (r : relVs P C w hNil ([.str a, .str b].map .d) vs) : vs = [.string a, .string b] := by
  simp [relVs, relV1, relD, DV.isAgg] at r; exact r
theorem vs_int1 {k : IntKind} {n : Int} {vs : List Value} (r : relVs P C w hNil ([.int k n].map .d) vs) : vs = [.int k n] := by
  simp [relVs, relV1, relD, DV.isAgg] at r; exact r
theorem vs_strint {a : ByteArray} {k : IntKind} {n : Int} {vs : List Value} (r : relVs P C w hNil ([.str a, .int k n].map .d) vs) : vs = [.string a, .int k n] := by
  simp [relVs, relV1, relD, DV.isAgg] at r; exact r

/-- A new row of strings. -/
def Con.newFz (C : Con) (b : Nat) : Con := { K := fun k => if k = b then .fz else C.K k, φ := C.φ }

theorem row_of_strings {e : TypeId} (he : oneB P e isStr = true) {b : Nat} (hf : ∀ o, C.fixed b o) : ∀ (xs : List ByteArray) (o : Nat), (∀ j x, xs[j]? = some x → w.cell? ⟨b, o + j, none⟩ = some (.string x)) → relRow P C w e (xs.map .str) b o
  | [], _, _ => by simp [relRow]
  | x :: xs, o, hc => by
    simp only [List.map_cons, relRow]
    refine ⟨⟨[.string x], by simp [relD], by simpa [fitsD] using he, by simp [oneB_size he], fun j v hj => ?_⟩, ?_⟩
    · cases j with
      | zero => simp at hj; subst hj; exact ⟨hf _, by simpa using hc 0 x (by simp)⟩
      | succ j => simp at hj
    · rw [oneB_size he]
      exact row_of_strings he hf xs (o + 1) fun j y hy => by
        have := hc (j + 1) y (by simpa using hy)
        rw [← this]; congr 2; omega

theorem new_strings {e : TypeId} {xs : List ByteArray} (he : oneB P e isStr = true) (hbare : ∀ b, C.K b ≠ .other → b < w.heap.size) (hm : xs.length ≤ maxLen) :
    Step C w hNil (C.newFz w.heap.size) (w.alloc (.cells (xs.map Value.string).toArray e)) hNil ∧ (∀ b, (C.newFz w.heap.size).K b ≠ .other → b < (w.alloc (.cells (xs.map Value.string).toArray e)).heap.size) ∧
      relV P (C.newFz w.heap.size) (w.alloc (.cells (xs.map Value.string).toArray e)) hNil (.d (.list e (xs.map .str))) (.slice (some ⟨w.heap.size, 0, none⟩) xs.length xs.length) := by
  have hsz : (w.alloc (.cells (xs.map Value.string).toArray e)).heap.size = w.heap.size + 1 := by simp
  have hold : ∀ b, b < w.heap.size → (w.alloc (.cells (xs.map Value.string).toArray e)).heap[b]? = w.heap[b]? := fun b hb => heap_alloc_old w _ hb
  have hnew := heap_alloc_new w (.cells (xs.map Value.string).toArray e)
  refine ⟨⟨rfl, rfl, rfl, by omega, fun b hb => ?_, fun _ _ => rfl, fun id bt bc hb => by simp [hNil] at hb, fun τ F hF => by simp [hNil] at hF⟩, fun b hb => ?_, ?_⟩
  · have : (C.newFz w.heap.size).K b = C.K b := by simp only [Con.newFz]; rw [if_neg (by omega)]
    unfold keptB
    rw [this]
    split
    · assumption
    · rename_i hb'; exact .inl ⟨hb', hold b hb⟩
    · exact ⟨rfl, hold b hb⟩
  · simp only [Con.newFz] at hb
    split at hb
    · omega
    · have := hbare b hb; omega
  · simp only [relV, relV1, DV.isAgg, Bool.false_eq_true, if_false, relD]
    refine ⟨some ⟨w.heap.size, 0, none⟩, xs.length, xs.length, rfl, by simp, Nat.le_refl _, hm, by simp, fun _ => ⟨w.heap.size, 0, rfl, row_of_strings he (fun o => by simp [Con.fixed, Con.newFz, Blk.fixed]) xs 0 fun j x hx => ?_⟩⟩
    rw [cell_in hnew]
    simp [hx]

end
end Go.Tith

namespace Go.Tith

def loopsOf : Code → List Code
  | .seq a b => loopsOf a ++ loopsOf b
  | .cond _ a b => loopsOf a ++ loopsOf b
  | .block _ b => loopsOf b
  | .loop b => b :: loopsOf b
  | .scope b => loopsOf b
  | _ => []

/-- A function's loops' bodies, in the text's order. -/
def loopB (fn : Func) (i : Nat) : Code := (loopsOf (fn.body.getD .skip)).getD i .skip

def bodyOf (fn : Func) : Code := fn.body.getD .skip

/-- One round, with what is kept behind it. -/
def round (f : St → Option (Ex × St)) (K : Option (List Nat × List Nat)) (m : Nat) (st : St) : Option (Ex × St) :=
  match f st with
  | some (.normal, st') => (st'.forget m).map fun s => (.normal, s.keep K)
  | some (.exit i, st') => (st'.forget m).map fun s => (.exit i, s.keep K)
  | some (.ret, st') => some (.ret, (st'.tidy K m).keep K)
  | none => none

def roundK (K : Option (List Nat × List Nat)) (m : Nat) : Ex × St → Option (Ex × St)
  | (.normal, s) => (s.forget m).map fun s => (.normal, s.keep K)
  | (.exit i, s) => (s.forget m).map fun s => (.exit i, s.keep K)
  | (.ret, s) => some (.ret, (s.tidy K m).keep K)
@[simp] theorem round_eq {f : St → Option (Ex × St)} {K : Option (List Nat × List Nat)} {m : Nat} {st : St} : round f K m st = (f st).bind (roundK K m) := by
  unfold round
  cases f st with
  | none => rfl
  | some r =>
    obtain ⟨e, s⟩ := r
    cases e <;> rfl

theorem loopN_round {f : St → Option (Ex × St)} {K : Option (List Nat × List Nat)} {m n : Nat} {st : St} : loopN f K m (n + 1) st =
    match round f K m st with
    | some (.normal, st') => loopN f K m n st'
    | r => r := by
  simp only [loopN, round]
  cases f st with
  | none => rfl
  | some r =>
    obtain ⟨e, s⟩ := r
    cases e with
    | normal => simp only; cases s.forget m <;> rfl
    | exit i => simp only; cases s.forget m <;> rfl
    | ret => rfl

/-- Rounds of a plain function. -/
def itr {σ ρ : Type} (step : σ → σ ⊕ ρ) : Nat → σ → Option ρ
  | 0, _ => none
  | n + 1, s => match step s with
    | .inl s' => itr step n s'
    | .inr r => some r

theorem loop_itr {σ ρ : Type} {f : St → Option (Ex × St)} {K : Option (List Nat × List Nat)} {m : Nat} (hd : σ → St) (out : ρ → Ex × St) (ho : ∀ r, (out r).1 ≠ .normal) (step : σ → σ ⊕ ρ) (I : σ → Prop)
    (hs : ∀ s, I s → round f K m (hd s) = some ((step s).elim (fun s' => (.normal, hd s')) out)) (hI : ∀ s s', I s → step s = .inl s' → I s') :
    ∀ n s r, I s → itr step n s = some r → loopN f K m n (hd s) = some (out r) := by
  intro n
  induction n with
  | zero => intro s r _ h; simp [itr] at h
  | succ n ih =>
    intro s r hi h
    rw [loopN_round, hs s hi]
    simp only [itr] at h
    cases hst : step s with
    | inl s' =>
      rw [hst] at h
      simp only [Sum.elim_inl]
      exact ih s' r (hI s s' hi hst) h
    | inr q =>
      rw [hst] at h
      simp only [Option.some.injEq] at h; subst h
      simp only [Sum.elim_inr]
      have := ho q
      cases hq : out q with
      | mk e st =>
        rw [hq] at this
        cases e <;> simp_all

/-- Steps by a measure. -/
theorem itr_measure {σ ρ : Type} {step : σ → σ ⊕ ρ} (I : σ → Prop) (μ : σ → Nat) (F : σ → ρ) (h : ∀ s, I s → (∃ s', step s = .inl s' ∧ I s' ∧ μ s' < μ s ∧ F s' = F s) ∨ step s = .inr (F s)) :
    ∀ n s, I s → μ s < n → itr step n s = some (F s) := by
  intro n
  induction n with
  | zero => intro s _ hn; omega
  | succ n ih =>
    intro s hi hn
    simp only [itr]
    rcases h s hi with ⟨s', h1, h2, h3, h4⟩ | h1
    · rw [h1]; simp only; rw [ih s' h2 (by omega), h4]
    · rw [h1]

/-- It ends where the invariant holds. -/
theorem itr_ends {σ ρ : Type} {step : σ → σ ⊕ ρ} (I : σ → Prop) (μ : σ → Nat) (h : ∀ s s', I s → step s = .inl s' → I s' ∧ μ s' < μ s) :
    ∀ n s, I s → μ s < n → ∃ s' r, itr step n s = some r ∧ I s' ∧ step s' = .inr r := by
  intro n
  induction n with
  | zero => intro s _ hn; omega
  | succ n ih =>
    intro s hi hn
    simp only [itr]
    cases hs : step s with
    | inl s' =>
      obtain ⟨h1, h2⟩ := h s s' hi hs
      exact ih s' h1 (by omega)
    | inr r => exact ⟨s, r, rfl, hi, hs⟩

theorem wrap8 {n : Nat} (h : n < 256) : IntKind.wrap .u8 (n : Int) = n := by
  simp [IntKind.wrap, IntKind.bits, IntKind.signed]
  omega
theorem wrap64 {n : Nat} (h : n < 9223372036854775808) : IntKind.wrap .i64 (n : Int) = n := by
  simp only [IntKind.wrap, IntKind.bits, IntKind.signed]
  have : (n : Int) % 18446744073709551616 = n := by omega
  simp
  omega

def byteD (b : UInt8) : DV := .int .u8 (b.toNat : Int)

/-- Bytes, avs a list of trees. -/
@[irreducible] def bytesD (l : List UInt8) : List DV := l.map byteD
theorem bytesD_eq (l : List UInt8) : bytesD l = l.map byteD := by unfold bytesD; rfl
@[simp] theorem bytesD_length {l : List UInt8} : (bytesD l).length = l.length := by simp [bytesD_eq]
@[simp] theorem bytesD_append {a b : List UInt8} : bytesD a ++ bytesD b = bytesD (a ++ b) := by simp [bytesD_eq]
@[simp] theorem bytesD_snoc {a : List UInt8} {c : UInt8} : bytesD a ++ [.int .u8 (c.toNat : Int)] = bytesD (a ++ [c]) := by simp [bytesD_eq, byteD]
@[simp] theorem bytesD_snoc2 {a b : List UInt8} {c : UInt8} : bytesD a ++ .int .u8 (c.toNat : Int) :: bytesD b = bytesD (a ++ c :: b) := by simp [bytesD_eq, byteD]
@[simp] theorem ofBytes_bytesD {a : List UInt8} : ofBytes a = bytesD a := by simp only [bytesD_eq, ofBytes]; rfl
@[simp] theorem bytesD_get {l : List UInt8} {i : Nat} : (bytesD l)[i]? = chk (i < l.length) (some (byteD (ata l i))) := by rw [bytesD_eq]; exact getElem?_map_chk
@[simp] theorem bytesD_get' {l : List UInt8} {i : Nat} : (List.map AV.d (bytesD l))[i]? = chk (i < l.length) (some (.d (byteD (ata l i)))) := by
  rw [bytesD_eq, List.map_map]; exact getElem?_map_chk
@[simp] theorem bytesD_take {l : List UInt8} {i : Nat} : (bytesD l).take i = bytesD (l.take i) := by simp [bytesD_eq]
@[simp] theorem bytesD_drop {l : List UInt8} {i : Nat} : (bytesD l).drop i = bytesD (l.drop i) := by simp [bytesD_eq]
@[simp] theorem bytesD_set {l : List UInt8} {i : Nat} {c : UInt8} : (bytesD l).set i (.int .u8 (c.toNat : Int)) = bytesD (l.set i c) := by
  rw [bytesD_eq, bytesD_eq, List.map_set]; rfl
@[simp] theorem bytesD_zero {n : Nat} : List.replicate n (DV.int .u8 0) = bytesD (List.replicate n 0) := by simp [bytesD_eq, byteD]
@[simp] theorem bytesOf_bytesD : ∀ (l : List UInt8), bytesOf (bytesD l) = some l
  | [] => by simp [bytesD_eq, bytesOf]
  | b :: l => by
    have := bytesOf_bytesD l
    rw [bytesD_eq] at this
    simp only [bytesD_eq, List.map_cons, byteD, bytesOf, this, Option.map_some]
    congr
    simp
@[simp] theorem noLsts_bytesD : ∀ (l : List UInt8), noLsts (bytesD l) = true
  | [] => by simp [bytesD_eq, noLsts]
  | b :: l => by
    have := noLsts_bytesD l
    rw [bytesD_eq] at this
    simp only [bytesD_eq, List.map_cons, byteD, noLsts, this, noLst, Bool.and_self]
theorem eqDs_bytesD : ∀ (a b : List UInt8), eqDs (bytesD a) (bytesD b) = (a == b)
  | [], [] => by simp [bytesD_eq, eqDs]
  | [], _ :: _ => by simp [bytesD_eq, eqDs]
  | _ :: _, [] => by simp [bytesD_eq, eqDs]
  | x :: a, y :: b => by
    have := eqDs_bytesD a b
    rw [bytesD_eq, bytesD_eq] at this
    simp only [bytesD_eq, List.map_cons, byteD, eqDs, this, eqD]
    by_cases h : x = y
    · subst h; simp
    · have : ¬ (x.toNat = y.toNat) := fun q => h (UInt8.toNat_inj.1 q)
      have h2 : ((x.toNat : Int) == (y.toNat : Int)) = false := by simp; omega
      rw [h2]; simp [h]
@[simp] theorem eqDs_bytesD' {a b : List UInt8} : eqDs (bytesD a) (bytesD b) = decide (a = b) := by
  rw [eqDs_bytesD]; by_cases h : a = b <;> simp [h]
theorem bytesD_inj {a b : List UInt8} (h : bytesD a = bytesD b) : a = b := by
  have := congrArg bytesOf h
  simpa using this
@[simp] theorem bytesD_inj' {a b : List UInt8} : bytesD a = bytesD b ↔ a = b := ⟨bytesD_inj, fun h => by rw [h]⟩
@[simp] theorem bytesD_cons {c : UInt8} {a : List UInt8} : DV.int .u8 (c.toNat : Int) :: bytesD a = bytesD (c :: a) := by simp [bytesD_eq, byteD]

@[simp] theorem range2 : List.range 2 = [0, 1] := rfl
@[simp] theorem range3 : List.range 3 = [0, 1, 2] := rfl
@[simp] theorem range4 : List.range 4 = [0, 1, 2, 3] := rfl
@[simp] theorem range5 : List.range 5 = [0, 1, 2, 3, 4] := rfl
@[simp] theorem range6 : List.range 6 = [0, 1, 2, 3, 4, 5] := rfl
@[simp] theorem range7 : List.range 7 = [0, 1, 2, 3, 4, 5, 6] := rfl
@[simp] theorem range8 : List.range 8 = [0, 1, 2, 3, 4, 5, 6, 7] := rfl
@[simp] theorem range9 : List.range 9 = [0, 1, 2, 3, 4, 5, 6, 7, 8] := rfl
@[simp] theorem range10 : List.range 10 = [0, 1, 2, 3, 4, 5, 6, 7, 8, 9] := rfl
@[simp] theorem range11 : List.range 11 = [0, 1, 2, 3, 4, 5, 6, 7, 8, 9, 10] := rfl
@[simp] theorem range12 : List.range 12 = [0, 1, 2, 3, 4, 5, 6, 7, 8, 9, 10, 11] := rfl
@[simp] theorem range16 : List.range 16 = [0, 1, 2, 3, 4, 5, 6, 7, 8, 9, 10, 11, 12, 13, 14, 15] := rfl

/-! ### strings avs lists of bytes -/
@[irreducible] def strL (l : List UInt8) : ByteArray := ⟨l.toArray⟩
theorem strL_eq (l : List UInt8) : strL l = ⟨l.toArray⟩ := by unfold strL; rfl
theorem mk_strL {l : List UInt8} : (⟨l.toArray⟩ : ByteArray) = strL l := (strL_eq l).symm
@[simp] theorem empty_strL : ByteArray.empty = strL [] := (strL_eq []).symm
@[simp] theorem strL_append {a b : List UInt8} : strL a ++ strL b = strL (a ++ b) := by
  apply ByteArray.ext
  simp [strL_eq]
@[simp] theorem strL_size {a : List UInt8} : (strL a).size = a.length := by simp [strL_eq, ByteArray.size]
@[simp] theorem strL_data {a : List UInt8} : (strL a).data.toList = a := by simp [strL_eq]
@[simp] theorem strL_toList {a : List UInt8} : (strL a).toList = a := by rw [strL_eq]; exact ByteArray.toList_mk a
theorem strL_of (s : ByteArray) : s = strL s.data.toList := by rw [strL_eq]
theorem strL_inj {a b : List UInt8} (h : strL a = strL b) : a = b := by
  have := congrArg (fun s => s.data.toList) h
  simpa using this
@[simp] theorem strL_inj' {a b : List UInt8} : strL a = strL b ↔ a = b := ⟨strL_inj, fun h => by rw [h]⟩
@[simp] theorem bat_strL {a : List UInt8} {i : Nat} : bat (strL a) i = ata a i := by
  unfold bat ata
  rw [strL_eq]
  simp [getElem?_def]
  rfl
@[simp] theorem strL_extract {a : List UInt8} {i j : Nat} : (strL a).extract i j = strL ((a.take j).drop i) := by
  apply ByteArray.ext
  rw [strL_eq, strL_eq, ByteArray.data_extract]
  apply Array.ext'
  simp [List.drop_take]
@[simp] theorem constA_str {l : List UInt8} : constA (.string ⟨l.toArray⟩) = .d (.str (strL l)) := by rw [strL_eq]; rfl
theorem beq_list {a b : List UInt8} : (a == b) = decide (a = b) := by by_cases h : a = b <;> simp [h]

/-! ### contracts by typed arguments -/
noncomputable def specOf {ι : Type} (I O : ι → List DV) (pre : ι → Prop) (ds : List DV) : Option (List DV) :=
  @dite _ (∃ i, I i = ds ∧ pre i) (Classical.propDecidable _) (fun h => some (O (Classical.choose h))) fun _ => none
theorem specOf_eq {ι : Type} {I O : ι → List DV} {pre : ι → Prop} (hI : ∀ i j, I i = I j → i = j) (i : ι) : specOf I O pre (I i) = chk (pre i) (some (O i)) := by
  unfold specOf
  by_cases h : pre i
  · have hx : ∃ j, I j = I i ∧ pre j := ⟨i, rfl, h⟩
    rw [dif_pos hx, chk_eq h rfl, hI _ _ (Classical.choose_spec hx).1]
  · have hx : ¬ ∃ j, I j = I i ∧ pre j := fun ⟨j, h1, h2⟩ => h (hI _ _ h1 ▸ h2)
    rw [dif_neg hx, eq_false h, chk_false]
theorem specOf_some {ι : Type} {I O : ι → List DV} {pre : ι → Prop} {ds r : List DV} (h : specOf I O pre ds = some r) : ∃ i, ds = I i ∧ r = O i ∧ pre i := by
  unfold specOf at h
  split at h
  · rename_i hx
    simp only [Option.some.injEq] at h
    exact ⟨_, (Classical.choose_spec hx).1.symm, h.symm, (Classical.choose_spec hx).2⟩
  · cases h

theorem meets_spec {P : Program} {G : Nat → Option (TypeId × DV)} {l : List (FuncId × Spec)} {f : FuncId} {fn : Func} {ι : Type} {I O : ι → List DV} {pre : ι → Prop} (K : Nat → Option (List Nat × List Nat))
    (ml : AllMeet P G l) (hm : P.follows .mixedOrders = true) (hf : P.funcs[f]? = some fn) (ok : bodyOK l fn = true) (hn : ∀ i, (I i).length ≤ fn.ntmps)
    (ht : ∀ i, pre i → treeF ⟨P, look l, G, K⟩ fuel (bodyOf fn) fn.results.toList (I i) = some (O i)) : Meets P G f (.pure (specOf I O pre)) := by
  unfold bodyOK at ok
  split at ok
  · rename_i c hb
    simp only [Bool.and_eq_true, Bool.not_eq_true'] at ok
    refine pure_fn K ml hm hf hb ok.2 ok.1 fun ds r hr => ?_
    obtain ⟨i, rfl, rfl, hp⟩ := specOf_some hr
    refine ⟨hn i, fuel, ?_⟩
    have := ht i hp
    simpa only [bodyOf, hb, Option.getD_some] using this
  · cases ok

/-! ### contracts with function values among the arguments; the heap stays -/
noncomputable def specEf {ι : Type} (I : ι → List AV) (O : ι → AV) (pre : ι → Prop) (al : List AV) (h : Heap) : Option (AV × Heap) :=
  @dite _ (∃ i, I i = al ∧ pre i) (Classical.propDecidable _) (fun hx => some (O (Classical.choose hx), h)) fun _ => none
theorem specEf_eq {ι : Type} {I : ι → List AV} {O : ι → AV} {pre : ι → Prop} (hI : ∀ i j, I i = I j → i = j) (i : ι) (h : Heap) : specEf I O pre (I i) h = chk (pre i) (some (O i, h)) := by
  unfold specEf
  by_cases hp : pre i
  · have hx : ∃ j, I j = I i ∧ pre j := ⟨i, rfl, hp⟩
    rw [dif_pos hx, chk_eq hp rfl, hI _ _ (Classical.choose_spec hx).1]
  · have hx : ¬ ∃ j, I j = I i ∧ pre j := fun ⟨j, h1, h2⟩ => hp (hI _ _ h1 ▸ h2)
    rw [dif_neg hx, eq_false hp, chk_false]
theorem specEf_some {ι : Type} {I : ι → List AV} {O : ι → AV} {pre : ι → Prop} {al : List AV} {h : Heap} {r : AV} {h' : Heap} (hs : specEf I O pre al h = some (r, h')) : ∃ i, al = I i ∧ r = O i ∧ h' = h ∧ pre i := by
  unfold specEf at hs
  split at hs
  · rename_i hx
    simp only [Option.some.injEq, Prod.mk.injEq] at hs
    exact ⟨_, (Classical.choose_spec hx).1.symm, hs.1.symm, hs.2.symm, (Classical.choose_spec hx).2⟩
  · cases hs
theorem meets_specEf {P : Program} {G : Nat → Option (TypeId × DV)} {l : List (FuncId × Spec)} {f : FuncId} {fn : Func} {ι : Type} {I : ι → List AV} {O : ι → AV} {pre : ι → Prop} (K : Nat → Option (List Nat × List Nat))
    (ml : AllMeet P G l) (hm : P.follows .mixedOrders = true) (hf : P.funcs[f]? = some fn) (ok : bodyOK l fn = true) (hn : ∀ i, (I i).length ≤ fn.ntmps) (outs : ι → List AV) (ho : ∀ i, packA (outs i) = O i)
    (ht : ∀ i h, pre i → runF ⟨P, look l, G, K⟩ fuel (bodyOf fn) fn.results.toList (I i) h = some (outs i, h)) : Meets P G f (.eff (specEf I O pre)) := by
  unfold bodyOK at ok
  split at ok
  · rename_i c hb
    simp only [Bool.and_eq_true, Bool.not_eq_true'] at ok
    refine eff_fn K ml hm hf hb ok.2 ok.1 fun al h r h' hr => ?_
    obtain ⟨i, rfl, rfl, rfl, hp⟩ := specEf_some hr
    refine ⟨hn i, fuel, outs i, ?_, ho i⟩
    have := ht i h' hp
    simpa only [bodyOf, hb, Option.getD_some] using this
  · cases ok

/-! ### a function of trees, called by its value -/
def effK (s : List DV → Option (List DV)) (h : Heap) (ds : List DV) : Option (AV × Heap) := (s ds).map fun r => (resA r, h)
def effOf (P : Program) (s : List DV → Option (List DV)) (al : List AV) (h : Heap) : Option (AV × Heap) := if al.all noSlA = true then (viewAll P h al).bind (effK s h) else none
theorem viewAll_rel {P : Program} {C : Con} {w : World} {h : Heap} (S : Sim P C h w) : ∀ {al : List AV} {ds : List DV} {vs : List Value}, al.all noSlA = true → viewAll P h al = some ds → relVs P C w h al vs → relVs P (C.view false) w hNil (ds.map .d) vs
  | [], ds, vs, _, hv, r => by simp only [viewAll, Option.some.injEq] at hv; subst hv; simpa [relVs] using r
  | x :: al, ds, vs, hn, hv, r => by
    simp only [List.all_cons, Bool.and_eq_true] at hn
    simp only [viewAll] at hv
    cases h1 : viewD P h x with
    | none => rw [h1] at hv; cases hv
    | some y =>
      cases h2 : viewAll P h al with
      | none => rw [h1, h2] at hv; cases hv
      | some ys =>
        simp only [h1, h2, Option.bind_some, Option.map_some, Option.some.injEq] at hv; subst hv
        simp only [relVs] at r
        obtain ⟨u, vs', rfl, h3, h4⟩ := r
        simp only [List.map_cons, relVs]
        have := viewD_relV S h1 (relV_dn h3)
        rw [hn.1] at this
        exact ⟨u, vs', rfl, this, viewAll_rel S hn.2 h2 h4⟩
theorem eff_of_pure {P : Program} {G : Nat → Option (TypeId × DV)} {f : FuncId} {s : List DV → Option (List DV)} (ms : Meets P G f (.pure s)) : Meets P G f (.eff (effOf P s)) := ⟨ms.1, fun C w h al vs r h' S g ra hr => by
  unfold effOf at hr
  split at hr
  · rename_i hn
    cases h1 : viewAll P h al with
    | none => simp [h1] at hr
    | some ds =>
      simp only [h1, Option.bind_some, effK] at hr
      cases h2 : s ds with
      | none => simp [h2] at hr
      | some rs =>
        simp only [h2, Option.map_some, Option.some.injEq, Prod.mk.injEq] at hr
        obtain ⟨rfl, rfl⟩ := hr
        exact call_pure ms.2 S g false (viewAll_rel S hn h1 ra) h2 (.inl rfl)
  · cases hr⟩

attribute [simp] effK effOf St.tidy byteD roundK St.keep St.start envK_nil envK_cons mark marks St.mark1 bodyOf

end Go.Tith

namespace Go.Tith

section
variable {P : Program} {G : Nat → Option (TypeId × DV)} {C C' : Con} {w w' : World} {h h' : Heap}

theorem sim_toks (S : Sim P C h w) (x : HExt h h') (hb : h'.boxes = h.boxes) : Sim P C h' w := by
  have sp : Step C w h C w h' := x.step (P := P)
  refine ⟨fun id bt bc hb' => ?_, S.lt, fun b τ f hb' => ?_⟩
  · rw [hb] at hb'
    obtain ⟨h1, h2, cs, e, h3, h4, h5⟩ := S.box id bt bc hb'
    exact ⟨h1, h2, cs, e, h3, h4, relC_mono sp h5⟩
  · obtain ⟨F, hF⟩ := S.tk b τ f hb'
    obtain ⟨F', h1, _⟩ := sp.tok τ F hF
    exact ⟨F', h1⟩

def cloneK (e : TypeId) (h : Heap) : DV → Option (AV × Heap)
  | .list e' xs => if e' = e ∧ xs.length ≤ 4294967296 then some (.lst (some h.toks.length) e xs, { h with toks := h.toks ++ [xs.length] }) else none
  | _ => none
def sClone (e : TypeId) (al : List AV) (h : Heap) : Option (AV × Heap) :=
  match al with
  | [x] => (plainD x).bind (cloneK e h)
  | _ => none
theorem sClone_eq {e : TypeId} {x : AV} : sClone e [x] h = (plainD x).bind (cloneK e h) := rfl
attribute [simp] sClone_eq cloneK

theorem clone_meets {l : List (FuncId × Spec)} {f : FuncId} {fn : Func} {e : TypeId} (K : Nat → Option (List Nat × List Nat)) (ml : AllMeet P G l) (hm : P.follows .mixedOrders = true) (hf : P.funcs[f]? = some fn) (ok : bodyOK l fn = true) (hn : 1 ≤ fn.ntmps)
    (h1 : ∀ h, runF ⟨P, look l, G, K⟩ fuel (bodyOf fn) fn.results.toList [.nils] h = some ([.lst none e []], h))
    (h2 : ∀ h, runF ⟨P, look l, G, K⟩ fuel (bodyOf fn) fn.results.toList [.emp e] h = some ([.lst (some h.toks.length) e []], { h with toks := h.toks ++ [0] }))
    (h3 : ∀ h x xs, xs.length + 1 ≤ 4294967296 → runF ⟨P, look l, G, K⟩ fuel (bodyOf fn) fn.results.toList [.d (.list e (x :: xs))] h = some ([.lst (some h.toks.length) e (x :: xs)], { h with toks := h.toks ++ [xs.length + 1] })) :
    Meets P G f (.eff (sClone e)) := by
  unfold bodyOK at ok
  split at ok
  case h_2 => cases ok
  rename_i c hb
  simp only [Bool.and_eq_true, Bool.not_eq_true'] at ok
  have hbody : bodyOf fn = c := by simp [bodyOf, hb]
  rw [hbody] at h1 h2 h3
  refine ⟨enterable hf hb ok.2, fun C w h al vs r h' S g ra hr => ?_⟩
  unfold sClone at hr
  split at hr
  case h_2 => cases hr
  rename_i x
  cases hx : plainD x with
  | none => simp [hx] at hr
  | some d =>
    rw [hx] at hr
    simp only [Option.bind_some] at hr
    cases d <;> simp only [cloneK] at hr <;> try cases hr
    rename_i e' xs
    split at hr
    case isFalse => cases hr
    rename_i hc
    obtain ⟨rfl, hlen⟩ := hc
    simp only [Option.some.injEq, Prod.mk.injEq] at hr
    obtain ⟨rfl, rfl⟩ := hr
    simp only [relVs] at ra
    obtain ⟨v, vs', rfl, rx, rfl⟩ := ra
    have rd := plainD_relV (h' := hNil) hx (relV_dn rx)
    simp only [relV1, DV.isAgg, Bool.false_eq_true, if_false, relD] at rd
    obtain ⟨a, len, cap, hv, hl, hlc, hmax, hnone, hrow⟩ := rd
    simp only [List.cons.injEq, and_true] at hv
    subst hv
    subst hl
    cases a with
    | none =>
      have hc0 := hnone rfl
      subst hc0
      have hx0 : xs = [] := List.eq_nil_of_length_eq_zero (by omega)
      subst hx0
      refine (run_calls (E := ⟨P, look l, G, K⟩) (SOK_look ml) hm hf hb ok.1 hn S g (avs := [.nils]) (vs := [.slice none 0 0]) (by simp [relVs, relV1]) (h1 h)).mono ?_
      rintro e2 w' ⟨C', v, rfl, rv, sp, S'⟩
      have x' : HExt h { h with toks := h.toks ++ [0] } := ⟨fun _ => rfl, by simp⟩
      refine ⟨C', v, rfl, ?_, ?_, sim_toks S' x' rfl⟩
      · have := mark_V (ts := h.toks) (h' := { h with toks := h.toks ++ [0] }) rv x' (by simp [mark])
        simpa [mark, packA] using this
      · exact sp.trans S.tk (x'.step (P := P))
    | some ad =>
      cases xs with
      | nil =>
        refine (run_calls (E := ⟨P, look l, G, K⟩) (SOK_look ml) hm hf hb ok.1 hn S g (avs := [.emp e']) (vs := [.slice (some ad) 0 cap]) (by simp only [relVs, relV1]; exact ⟨_, _, rfl, ⟨ad, cap, rfl, hmax⟩, rfl⟩) (h2 h)).mono ?_
        rintro e2 w' ⟨C', v, rfl, rv, sp, S'⟩
        exact ⟨C', v, rfl, rv, sp, S'⟩
      | cons y ys =>
        have hrel : relVs P C w h [.d (.list e' (y :: ys))] [.slice (some ad) (y :: ys).length cap] := by
          simp only [relVs, relV1, DV.isAgg, Bool.false_eq_true, if_false, relD]
          exact ⟨_, _, rfl, ⟨some ad, _, cap, rfl, rfl, hlc, hmax, hnone, hrow⟩, rfl⟩
        refine (run_calls (E := ⟨P, look l, G, K⟩) (SOK_look ml) hm hf hb ok.1 (by simpa using hn) S g hrel (h3 h y ys (by simpa using hlen))).mono ?_
        rintro e2 w' ⟨C', v, rfl, rv, sp, S'⟩
        exact ⟨C', v, rfl, rv, sp, S'⟩

end
end Go.Tith

namespace Go.Tith
open Go.ChangeShapes Go.RowKit

def aggT (P : Program) (t : TypeId) : Bool := P.cellsOf t == P.cellsOf (P.underlyingId t) && isRowT P t && decide (tys P (P.underlyingId t) = tys P t)

/-- Types of numbers, booleans, strings, and of slices, structs and arrays of such. -/
def plainT (P : Program) : Nat → TypeId → Bool
  | 0, _ => false
  | n + 1, t => match P.underlying t with
    | some (.int k) => oneB P t (isInt k)
    | some .bool => oneB P t isBool
    | some .string => oneB P t isStr
    | some (.slice e) => oneB P t (isSl e) && plainT P n e && decide (0 < P.cellsOf e)
    | some (.struct fs) => decide (layL P fs.toList 0 = some (P.cellsOf t)) && fs.toList.all (fun f => plainT P n f.type) && aggT P t
    | some (.array m e) => P.cellsOf t == m * P.cellsOf e && plainT P n e && aggT P t
    | _ => false

def all2 {α β : Type} (R : α → β → Prop) : List α → List β → Prop
  | [], [] => True
  | a :: avs, b :: bs => R a b ∧ all2 R avs bs
  | _, _ => False

/-- A tree of a type. -/
def wtD (P : Program) : Nat → TypeId → DV → Prop
  | 0, _, _ => False
  | n + 1, t, x => match P.underlying t with
    | some (.int k) => ∃ z, x = .int k z ∧ (Lit.int k z).wf = true
    | some .bool => ∃ b, x = .bool b
    | some .string => ∃ s : ByteArray, x = .str s ∧ s.size ≤ maxLen
    | some (.slice e) => ∃ xs, x = .list e xs ∧ xs.length ≤ maxLen ∧ ∀ y ∈ xs, wtD P n e y
    | some (.struct fs) => ∃ xs, x = .agg (P.underlyingId t) xs ∧ all2 (fun f y => wtD P n f.type y) fs.toList xs
    | some (.array m e) => ∃ xs, x = .agg (P.underlyingId t) xs ∧ xs.length = m ∧ ∀ y ∈ xs, wtD P n e y
    | _ => False

section
variable {H : Type} {enc : TypeId × Value → H} {P : Program} {C : Con} {w : World} {spare : Nat → Bool} {held : Bool}

theorem aggT_rel {t : TypeId} {xs : List DV} {cs : List Value} (ha : aggT P t = true) (hl : cs.length = P.cellsOf t) (hr : relDs P C w xs (tys P t) cs) :
    relD P C w (.agg (P.underlyingId t) xs) cs ∧ fitsD P t (.agg (P.underlyingId t) xs) = true := by
  simp only [aggT, Bool.and_eq_true, beq_iff_eq, decide_eq_true_eq] at ha
  obtain ⟨⟨h1, h2⟩, h3⟩ := ha
  simp only [relD, fitsD, Bool.and_eq_true, beq_iff_eq]
  exact ⟨⟨by rw [hl, h1], by rw [h3]; exact hr⟩, ⟨trivial, h1⟩, h2⟩

theorem relDs_fields {n m : Nat} (hC : True) (ih : ∀ (t : TypeId) (cs : List Value) (x : DataW H × List MemPlace), plainT P n t = true → DataW.trod enc P w 0 spare held m t cs = some x → ∃ y, relD P C w y cs ∧ fitsD P t y = true ∧ wtD P n t y) (cs : List Value) :
    ∀ (fs : List Field) (o tot : Nat), layL P fs o = some tot → cs.length = tot → o ≤ tot → (fs.all fun f => plainT P n f.type) = true →
      (∀ f ∈ fs, ∃ x, DataW.trod enc P w 0 spare held m f.type ((cs.drop f.offset).take (P.cellsOf f.type)) = some x) →
      ∃ xs, relDs P C w xs (fs.map (·.type)) (cs.drop o) ∧ all2 (fun f y => wtD P n f.type y) fs xs
  | [], o, tot, hl, hc, ho, _, _ => by
    simp only [layL, Option.some.injEq] at hl
    subst hl
    refine ⟨[], ?_, trivial⟩
    simp [relDs, hc]
  | f :: fs, o, tot, hl, hc, ho, hp, hx => by
    simp only [layL] at hl
    split at hl
    · rename_i hof
      simp only [List.all_cons, Bool.and_eq_true] at hp
      have hle : ∀ (fs : List Field) (o tot : Nat), layL P fs o = some tot → o ≤ tot := by
        intro fs
        induction fs with
        | nil => intro o tot h; simp [layL] at h; omega
        | cons g gs ihg =>
          intro o tot h
          simp only [layL] at h
          split at h
          · have := ihg _ _ h; omega
          · cases h
      have h2 := hle _ _ _ hl
      obtain ⟨x, hx1⟩ := hx f (by simp)
      obtain ⟨y, hy1, hy2, hy3⟩ := ih _ _ _ hp.1 hx1
      obtain ⟨ys, hys, hw⟩ := relDs_fields hC ih cs fs (o + P.cellsOf f.type) tot hl hc h2 hp.2 (fun g hg => hx g (by simp [hg]))
      refine ⟨y :: ys, ?_, hy3, hw⟩
      simp only [List.map_cons, relDs]
      rw [hof] at hy1
      refine ⟨_, _, _, _, rfl, ?_, hy2, ?_, hy1, hys⟩
      · rw [← List.drop_drop, List.take_append_drop]
      · simp; omega
    · cases hl

theorem relDs_elems {n m : Nat} (ih : ∀ (t : TypeId) (cs : List Value) (x : DataW H × List MemPlace), plainT P n t = true → DataW.trod enc P w 0 spare held m t cs = some x → ∃ y, relD P C w y cs ∧ fitsD P t y = true ∧ wtD P n t y) (cs : List Value) (e : TypeId) (N : Nat)
    (hc : cs.length = N * P.cellsOf e) (hp : plainT P n e = true) (hx : ∀ i, i < N → ∃ x, DataW.trod enc P w 0 spare held m e ((cs.drop (i * P.cellsOf e)).take (P.cellsOf e)) = some x) :
    ∀ j i, i + j = N → ∃ xs, relDs P C w xs (List.replicate j e) (cs.drop (i * P.cellsOf e)) ∧ xs.length = j ∧ ∀ y ∈ xs, wtD P n e y
  | 0, i, hij => by
    refine ⟨[], ?_, rfl, by simp⟩
    have : i = N := by omega
    simp [relDs, hc, this]
  | j + 1, i, hij => by
    obtain ⟨x, hx1⟩ := hx i (by omega)
    obtain ⟨y, hy1, hy2, hy3⟩ := ih _ _ _ hp hx1
    obtain ⟨ys, hys, hl, hw⟩ := relDs_elems ih cs e N hc hp hx j (i + 1) (by omega)
    refine ⟨y :: ys, ?_, by simp [hl], ?_⟩
    · simp only [List.replicate_succ, relDs]
      refine ⟨_, _, _, _, rfl, ?_, hy2, ?_, hy1, hys⟩
      · rw [Nat.add_mul, Nat.one_mul, ← List.drop_drop, List.take_append_drop]
      · have : (i + 1) * P.cellsOf e ≤ N * P.cellsOf e := Nat.mul_le_mul_right _ (by omega)
        rw [Nat.add_mul, Nat.one_mul] at this
        simp; omega
    · intro z hz
      simp only [List.mem_cons] at hz
      rcases hz with rfl | hz
      · exact hy3
      · exact hw z hz

theorem relRow_elems {n m : Nat} (hC : ∀ b, b < w.heap.size → C.K b = .fz) (ih : ∀ (t : TypeId) (cs : List Value) (x : DataW H × List MemPlace), plainT P n t = true → DataW.trod enc P w 0 spare held m t cs = some x → ∃ y, relD P C w y cs ∧ fitsD P t y = true ∧ wtD P n t y) (e : TypeId) (N b o : Nat)
    (hp : plainT P n e = true) (hx : ∀ i, i < N → ∃ cs x, w.cells? 0 ((⟨b, o, none⟩ : Addr).add (i * P.cellsOf e)) (P.cellsOf e) = some cs ∧ DataW.trod enc P w 0 spare held m e cs = some x) :
    ∀ j i, i + j = N → ∃ xs, relRow P C w e xs b (o + i * P.cellsOf e) ∧ xs.length = j ∧ ∀ y ∈ xs, wtD P n e y
  | 0, i, hij => ⟨[], by simp [relRow], rfl, by simp⟩
  | j + 1, i, hij => by
    obtain ⟨cs, x, hx0, hx1⟩ := hx i (by omega)
    obtain ⟨y, hy1, hy2, hy3⟩ := ih _ _ _ hp hx1
    obtain ⟨ys, hys, hl, hw⟩ := relRow_elems hC ih e N b o hp hx j (i + 1) (by omega)
    obtain ⟨_, hcl, hce⟩ := World.cells?_some hx0
    refine ⟨y :: ys, ?_, by simp [hl], ?_⟩
    · simp only [relRow]
      refine ⟨⟨cs, hy1, hy2, hcl, fun k v hk => ?_⟩, ?_⟩
      · have hkl : k < P.cellsOf e := by
          have := (List.getElem?_eq_some_iff.1 hk).1
          omega
        have h1 := hce k hkl
        have ea : (((⟨b, o, none⟩ : Addr).add (i * P.cellsOf e)).add k) = ⟨b, o + i * P.cellsOf e + k, none⟩ := by
          unfold Addr.add
          by_cases h0 : i * P.cellsOf e = 0 <;> by_cases hk0 : k = 0 <;> simp [h0, hk0]
        rw [ea, hk] at h1
        refine ⟨?_, h1⟩
        have hb : b < w.heap.size := by
          unfold World.cell? at h1
          simp only at h1
          split at h1
          · rename_i hh; exact (Array.getElem?_eq_some_iff.1 hh).1
          · cases h1
        simp [Con.fixed, hC b hb, Blk.fixed]
      · rw [Nat.add_mul, Nat.one_mul, ← Nat.add_assoc] at hys; exact hys
    · intro z hz
      simp only [List.mem_cons] at hz
      rcases hz with rfl | hz
      · exact hy3
      · exact hw z hz

theorem trod_relD (hC : ∀ b, b < w.heap.size → C.K b = .fz) : ∀ (m n : Nat) (t : TypeId) (cs : List Value) (x : DataW H × List MemPlace), plainT P n t = true →
    DataW.trod enc P w 0 spare held m t cs = some x → ∃ y, relD P C w y cs ∧ fitsD P t y = true ∧ wtD P n t y := by
  intro m
  induction m with
  | zero => intro n t cs x _ h; simp [DataW.trod] at h
  | succ m ihm =>
    intro n
    cases n with
    | zero => intro t cs x h; simp [plainT] at h
    | succ n =>
      intro t cs x hp h
      have ih := ihm n
      unfold plainT at hp
      unfold wtD
      cases hu : P.underlying t with
      | none => rw [hu] at hp; cases hp
      | some d =>
        rw [hu] at hp
        cases d <;> simp only at hp <;> try (cases hp; done)
        case int k =>
          obtain ⟨z, rfl, rfl, hz⟩ := DataW.trod_int hu h
          exact ⟨.int k z, by simp [relD], by simpa [fitsD] using hp, z, rfl, hz⟩
        case bool =>
          obtain ⟨b, rfl, rfl⟩ := DataW.trod_bool hu h
          exact ⟨.bool b, by simp [relD], by simpa [fitsD] using hp, b, rfl⟩
        case string =>
          obtain ⟨s, rfl, rfl, hs⟩ := DataW.trod_string hu h
          exact ⟨.str s, by simp [relD], by simpa [fitsD] using hp, s, rfl, hs⟩
        case slice e =>
          simp only [Bool.and_eq_true, decide_eq_true_eq] at hp
          obtain ⟨⟨hp1, hp2⟩, hp3⟩ := hp
          have nilc : cs = [.slice none 0 0] → ∃ y, relD P C w y cs ∧ fitsD P t y = true ∧ ∃ xs, y = .list e xs ∧ xs.length ≤ maxLen ∧ ∀ z ∈ xs, wtD P n e z := fun hcs =>
            ⟨.list e [], by simp only [relD]; exact ⟨none, 0, 0, hcs, rfl, by omega, by simp [maxLen], by simp, by simp⟩, by simpa [fitsD] using hp1, [], rfl, by simp, by simp⟩
          rcases DataW.trod_slice hu h with ⟨hcs, _⟩ | ⟨a, len, cap, elems, rest, m', hm', hcs, _, hb, hl, hm, hlen, hel, _, _⟩
          · exact nilc hcs
          · obtain rfl : m = m' := by omega
            by_cases h0 : len = 0
            · subst h0
              refine ⟨.list e [], ?_, by simpa [fitsD] using hp1, [], rfl, by simp, by simp⟩
              simp only [relD]
              exact ⟨some a, 0, cap, hcs, rfl, by omega, hm, by simp, by simp⟩
            · have each : ∀ i, i < len → ∃ cs' x, w.cells? 0 (a.add (i * P.cellsOf e)) (P.cellsOf e) = some cs' ∧ DataW.trod enc P w 0 spare held m e cs' = some x := fun i hi => by
                have := hel i hi
                rw [List.getElem?_eq_getElem (by omega)] at this
                obtain ⟨cs', h1, h2⟩ := Option.bind_eq_some_iff.1 this
                exact ⟨cs', _, h1, h2⟩
              obtain ⟨cs0, x0, h00, _⟩ := each 0 (by omega)
              have hsp : a.spot = none := by
                obtain ⟨_, hcl, hce⟩ := World.cells?_some h00
                have h1 := hce 0 hp3
                rw [List.getElem?_eq_getElem (by omega)] at h1
                simp only [Nat.zero_mul, Addr.add, if_true] at h1
                unfold World.cell? at h1
                split at h1
                · split at h1
                  · cases h1
                  · rename_i hns; simpa using hns
                · cases h1
              obtain ⟨b, o, sp⟩ := a
              simp only at hsp; subst hsp
              obtain ⟨xs, hr, hxl, hw⟩ := relRow_elems hC ih e len b o hp2 each len 0 (by omega)
              rw [Nat.zero_mul, Nat.add_zero] at hr
              refine ⟨.list e xs, ?_, by simpa [fitsD] using hp1, xs, rfl, by omega, hw⟩
              simp only [relD]
              exact ⟨some ⟨b, o, none⟩, len, cap, hcs, hxl.symm, hl, hm, by simp, fun _ => ⟨b, o, rfl, hr⟩⟩
        case struct fs =>
          simp only [Bool.and_eq_true, decide_eq_true_eq] at hp
          obtain ⟨⟨hp1, hp2⟩, hp3⟩ := hp
          obtain ⟨xs, m', hm', _, hcl, hxl, hel⟩ := DataW.trod_struct hu h
          obtain rfl : m = m' := by omega
          obtain ⟨ys, hr, hw⟩ := relDs_fields (C := C) trivial ih cs fs.toList 0 _ hp1 hcl (Nat.zero_le _) hp2 (fun f hf => by
            obtain ⟨i, hi⟩ := List.getElem?_of_mem hf
            have hi' : fs[i]? = some f := by simpa using hi
            have := hel i f hi'
            rw [this]
            have hlt : i < fs.size := (Array.getElem?_eq_some_iff.1 hi').1
            exact ⟨_, List.getElem?_eq_getElem (by omega)⟩)
          have ht : tys P t = fs.toList.map (·.type) := by simp [tys, hu, hp1]
          obtain ⟨r1, r2⟩ := aggT_rel (C := C) (w := w) (xs := ys) hp3 hcl (by rw [ht]; simpa using hr)
          exact ⟨_, r1, r2, ys, rfl, hw⟩
        case array N e =>
          simp only [Bool.and_eq_true, beq_iff_eq] at hp
          obtain ⟨⟨hp1, hp2⟩, hp3⟩ := hp
          obtain ⟨xs, m', hm', _, hcl, hxl, hel⟩ := DataW.trod_array hu h
          obtain rfl : m = m' := by omega
          obtain ⟨ys, hr, hl, hw⟩ := relDs_elems (C := C) ih cs e N (by rw [hcl, hp1]) hp2 (fun i hi => by
            rw [hel i hi]
            exact ⟨_, List.getElem?_eq_getElem (by omega)⟩) N 0 (by omega)
          have ht : tys P t = List.replicate N e := by simp [tys, hu, hp1]
          obtain ⟨r1, r2⟩ := aggT_rel (C := C) (w := w) (xs := ys) hp3 hcl (by rw [ht]; simpa using hr)
          exact ⟨_, r1, r2, ys, rfl, hl, hw⟩

/-- An argument. -/
theorem trod_rel1 (hC : ∀ b, b < w.heap.size → C.K b = .fz) {n : Nat} {t : TypeId} {v : Value} {d : DataW H} {ps : List MemPlace} {r : Reach} {base : Nat} (hp : plainT P n t = true) (hv : Value.okWide P w r base t v)
    (h : DataW.Trod enc P w 0 spare held t v d ps) (h0 : Heap) : ∃ y, relV1 P C w h0 (.d y) v ∧ wtD P n t y := by
  obtain ⟨m, hm⟩ := h
  obtain ⟨y, h1, h2, h3⟩ := trod_relD (C := C) hC m n t _ _ hp hm
  refine ⟨y, ?_, h3⟩
  cases n with
  | zero => simp [plainT] at hp
  | succ n =>
    unfold wtD at h3
    unfold plainT at hp
    unfold Value.okWide at hv
    have leaf : ∀ (_ : Cell.okWide P w r base t v) (_ : ∀ cs, v ≠ .agg cs), v.cells.toList = [v] := fun _ hn => by
      cases v <;> first | rfl | exact absurd rfl (hn _)
    cases hu : P.underlying t with
    | none => rw [hu] at hp; cases hp
    | some d =>
      rw [hu] at hp hv h3
      cases d <;> simp only at hp hv h3 <;> try (cases hp; done)
      case int k =>
        have hl := leaf hv (fun cs e => by subst e; simp [Cell.okWide, hu, Cell.ok] at hv)
        obtain ⟨z, rfl, _⟩ := h3
        rw [hl] at h1
        simpa [relV1, DV.isAgg] using h1
      case bool =>
        have hl := leaf hv (fun cs e => by subst e; simp [Cell.okWide, hu, Cell.ok] at hv)
        obtain ⟨z, rfl⟩ := h3
        rw [hl] at h1
        simpa [relV1, DV.isAgg] using h1
      case string =>
        have hl := leaf hv (fun cs e => by subst e; simp [Cell.okWide, hu, Cell.ok] at hv)
        obtain ⟨z, rfl, _⟩ := h3
        rw [hl] at h1
        simpa [relV1, DV.isAgg] using h1
      case slice e =>
        have hl := leaf hv (fun cs e => by subst e; simp [Cell.okWide, hu, Cell.ok] at hv)
        obtain ⟨z, rfl, _⟩ := h3
        rw [hl] at h1
        simp only [relV1, DV.isAgg]
        exact h1
      case struct fs =>
        obtain ⟨cs, rfl, _, _⟩ := hv
        obtain ⟨z, rfl, _⟩ := h3
        simp only [relV1, DV.isAgg, if_true]
        exact ⟨cs.toList, by simp, h1⟩
      case array N e =>
        obtain ⟨cs, rfl, _, _⟩ := hv
        obtain ⟨z, rfl, _⟩ := h3
        simp only [relV1, DV.isAgg, if_true]
        exact ⟨cs.toList, by simp, h1⟩

/-- All arguments. -/
theorem trodAll_rel (hC : ∀ b, b < w.heap.size → C.K b = .fz) {n : Nat} {r : Reach} {base : Nat} (h0 : Heap) : ∀ {ts : List TypeId} {vs : List Value} {ds : List (DataW H)} {ps : List MemPlace}, (∀ t ∈ ts, plainT P n t = true) →
    (∀ (j : Nat) t v, ts[j]? = some t → vs[j]? = some v → Value.okWide P w r base t v) → DataW.TrodAll enc P w 0 spare held ts vs ds ps → ∃ ys : List DV, relVs P C w h0 (ys.map .d) vs ∧ all2 (wtD P n) ts ys
  | [], [], [], _, _, _, _ => ⟨[], by simp [relVs], trivial⟩
  | t :: ts, v :: vs, d :: ds, _, hp, hv, ⟨p, q, h1, h2, _⟩ => by
    obtain ⟨y, a1, a2⟩ := trod_rel1 hC (hp t (by simp)) (hv 0 t v rfl rfl) h1 h0
    obtain ⟨ys, b1, b2⟩ := trodAll_rel hC h0 (fun t ht => hp t (by simp [ht])) (fun j t v hj hv' => hv (j + 1) t v (by simpa using hj) (by simpa using hv')) h2
    exact ⟨y :: ys, by simp only [List.map_cons, relVs]; exact ⟨v, vs, rfl, a1, b1⟩, a2, b2⟩

/-- A call's arguments, avs the row hands them over. -/
theorem args_rel {n base : Nat} {fn : Func} {args : Array Value} {ds gs : List (DataW H)} {vars : List String} {apart : Bool} {before : List MemPlace} (hC : ∀ b, b < w.heap.size → C.K b = .fz) (hp : ∀ t ∈ fn.params.toList, plainT P n t = true)
    (hval : ∀ (j : Nat) t v, fn.params[j]? = some t → args[j]? = some v → Value.okWide P w .any base t v) (hW : DataW.Whole enc P fn.params.toList vars apart w args.toList ds gs before) (hv : vars = []) :
    gs = [] ∧ ds.length = fn.params.toList.length ∧ ∃ ys : List DV, relVs P C w hNil (ys.map .d) args.toList ∧ all2 (wtD P n) fn.params.toList ys := by
  obtain ⟨p, q, hA, hV, _, _, _⟩ := hW
  refine ⟨?_, ?_, trodAll_rel hC hNil hp (fun j t v ht hv => hval j t v (Array.getElem?_toList ▸ ht) (Array.getElem?_toList ▸ hv)) hA⟩
  · rw [hv] at hV
    cases gs with
    | nil => rfl
    | cons g gs => exact hV.elim
  · have len : ∀ {ts : List TypeId} {vs : List Value} {ds : List (DataW H)} {ps : List MemPlace}, DataW.TrodAll enc P w 0 (fun _ => true) true ts vs ds ps → ds.length = ts.length := by
      intro ts
      induction ts with
      | nil => intro vs ds ps h; cases vs <;> cases ds <;> first | rfl | exact h.elim
      | cons t ts ih =>
        intro vs ds ps h
        cases vs with
        | nil => cases ds <;> exact h.elim
        | cons v vs =>
          cases ds with
          | nil => exact h.elim
          | cons d ds =>
            obtain ⟨p, q, _, h2, _⟩ := h
            simp [ih h2]
    exact len hA

/-- Memory that is avs it was, below. -/
def fzBelow (w : World) : Con := ⟨fun b => if b < w.heap.size then .fz else .other, fun _ => 0⟩
theorem fz_K {b : Nat} (h : b < w.heap.size) : (fzBelow w).K b = .fz := by simp [fzBelow, h]
theorem fz_bare : (fzBelow w).bare := fun b => by
  by_cases h : b < w.heap.size
  · exact .inl (fz_K h)
  · exact .inr (.inl (by simp [fzBelow, h]))
theorem fz_lt : ∀ b, (fzBelow w).K b ≠ .other → b < w.heap.size := fun b hb => by
  by_cases h : b < w.heap.size
  · exact h
  · simp [fzBelow, h] at hb
theorem step_heap {w' : World} {C' : Con} {h h' : Heap} (s : Step (fzBelow w) w h C' w' h') {b : Nat} (hb : b < w.heap.size) : w'.heap[b]? = w.heap[b]? := by
  have := s.blk b hb
  simp only [keptB, fz_K hb] at this
  exact this.2
theorem step_kept {w' : World} {C' : Con} {h h' : Heap} (s : Step (fzBelow w) w h C' w' h') (may : MemPlace → Prop) : w.keptBut w' may := by
  refine ⟨s.os, s.output, fun i hi => ?_⟩
  rw [step_heap s hi]
  cases hh : w.heap[i]? with
  | none => exact rfl
  | some o =>
    cases o <;> simp

/-- A LAW's POST: true, and the arguments read avs they did. -/
theorem post_true {f : Func} {s : ChangeSpec} {apart fresh handsOn again : Bool} {w' : World} {args : Array Value} {ds gs : List (DataW H)} {before : List MemPlace} {C' : Con} {h h' : Heap} {tb : TypeId}
    (hW : DataW.Whole enc P f.params.toList s.vars apart w args.toList ds gs before) (hvars : s.vars = []) (hs : Step (fzBelow w) w h C' w' h')
    (hlo : laidOutB P = true) (hmr : mapsRowed P = true) (hsl : ∀ t e, t < P.types.size → P.underlying t = some (.slice e) → 0 < P.cellsOf e) (hts : ∀ t ∈ f.params.toList, t < P.types.size)
    (hrt : f.resultTypes = #[tb]) (htb : P.underlying tb = some .bool)
    (hres : (s.fn H (ds ++ gs)).results = [.lit (.bool true)]) (hargs : (s.fn H (ds ++ gs)).args = ds) (hvs : (s.fn H (ds ++ gs)).vars = []) :
    s.post enc P f apart fresh handsOn again w args (.bool true) w' := by
  have hlt : ∀ p ∈ before, p.block < w.heap.size := fun p hp => hW.lt p hp
  have hW' := hW
  obtain ⟨p, q, hA, hV, rfl, hz, hn⟩ := hW
  have same : ∀ x ∈ p ++ q, w.sameAt w' x := fun x hx => by
    have hb := hlt x hx
    cases x with
    | cell b off => exact cell_of_heap (step_heap hs hb)
    | map b => exact step_heap hs hb
  have carry : ∀ {ts : List TypeId} {vs : List Value} {ds : List (DataW H)} {ps : List MemPlace}, DataW.TrodAll enc P w 0 (fun _ => true) true ts vs ds ps → (∀ x ∈ ps, w.sameAt w' x) → DataW.TrodAll enc P w' 0 (fun _ => true) true ts vs ds ps := by
    intro ts
    induction ts with
    | nil => intro vs ds ps h _; cases vs <;> cases ds <;> exact h
    | cons t ts ih =>
      intro vs ds ps h hsame
      cases vs with
      | nil => cases ds <;> exact h.elim
      | cons v vs =>
        cases ds with
        | nil => exact h.elim
        | cons d ds =>
          obtain ⟨p, q, ⟨m, hm⟩, h2, rfl⟩ := h
          exact ⟨p, q, ⟨m, DataW.trod_carry m t _ _ hm (fun x hx => hsame x (List.mem_append_left _ hx))⟩, ih h2 (fun x hx => hsame x (List.mem_append_right _ hx)), rfl⟩
  obtain rfl : gs = [] := by
    rw [hvars] at hV
    cases gs with
    | nil => rfl
    | cons g gs => exact hV.elim
  obtain rfl : q = [] := by
    rw [hvars] at hV
    exact hV
  have hA' : ∀ sp : Nat → Bool, (∀ x ∈ p, sp x.block = true) → DataW.TrodAll enc P w' 0 sp true f.params.toList args.toList ds p := fun sp hsp =>
    DataW.TrodAll.respare (kids_rows hlo hmr) hsl hts (carry hA (fun x hx => same x (List.mem_append_left _ hx))) hsp
  have hR : ∀ (b : Nat) (sp : Nat → Bool) (hd : Bool), DataW.TrodAll enc P w' b sp hd f.resultTypes.toList ((Value.bool true).resultList f.resultTypes.size) (s.fn H (ds ++ [])).results [] := fun b sp hd => by
    rw [hres, hrt]
    exact ⟨[], [], ⟨1, by simp [DataW.trod, htb, Value.cells]⟩, rfl, rfl⟩
  have hokR : ∀ (j : Nat) (t : TypeId) (r : Value), f.resultTypes[j]? = some t → ((Value.bool true).resultList f.resultTypes.size)[j]? = some r → Value.okWide P w' .any 0 t r := fun j t r hj hr => by
    rw [hrt] at hj hr
    cases j with
    | zero =>
      simp at hj; subst hj
      simp [Value.resultList] at hr; subst hr
      simp [Value.okWide, htb, Cell.okWide, Cell.ok]
    | succ j => simp at hj
  have hold : ∀ x ∈ p ++ [], (fun b => decide (b < w.heap.size)) x.block = true := fun x hx => by simpa using hlt x hx
  refine ⟨ds, [], p ++ [], [], p, [], hW', hR _ _ _, by rw [hargs]; exact hA' _ (fun x hx => hold x (List.mem_append_left _ hx)), by rw [hvs, hvars]; exact rfl, step_kept hs _, fun _ => ?_⟩
  refine ⟨hokR, _, [], ([] ++ p) ++ [], ⟨[] ++ p, [], trodAll_append (hA' _ (fun _ _ => rfl)) (hR _ _ _), by rw [hvars]; exact rfl, rfl, ?_, ?_⟩, ?_⟩
  · intro b off hp
    have hp' : MemPlace.cell b off ∈ p ++ [] := by simpa using hp
    have e := step_heap hs (b := b) (hlt _ hp')
    have := hz b off hp'
    unfold World.frozen? at this ⊢
    rw [e]; exact this
  · intro ha
    simpa using hn ha
  · intro x hx _
    simpa using hx

/-! ### what a tree of a type is -/
theorem all2_cons {α β : Type} {R : α → β → Prop} {a : α} {avs : List α} {xs : List β} (h : all2 R (a :: avs) xs) : ∃ x xs', xs = x :: xs' ∧ R a x ∧ all2 R avs xs' := by
  cases xs with
  | nil => exact h.elim
  | cons x xs => exact ⟨x, xs, rfl, h.1, h.2⟩
theorem all2_nil {α β : Type} {R : α → β → Prop} {xs : List β} (h : all2 R [] xs) : xs = [] := by
  cases xs with
  | nil => rfl
  | cons x xs => exact h.elim
theorem wt_int {n : Nat} {t : TypeId} {k : IntKind} {y : DV} (hu : P.underlying t = some (.int k)) (h : wtD P (n + 1) t y) : ∃ z, y = .int k z ∧ (Lit.int k z).wf = true := by
  unfold wtD at h; rw [hu] at h; exact h
theorem wt_bool {n : Nat} {t : TypeId} {y : DV} (hu : P.underlying t = some .bool) (h : wtD P (n + 1) t y) : ∃ b, y = .bool b := by
  unfold wtD at h; rw [hu] at h; exact h
theorem wt_str {n : Nat} {t : TypeId} {y : DV} (hu : P.underlying t = some .string) (h : wtD P (n + 1) t y) : ∃ l : List UInt8, y = .str (strL l) ∧ l.length ≤ maxLen := by
  unfold wtD at h; rw [hu] at h
  obtain ⟨s, rfl, hs⟩ := h
  exact ⟨s.data.toList, by rw [← strL_of], Nat.le_trans (Nat.le_of_eq (by rw [Array.length_toList]; rfl)) hs⟩
theorem wt_slice {n : Nat} {t e : TypeId} {y : DV} (hu : P.underlying t = some (.slice e)) (h : wtD P (n + 1) t y) : ∃ xs, y = .list e xs ∧ xs.length ≤ maxLen ∧ ∀ y ∈ xs, wtD P n e y := by
  unfold wtD at h; rw [hu] at h; exact h
theorem wt_struct {n : Nat} {t : TypeId} {fs : Array Field} {y : DV} (hu : P.underlying t = some (.struct fs)) (h : wtD P (n + 1) t y) : ∃ xs, y = .agg (P.underlyingId t) xs ∧ all2 (fun f y => wtD P n f.type y) fs.toList xs := by
  unfold wtD at h; rw [hu] at h; exact h
theorem wt_array {n N : Nat} {t e : TypeId} {y : DV} (hu : P.underlying t = some (.array N e)) (h : wtD P (n + 1) t y) : ∃ xs, y = .agg (P.underlyingId t) xs ∧ xs.length = N ∧ ∀ y ∈ xs, wtD P n e y := by
  unfold wtD at h; rw [hu] at h; exact h
theorem wt_map {α : Type} {f : α → DV} {R : DV → Prop} (hf : ∀ y, R y → ∃ a, y = f a) : ∀ {xs : List DV}, (∀ y ∈ xs, R y) → ∃ l : List α, xs = l.map f
  | [], _ => ⟨[], rfl⟩
  | x :: xs, h => by
    obtain ⟨a, rfl⟩ := hf x (h x (by simp))
    obtain ⟨l, rfl⟩ := wt_map hf (xs := xs) (fun y hy => h y (by simp [hy]))
    exact ⟨a :: l, rfl⟩
theorem wt_byte {n : Nat} {e : TypeId} (hu : P.underlying e = some (.int .u8)) (y : DV) (h : wtD P (n + 1) e y) : ∃ b : UInt8, y = byteD b := by
  obtain ⟨z, rfl, hz⟩ := wt_int hu h
  have := bounds_u8 hz
  refine ⟨UInt8.ofNat z.toNat, ?_⟩
  unfold byteD
  congr 1
  simp
  omega
theorem wt_bytes {n : Nat} {e : TypeId} (hu : P.underlying e = some (.int .u8)) {xs : List DV} (h : ∀ y ∈ xs, wtD P (n + 1) e y) : ∃ l : List UInt8, xs = bytesD l := by
  obtain ⟨l, rfl⟩ := wt_map (f := byteD) (wt_byte hu) h
  exact ⟨l, by rw [bytesD_eq]⟩

end
attribute [irreducible] wtD plainT
end Go.Tith

namespace Go.Proofs
open Go.RowKit
variable {P : Program} {ρ : Go.Shelf.Ren}

set_option maxHeartbeats 1000000 in
set_option maxRecDepth 100000 in
theorem Any.Builder_String_exact (L : Lays.n169 P ρ) (X : Builder.Extra P ρ) (b g cap : Nat) (cur : Array Value) (l : List UInt8) (w : World) (h0 : l ≠ []) (hc : w.cell? ⟨b, 1, none⟩ = some (.slice (some ⟨g, 0, none⟩) l.length cap))
    (hg : w.heap[g]? = some (.cells cur (ρ.t 5) (0, 0))) (hnc : l.length ≤ cap) (hcm : cap ≤ maxLen) (hcs : cur.size = cap) (hcell : ∀ j x, l[j]? = some x → w.cell? ((⟨g, 0, none⟩ : Addr).add j) = some (.int .u8 x.toNat)) :
    Calls P (ρ.f 169) #[.pointer (some ⟨b, 0, none⟩)] w fun e w' => e = .returned (.string ⟨l.toArray⟩) ∧ w' = w.drew.freeze ⟨g, 0, none⟩ l.length := by
  have hl0 : l.length ≠ 0 := by simpa using h0
  have c1 : w.drew.cell? ⟨b, 1, none⟩ = some (.slice (some ⟨g, 0, none⟩) l.length cap) := hc
  have hSD : (Builtin.unsafeSliceData_ #[(ρ.t 37)] (ρ.t 127) #[.slice (some ⟨g, 0, none⟩) l.length cap]).run P w.drew = .ok (.pointer (some ⟨g, 0, none⟩)) w.drew :=
    Lib.run_unsafeSliceData_row _ _ _ _ _ _ (by omega)
  have hUS : (Builtin.unsafeString_ #[(ρ.t 127), (ρ.t 3)] (ρ.t 9) #[.pointer (some ⟨g, 0, none⟩), .int .i64 l.length]).run P w.drew = .ok (.string ⟨l.toArray⟩) (w.drew.freeze ⟨g, 0, none⟩ l.length) := by
    refine Lib.run_unsafeString_row w.drew (ρ.t 127) (ρ.t 3) (ρ.t 9) (ρ.t 5) L.t127 X.cellsByte g cur.size (by have hg' : w.drew.heap[g]? = some (.cells cur (ρ.t 5) (0, 0)) := hg; simp [World.shape?, hg']) l h0 (by omega) (by unfold maxLen at hcm; omega) ?_
    intro j x hx
    exact hcell j x hx
  have mixed := L.mixed
  have t72 := L.t72; have a72 := L.a72; have z72 := L.z72; have v72 := L.v72; have u72 := run_underlying L.t72
  have t70 := L.t70; have a70 := L.a70; have z70 := L.z70; have v70 := L.v70; have u70 := run_underlying L.t70
  have t37 := L.t37; have a37 := L.a37; have z37 := L.z37; have v37 := L.v37; have u37 := run_underlying L.t37
  have t127 := L.t127; have a127 := L.a127; have z127 := L.z127; have v127 := L.v127; have u127 := run_underlying L.t127
  have t3 := L.t3; have a3 := L.a3; have z3 := L.z3; have v3 := L.v3; have u3 := run_underlying L.t3
  have t9 := L.t9; have a9 := L.a9; have z9 := L.z9; have v9 := L.v9; have u9 := run_underlying L.t9
  have t5 := X.t5; have a5 := X.a5; have z5 := X.z5; have v5 := X.v5; have u5 := run_underlying X.t5
  go_enter L.f169, Body.n169_ntmps ρ
  go_wp2
  go_region_o
  all_goals (go_wp2; go_ret; exact ⟨rfl, rfl⟩)

end Go.Proofs
namespace Go.Tith

section
variable {P : Program} {C C' : Con} {w w' : World} {h : Heap}

theorem step_below (S : Sim P C h w) (x : Go.RowKit.Below w.heap.size w w') : Step C w h C w' h ∧ Sim P C h w' := by
  have sp : Step C w h C w' h := by
    refine ⟨x.os, x.tape, x.output, x.size, fun b hb => ?_, fun _ _ => rfl, fun _ _ bc hb => ⟨bc, hb⟩, fun τ F hF => ⟨F, hF, Nat.le_refl _⟩⟩
    unfold keptB
    split
    · assumption
    · rename_i hb'; exact .inl ⟨hb', x.block b hb⟩
    · exact ⟨rfl, x.block b hb⟩
  refine ⟨sp, ⟨fun id bt bc hb => ?_, fun b hb => Nat.lt_of_lt_of_le (S.lt b hb) x.size, S.tk⟩⟩
  obtain ⟨h1, h2, cs, e, h3, h4, h5⟩ := S.box id bt bc hb
  have hlt : C.φ id < w.heap.size := S.lt _ (by rw [h1]; intro q; cases q)
  exact ⟨h1, h2, cs, e, by rw [x.block _ hlt]; exact h3, h4, relC_mono sp h5⟩

theorem freeze_heap {g : Nat} {n : Nat} {k : Nat} (hk : k ≠ g) : (w.freeze ⟨g, 0, none⟩ n).heap[k]? = w.heap[k]? := by
  unfold World.freeze
  split
  · rfl
  · simp only [Array.getElem?_modify]
    rw [if_neg (fun q => hk q.symm)]

theorem freeze_cells {g n : Nat} {cur : Array Value} {e : TypeId} (hg : w.heap[g]? = some (.cells cur e (0, 0))) : ∃ f, (w.freeze ⟨g, 0, none⟩ n).heap[g]? = some (.cells cur e f) := by
  unfold World.freeze
  split
  · exact ⟨_, hg⟩
  · simp only [Array.getElem?_modify, if_true, hg, Option.map_some]
    exact ⟨_, rfl⟩

end
end Go.Tith
