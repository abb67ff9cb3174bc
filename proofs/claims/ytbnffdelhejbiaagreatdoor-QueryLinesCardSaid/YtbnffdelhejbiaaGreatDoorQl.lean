/- The library's functions as contracts on trees. A part of the proof: no condition of mine beyond what each theorem states. -/
import Derived.Test.YtbnffdelhejbiaaGreatDoorQf
import Derived.Test.YtbnffdelhejbiaaGreatDoorMe
import Derived.Test.YtbnffdelhejbiaaGreatDoorSh

namespace Go.Tith
open Go.Proofs Go.Proofs.Tryz

def pow10D : List DV := Lib.pow10Tab.map fun z => .int .u64 z

/-- What the listed variables hold; m: what the machine's limit is; x, y: the two errors. -/
def QG (m : Int) (x y : Value) : Nat → Option (TypeId × DV) := fun g =>
  if g = 2 then some (3, .int .i64 m)
  else if g = 3 then some (148, .agg 148 pow10D)
  else if g = 4 then some (86, .any x)
  else if g = 5 then some (86, .any y)
  else none

theorem enCompare : Enterable prog 62 := ⟨_, func62, by kernel_rfl, by kernel_rfl⟩
theorem enIndexByte : Enterable prog 71 := ⟨_, func71, by kernel_rfl, by kernel_rfl⟩
theorem enSplit : Enterable prog 27 := ⟨_, func27, by kernel_rfl, by kernel_rfl⟩
theorem enJoin : Enterable prog 32 := ⟨_, func32, by kernel_rfl, by kernel_rfl⟩
theorem enItoa : Enterable prog 45 := ⟨_, func45, by kernel_rfl, by kernel_rfl⟩
theorem enAtoi : Enterable prog 70 := ⟨_, func70, by kernel_rfl, by kernel_rfl⟩
theorem enCmpI : Enterable prog 80 := ⟨_, func80, by kernel_rfl, by kernel_rfl⟩
theorem enBString : Enterable prog 47 := ⟨_, func47, by kernel_rfl, by kernel_rfl⟩

def strsOf : List DV → Option (List ByteArray)
  | [] => some []
  | .str s :: xs => (strsOf xs).map fun l => s :: l
  | _ => none
theorem strsOf_eq : ∀ {xs : List DV} {l : List ByteArray}, strsOf xs = some l → xs = l.map .str
  | [], l, h => by simp [strsOf] at h; subst h; rfl
  | x :: xs, l, h => by
    cases x <;> simp only [strsOf] at h <;> try cases h
    rename_i s
    cases hq : strsOf xs with
    | none => simp [hq] at h
    | some r => simp [hq] at h; subst h; rw [strsOf_eq hq]; rfl

def sCompare : List DV → Option (List DV)
  | [.str a, .str b] => some [.int .i64 (Lib.compareBytes a.data.toList b.data.toList)]
  | _ => none
def sCmpI : List DV → Option (List DV)
  | [.int .i64 a, .int .i64 b] => some [.int .i64 (if a < b then -1 else if b < a then 1 else 0)]
  | _ => none
def sIndexByte : List DV → Option (List DV)
  | [.str a, .int .u8 c] => some [.int .i64 (Lib.indexByte a.data.toList c.toNat.toUInt8)]
  | _ => none
def sSplit : List DV → Option (List DV)
  | [.str s, .str sep] => if s.size < 4294967281 ∧ 1 ≤ sep.size then some [.list 9 ((Lib.splitB sep 0 (Lib.countB s sep) s).map .str)] else none
  | _ => none
def sJoin : List DV → Option (List DV)
  | [.list _ xs, .str sep] => (strsOf xs).bind fun l => if l.length ≤ 1000000 ∧ (Lib.join (l.map (·.data.toList)) sep.data.toList).length ≤ 4294967296 then some [.str (strL (Lib.join (l.map (·.data.toList)) sep.data.toList))] else none
  | _ => none
def sItoa : List DV → Option (List DV)
  | [.int .i64 n] => if -9223372036854775808 ≤ n ∧ n ≤ 9223372036854775807 then some [.str (strL (Lib.itoa n))] else none
  | _ => none
def atoiA (s : ByteArray) : AV :=
  match Lib.atoiAll s.data.toList with
  | .ok v => .tup [.d (.int .i64 v), .ifc false]
  | .range => .tup [.d (.int .i64 (Lib.atoiSat s.data.toList)), .ifc true]
  | _ => .tup [.d (.int .i64 0), .ifc true]
def sAtoi (l : List AV) (h : Heap) : Option (AV × Heap) :=
  match l with
  | [.d (.str s)] => if s.size ≤ 4294967296 then some (atoiA s, h) else none
  | _ => none
open Classical in
noncomputable def bstrK2 (h : Heap) (τ : Nat) (xs : List DV) (l : List UInt8) : Option (AV × Heap) :=
  if xs = bytesD l then some (.d (.str (strL l)), { h with toks := h.toks.set τ (xs.length + 1) }) else none
noncomputable def bstrK (h : Heap) (r : TypeId × AV) : Option (AV × Heap) :=
  match r with
  | (t, .agg t' [_, .lst (some τ) e xs]) => if t = 84 ∧ t' = 83 ∧ e = 5 ∧ xs.length ≠ 0 ∧ h.toks[τ]? = some xs.length then
      (bytesOf xs).bind (bstrK2 h τ xs) else none
  | _ => none
noncomputable def sBString (l : List AV) (h : Heap) : Option (AV × Heap) :=
  match l with
  | [.ptr id []] => (h.boxes[id]?).bind (bstrK h)
  | _ => none

section
variable {m : Int} {x y : Value}

theorem m_Compare : Meets prog (QG m x y) 62 (.pure sCompare) := ⟨enCompare, fun C w ds vs r _ hl _ hv hs => by
  unfold sCompare at hs
  split at hs
  · simp only [Option.some.injEq] at hs; subst hs
    rw [vs_str2 hv]
    refine (Tryz.strings_Compare _ _ w).mono ?_
    rintro e w' ⟨rfl, rfl⟩
    exact ⟨C, _, rfl, by simp [resA, relV, relV1, relD, DV.isAgg], Step.refl, hl⟩
  · cases hs⟩

theorem vs_int2 {P : Program} {C : Con} {w : World} {k k' : IntKind} {n n' : Int} {vs : List Value} (r : relVs P C w hNil ([.int k n, .int k' n'].map .d) vs) : vs = [.int k n, .int k' n'] := by
  simp [relVs, relV1, relD, DV.isAgg] at r; exact r

theorem m_CmpI : Meets prog (QG m x y) 80 (.pure sCmpI) := ⟨enCmpI, fun C w ds vs r _ hl _ hv hs => by
  unfold sCmpI at hs
  split at hs
  · simp only [Option.some.injEq] at hs; subst hs
    rw [vs_int2 hv]
    refine (Tryz.cmp_Compare_int _ _ w).mono ?_
    rintro e w' ⟨rfl, rfl⟩
    exact ⟨C, _, rfl, by simp [resA, relV, relV1, relD, DV.isAgg, Lib.compareInt], Step.refl, hl⟩
  · cases hs⟩

theorem m_IndexByte : Meets prog (QG m x y) 71 (.pure sIndexByte) := ⟨enIndexByte, fun C w ds vs r _ hl _ hv hs => by
  unfold sIndexByte at hs
  split at hs
  · simp only [Option.some.injEq] at hs; subst hs
    rw [vs_strint hv]
    refine (Tryz.strings_IndexByte _ _ w).mono ?_
    rintro e w' ⟨rfl, rfl⟩
    exact ⟨C, _, rfl, by simp [resA, relV, relV1, relD, DV.isAgg], Step.refl, hl⟩
  · cases hs⟩

theorem G_cell {C : Con} {w : World} {g : Nat} {t : TypeId} {d : DV} (hG : GOK prog (QG m x y) C w) (hg : QG m x y g = some (t, d)) {v : Value} (hd : ∀ c, relD prog C w d c → c = [v]) : w.cell? ⟨g, 0, none⟩ = some v := by
  obtain ⟨cs, h1, _, _, h4⟩ := hG.cells hg
  obtain rfl := hd cs h1
  exact (h4 0 _ rfl).2

theorem m_Split : Meets prog (QG m x y) 27 (.pure sSplit) := ⟨enSplit, fun C w ds vs r _ hl hG hv hs => by
  unfold sSplit at hs
  split at hs
  · rename_i s sep
    split at hs
    · rename_i hn
      simp only [Option.some.injEq] at hs; subst hs
      rw [vs_str2 hv]
      have hm : w.cell? ⟨2, 0, none⟩ = some (.int .i64 m) := G_cell hG (t := 3) (d := .int .i64 m) (by simp [QG]) (fun c h => by simpa [relD] using h)
      refine (Tryz.strings_Split _ _ m w hn.1 hm hn.2).mono ?_
      rintro e w' ⟨rfl, rfl⟩
      have hlen : (Lib.splitB sep 0 (Lib.countB s sep) s).length = Lib.countB s sep + 1 := Lib.splitB_all sep hn.2 0 _ s rfl
      obtain ⟨h1, h2, h3⟩ := new_strings (P := prog) (C := C) (w := w) (e := 9) (xs := Lib.splitB sep 0 (Lib.countB s sep) s) (by kernel_rfl) hl (by
        rw [hlen]
        have := Lib.countB_le sep hn.2 s.size s (Nat.le_refl _)
        unfold maxLen; omega)
      rw [hlen] at h3
      exact ⟨_, _, rfl, by simpa [resA] using h3, h1, h2⟩
    · cases hs
  · cases hs⟩

theorem tab_of_G {C : Con} {w : World} (hG : GOK prog (QG m x y) C w) : Lib.TabIs prog w "internal/strconv.uint64pow10" .u64 Lib.pow10Tab := by
  obtain ⟨_, cs, e, f, h1, h2, h3, _⟩ := hG 3 148 (.agg 148 pow10D) (by simp [QG])
  have hn : prog.globalNamed "internal/strconv.uint64pow10" = some 3 := by kernel_rfl
  unfold Lib.TabIs World.var?
  rw [hn, Option.bind_some, h1]
  refine congrArg some (Array.ext' ?_)
  simp only [relD] at h3
  have hrow : ∀ (zs : List Int) (ts : List TypeId) (c : List Value), relDs prog C w (zs.map fun z => .int .u64 z) ts c → c = zs.map fun z => Value.int .u64 z := by
    intro zs
    induction zs with
    | nil => intro ts c r; simp only [List.map_nil, relDs] at r; exact r.2
    | cons z zs ih =>
      intro ts c r
      simp only [List.map_cons, relDs, relD] at r
      obtain ⟨t, ts', c1, c2, _, rfl, _, _, rfl, r⟩ := r
      rw [ih ts' c2 r]; rfl
  have hq := hrow Lib.pow10Tab _ cs.toList h3.2
  rw [hq]

theorem m_Itoa : Meets prog (QG m x y) 45 (.pure sItoa) := ⟨enItoa, fun C w ds vs r _ hl hG hv hs => by
  unfold sItoa at hs
  split at hs
  · split at hs
    · rename_i hn
      simp only [Option.some.injEq] at hs; subst hs
      rw [vs_int1 hv]
      refine (Tryz.strconv_Itoa _ hn.1 hn.2 w (tab_of_G hG)).mono ?_
      rintro e w' ⟨rfl, k, os, rfl⟩
      obtain ⟨h1, h2⟩ := step_grow hl k os
      exact ⟨C, _, rfl, by simp [resA, relV, relV1, relD, DV.isAgg, strL_eq], h1, h2⟩
    · cases hs
  · cases hs⟩

theorem row_strs {C : Con} {w : World} {t : TypeId} {b : Nat} : ∀ {l : List ByteArray} {o : Nat}, relRow prog C w t (l.map .str) b o → ∀ (j : Nat) s, l[j]? = some s → w.cell? ⟨b, o + j, none⟩ = some (.string s)
  | [], _, _, j, s, h => by simp at h
  | x :: l, o, r, j, s, h => by
    simp only [List.map_cons, relRow] at r
    obtain ⟨⟨c, h1, h2, h3, h4⟩, r⟩ := r
    simp only [relD] at h1
    subst h1
    cases j with
    | zero => simp at h; subst h; exact (h4 0 _ rfl).2
    | succ j =>
      simp only [fitsD] at h2
      have := row_strs (o := o + 1) (by simpa [oneB_size h2] using r) j s (by simpa using h)
      rw [show o + (j + 1) = o + 1 + j by omega]; exact this

set_option maxRecDepth 100000 in
theorem m_Join : Meets prog (QG m x y) 32 (.pure sJoin) := ⟨enJoin, fun C w ds vs r _ hl hG hv hs => by
  unfold sJoin at hs
  split at hs
  · rename_i t xs sep
    cases hq : strsOf xs with
    | none => simp [hq] at hs
    | some l =>
      simp only [hq, Option.bind_some] at hs
      split at hs
      · rename_i hn
        simp only [Option.some.injEq] at hs; subst hs
        have hx := strsOf_eq hq
        subst hx
        simp only [List.map_cons, List.map_nil, relVs, relV1, DV.isAgg, Bool.false_eq_true, if_false, relD] at hv
        obtain ⟨v, vs', rfl, ⟨a, len, cap, h1, h2, h3, h4, h5, h6⟩, v2, vs2, rfl, h7, rfl⟩ := hv
        simp at h1 h7; subst h1; subst h7
        rw [List.length_map] at h2
        subst h2
        have fin : ∀ w', Go.RowKit.Below w.heap.size w w' → Step C w hNil C w' hNil ∧ ∀ b, C.K b ≠ .other → b < w'.heap.size := fun w' hb => by
          obtain ⟨q1, q2⟩ := step_ext (w' := w') hl hb.os hb.tape hb.output hb.size (fun i hi => hb.block i hi)
          exact ⟨q1, q2⟩
        cases l with
        | nil =>
          refine (Tryz.strings_Join_none a cap sep w).mono ?_
          rintro e w' ⟨rfl, rfl⟩
          exact ⟨C, _, rfl, by simp [resA, relV, relV1, relD, DV.isAgg, Lib.join_nil, strL_eq], Step.refl, hl⟩
        | cons s l =>
          obtain ⟨b, o, rfl, hr⟩ := h6 (by simp)
          have hc := row_strs (C := C) (w := w) (b := b) (t := t) (l := s :: l) (o := o) hr
          have hbw : b < w.heap.size := cell_lt (hc 0 s rfl)
          have h47 : (s :: l).length ≤ 140737488355328 := by have := hn.1; omega
          have h48 : (Lib.join ((s :: l).map (·.data.toList)) sep.data.toList).length ≤ 140737488355328 := by have := hn.2; omega
          refine (Tryz.strings_Join b o cap (s :: l) sep w hc hbw h47 h3 h48).mono ?_
          rintro e w' ⟨rfl, hb⟩
          obtain ⟨q1, q2⟩ := fin w' hb
          exact ⟨C, _, rfl, by simp [resA, relV, relV1, relD, DV.isAgg, strL_eq], q1, q2⟩
      · cases hs
  · cases hs⟩

theorem below_bytes {w : World} {e : TypeId} {t : ByteArray} : Go.RowKit.Below w.heap.size w (Lib.bytesWorld w e t) := by
  unfold Lib.bytesWorld
  refine ⟨?_, ?_, ?_, ?_, fun k hk => ?_⟩
  · unfold World.freeze; split <;> rfl
  · unfold World.freeze; split <;> rfl
  · unfold World.freeze; split <;> rfl
  · unfold World.freeze; split <;> simp
  · unfold World.freeze
    split
    · exact heap_alloc_old _ _ hk
    · simp only [Array.getElem?_modify]
      rw [if_neg (by omega)]
      exact heap_alloc_old _ _ hk

theorem m_Atoi (hx : ifV x = true) (hy : ifV y = true) : Meets prog (QG m x y) 70 (.eff sAtoi) := ⟨enAtoi, fun C w h al vs r h' S hG hv hs => by
  have hif : ∀ v : Value, ifV v = true → v = .nilIface ∨ ∃ te pe, v = .iface te pe := fun v hv => by
    cases v <;> simp [ifV] at hv
    · exact .inr ⟨_, _, rfl⟩
    · exact .inl rfl
  unfold sAtoi at hs
  split at hs
  · rename_i s
    split at hs
    · rename_i hn
      simp only [Option.some.injEq, Prod.mk.injEq] at hs
      obtain ⟨rfl, rfl⟩ := hs
      have hv' : vs = [.string s] := by simp [relVs, relV1, relD, DV.isAgg] at hv; exact hv
      subst hv'
      have fin : ∀ w' z b, Go.RowKit.Below w.heap.size w w' → (b = false → ∀ v, v = Value.nilIface → relV prog C w' h (.tup [.d (.int .i64 z), .ifc b]) (.tuple #[.int .i64 z, v])) ∧
          (b = true → ∀ te pe, relV prog C w' h (.tup [.d (.int .i64 z), .ifc b]) (.tuple #[.int .i64 z, .iface te pe])) := fun w' z b hb => by
        constructor
        · rintro rfl v rfl
          exact ⟨_, rfl, by simp [relVs, relV1, relD, DV.isAgg]⟩
        · rintro rfl te pe
          refine ⟨_, rfl, ?_⟩
          simp only [relVs]
          refine ⟨_, _, rfl, by simp [relV1, relD, DV.isAgg], _, _, rfl, ?_, rfl⟩
          simp [relV1]
      unfold atoiA
      cases hq : Lib.atoiAll s.data.toList
      · rename_i v
        refine (Tryz.strconv_Atoi_ok s (by omega) v hq w).mono ?_
        rintro e w' ⟨rfl, hw⟩
        have hb : Go.RowKit.Below w.heap.size w w' := by
          rcases hw with rfl | ⟨t, rfl⟩
          · exact Go.RowKit.Below.refl _ _
          · exact below_bytes
        obtain ⟨q1, q2⟩ := step_below S hb
        exact ⟨C, _, rfl, (fin w' v false hb).1 rfl _ rfl, q1, q2⟩
      · skip
        have hc : w.cell? ⟨4, 0, none⟩ = some x := G_cell hG (t := 86) (d := .any x) (by simp [QG]) (fun c h => by simp only [relD] at h; exact h.1)
        refine (Any.strconv_Atoi_syntax Tryz.laysC172 s (by omega) hq x w hc (hif x hx)).mono ?_
        rintro e w' ⟨N, rfl, _, _, hb⟩
        obtain ⟨q1, q2⟩ := step_below S hb
        exact ⟨C, _, rfl, (fin w' 0 true hb).2 rfl _ _, q1, q2⟩
      · skip
        have hc : w.cell? ⟨5, 0, none⟩ = some y := G_cell hG (t := 86) (d := .any y) (by simp [QG]) (fun c h => by simp only [relD] at h; exact h.1)
        refine (Tryz.strconv_Atoi_range s (by omega) hq y w hc (hif y hy)).mono ?_
        rintro e w' ⟨N, rfl, _, _, hb⟩
        obtain ⟨q1, q2⟩ := step_below S hb
        exact ⟨C, _, rfl, (fin w' _ true hb).2 rfl _ _, q1, q2⟩
    · cases hs
  · cases hs⟩

theorem bytes_cells {P : Program} {C : Con} {w : World} {t : TypeId} {b : Nat} : ∀ {l : List UInt8} {o : Nat}, P.cellsOf t = 1 → relRow P C w t (l.map byteD) b o → ∀ (j : Nat) x, l[j]? = some x → w.cell? ⟨b, o + j, none⟩ = some (.int .u8 x.toNat)
  | [], _, _, _, j, x, hj => by simp at hj
  | d :: l, o, h1, r, j, x, hj => by
    simp only [List.map_cons, relRow] at r
    obtain ⟨⟨c, g1, g2, g3, g4⟩, r⟩ := r
    simp only [byteD, relD] at g1
    subst g1
    cases j with
    | zero => simp at hj; subst hj; exact (g4 0 _ rfl).2
    | succ j =>
      have := bytes_cells (o := o + 1) h1 (by simpa [h1] using r) j x (by simpa using hj)
      rw [show o + (j + 1) = o + 1 + j by omega]; exact this

theorem m_BString : Meets prog (QG m x y) 47 (.eff sBString) := ⟨enBString, fun C w h al vs r h' S hG hv hs => by
  unfold sBString at hs
  split at hs
  case h_2 => cases hs
  rename_i id
  cases hb : h.boxes[id]? with
  | none => simp [hb] at hs
  | some bb =>
    simp only [hb, Option.bind_some, bstrK] at hs
    split at hs
    case h_2 => cases hs
    rename_i t t' a0 τ e xs
    split at hs
    case isFalse => cases hs
    rename_i hn
    obtain ⟨rfl, rfl, rfl, hn0, hF⟩ := hn
    cases hq : bytesOf xs with
    | none => simp [hq] at hs
    | some l =>
      simp only [hq, Option.bind_some, bstrK2] at hs
      split at hs
      case isFalse => cases hs
      rename_i hx
      simp only [Option.some.injEq, Prod.mk.injEq] at hs
      obtain ⟨rfl, rfl⟩ := hs
      have hv' : vs = [.pointer (some ⟨C.φ id, 0, none⟩)] := by
        simp only [relVs, relV1, relC] at hv
        obtain ⟨v, vs', rfl, ⟨bt, bc, off, t, h1, h2, h3⟩, rfl⟩ := hv
        simp only [offP, Option.some.injEq, Prod.mk.injEq] at h2
        obtain ⟨rfl, _⟩ := h2
        simpa using h3
      subst hv'
      obtain ⟨k1, k2, cs, e', k3, k4, k5⟩ := S.box id _ _ hb
      simp only [relC, relCs, tys83, tokOK, relD] at k5
      obtain ⟨_, t1, ts1, c1, c2, q1, q2, q3, q4, q5, t2, ts2, c3, c4, q6, q7, q8, q9, ⟨⟨a, len, cap, q10, q11, q12, q13, q14, q15⟩, F, q16, q17, q18⟩, q19, q20⟩ := k5
      simp only [List.cons.injEq] at q1
      obtain ⟨rfl, rfl⟩ := q1
      simp only [List.cons.injEq] at q6
      obtain ⟨rfl, rfl⟩ := q6
      subst q10; subst q11; subst q20; subst q7
      rw [hF] at q16
      obtain rfl := Option.some.inj q16
      have hl : xs.length = l.length := by rw [hx]; simp
      rcases q18 rfl _ _ _ rfl with hz | ⟨g, cur, hg1, hg2, hg3, hg4⟩
      · omega
      subst hg1
      have hne : xs ≠ [] := fun hq => hn0 (by rw [hq]; rfl)
      obtain ⟨b', o', hbo, hrow⟩ := q15 hne
      simp at hbo
      obtain ⟨rfl, rfl⟩ := hbo
      have hc1 : w.cell? ⟨C.φ id, 1, none⟩ = some (.slice (some ⟨g, 0, none⟩) l.length cap) := by
        rw [cell_in k3, q2]
        have hc1l : c1.length = 1 := by rw [q4]; simp
        match c1, hc1l with
        | [v], _ => simp [hl]
      rw [hx, bytesD_eq] at hrow
      have hcell := bytes_cells (P := prog) (by simp) hrow
      refine (Any.Builder_String_exact Tryz.lays169 Tryz.Builder_Extra_169 (C.φ id) g cap cur l w (fun hq => hn0 (by rw [hl, hq]; rfl)) hc1 hg3 (by omega) q13 (by simpa using hg4) ?_).mono ?_
      · intro j x hj
        have := hcell j x hj
        rw [Addr.add_mid]; exact this
      · rintro e w' ⟨rfl, rfl⟩
        have hgl : g < w.heap.size := (Array.getElem?_eq_some_iff.1 hg3).1
        have sp : Step C w h C (w.drew.freeze ⟨g, 0, none⟩ l.length) { h with toks := h.toks.set τ (xs.length + 1) } := by
          obtain ⟨f, hf⟩ := freeze_cells (w := w.drew) (n := l.length) hg3
          refine ⟨by unfold World.freeze; split <;> rfl, by unfold World.freeze; split <;> rfl, by unfold World.freeze; split <;> rfl, by unfold World.freeze; split <;> simp, fun b hbl => ?_, fun _ _ => rfl, fun _ _ bc hb => ⟨bc, hb⟩, (toks_set hF (by omega))⟩
          by_cases hbg : b = g
          · subst hbg
            simp only [keptB, hg2]
            refine .inr ⟨_, _, _, Nat.le_refl _, rfl, hF, by simp [(List.getElem?_eq_some_iff.1 hF).1]; rfl, by omega, fun o v _ hv => ?_⟩
            rw [cell_in hf, ← cell_in hg3]; exact hv
          · have := freeze_heap (w := w.drew) (g := g) (n := l.length) hbg
            unfold keptB
            split
            · assumption
            · rename_i hb'; exact .inl ⟨hb', this⟩
            · exact ⟨rfl, this⟩
        refine ⟨C, _, rfl, by simp [relV, relV1, relD, DV.isAgg, strL_eq], sp, ⟨fun id' bt bc hb' => ?_, fun b hb' => ?_, fun b τ' f hb' => ?_⟩⟩
        · obtain ⟨p1, p2, cs', e2, p3, p4, p5⟩ := S.box id' bt bc hb'
          have hng : C.φ id' ≠ g := fun q => by rw [q, hg2] at p1; cases p1
          refine ⟨p1, p2, cs', e2, ?_, p4, relC_mono sp p5⟩
          rw [freeze_heap (w := w.drew) hng]; exact p3
        · have := S.lt b hb'
          have := sp.size
          omega
        · obtain ⟨F, hF'⟩ := S.tk b τ' f hb'
          obtain ⟨F', z1, _⟩ := sp.tok τ' F hF'
          exact ⟨F', z1⟩⟩

/-! ### copyCheck -/
open Go.RowKit in
set_option maxHeartbeats 1000000 in
set_option maxRecDepth 100000 in
theorem cc_used (b : Nat) (w : World) (h0 : w.cell? ⟨b, 0, none⟩ = some (.pointer (some ⟨b, 0, none⟩))) :
    Calls prog 63 #[.pointer (some ⟨b, 0, none⟩)] w fun e w' => e = .returned (.tuple #[]) ∧ w' = w := by
  obtain ⟨j, hj⟩ : ∃ j, prog.info? 84 = some j := Option.isSome_iff_exists.1 (by kernel_rfl)
  go_enter func63, ntmps63
  go_wp2
  rw [Lib.run_neq_ptr_same w _ underlying81 hj]
  go_wp2
  go_end0
  exact ⟨rfl, rfl⟩

open Go.RowKit in
set_option maxHeartbeats 1000000 in
set_option maxRecDepth 100000 in
theorem cc_fresh (b : Nat) (w : World) (h0 : w.cell? ⟨b, 0, none⟩ = some (.pointer none)) (hsh : w.shape? b = some (84, 2)) (hfz : w.frozen? ⟨b, 0, none⟩ = false) :
    Calls prog 63 #[.pointer (some ⟨b, 0, none⟩)] w fun e w' => e = .returned (.tuple #[]) ∧ w' = w.setCell ⟨b, 0, none⟩ (.pointer (some ⟨b, 0, none⟩)) := by
  obtain ⟨j, hj, hjs⟩ : ∃ j, prog.info? 84 = some j ∧ j.size = 2 := by
    have : (prog.info? 84).map (·.size) = some 2 := by kernel_rfl
    obtain ⟨j, h1, h2⟩ := Option.map_eq_some_iff.1 this
    exact ⟨j, h1, h2⟩
  go_enter func63, ntmps63
  go_wp2
  rw [Lib.run_to_unsafe w ⟨b, 0, none⟩ underlying81 underlying122 hj (by rw [hjs]; decide) hsh (Nat.zero_lt_succ 1)]
  simp only [Result.andThen]
  rw [Oper.upon_value]
  go_wp2
  rw [run_callFunc_extern func82 (by kernel_rfl) (by kernel_rfl) (by kernel_rfl) (e := Extern.AbiNoEscape.same) (by kernel_rfl)]
  rw [Lib.run_noEscape]
  simp only [Result.andThen]
  rw [Oper.upon_value]
  go_wp2
  rw [Lib.run_from_unsafe w ⟨b, 0, none⟩ underlying122 underlying81 hj hsh (by kernel_rfl)]
  simp only [Result.andThen]
  rw [Oper.upon_value]
  go_wp2
  go_end0
  exact ⟨rfl, rfl⟩

def ccK (h : Heap) (id : Nat) (r : TypeId × AV) : Option (AV × Heap) :=
  match r with
  | (t, .agg t' [.d .nil, v]) => if t = 84 ∧ t' = 83 then some (.tup [], { h with boxes := h.boxes.set id (84, .agg 83 [.ptr id [], v]) }) else none
  | (t, .agg t' [.ptr id' [], _]) => if t = 84 ∧ t' = 83 ∧ id' = id then some (.tup [], h) else none
  | _ => none
def sCC (l : List AV) (h : Heap) : Option (AV × Heap) :=
  match l with
  | [.ptr id []] => (h.boxes[id]?).bind (ccK h id)
  | _ => none

theorem setCell_row {w : World} {b : Nat} {p q : Value} {cs : List Value} {t : TypeId} (hg : w.heap[b]? = some (.cells (p :: cs).toArray t (0, 0))) : w.setCell ⟨b, 0, none⟩ q = w.setRow b (q :: cs).toArray := by
  have hlt := (Array.getElem?_eq_some_iff.1 hg).2
  have h : ∀ f g : Obj → Obj, f (.cells (p :: cs).toArray t (0, 0)) = g (.cells (p :: cs).toArray t (0, 0)) → w.heap.modify b f = w.heap.modify b g := fun f g hfg => by
    apply Array.ext (by simp)
    intro i h1 h2
    simp only [Array.getElem_modify]
    by_cases hi : b = i
    · subst hi
      rw [if_pos rfl, if_pos rfl, hlt, hfg]
    · rw [if_neg hi, if_neg hi]
  unfold World.setCell World.setRow
  rw [h _ _ _]
  rfl

theorem enCC : Enterable prog 63 := ⟨_, func63, by kernel_rfl, by kernel_rfl⟩

theorem m_CC : Meets prog (QG m x y) 63 (.eff sCC) := ⟨enCC, fun C w h al vs r h' S hG hv hs => by
  unfold sCC at hs
  split at hs
  case h_2 => cases hs
  rename_i id
  have hv' : vs = [.pointer (some ⟨C.φ id, 0, none⟩)] := by
    simp only [relVs, relV1, relC] at hv
    obtain ⟨v, vs', rfl, ⟨bt, bc, off, t, h1, h2, h3⟩, rfl⟩ := hv
    simp only [offP, Option.some.injEq, Prod.mk.injEq] at h2
    obtain ⟨rfl, _⟩ := h2
    simpa using h3
  subst hv'
  cases hb : h.boxes[id]? with
  | none => simp [hb] at hs
  | some bb =>
    simp only [hb, Option.bind_some, ccK] at hs
    split at hs
    case h_3 => cases hs
    · rename_i t t' v
      split at hs
      case isFalse => cases hs
      rename_i hn
      obtain ⟨rfl, rfl⟩ := hn
      simp only [Option.some.injEq, Prod.mk.injEq] at hs
      obtain ⟨rfl, rfl⟩ := hs
      obtain ⟨k1, k2, cs, e', k3, ⟨k4, rfl⟩, k5⟩ := S.box id _ _ hb
      have k5' := k5
      simp only [relC, relCs, tys83, relD] at k5
      obtain ⟨hlen, t1, ts1, c1, c2, q1, q2, q3, q4, rfl, t2, ts2, c3, c4, q6, q7, q8, q9, q10, q11, rfl⟩ := k5
      simp only [List.cons.injEq] at q1
      obtain ⟨rfl, rfl⟩ := q1
      simp only [List.cons.injEq] at q6
      obtain ⟨rfl, rfl⟩ := q6
      subst q7
      simp only [List.append_nil] at q2
      have hc0 : w.cell? ⟨C.φ id, 0, none⟩ = some (.pointer none) := by rw [cell_in k3, q2]; rfl
      have hsz : cs.size = 2 := by rw [k4]; simp
      refine (cc_fresh (C.φ id) w hc0 (by simp [World.shape?, k3, hsz]) (by simp [World.frozen?, k3])).mono ?_
      rintro e w' ⟨rfl, rfl⟩
      have hw : w.setCell ⟨C.φ id, 0, none⟩ (.pointer (some ⟨C.φ id, 0, none⟩)) = w.setRow (C.φ id) (.pointer (some ⟨C.φ id, 0, none⟩) :: c3).toArray := by
        have hcs : cs = (Value.pointer none :: c3).toArray := by apply Array.ext'; rw [q2]; rfl
        exact setCell_row (by rw [← hcs]; exact k3)
      rw [hw]
      have hr' : relC prog C w h (.agg 83 [.ptr id [], v]) (.pointer (some ⟨C.φ id, 0, none⟩) :: c3) := by
        simp only [relC, relCs, tys83]
        refine ⟨by simpa [q2] using hlen, _, _, [_], c3, rfl, rfl, by simp, by simp, ⟨84, _, 0, 84, hb, rfl, rfl⟩, _, _, c3, [], rfl, by simp, q8, q9, q10, q11, rfl⟩
      obtain ⟨st, S'⟩ := store_step S hb k3 rfl (bc' := .agg 83 [.ptr id [], v]) (by simp) hr'
      exact ⟨C, _, rfl, ⟨[], rfl, rfl⟩, st, S'⟩
    · rename_i t t' id' v
      split at hs
      case isFalse => cases hs
      rename_i hn
      obtain ⟨rfl, rfl, rfl⟩ := hn
      simp only [Option.some.injEq, Prod.mk.injEq] at hs
      obtain ⟨rfl, rfl⟩ := hs
      obtain ⟨k1, k2, cs, e', k3, ⟨k4, rfl⟩, k5⟩ := S.box _ _ _ hb
      simp only [relC, relCs, tys83] at k5
      obtain ⟨hlen, t1, ts1, c1, c2, q1, q2, q3, q4, ⟨bt, bc, off, t, z1, z2, rfl⟩, _⟩ := k5
      simp only [offP, Option.some.injEq, Prod.mk.injEq] at z2
      obtain ⟨rfl, _⟩ := z2
      have hc0 : w.cell? ⟨C.φ id', 0, none⟩ = some (.pointer (some ⟨C.φ id', 0, none⟩)) := by rw [cell_in k3, q2]; rfl
      refine (cc_used (C.φ id') w hc0).mono ?_
      rintro e w' ⟨rfl, rfl⟩
      exact ⟨C, _, rfl, ⟨[], rfl, rfl⟩, Step.refl, S⟩⟩

end
end Go.Tith
