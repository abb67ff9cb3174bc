/- Query's functions and the reference's on trees. A part of the proof: no condition of mine beyond what each theorem states. -/
import Derived.Test.YtbnffdelhejbiaaGreatDoorQm
import Derived.Test.YtbnffdelhejbiaaGreatDoorMe
import Derived.Lib.ItoaLen
import Derived.Lib.SplitLaws
import Derived.Lib.IndexBytes

namespace Go.Tith
open Go.Proofs Go.Proofs.Tryz

structure Qu where
  kind : Int
  id : Int
  key : List UInt8
  tx : List UInt8
  deriving Inhabited, DecidableEq
def quD (q : Qu) : DV := .agg 31 [.int .i64 q.kind, .int .i64 q.id, .str (strL q.key), .agg 29 (bytesD q.tx)]
attribute [simp] quD
theorem quD_inj : Function.Injective quD := fun a b h => by
  cases a; cases b; simpa using h

/-- Has a query just what counts? -/
def rightQ (q : Qu) : Bool :=
  if q.kind = 1 ∨ q.kind = 2 then decide (q.key = [] ∧ q.tx = z32 ∧ 1 ≤ q.id ∧ q.id ≤ 40)
  else if q.kind = 3 then decide (q.id = 0 ∧ q.tx = z32 ∧ keyOK q.key = true)
  else if q.kind = 4 then decide (q.id = 0 ∧ q.key = [])
  else if q.kind = 5 ∨ q.kind = 6 then decide (q.id = 0 ∧ q.key = [] ∧ q.tx = z32)
  else false

section
variable {m : Int} {x y : Value}

theorem m_CloneP : Meets prog (QG m x y) 75 (.eff (sClone 52)) := by
  refine clone_meets (l := []) noK trivial orders func75 (by kernel_rfl) (by decide) ?_ ?_ ?_
  · intro h; simp [f75]
  · intro h; simp [f75]
  · intro h a l hl
    simp [f75]
    exact chk_eq (by omega) rfl

noncomputable def aInsP (m : Int) (x y : Value) := autoE prog (QG m x y) [] noK f76
theorem m_InsP : Meets prog (QG m x y) 76 (.eff (aInsP m x y)) := auto_meetsE noK trivial orders func76 (by kernel_rfl)

noncomputable def T54 (m : Int) (x y : Value) : List (FuncId × Spec) := [(39, .pure s39), (58, .pure s58), (42, .pure (aKfind m x y)), (75, .eff (sClone 52)), (76, .eff (aInsP m x y))]
noncomputable def aKPut (m : Int) (x y : Value) := autoE prog (QG m x y) (T54 m x y) noK f54
theorem m_kPut : Meets prog (QG m x y) 54 (.eff (aKPut m x y)) := auto_meetsE noK ⟨m39, m58, m_kfind, m_CloneP, m_InsP, trivial⟩ orders func54 (by kernel_rfl)
theorem aKPut_nil (key : List UInt8) (h : Heap) (hk : key.length < 9223372036854775807) : ∃ v h', aKPut m x y [.lst none 52 [], .d (.str (strL key)), .d (.str (strL []))] h = some (.tup [v, .d (.int .i64 (if keyOK key then 0 else 1))], h') := by
  cases hq : keyOK key with
  | false =>
    simp [aKPut, autoE, f54, T54, hq, hk]
  | true =>
    simp [aKPut, autoE, f54, T54, hq, hk, aInsP, f76]

noncomputable def aQid (m : Int) (x y : Value) := autoF prog (QG m x y) [] noK f16
theorem m_qid : Meets prog (QG m x y) 16 (.pure (aQid m x y)) := auto_meets noK trivial orders func16 (by kernel_rfl)
@[simp] theorem aQid_eq (n : Int) : aQid m x y [.int .i64 n] = some [.bool (decide (1 ≤ n ∧ n ≤ 40))] := by
  simp [aQid, autoF, f16, gd_eq]

noncomputable def T28 (m : Int) (x y : Value) : List (FuncId × Spec) := [(16, .pure (aQid m x y)), (54, .eff (aKPut m x y))]
theorem tree28 (q : Qu) (hk : q.key.length < 9223372036854775807) : treeF ⟨prog, look (T28 m x y), QG m x y, noK⟩ fuel (bodyOf f28) f28.results.toList [quD q] = some [.bool (rightQ q)] := by
  have hz : List.replicate 32 (0 : UInt8) = z32 := rfl
  obtain ⟨k, i, s, h⟩ := q
  simp only at hk
  by_cases h1 : k = 1
  · subst h1
    simp [-List.reduceReplicate, f28, T28, rightQ, hz]
    rw [Bool.eq_iff_iff]
    simp [gd_eq, and_assoc]
  by_cases h2 : k = 2
  · subst h2
    simp [-List.reduceReplicate, f28, T28, rightQ, hz]
    rw [Bool.eq_iff_iff]
    simp [gd_eq, and_assoc]
  by_cases h3 : k = 3
  · subst h3
    cases hq : keyOK s
    · simp [-List.reduceReplicate, f28, T28, rightQ, hz, hq, aKPut, autoE, f54, T54, hk]
    · simp [-List.reduceReplicate, f28, T28, rightQ, hz, hq, aKPut, autoE, f54, T54, aInsP, f76, hk]
      rw [Bool.eq_iff_iff]
      simp [gd_eq, and_assoc]
  by_cases h4 : k = 4
  · subst h4
    simp [-List.reduceReplicate, f28, T28, rightQ, hz]
    rw [Bool.eq_iff_iff]
    simp [gd_eq, and_assoc]
  by_cases h5 : k = 5
  · subst h5
    simp [-List.reduceReplicate, f28, T28, rightQ, hz]
    rw [Bool.eq_iff_iff]
    simp [gd_eq, and_assoc]
  by_cases h6 : k = 6
  · subst h6
    simp [-List.reduceReplicate, f28, T28, rightQ, hz]
    rw [Bool.eq_iff_iff]
    simp [gd_eq, and_assoc]
  simp [-List.reduceReplicate, f28, T28, rightQ, hz, h1, h2, h3, h4, h5, h6]

noncomputable def s28 : List DV → Option (List DV) := specOf (fun q : Qu => [quD q]) (fun q => [.bool (rightQ q)]) (fun q => q.key.length < 9223372036854775807)
theorem s28_eq (q : Qu) : s28 [quD q] = chk (q.key.length < 9223372036854775807) (some [.bool (rightQ q)]) := specOf_eq (fun a b h => quD_inj (by simpa using h)) q
@[simp] theorem s28_eq' (k i : Int) (s h : List UInt8) : s28 [.agg 31 [.int .i64 k, .int .i64 i, .str (strL s), .agg 29 (bytesD h)]] = chk (s.length < 9223372036854775807) (some [.bool (rightQ ⟨k, i, s, h⟩)]) := s28_eq ⟨k, i, s, h⟩
theorem m28 : Meets prog (QG m x y) 28 (.pure s28) := meets_spec (l := T28 m x y) noK ⟨m_qid, m_kPut, trivial⟩ orders func28 (by kernel_rfl) (fun _ => by simp [f28]) fun q h => tree28 q h

/-! ### query.words -/
def wordsQ (q : Qu) : List (List UInt8) :=
  if q.kind = 1 then [[98, 97, 108, 97, 110, 99, 101], Lib.itoa q.id]
  else if q.kind = 2 then [[110, 111, 110, 99, 101], Lib.itoa q.id]
  else if q.kind = 3 then [[118, 97, 108, 117, 101], q.key]
  else if q.kind = 4 then [[114, 101, 99, 101, 105, 112, 116], hexL q.tx]
  else if q.kind = 5 then [[104, 101, 105, 103, 104, 116]]
  else if q.kind = 6 then [[100, 105, 103, 101, 115, 116]]
  else []
def strsD (l : List (List UInt8)) : List DV := l.map fun s => .str (strL s)

noncomputable def T33 : List (FuncId × Spec) := [(45, .pure sItoa), (56, .pure s56)]
theorem tree33 (q : Qu) (hi : -9223372036854775808 ≤ q.id ∧ q.id ≤ 9223372036854775807) (ht : q.tx.length = 32) : treeF ⟨prog, look T33, QG m x y, noK⟩ fuel (bodyOf f33) f33.results.toList [quD q] = some [.list 9 (strsD (wordsQ q))] := by
  obtain ⟨k, i, s, h⟩ := q
  simp only at hi ht
  by_cases h1 : k = 1
  · subst h1; simp [-List.reduceReplicate, f33, T33, wordsQ, strsD, sItoa, hi]
  by_cases h2 : k = 2
  · subst h2; simp [-List.reduceReplicate, f33, T33, wordsQ, strsD, sItoa, hi]
  by_cases h3 : k = 3
  · subst h3; simp [-List.reduceReplicate, f33, T33, wordsQ, strsD]
  by_cases h4 : k = 4
  · subst h4; simp [-List.reduceReplicate, f33, T33, wordsQ, strsD, ht]
  by_cases h5 : k = 5
  · subst h5; simp [-List.reduceReplicate, f33, T33, wordsQ, strsD]
  by_cases h6 : k = 6
  · subst h6; simp [-List.reduceReplicate, f33, T33, wordsQ, strsD]
  simp [-List.reduceReplicate, f33, T33, wordsQ, strsD, h1, h2, h3, h4, h5, h6]

theorem strsD_inj {a b : List (List UInt8)} (h : strsD a = strsD b) : a = b := map_inj (fun a b h => by simpa using h) h
noncomputable def s33 : List DV → Option (List DV) := specOf (fun q : Qu => [quD q]) (fun q => [.list 9 (strsD (wordsQ q))]) (fun q => (-9223372036854775808 ≤ q.id ∧ q.id ≤ 9223372036854775807) ∧ q.tx.length = 32)
@[simp] theorem s33_eq (k i : Int) (s h : List UInt8) : s33 [.agg 31 [.int .i64 k, .int .i64 i, .str (strL s), .agg 29 (bytesD h)]] = chk ((-9223372036854775808 ≤ i ∧ i ≤ 9223372036854775807) ∧ h.length = 32) (some [.list 9 (strsD (wordsQ ⟨k, i, s, h⟩))]) := specOf_eq (fun a b h => quD_inj (by simpa using h)) ⟨k, i, s, h⟩
theorem m33 : Meets prog (QG m x y) 33 (.pure s33) := meets_spec (l := T33) noK ⟨m_Itoa, m56, trivial⟩ orders func33 (by kernel_rfl) (fun _ => by simp [f33]) fun q h => tree33 q h.1 h.2

theorem strsOf_strsD : ∀ l : List (List UInt8), strsOf (strsD l) = some (l.map strL)
  | [] => rfl
  | s :: l => by
    have := strsOf_strsD l
    simp only [strsD, List.map_cons, strsOf] at this ⊢
    rw [this]; rfl

/-- Words joined by a blank. -/
def joinQ (l : List (List UInt8)) : List UInt8 := Lib.join l [32]
theorem sJoin_strs (l : List (List UInt8)) (t : TypeId) (sep : List UInt8) : sJoin [.list t (strsD l), .str (strL sep)] = chk (l.length ≤ 1000000 ∧ (Lib.join l sep).length ≤ 4294967296) (some [.str (strL (Lib.join l sep))]) := by
  have e : (l.map strL).map (fun s : ByteArray => s.data.toList) = l := by
    rw [List.map_map]
    exact (List.map_congr_left (g := id) fun a _ => strL_data).trans (List.map_id l)
  simp only [sJoin, strsOf_strsD, Option.bind_some, List.length_map, e, strL_data, ite_none]

/-! ### query.Line -/
def lineQ (q : Qu) : List UInt8 := Lib.join (wordsQ q) [32]
noncomputable def T11 : List (FuncId × Spec) := [(28, .pure s28), (33, .pure s33), (32, .pure sJoin)]
theorem tree11 (q : Qu) (hk : q.key.length < 1000000000) (hi : -9223372036854775808 ≤ q.id ∧ q.id ≤ 9223372036854775807) (ht : q.tx.length = 32) : treeF ⟨prog, look T11, QG m x y, noK⟩ fuel (bodyOf f11) f11.results.toList [quD q] = some (if rightQ q then [.str (strL (lineQ q)), .int .i64 0] else [.str (strL []), .int .i64 1]) := by
  have hj : (wordsQ q).length ≤ 1000000 ∧ (lineQ q).length ≤ 4294967296 := by
    have h21 := Lib.itoa_length_le q.id hi.1 hi.2
    have h64 := hexL_length q.tx
    unfold lineQ wordsQ
    split
    · simp [Lib.join, List.intercalate]; omega
    split
    · simp [Lib.join, List.intercalate]; omega
    split
    · simp [Lib.join, List.intercalate]; omega
    split
    · simp [Lib.join, List.intercalate]; omega
    split
    · simp [Lib.join, List.intercalate]
    split <;> simp [Lib.join, List.intercalate]
  obtain ⟨k, i, s, h⟩ := q
  simp only at hk hi ht
  unfold lineQ at hj ⊢
  have hk2 : s.length < 9223372036854775807 := by omega
  cases hr : rightQ ⟨k, i, s, h⟩
  · simp [-List.reduceReplicate, f11, T11, hr, hk2]
  · simp [-List.reduceReplicate, f11, T11, hr, hk2, hi, ht, sJoin_strs, hj]

noncomputable def s11 : List DV → Option (List DV) := specOf (fun q : Qu => [quD q]) (fun q => if rightQ q then [.str (strL (lineQ q)), .int .i64 0] else [.str (strL []), .int .i64 1]) (fun q => q.key.length < 1000000000 ∧ (-9223372036854775808 ≤ q.id ∧ q.id ≤ 9223372036854775807) ∧ q.tx.length = 32)
theorem m11 : Meets prog (QG m x y) 11 (.pure s11) := meets_spec (l := T11) noK ⟨m28, m33, m_Join, trivial⟩ orders func11 (by kernel_rfl) (fun _ => by simp [f11]) fun q h => tree11 q h.1 h.2.1 h.2.2

/-! ### query.read -/
def q0 : Qu := ⟨0, 0, [], z32⟩
def readQ (l : List (List UInt8)) : Qu :=
  if l = [[104, 101, 105, 103, 104, 116]] then ⟨5, 0, [], z32⟩
  else if l = [[100, 105, 103, 101, 115, 116]] then ⟨6, 0, [], z32⟩
  else match l with
  | [a, b] =>
    if a = [98, 97, 108, 97, 110, 99, 101] then ⟨1, numF b, [], z32⟩
    else if a = [110, 111, 110, 99, 101] then ⟨2, numF b, [], z32⟩
    else if a = [118, 97, 108, 117, 101] then ⟨3, 0, b, z32⟩
    else if a = [114, 101, 99, 101, 105, 112, 116] then (if hexL (unhexF b) = b then ⟨4, 0, [], unhexF b⟩ else q0)
    else q0
  | _ => q0

noncomputable def T26 : List (FuncId × Spec) := [(51, .pure s51), (52, .pure s52)]
theorem tree26 (l : List (List UInt8)) (hl : ∀ s ∈ l, s.length ≤ 4294967296) (hn : l.length < 4294967296) : treeF ⟨prog, look T26, QG m x y, noK⟩ fuel (bodyOf f26) f26.results.toList [.list 9 (strsD l)] = some [quD (readQ l)] := by
  have hz : List.replicate 32 (0 : UInt8) = z32 := rfl
  match l, hl with
  | [], _ => simp [-List.reduceReplicate, f26, strsD, hz, readQ, q0]
  | [a], hl =>
    by_cases h1 : a = [104, 101, 105, 103, 104, 116]
    · subst h1; simp [-List.reduceReplicate, f26, strsD, hz, readQ, q0]
    by_cases h2 : a = [100, 105, 103, 101, 115, 116]
    · subst h2; simp [-List.reduceReplicate, f26, strsD, hz, readQ, q0]
    simp [-List.reduceReplicate, f26, strsD, hz, readQ, q0, h1, h2]
  | [a, b], hl =>
    have hb : b.length ≤ 4294967296 := hl b (by simp)
    by_cases h1 : a = [98, 97, 108, 97, 110, 99, 101]
    · subst h1; simp [-List.reduceReplicate, f26, T26, strsD, hz, readQ, q0, hb]
    by_cases h2 : a = [110, 111, 110, 99, 101]
    · subst h2; simp [-List.reduceReplicate, f26, T26, strsD, hz, readQ, q0, hb]
    by_cases h3 : a = [118, 97, 108, 117, 101]
    · subst h3; simp [-List.reduceReplicate, f26, T26, strsD, hz, readQ, q0]
    by_cases h4 : a = [114, 101, 99, 101, 105, 112, 116]
    · subst h4
      by_cases h5 : hexL (unhexF b) = b
      · simp [-List.reduceReplicate, f26, T26, strsD, hz, readQ, q0, unhexO, h5]
      · simp [-List.reduceReplicate, f26, T26, strsD, hz, readQ, q0, unhexO, h5]
    simp [-List.reduceReplicate, f26, T26, strsD, hz, readQ, q0, h1, h2, h3, h4]
  | a :: b :: c :: l, _ =>
    have e1 : ((l.length : Int) + 1 + 1 + 1 == 1) = false := by simp; omega
    have e2 : ¬ ((l.length : Int) + 1 + 1 + 1 = 2) := by omega
    simp [-List.reduceReplicate, f26, strsD, hz, readQ, q0, e1, e2]

noncomputable def s26 : List DV → Option (List DV) := specOf (fun l : List (List UInt8) => [.list 9 (strsD l)]) (fun l => [quD (readQ l)]) (fun l => (∀ s ∈ l, s.length ≤ 4294967296) ∧ l.length < 4294967296)
@[simp] theorem s26_eq (l : List (List UInt8)) : s26 [.list 9 (strsD l)] = chk ((∀ s ∈ l, s.length ≤ 4294967296) ∧ l.length < 4294967296) (some [quD (readQ l)]) := specOf_eq (fun a b h => strsD_inj (by simpa using h)) l
theorem m26 (hx : ifV x = true) (hy : ifV y = true) : Meets prog (QG m x y) 26 (.pure s26) := meets_spec (l := T26) noK ⟨m51 hx hy, m52, trivial⟩ orders func26 (by kernel_rfl) (fun _ => by simp [f26]) fun l h => tree26 l h.1 h.2

end
end Go.Tith

namespace Go.Tith
open Go.Proofs Go.Proofs.Tryz

/-- A text cut at each c. -/
def splitL (c : UInt8) : List UInt8 → List (List UInt8)
  | [] => [[]]
  | b :: l => if b = c then [] :: splitL c l else match splitL c l with
    | [] => [[b]]
    | w :: ws => (b :: w) :: ws

theorem splitL_ne (c : UInt8) : ∀ l, splitL c l ≠ []
  | [] => by simp [splitL]
  | b :: l => by
    unfold splitL
    split
    · simp
    · split <;> simp

theorem splitL_none {c : UInt8} : ∀ {l : List UInt8}, c ∉ l → splitL c l = [l]
  | [], _ => rfl
  | b :: l, h => by
    simp only [List.mem_cons, not_or] at h
    rw [splitL, if_neg (fun e => h.1 e.symm), splitL_none h.2]

theorem lib_split (c : UInt8) : ∀ l, Lib.split l [c] = splitL c l
  | [] => by simp [Lib.split, splitL, Lib.count_one, Lib.splitK]
  | b :: l => by
    have ih := lib_split c l
    unfold Lib.split at ih ⊢
    by_cases h : b = c
    · subst h
      have hi : Lib.index (b :: l) [b] = 0 := by rw [Lib.index]; simp [List.isPrefixOf]
      rw [Lib.count_cons_eq, Nat.add_comm, Lib.splitK, hi, splitL, if_pos rfl, ← ih]
      simp
    · rw [Lib.count_cons_ne b c l h, splitL, if_neg h, ← ih]
      have hp : ([c] : List UInt8).isPrefixOf (b :: l) = false := by simp [List.isPrefixOf, Ne.symm h]
      have hix : Lib.index (b :: l) [c] = if Lib.index l [c] == -1 then -1 else Lib.index l [c] + 1 := by rw [Lib.index, hp]; simp
      have hge := Lib.index_ge l [c]
      cases hk : Lib.count l [c] with
      | zero => rfl
      | succ k =>
        unfold Lib.splitK
        by_cases hm : Lib.index l [c] = -1
        · rw [if_pos (by rw [hix]; simp [hm]), if_pos (by simp [hm])]
        · have e : (Lib.index (b :: l) [c]) = Lib.index l [c] + 1 := by rw [hix]; simp [hm]
          have e2 : (Lib.index l [c] + 1).toNat = (Lib.index l [c]).toNat + 1 := by omega
          rw [if_neg (by rw [e]; simp; omega), if_neg (by simp [hm]), e, e2]
          simp [Nat.add_right_comm]

theorem splitB_list (s sep : List UInt8) : Lib.splitB (strL sep) 0 (Lib.countB (strL s) (strL sep)) (strL s) = (Lib.split s sep).map strL := by
  have h := Lib.splitB_data (strL sep) 0 (Lib.countB (strL s) (strL sep)) (strL s)
  simp only [Lib.countB, strL_data] at h ⊢
  unfold Lib.split
  rw [← h, List.map_map]
  exact ((List.map_congr_left (g := id) fun a _ => (strL_of a).symm).trans (List.map_id _)).symm

theorem sSplit_one (s : List UInt8) (c : UInt8) : sSplit [.str (strL s), .str (strL [c])] = chk (s.length < 4294967281) (some [.list 9 (strsD (splitL c s))]) := by
  have e1 : (strL s).size = s.length := by rw [Lib.size_eq, strL_data]
  have e2 : (strL [c]).size = 1 := by rw [Lib.size_eq, strL_data]; rfl
  simp only [sSplit, e1, e2, splitB_list, lib_split, strsD, List.map_map]
  simp only [Nat.le_refl, and_true, ite_none]
  rfl

theorem splitL_bound {c : UInt8} : ∀ {l : List UInt8}, (splitL c l).length ≤ l.length + 1 ∧ ∀ w ∈ splitL c l, w.length ≤ l.length
  | [] => by simp [splitL]
  | b :: l => by
    have ih := splitL_bound (c := c) (l := l)
    unfold splitL
    split
    · refine ⟨by simp; omega, fun w hw => ?_⟩
      simp only [List.mem_cons] at hw
      rcases hw with rfl | hw
      · simp
      · have := ih.2 w hw; simp; omega
    · split
      · simp
      · rename_i w ws h
        rw [h] at ih
        refine ⟨by simp at ih ⊢; omega, fun v hv => ?_⟩
        simp only [List.mem_cons] at hv
        rcases hv with rfl | hv
        · have := ih.2 w (by simp); simp; omega
        · have := ih.2 v (by simp [hv]); simp; omega

def joinL (c : UInt8) : List (List UInt8) → List UInt8
  | [] => []
  | [w] => w
  | w :: v :: ws => w ++ c :: joinL c (v :: ws)
theorem joinL_splitL (c : UInt8) : ∀ l, joinL c (splitL c l) = l
  | [] => rfl
  | b :: l => by
    have ih := joinL_splitL c l
    have hn := splitL_ne c l
    unfold splitL
    by_cases h : b = c
    · subst h
      rw [if_pos rfl]
      cases hs : splitL b l with
      | nil => exact absurd hs hn
      | cons w ws => rw [hs] at ih; simp [joinL, ih]
    · rw [if_neg h]
      cases hs : splitL c l with
      | nil => exact absurd hs hn
      | cons w ws =>
        rw [hs] at ih
        cases ws with
        | nil => simp [joinL] at ih ⊢; exact ih
        | cons v ws => simp [joinL] at ih ⊢; exact ih
theorem splitL_cat {c : UInt8} : ∀ {a b : List UInt8}, c ∉ a → splitL c (a ++ c :: b) = a :: splitL c b
  | [], b, _ => by simp [splitL]
  | x :: a, b, h => by
    simp only [List.mem_cons, not_or] at h
    rw [List.cons_append, splitL, if_neg (fun e => h.1 e.symm), splitL_cat h.2]
theorem splitL_mem {c : UInt8} : ∀ {l : List UInt8}, ∀ w ∈ splitL c l, c ∉ w
  | [], w, hw => by simp [splitL] at hw; simp [hw]
  | b :: l, w, hw => by
    have ih := splitL_mem (c := c) (l := l)
    unfold splitL at hw
    split at hw
    · simp only [List.mem_cons] at hw
      rcases hw with rfl | hw
      · simp
      · exact ih w hw
    · rename_i hb
      split at hw
      · simp at hw; subst hw; simp; exact fun e => hb e.symm
      · rename_i v vs h
        rw [h] at ih
        simp only [List.mem_cons] at hw
        rcases hw with rfl | hw
        · have := ih v (by simp)
          simp only [List.mem_cons, not_or]
          exact ⟨fun e => hb e.symm, this⟩
        · exact ih w (by simp [hw])

/-! ### query.Parse -/
section
variable {m : Int} {x y : Value}

def parseQ (s : List UInt8) : Option Qu := if rightQ (readQ (splitL 32 s)) then some (readQ (splitL 32 s)) else none
noncomputable def T9 : List (FuncId × Spec) := [(27, .pure sSplit), (26, .pure s26), (28, .pure s28)]
theorem readQ_key (l : List (List UInt8)) : (readQ l).key = [] ∨ (readQ l).key ∈ l := by
  unfold readQ
  split
  · simp
  split
  · simp
  split
  · split
    · simp
    split
    · simp
    split
    · simp
    split
    · split <;> simp [q0]
    · simp [q0]
  · simp [q0]
theorem tree9 (s : List UInt8) (hs : s.length < 4294967281) : treeF ⟨prog, look T9, QG m x y, noK⟩ fuel (bodyOf f9) f9.results.toList [.str (strL s)] = some [quD ((parseQ s).getD q0), .int .i64 (if (parseQ s).isSome then 0 else 2)] := by
  have hb := splitL_bound (c := 32) (l := s)
  have h1 : (∀ w ∈ splitL 32 s, w.length ≤ 4294967296) ∧ (splitL 32 s).length < 4294967296 := ⟨fun w hw => by have := hb.2 w hw; omega, by omega⟩
  have hz : List.replicate 32 (0 : UInt8) = z32 := rfl
  have h2 : (readQ (splitL 32 s)).key.length < 9223372036854775807 := by
    rcases readQ_key (splitL 32 s) with h | h
    · rw [h]; simp
    · have := hb.2 _ h; omega
  unfold parseQ
  cases hr : rightQ (readQ (splitL 32 s))
  · simp [-List.reduceReplicate, f9, T9, sSplit_one, hs, h1.2, h2, hr, hz, q0]
    exact chk_eq h1.1 rfl
  · simp [-List.reduceReplicate, f9, T9, sSplit_one, hs, h1.2, h2, hr, hz, q0]
    exact chk_eq h1.1 rfl

noncomputable def s9 : List DV → Option (List DV) := specOf (fun s : List UInt8 => [.str (strL s)]) (fun s => [quD ((parseQ s).getD q0), .int .i64 (if (parseQ s).isSome then 0 else 2)]) (fun s => s.length < 4294967281)
@[simp] theorem s9_eq (s : List UInt8) : s9 [.str (strL s)] = chk (s.length < 4294967281) (some [quD ((parseQ s).getD q0), .int .i64 (if (parseQ s).isSome then 0 else 2)]) := specOf_eq (fun a b h => by simpa using h) s
theorem m9 (hx : ifV x = true) (hy : ifV y = true) : Meets prog (QG m x y) 9 (.pure s9) := meets_spec (l := T9) noK ⟨m_Split, m26 hx hy, m28, trivial⟩ orders func9 (by kernel_rfl) (fun _ => by simp [f9]) fun s h => tree9 s h

@[simp] theorem s11_eq (k i : Int) (s h : List UInt8) : s11 [.agg 31 [.int .i64 k, .int .i64 i, .str (strL s), .agg 29 (bytesD h)]] = chk (s.length < 1000000000 ∧ (-9223372036854775808 ≤ i ∧ i ≤ 9223372036854775807) ∧ h.length = 32) (some (if rightQ ⟨k, i, s, h⟩ then [.str (strL (lineQ ⟨k, i, s, h⟩)), .int .i64 0] else [.str (strL []), .int .i64 1])) := specOf_eq (fun a b h => quD_inj (by simpa using h)) ⟨k, i, s, h⟩

end
end Go.Tith

namespace Go.Tith
open Go.Proofs Go.Proofs.Tryz

def wBal : List UInt8 := [98, 97, 108, 97, 110, 99, 101, 32]
def wNon : List UInt8 := [110, 111, 110, 99, 101, 32]
def wVal : List UInt8 := [118, 97, 108, 117, 101, 32]
def wRec : List UInt8 := [114, 101, 99, 101, 105, 112, 116, 32]
def wHei : List UInt8 := [104, 101, 105, 103, 104, 116]
def wDig : List UInt8 := [100, 105, 103, 101, 115, 116]
def rLineT (q : Qu) : List UInt8 :=
  if q.kind = 1 then (if rightQ q then wBal ++ Lib.decDigits q.id.toNat else [])
  else if q.kind = 2 then (if rightQ q then wNon ++ Lib.decDigits q.id.toNat else [])
  else if q.kind = 3 then wVal ++ q.key
  else if q.kind = 4 then wRec ++ hexL q.tx
  else if q.kind = 5 then wHei
  else if q.kind = 6 then wDig
  else []

section
variable {m : Int} {x y : Value}

noncomputable def T12 : List (FuncId × Spec) := [(34, .pure sDig), (35, .pure s35), (36, .pure s36)]
theorem isEmpty_dec {α : Type} [DecidableEq α] (l : List α) : l.isEmpty = decide (l = []) := by cases l <;> simp
theorem tree12 (q : Qu) (hk : q.key.length < 1000000000) (ht : q.tx.length = 32) : treeF ⟨prog, look T12, QG m x y, noK⟩ fuel (bodyOf f12) f12.results.toList [quD q] = some [.str (strL (rLineT q)), .bool (rightQ q)] := by
  have hz : List.replicate 32 (0 : UInt8) = z32 := rfl
  obtain ⟨k, i, s, h⟩ := q
  simp only at hk ht
  have hk2 : s.length < 9223372036854775807 := by omega
  have hl := hexL_length h
  have big : i ≤ 40 → (Lib.decDigits i.toNat).length ≤ 2 := fun h4 => dec_len 1 i.toNat (by omega)
  by_cases h1 : k = 1
  · subst h1
    by_cases hr : s = [] ∧ h = z32 ∧ 1 ≤ i ∧ i ≤ 40
    · obtain ⟨rfl, rfl, h3, h4⟩ := hr
      have := big h4
      simp [-List.reduceReplicate, f12, T12, rightQ, rLineT, hz, h3, h4]
      exact ite_n (by simp [gd_eq]; omega) (chk_eq (by omega) (chk_eq (by omega) rfl))
    · simp [-List.reduceReplicate, f12, T12, rightQ, rLineT, hz, hr]
      intro h3 h4
      simp [gd_eq] at h3
      exact absurd ⟨h3.1.1, h3.1.2, h3.2, h4⟩ hr
  by_cases h2 : k = 2
  · subst h2
    by_cases hr : s = [] ∧ h = z32 ∧ 1 ≤ i ∧ i ≤ 40
    · obtain ⟨rfl, rfl, h3, h4⟩ := hr
      have := big h4
      simp [-List.reduceReplicate, f12, T12, rightQ, rLineT, hz, h3, h4]
      exact ite_n (by simp [gd_eq]; omega) (chk_eq (by omega) (chk_eq (by omega) rfl))
    · simp [-List.reduceReplicate, f12, T12, rightQ, rLineT, hz, hr]
      intro h3 h4
      simp [gd_eq] at h3
      exact absurd ⟨h3.1.1, h3.1.2, h3.2, h4⟩ hr
  by_cases h3 : k = 3
  · subst h3
    simp [-List.reduceReplicate, f12, T12, rightQ, rLineT, hz, hk2]
    refine chk_eq (by omega) ?_
    simp [gd_eq, wVal, Bool.and_assoc]
    rfl
  by_cases h4 : k = 4
  · subst h4
    simp [-List.reduceReplicate, f12, T12, rightQ, rLineT, hz, ht]
    refine chk_eq (by omega) ?_
    simp [isEmpty_dec, wRec]
    rfl
  by_cases h5 : k = 5
  · subst h5
    simp [-List.reduceReplicate, f12, T12, rightQ, rLineT, hz]
    simp [isEmpty_dec, wHei]
    rfl
  by_cases h6 : k = 6
  · subst h6
    simp [-List.reduceReplicate, f12, T12, rightQ, rLineT, hz]
    simp [isEmpty_dec, wDig]
    rfl
  simp [-List.reduceReplicate, f12, T12, rightQ, rLineT, hz, h1, h2, h3, h4, h5, h6]

noncomputable def s12 : List DV → Option (List DV) := specOf (fun q : Qu => [quD q]) (fun q => [.str (strL (rLineT q)), .bool (rightQ q)]) (fun q => q.key.length < 1000000000 ∧ q.tx.length = 32)
@[simp] theorem s12_eq (k i : Int) (s h : List UInt8) : s12 [.agg 31 [.int .i64 k, .int .i64 i, .str (strL s), .agg 29 (bytesD h)]] = chk (s.length < 1000000000 ∧ h.length = 32) (some [.str (strL (rLineT ⟨k, i, s, h⟩)), .bool (rightQ ⟨k, i, s, h⟩)]) := specOf_eq (fun a b h => quD_inj (by simpa using h)) ⟨k, i, s, h⟩
theorem m12 : Meets prog (QG m x y) 12 (.pure s12) := meets_spec (l := T12) noK ⟨m_Digits, m35, m36, trivial⟩ orders func12 (by kernel_rfl) (fun _ => by simp [f12]) fun q h => tree12 q h.1 h.2

/-! ### ref28.is, keep -/
def isQ (q : Qu) (s : List UInt8) : Bool := rightQ q && decide (rLineT q = s)
noncomputable def T29 : List (FuncId × Spec) := [(12, .pure s12)]
theorem tree29 (q : Qu) (s : List UInt8) (hk : q.key.length < 1000000000) (ht : q.tx.length = 32) : treeF ⟨prog, look T29, QG m x y, noK⟩ fuel (bodyOf f29) f29.results.toList [quD q, .str (strL s)] = some [.bool (isQ q s)] := by
  obtain ⟨k, i, t, h⟩ := q
  simp only at hk ht
  unfold isQ
  cases hr : rightQ ⟨k, i, t, h⟩
  · simp [f29, T29, hk, ht, hr]
  · simp [f29, T29, hk, ht, hr]
    rw [Bool.eq_iff_iff]; simp
noncomputable def s29 : List DV → Option (List DV) := specOf (fun q : Qu × List UInt8 => [quD q.1, .str (strL q.2)]) (fun q => [.bool (isQ q.1 q.2)]) (fun q => q.1.key.length < 1000000000 ∧ q.1.tx.length = 32)
theorem s29_eq0 (q : Qu × List UInt8) : s29 [quD q.1, .str (strL q.2)] = chk (q.1.key.length < 1000000000 ∧ q.1.tx.length = 32) (some [.bool (isQ q.1 q.2)]) := specOf_eq (fun a b h => by
    obtain ⟨⟨a1, a2, a3, a4⟩, a5⟩ := a; obtain ⟨⟨b1, b2, b3, b4⟩, b5⟩ := b; simpa [and_assoc] using h) q
@[simp] theorem s29_eq (k i : Int) (t h s : List UInt8) : s29 [.agg 31 [.int .i64 k, .int .i64 i, .str (strL t), .agg 29 (bytesD h)], .str (strL s)] = chk (t.length < 1000000000 ∧ h.length = 32) (some [.bool (isQ ⟨k, i, t, h⟩ s)]) := s29_eq0 (⟨k, i, t, h⟩, s)
theorem m29 : Meets prog (QG m x y) 29 (.pure s29) := meets_spec (l := T29) noK ⟨m12, trivial⟩ orders func29 (by kernel_rfl) (fun _ => by simp [f29]) fun q h => tree29 q.1 q.2 h.1 h.2

noncomputable def aKeep (m : Int) (x y : Value) := autoF prog (QG m x y) [] noK f30
theorem m_rKeep : Meets prog (QG m x y) 30 (.pure (aKeep m x y)) := auto_meets noK trivial orders func30 (by kernel_rfl)
@[simp] theorem aKeep_eq (k i : Int) (t h : List UInt8) (b : Bool) : aKeep m x y [.agg 31 [.int .i64 k, .int .i64 i, .str (strL t), .agg 29 (bytesD h)], .bool b] = some [.agg 31 [.int .i64 (if b then k else 0), .int .i64 (if b then i else 0), .str (strL (if b then t else [])), .agg 29 (bytesD (if b then h else z32))], .bool b] := by
  have hz : List.replicate 32 (0 : UInt8) = z32 := rfl
  cases b <;> simp [-List.reduceReplicate, aKeep, autoF, f30, q0, hz]

end
end Go.Tith

namespace Go.Tith
open Go.Proofs Go.Proofs.Tryz

def qk (k i : Int) : Qu := ⟨k, i, [], z32⟩
theorem z32_len : z32.length = 32 := by simp [z32]

section
variable {m : Int} {x y : Value}

noncomputable def T10 (m : Int) (x y : Value) : List (FuncId × Spec) := [(29, .pure s29), (30, .pure (aKeep m x y)), (31, .pure s31)]
def K10 : Nat → Option (List Nat × List Nat) := fun k => if k = 2 then some ([0, 2, 3, 4], []) else if k = 5 then some ([0, 2, 3, 4, 5], []) else if k = 18 then some ([0, 2, 3, 11], []) else none
noncomputable abbrev E10 (m : Int) (x y : Value) : Env := ⟨prog, look (T10 m x y), QG m x y, K10⟩

/-! the inner loop: kinds 1, 2 of one id -/
def quA (k i : Int) : AV := .agg 31 [.d (.int .i64 k), .d (.int .i64 i), .d (.str (strL [])), .d (.agg 29 (bytesD z32))]
def hdI (s : List UInt8) (i : Int) (b : Bool) (q : AV) (k : Int) : St := ⟨envK [(0, .d (.str (strL s))), (2, .ptr 0 []), (3, .d (.bool b)), (4, .d (.int .i64 i)), (5, .d (.int .i64 k))], ⟨[(32, q)], []⟩⟩
def stI (s : List UInt8) (i : Int) (k : Int) : Int ⊕ Option Int := if k ≤ 2 then (if isQ (qk k i) s then .inr (some k) else .inl (k + 1)) else .inr none
def outI (s : List UInt8) (i : Int) : Option Int → Ex × St
  | some k => (.ret, hdI s i true (quA k i) k)
  | none => (.exit 2, hdI s i false (.d (quD q0)) 3)

theorem stepI (n : Nat) (s : List UInt8) (i : Int) (k : Int) (hk : 1 ≤ k ∧ k ≤ 3) :
    round (exec (E10 m x y) n (loopB f10 1)) (K10 5) 1 (hdI s i false (.d (quD q0)) k) = some ((stI s i k).elim (fun k' => (.normal, hdI s i false (.d (quD q0)) k')) (outI s i)) := by
  have hz : List.replicate 32 (0 : UInt8) = z32 := rfl
  have h32 := z32_len
  by_cases h : k ≤ 2
  · cases hq : isQ (qk k i) s with
    | false =>
      rw [show stI s i k = .inl (k + 1) from by simp [stI, h, hq]]
      unfold qk at hq
      simp [-List.reduceReplicate, -ite_eq_left_iff, -ite_eq_right_iff, loopB, loopsOf, f10, hdI, K10, T10, hz, hq, h, h32]
      simp (disch := omega) only [wrap_i64]
    | true =>
      rw [show stI s i k = .inr (some k) from by simp [stI, h, hq]]
      unfold qk at hq
      simp [-List.reduceReplicate, -ite_eq_left_iff, -ite_eq_right_iff, loopB, loopsOf, f10, hdI, K10, T10, hz, hq, h, h32, outI, quA]
  · rw [show stI s i k = .inr none from by simp [stI, h]]
    obtain rfl : k = 3 := by omega
    simp [-List.reduceReplicate, -ite_eq_left_iff, -ite_eq_right_iff, loopB, loopsOf, f10, hdI, K10, outI]

def FI (s : List UInt8) (i : Int) : Option Int := if isQ (qk 1 i) s then some 1 else if isQ (qk 2 i) s then some 2 else none
theorem fuel4 : ∃ n, fuel = n + 1 + 1 + 1 + 1 := ⟨fuel - 4, by simp [fuel]⟩
theorem itrI (s : List UInt8) (i : Int) : itr (stI s i) fuel 1 = some (FI s i) := by
  obtain ⟨n, hn⟩ := fuel4
  rw [hn]
  unfold FI
  cases h1 : isQ (qk 1 i) s
  · cases h2 : isQ (qk 2 i) s
    · simp [itr, stI, h1, h2]
    · simp [itr, stI, h1, h2]
  · simp [itr, stI, h1]
theorem loopI (s : List UInt8) (i : Int) : loopN (exec (E10 m x y) fuel (loopB f10 1)) (K10 5) 1 fuel (hdI s i false (.d (quD q0)) 1) = some (outI s i (FI s i)) :=
  loop_itr (hdI s i false (.d (quD q0))) (outI s i) (fun r => by cases r <;> simp [outI]) (stI s i) (fun k => 1 ≤ k ∧ k ≤ 3) (stepI (m := m) (x := x) (y := y) fuel s i) (fun k k' hk he => by
    unfold stI at he
    split at he
    · split at he
      · cases he
      · simp at he; omega
    · cases he) fuel 1 _ (by omega) (itrI s i)

/-! the outer loop -/
def hdO (s : List UInt8) (b : Bool) (q : AV) (i : Int) : St := ⟨envK [(0, .d (.str (strL s))), (2, .ptr 0 []), (3, .d (.bool b)), (4, .d (.int .i64 i))], ⟨[(32, q)], []⟩⟩
def stO (s : List UInt8) (i : Int) : Int ⊕ Option (Int × Int) := if i ≤ 40 then (match FI s i with | some k => .inr (some (k, i)) | none => .inl (i + 1)) else .inr none
def outO (s : List UInt8) : Option (Int × Int) → Ex × St
  | some (k, i) => (.ret, hdO s true (quA k i) i)
  | none => (.exit 0, hdO s false (.d (quD q0)) 41)

theorem stepO (s : List UInt8) (i : Int) (hi : 1 ≤ i ∧ i ≤ 41) :
    round (exec (E10 m x y) fuel (loopB f10 0)) (K10 2) 1 (hdO s false (.d (quD q0)) i) = some ((stO s i).elim (fun k' => (.normal, hdO s false (.d (quD q0)) k')) (outO s)) := by
  by_cases h : i ≤ 40
  · have hl := loopI (m := m) (x := x) (y := y) s i
    cases hF : FI s i with
    | none =>
      rw [show stO s i = .inl (i + 1) from by simp [stO, h, hF]]
      rw [hF] at hl
      simp [-List.reduceReplicate, loopB, loopsOf, f10, hdI, K10, outI] at hl
      simp [-List.reduceReplicate, -ite_eq_left_iff, -ite_eq_right_iff, loopB, loopsOf, f10, hdO, K10, h, exec_loop, keyC, hl]
      simp (disch := omega) only [wrap_i64]
    | some k =>
      rw [show stO s i = .inr (some (k, i)) from by simp [stO, h, hF]]
      rw [hF] at hl
      simp [-List.reduceReplicate, loopB, loopsOf, f10, hdI, K10, outI] at hl
      simp [-List.reduceReplicate, -ite_eq_left_iff, -ite_eq_right_iff, loopB, loopsOf, f10, hdO, K10, h, exec_loop, keyC, hl, outO]
  · rw [show stO s i = .inr none from by simp [stO, h]]
    obtain rfl : i = 41 := by omega
    simp [-List.reduceReplicate, -ite_eq_left_iff, -ite_eq_right_iff, loopB, loopsOf, f10, hdO, K10, outO]

theorem itrO (s : List UInt8) : ∃ r, itr (stO s) fuel 1 = some r ∧ (∀ k i, r = some (k, i) → FI s i = some k ∧ 1 ≤ i ∧ i ≤ 40) ∧ (r = none → ∀ i, 1 ≤ i → i ≤ 40 → FI s i = none) := by
  obtain ⟨i, r, h1, ⟨hi, hall⟩, h2⟩ := itr_ends (step := stO s) (fun i => (1 ≤ i ∧ i ≤ 41) ∧ ∀ j, 1 ≤ j → j < i → FI s j = none) (fun i => (41 - i).toNat) (fun i i' ⟨hi, hall⟩ he => by
    unfold stO at he
    split at he
    · split at he
      · cases he
      · rename_i hF
        simp only [Sum.inl.injEq] at he; subst he
        refine ⟨⟨by omega, fun j h1 h2 => ?_⟩, by omega⟩
        by_cases hji : j = i
        · rw [hji]; exact hF
        · exact hall j h1 (by omega)
    · cases he) fuel 1 ⟨by omega, fun j h1 h2 => by omega⟩ (by simp [fuel])
  refine ⟨r, h1, ?_, ?_⟩
  · intro k j hr
    subst hr
    unfold stO at h2
    split at h2
    · split at h2
      · rename_i hF
        simp at h2
        obtain ⟨rfl, rfl⟩ := h2
        exact ⟨hF, hi.1, by omega⟩
      · cases h2
    · cases h2
  · intro hr j h3 h4
    subst hr
    unfold stO at h2
    split at h2
    · split at h2
      · simp at h2
      · cases h2
    · exact hall j h3 (by omega)

def FO (s : List UInt8) : Option (Int × Int) := (itr (stO s) fuel 1).getD none
theorem FO_spec (s : List UInt8) : itr (stO s) fuel 1 = some (FO s) ∧ (∀ k i, FO s = some (k, i) → FI s i = some k ∧ 1 ≤ i ∧ i ≤ 40) ∧ (FO s = none → ∀ i, 1 ≤ i → i ≤ 40 → FI s i = none) := by
  obtain ⟨r, h1, h2, h3⟩ := itrO s
  have : FO s = r := by unfold FO; rw [h1]; rfl
  rw [this]
  exact ⟨h1, h2, h3⟩
theorem loopO (s : List UInt8) : loopN (exec (E10 m x y) fuel (loopB f10 0)) (K10 2) 1 fuel (hdO s false (.d (quD q0)) 1) = some (outO s (FO s)) :=
  loop_itr (hdO s false (.d (quD q0))) (outO s) (fun r => by rcases r with _ | ⟨_, _⟩ <;> simp [outO]) (stO s) (fun k => 1 ≤ k ∧ k ≤ 41) (stepO (m := m) (x := x) (y := y) s) (fun k k' hk he => by
    unfold stO at he
    split at he
    · split at he
      · cases he
      · simp at he; omega
    · cases he) fuel 1 _ (by omega) (FO_spec s).1

/-! the last loop: kinds 5, 6 -/
def hdZ (s : List UInt8) (b : Bool) (q : AV) (k : Int) : St := ⟨envK [(0, .d (.str (strL s))), (2, .ptr 0 []), (3, .d (.bool b)), (11, .d (.int .i64 k))], ⟨[(32, q)], []⟩⟩
def stZ (s : List UInt8) (k : Int) : Int ⊕ Option Int := if k ≤ 6 then (if isQ (qk k 0) s then .inr (some k) else .inl (k + 1)) else .inr none
def outZ (s : List UInt8) : Option Int → Ex × St
  | some k => (.ret, hdZ s true (quA k 0) k)
  | none => (.exit 4, hdZ s false (.d (quD q0)) 7)
theorem stepZ (n : Nat) (s : List UInt8) (k : Int) (hk : 5 ≤ k ∧ k ≤ 7) :
    round (exec (E10 m x y) n (loopB f10 2)) (K10 18) 1 (hdZ s false (.d (quD q0)) k) = some ((stZ s k).elim (fun k' => (.normal, hdZ s false (.d (quD q0)) k')) (outZ s)) := by
  have hz : List.replicate 32 (0 : UInt8) = z32 := rfl
  have h32 := z32_len
  by_cases h : k ≤ 6
  · cases hq : isQ (qk k 0) s with
    | false =>
      rw [show stZ s k = .inl (k + 1) from by simp [stZ, h, hq]]
      unfold qk at hq
      simp [-List.reduceReplicate, -ite_eq_left_iff, -ite_eq_right_iff, loopB, loopsOf, f10, hdZ, K10, T10, hz, hq, h, h32]
      simp (disch := omega) only [wrap_i64]
    | true =>
      rw [show stZ s k = .inr (some k) from by simp [stZ, h, hq]]
      unfold qk at hq
      simp [-List.reduceReplicate, -ite_eq_left_iff, -ite_eq_right_iff, loopB, loopsOf, f10, hdZ, K10, T10, hz, hq, h, h32, outZ, quA]
  · rw [show stZ s k = .inr none from by simp [stZ, h]]
    obtain rfl : k = 7 := by omega
    simp [-List.reduceReplicate, -ite_eq_left_iff, -ite_eq_right_iff, loopB, loopsOf, f10, hdZ, K10, outZ]
def FZ (s : List UInt8) : Option Int := if isQ (qk 5 0) s then some 5 else if isQ (qk 6 0) s then some 6 else none
theorem itrZ (s : List UInt8) : itr (stZ s) fuel 5 = some (FZ s) := by
  obtain ⟨n, hn⟩ := fuel4
  rw [hn]
  unfold FZ
  cases h1 : isQ (qk 5 0) s
  · cases h2 : isQ (qk 6 0) s
    · simp [itr, stZ, h1, h2]
    · simp [itr, stZ, h1, h2]
  · simp [itr, stZ, h1]
theorem loopZ (s : List UInt8) : loopN (exec (E10 m x y) fuel (loopB f10 2)) (K10 18) 1 fuel (hdZ s false (.d (quD q0)) 5) = some (outZ s (FZ s)) :=
  loop_itr (hdZ s false (.d (quD q0))) (outZ s) (fun r => by cases r <;> simp [outZ]) (stZ s) (fun k => 5 ≤ k ∧ k ≤ 7) (stepZ (m := m) (x := x) (y := y) fuel s) (fun k k' hk he => by
    unfold stZ at he
    split at he
    · split at he
      · cases he
      · simp at he; omega
    · cases he) fuel 5 _ (by omega) (itrZ s)

def rHash (t : List UInt8) : List UInt8 := if hexL (unhexF t) = t then unhexF t else z32
theorem rHash_length (t : List UInt8) : (rHash t).length = 32 := by unfold rHash; split <;> simp [unhexF_length, z32]
theorem unhexO_eq (t : List UInt8) : unhexO t = [.agg 29 (bytesD (rHash t)), .bool (decide (hexL (unhexF t) = t))] := by unfold unhexO rHash; split <;> simp [*]
def refP (s : List UInt8) : Option Qu := match FO s with
  | some (k, i) => some (qk k i)
  | none =>
    if 6 < s.length ∧ s.take 6 = wVal then (if isQ ⟨3, 0, s.drop 6, z32⟩ s then some ⟨3, 0, s.drop 6, z32⟩ else none)
    else if 8 < s.length ∧ s.take 8 = wRec then (if isQ ⟨4, 0, [], rHash (s.drop 8)⟩ s then some ⟨4, 0, [], rHash (s.drop 8)⟩ else none)
    else (FZ s).map fun k => qk k 0

def is6 (s : List UInt8) : Prop := 6 < s.length ∧ s.take 6 = wVal
def is8 (s : List UInt8) : Prop := 8 < s.length ∧ s.take 8 = wRec
theorem tree10a (s : List UInt8) (hs : s.length < 1000000000) (k i : Int) (hF : FO s = some (k, i)) : treeF (E10 m x y) fuel (bodyOf f10) f10.results.toList [.str (strL s)] = some [quD ((refP s).getD q0), .bool (refP s).isSome] := by
  have hz : List.replicate 32 (0 : UInt8) = z32 := rfl
  have h32 := z32_len
  have hl := loopO (m := m) (x := x) (y := y) s
  rw [show refP s = some (qk k i) from by simp [refP, hF]]
  rw [hF] at hl
  simp [-List.reduceReplicate, loopB, loopsOf, f10, hdO, K10, outO, quA, q0] at hl
  simp [-List.reduceReplicate, -ite_eq_left_iff, -ite_eq_right_iff, f10, K10, hz, exec_loop, keyC, hl, qk, q0]
theorem tree10b (s : List UInt8) (hs : s.length < 1000000000) (hF : FO s = none) (h6 : is6 s) : treeF (E10 m x y) fuel (bodyOf f10) f10.results.toList [.str (strL s)] = some [quD ((refP s).getD q0), .bool (refP s).isSome] := by
  have hz : List.replicate 32 (0 : UInt8) = z32 := rfl
  have h32 := z32_len
  have hl := loopO (m := m) (x := x) (y := y) s
  rw [hF] at hl
  simp [-List.reduceReplicate, loopB, loopsOf, f10, hdO, K10, outO, quA, q0] at hl
  have e : refP s = if isQ ⟨3, 0, s.drop 6, z32⟩ s then some ⟨3, 0, s.drop 6, z32⟩ else none := by unfold is6 at h6; simp [refP, hF, h6]
  rw [e]
  obtain ⟨h6, h6'⟩ := h6
  simp [-List.reduceReplicate, -ite_eq_left_iff, -ite_eq_right_iff, f10, K10, T10, hz, h32, q0, exec_loop, keyC, hl, h6']
  simp only [gd_eq, decide_eq_true_eq]
  refine ite_p (by omega) (ite_p ⟨by omega, rfl⟩ (chk_eq (by omega) (chk_eq (by omega) ?_)))
  cases hq : isQ ⟨3, 0, s.drop 6, z32⟩ s <;> simp
theorem tree10c (s : List UInt8) (hs : s.length < 1000000000) (hF : FO s = none) (h6 : ¬ is6 s) (h8 : is8 s) : treeF (E10 m x y) fuel (bodyOf f10) f10.results.toList [.str (strL s)] = some [quD ((refP s).getD q0), .bool (refP s).isSome] := by
  have hz : List.replicate 32 (0 : UInt8) = z32 := rfl
  have h32 := z32_len
  have hl := loopO (m := m) (x := x) (y := y) s
  rw [hF] at hl
  simp [-List.reduceReplicate, loopB, loopsOf, f10, hdO, K10, outO, quA, q0] at hl
  have e : refP s = if isQ ⟨4, 0, [], rHash (s.drop 8)⟩ s then some ⟨4, 0, [], rHash (s.drop 8)⟩ else none := by unfold is6 at h6; unfold is8 at h8; simp [refP, hF, h6, h8]
  rw [e]
  have h6i : (6 < (s.length : Int) ∧ List.take 6 s = [118, 97, 108, 117, 101, 32]) = False := eq_false fun h => h6 ⟨by omega, h.2⟩
  obtain ⟨h8, h8'⟩ := h8
  simp [-List.reduceReplicate, -ite_eq_left_iff, -ite_eq_right_iff, f10, K10, T10, hz, h32, q0, exec_loop, keyC, hl, h8', unhexO_eq, rHash_length]
  simp only [gd_eq, decide_eq_true_eq, h6i, if_false, ite_self]
  refine ite_p (by omega) (ite_p (by omega) (ite_p ⟨by omega, rfl⟩ (chk_eq (by omega) ?_)))
  cases hq : isQ ⟨4, 0, [], rHash (s.drop 8)⟩ s <;> simp
theorem tree10d (s : List UInt8) (hs : s.length < 1000000000) (hF : FO s = none) (h6 : ¬ is6 s) (h8 : ¬ is8 s) (hZ : FZ s = none) : treeF (E10 m x y) fuel (bodyOf f10) f10.results.toList [.str (strL s)] = some [quD ((refP s).getD q0), .bool (refP s).isSome] := by
  have hz : List.replicate 32 (0 : UInt8) = z32 := rfl
  have h32 := z32_len
  have hl := loopO (m := m) (x := x) (y := y) s
  rw [hF] at hl
  simp [-List.reduceReplicate, loopB, loopsOf, f10, hdO, K10, outO, quA, q0] at hl
  have hlZ := loopZ (m := m) (x := x) (y := y) s
  rw [hZ] at hlZ
  simp [-List.reduceReplicate, loopB, loopsOf, f10, hdZ, K10, outZ, quA, q0] at hlZ
  have e : refP s = none := by unfold is6 at h6; unfold is8 at h8; simp [refP, hF, h6, h8, hZ]
  rw [e]
  have h6i : (6 < (s.length : Int) ∧ List.take 6 s = [118, 97, 108, 117, 101, 32]) = False := eq_false fun h => h6 ⟨by omega, h.2⟩
  have h8i : (8 < (s.length : Int) ∧ List.take 8 s = [114, 101, 99, 101, 105, 112, 116, 32]) = False := eq_false fun h => h8 ⟨by omega, h.2⟩
  simp [-List.reduceReplicate, -ite_eq_left_iff, -ite_eq_right_iff, f10, K10, T10, hz, h32, q0, exec_loop, keyC, hl, hlZ, unhexO_eq, rHash_length]
  simp only [gd_eq, decide_eq_true_eq, h6i, h8i, if_false, ite_self]
  by_cases a6 : 6 ≤ (s.length : Int) <;> by_cases a8 : 8 ≤ (s.length : Int)
  all_goals repeat (first | refine ite_p (by omega) ?_ | refine ite_n (by omega) ?_ | refine chk_eq (by simp; omega) ?_ | refine chk_eq (by omega) ?_)
  all_goals rfl
theorem tree10e (s : List UInt8) (hs : s.length < 1000000000) (k : Int) (hF : FO s = none) (h6 : ¬ is6 s) (h8 : ¬ is8 s) (hZ : FZ s = some k) : treeF (E10 m x y) fuel (bodyOf f10) f10.results.toList [.str (strL s)] = some [quD ((refP s).getD q0), .bool (refP s).isSome] := by
  have hz : List.replicate 32 (0 : UInt8) = z32 := rfl
  have h32 := z32_len
  have hl := loopO (m := m) (x := x) (y := y) s
  rw [hF] at hl
  simp [-List.reduceReplicate, loopB, loopsOf, f10, hdO, K10, outO, quA, q0] at hl
  have hlZ := loopZ (m := m) (x := x) (y := y) s
  rw [hZ] at hlZ
  simp [-List.reduceReplicate, loopB, loopsOf, f10, hdZ, K10, outZ, quA, q0] at hlZ
  have e : refP s = some (qk k 0) := by unfold is6 at h6; unfold is8 at h8; simp [refP, hF, h6, h8, hZ]
  rw [e]
  have h6i : (6 < (s.length : Int) ∧ List.take 6 s = [118, 97, 108, 117, 101, 32]) = False := eq_false fun h => h6 ⟨by omega, h.2⟩
  have h8i : (8 < (s.length : Int) ∧ List.take 8 s = [114, 101, 99, 101, 105, 112, 116, 32]) = False := eq_false fun h => h8 ⟨by omega, h.2⟩
  simp [-List.reduceReplicate, -ite_eq_left_iff, -ite_eq_right_iff, f10, K10, T10, hz, h32, q0, exec_loop, keyC, hl, hlZ, unhexO_eq, rHash_length]
  simp only [gd_eq, decide_eq_true_eq, h6i, h8i, if_false, ite_self]
  simp only [qk]
  by_cases a6 : 6 ≤ (s.length : Int) <;> by_cases a8 : 8 ≤ (s.length : Int)
  all_goals repeat (first | refine ite_p (by omega) ?_ | refine ite_n (by omega) ?_ | refine chk_eq (by simp; omega) ?_ | refine chk_eq (by omega) ?_)
  all_goals rfl

theorem tree10 (s : List UInt8) (hs : s.length < 1000000000) : treeF (E10 m x y) fuel (bodyOf f10) f10.results.toList [.str (strL s)] = some [quD ((refP s).getD q0), .bool (refP s).isSome] := by
  cases hF : FO s with
  | some r => exact tree10a s hs r.1 r.2 hF
  | none =>
    by_cases h6 : is6 s
    · exact tree10b s hs hF h6
    by_cases h8 : is8 s
    · exact tree10c s hs hF h6 h8
    cases hZ : FZ s with
    | none => exact tree10d s hs hF h6 h8 hZ
    | some k => exact tree10e s hs k hF h6 h8 hZ

noncomputable def s10 : List DV → Option (List DV) := specOf (fun s : List UInt8 => [.str (strL s)]) (fun s => [quD ((refP s).getD q0), .bool (refP s).isSome]) (fun s => s.length < 1000000000)
@[simp] theorem s10_eq (s : List UInt8) : s10 [.str (strL s)] = chk (s.length < 1000000000) (some [quD ((refP s).getD q0), .bool (refP s).isSome]) := specOf_eq (fun a b h => by simpa using h) s
theorem m10 : Meets prog (QG m x y) 10 (.pure s10) := meets_spec (l := T10 m x y) K10 ⟨m29, m_rKeep, m31, trivial⟩ orders func10 (by kernel_rfl) (fun _ => by simp [f10]) fun s h => tree10 s h

end
end Go.Tith
