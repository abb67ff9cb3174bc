/- Hexadecimal texts, digits, keys, accounts, searches, on trees. A part of the proof: no condition of mine beyond what each theorem states. -/
import Derived.Test.YtbnffdelhejbiaaGreatDoorQl
import Derived.Laws.RangeAny
import Derived.Laws.Strings3
import Derived.Laws.Slices
import Derived.Laws.Small
import Derived.Scope
import Derived.LoopTactic
import Derived.Lib.Hide

namespace Go.Tith
open Go.Proofs Go.Proofs.Tryz

/-- The digits. -/
def digL : List UInt8 := [48, 49, 50, 51, 52, 53, 54, 55, 56, 57, 97, 98, 99, 100, 101, 102]
def hexd (n : Nat) : UInt8 := (digL[n]?).getD 0
def hexB (b : UInt8) : List UInt8 := [hexd (b.toNat / 16), hexd (b.toNat % 16)]
def hexL (h : List UInt8) : List UInt8 := h.flatMap hexB

theorem dig_cut : ∀ n, n < 16 → (digL.take (n + 1)).drop n = [hexd n] := by decide
theorem ata_dig (n : Nat) : ata [48, 49, 50, 51, 52, 53, 54, 55, 56, 57, 97, 98, 99, 100, 101, 102] n = hexd n := by unfold ata hexd; rfl
theorem dig_at : ∀ n, n < 16 → ata digL n = hexd n := fun n _ => by unfold ata hexd; rfl

/-- A number as a byte. -/
def u8 (z : Int) : UInt8 := UInt8.ofNat (z % 256).toNat
theorem u8_toNat (z : Int) : ((u8 z).toNat : Int) = z % 256 := by
  unfold u8
  simp
  omega
theorem wrap_u8_eq (z : Int) : IntKind.wrap .u8 z = ((u8 z).toNat : Int) := by
  rw [u8_toNat]
  simp [IntKind.wrap, IntKind.bits, IntKind.signed]

section
variable {m : Int} {x y : Value}

/-! ### ref02.Hex -/
def K36 : Nat → Option (List Nat × List Nat) := fun k => if k = 4 then some ([1, 2, 3, 4, 5], []) else none
noncomputable abbrev E36 (m : Int) (x y : Value) : Env := ⟨prog, look [], QG m x y, K36⟩
def hd36 (bs : List UInt8) (s : Nat × List UInt8) : St :=
  ⟨envK [(1, .ptr 0 []), (2, .d (.str (strL []))), (3, .d (.str (strL digL))), (4, .d (.str (strL s.2))), (5, .d (.int .i64 s.1))], ⟨[(30, .d (.agg 29 (bytesD bs)))], []⟩⟩
def st36 (bs : List UInt8) (s : Nat × List UInt8) : Nat × List UInt8 ⊕ List UInt8 :=
  if s.1 < 32 then .inl (s.1 + 1, s.2 ++ hexB (ata bs s.1)) else .inr s.2

theorem step36 (n : Nat) (bs : List UInt8) (hbs : bs.length = 32) (s : Nat × List UInt8) (hI : s.1 ≤ 32 ∧ s.2.length = 2 * s.1) :
    round (exec (E36 m x y) n (loopB f36 0)) (K36 4) 1 (hd36 bs s) = some ((st36 bs s).elim (fun s' => (.normal, hd36 bs s')) fun r => (.exit 0, hd36 bs (32, r))) := by
  obtain ⟨i, s⟩ := s
  obtain ⟨hi, hs⟩ := hI
  simp only at hi hs
  unfold st36
  by_cases h : i < 32
  · simp [-List.reduceReplicate, loopB, loopsOf, f36, hd36, K36, h]
    have hb := (ata bs i).toNat_lt
    have c : digL.length = 16 := rfl
    simp (disch := omega) only [wrap_u8, wrap_i64, tmod_pos]
    repeat (first | refine chk_eq (by omega) ?_ | refine ite_p (by omega) ?_ | refine ite_n (by omega) ?_)
    have e1 : (((ata bs i).toNat : Int) / 16).toNat = (ata bs i).toNat / 16 := by omega
    have e2 : (((ata bs i).toNat : Int) / 16 + 1).toNat = (ata bs i).toNat / 16 + 1 := by omega
    have e3 : (((ata bs i).toNat : Int) % 16).toNat = (ata bs i).toNat % 16 := by omega
    have e4 : (((ata bs i).toNat : Int) % 16 + 1).toNat = (ata bs i).toNat % 16 + 1 := by omega
    rw [e1, e2, e3, e4, dig_cut _ (by omega), dig_cut _ (by omega)]
    rfl
  · obtain rfl : i = 32 := by omega
    simp [-List.reduceReplicate, loopB, loopsOf, f36, hd36, K36]

theorem itr36 (bs : List UInt8) (hbs : bs.length = 32) : itr (st36 bs) fuel (0, []) = some (hexL bs) := by
  refine (itr_measure (step := st36 bs) (fun s => s.1 ≤ 32) (fun s => 32 - s.1) (fun s => s.2 ++ hexL (bs.drop s.1)) (fun s hs => ?_) fuel (0, []) (by simp) (by simp [fuel])).trans (by simp)
  obtain ⟨i, s⟩ := s
  simp only at hs
  by_cases h : i < 32
  · refine .inl ⟨_, by simp [st36, h]; rfl, by simp; omega, by simp; omega, ?_⟩
    have : bs.drop i = ata bs i :: bs.drop (i + 1) := by
      rw [List.drop_eq_getElem_cons (by omega), ata_lt]
    simp [this, hexL]
  · obtain rfl : i = 32 := by omega
    refine .inr ?_
    simp [st36, List.drop_of_length_le (show bs.length ≤ 32 by omega), hexL]

theorem loop36 (bs : List UInt8) (hbs : bs.length = 32) : loopN (exec (E36 m x y) fuel (loopB f36 0)) (K36 4) 1 fuel (hd36 bs (0, [])) = some (.exit 0, hd36 bs (32, hexL bs)) :=
  loop_itr (hd36 bs) (fun r => (.exit 0, hd36 bs (32, r))) (fun _ => by simp) (st36 bs) (fun s => s.1 ≤ 32 ∧ s.2.length = 2 * s.1) (step36 (m := m) (x := x) (y := y) fuel bs hbs) (fun s s' hs he => by
    unfold st36 at he
    split at he
    · simp at he; subst he; simp [hexB]; omega
    · cases he) fuel (0, []) (hexL bs) (by simp) (itr36 bs hbs)

theorem tree36 (bs : List UInt8) (hbs : bs.length = 32) : treeF (E36 m x y) fuel (bodyOf f36) f36.results.toList [.agg 29 (bytesD bs)] = some [.str (strL (hexL bs))] := by
  have h := loop36 (m := m) (x := x) (y := y) bs hbs
  simp [-List.reduceReplicate, loopB, loopsOf, f36, hd36, K36] at h
  simp [-List.reduceReplicate, f36, exec_loop, keyC, K36, h, show [48, 49, 50, 51, 52, 53, 54, 55, 56, 57, 97, 98, 99, 100, 101, 102] = digL from rfl]

noncomputable def s36 : List DV → Option (List DV) := specOf (fun l : List UInt8 => [.agg 29 (bytesD l)]) (fun l => [.str (strL (hexL l))]) (fun l => l.length = 32)
@[simp] theorem s36_eq (l : List UInt8) : s36 [.agg 29 (bytesD l)] = chk (l.length = 32) (some [.str (strL (hexL l))]) := specOf_eq (fun a b h => by simpa using h) l
theorem m36 : Meets prog (QG m x y) 36 (.pure s36) := meets_spec (l := []) K36 trivial orders func36 (by kernel_rfl) (fun _ => by simp [f36]) fun l h => tree36 l h

/-! ### sha.Hex -/
noncomputable def aWB (m : Int) (x y : Value) := autoE prog (QG m x y) [(63, .eff sCC)] (fun _ => none) f44
theorem m_WB : Meets prog (QG m x y) 44 (.eff (aWB m x y)) := auto_meetsE (fun _ => none) ⟨m_CC, trivial⟩ orders func44 (by kernel_rfl)

noncomputable def T56 (m : Int) (x y : Value) : List (FuncId × Spec) := [(44, .eff (aWB m x y)), (47, .eff sBString)]
def K56 : Nat → Option (List Nat × List Nat) := fun k => if k = 3 then some ([2, 3, 6, 7], [3]) else none
noncomputable abbrev E56 (m : Int) (x y : Value) : Env := ⟨prog, look (T56 m x y), QG m x y, K56⟩
def hd56 (bs : List UInt8) (s : Nat × List UInt8 × AV) : St :=
  ⟨envK [(2, .d (.str (strL []))), (3, .ptr 1 []), (6, .d (.agg 29 (bytesD bs))), (7, .d (.int .i64 s.1))], ⟨[(30, .d (.agg 29 (bytesD bs))), (84, .agg 83 [s.2.2, .lst (some 0) 5 (bytesD s.2.1)])], [s.2.1.length]⟩⟩
def st56 (bs : List UInt8) (s : Nat × List UInt8 × AV) : Nat × List UInt8 × AV ⊕ Nat × List UInt8 × AV :=
  if s.1 < 32 then .inl (s.1 + 1, s.2.1 ++ hexB (ata bs s.1), .ptr 1 []) else .inr s

theorem step56 (n : Nat) (bs : List UInt8) (hbs : bs.length = 32) (s : Nat × List UInt8 × AV) (hI : s.1 ≤ 32 ∧ s.2.1.length = 2 * s.1 ∧ (s.2.2 = .d .nil ∨ s.2.2 = .ptr 1 [])) :
    round (exec (E56 m x y) n (loopB f56 0)) (K56 3) 2 (hd56 bs s) = some ((st56 bs s).elim (fun s' => (.normal, hd56 bs s')) fun r => (.exit 0, hd56 bs r)) := by
  obtain ⟨i, s, a⟩ := s
  obtain ⟨hi, hs, ha⟩ := hI
  simp only at hi hs ha
  unfold st56
  by_cases h : i < 32
  · have hb := (ata bs i).toNat_lt
    have e1 : (((ata bs i).toNat : Int) / 16).toNat = (ata bs i).toNat / 16 := by omega
    have e3 : (((ata bs i).toNat : Int) % 16).toNat = (ata bs i).toNat % 16 := by omega
    rcases ha with rfl | rfl
    all_goals
      simp [-List.reduceReplicate, loopB, loopsOf, f56, f44, aWB, autoE, sCC, ccK, T56, hd56, K56, h]
      simp (disch := omega) only [wrap_u8, wrap_i64, tmod_pos]
      repeat (first | refine chk_eq (by omega) ?_ | refine ite_p (by omega) ?_ | refine ite_n (by omega) ?_)
      rw [ata_dig, ata_dig, e1, e3]
      rfl
  · obtain rfl : i = 32 := by omega
    simp [-List.reduceReplicate, loopB, loopsOf, f56, hd56, K56]

theorem itr56 (bs : List UInt8) (hbs : bs.length = 32) : itr (st56 bs) fuel (0, [], .d .nil) = some (32, hexL bs, .ptr 1 []) := by
  refine (itr_measure (step := st56 bs) (fun s => s.1 ≤ 32 ∧ (s.1 = 32 → s.2.2 = .ptr 1 [])) (fun s => 32 - s.1) (fun s => (32, s.2.1 ++ hexL (bs.drop s.1), .ptr 1 [])) (fun s hs => ?_) fuel (0, [], .d .nil) (by simp) (by simp [fuel])).trans (by simp)
  obtain ⟨i, s, a⟩ := s
  simp only at hs
  by_cases h : i < 32
  · refine .inl ⟨_, by simp [st56, h]; rfl, by simp; omega, by simp; omega, ?_⟩
    have : bs.drop i = ata bs i :: bs.drop (i + 1) := by
      rw [List.drop_eq_getElem_cons (by omega), ata_lt]
    simp [this, hexL]
  · obtain rfl : i = 32 := by omega
    refine .inr ?_
    simp [st56, List.drop_of_length_le (show bs.length ≤ 32 by omega), hexL, hs.2]

theorem loop56 (bs : List UInt8) (hbs : bs.length = 32) : loopN (exec (E56 m x y) fuel (loopB f56 0)) (K56 3) 2 fuel (hd56 bs (0, [], .d .nil)) = some (.exit 0, hd56 bs (32, hexL bs, .ptr 1 [])) :=
  loop_itr (hd56 bs) (fun r => (.exit 0, hd56 bs r)) (fun _ => by simp) (st56 bs) (fun s => s.1 ≤ 32 ∧ s.2.1.length = 2 * s.1 ∧ (s.2.2 = .d .nil ∨ s.2.2 = .ptr 1 [])) (step56 (m := m) (x := x) (y := y) fuel bs hbs) (fun s s' hs he => by
    unfold st56 at he
    split at he
    · simp at he; subst he; simp [hexB]; omega
    · cases he) fuel (0, [], .d .nil) (32, hexL bs, .ptr 1 []) (by simp) (itr56 bs hbs)

theorem hexL_length (bs : List UInt8) : (hexL bs).length = 2 * bs.length := by
  unfold hexL
  induction bs with
  | nil => rfl
  | cons b bs ih => simp [hexB, ih]; omega

theorem tree56 (bs : List UInt8) (hbs : bs.length = 32) : treeF (E56 m x y) fuel (bodyOf f56) f56.results.toList [.agg 29 (bytesD bs)] = some [.str (strL (hexL bs))] := by
  have h := loop56 (m := m) (x := x) (y := y) bs hbs
  have hl := hexL_length bs
  have nil : bytesD [] = [] := by simp [bytesD_eq]
  simp [-List.reduceReplicate, loopB, loopsOf, f56, hd56, K56, nil] at h
  simp [-List.reduceReplicate, f56, exec_loop, keyC, K56, h, T56, sBString, bstrK, bstrK2]
  exact chk_eq (fun h => by rw [h] at hl; simp at hl; omega) rfl

noncomputable def s56 : List DV → Option (List DV) := specOf (fun l : List UInt8 => [.agg 29 (bytesD l)]) (fun l => [.str (strL (hexL l))]) (fun l => l.length = 32)
@[simp] theorem s56_eq (l : List UInt8) : s56 [.agg 29 (bytesD l)] = chk (l.length = 32) (some [.str (strL (hexL l))]) := specOf_eq (fun a b h => by simpa using h) l
theorem m56 : Meets prog (QG m x y) 56 (.pure s56) := meets_spec (l := T56 m x y) K56 ⟨m_WB, m_BString, trivial⟩ orders func56 (by kernel_rfl) (fun _ => by simp [f56]) fun l h => tree56 l h

/-! ### ref02.Unhex -/
def z32 : List UInt8 := List.replicate 32 0
def undig (c : UInt8) : UInt8 := if 97 ≤ (c.toNat : Int) then u8 ((c.toNat : Int) - 87) else u8 ((c.toNat : Int) - 48)
def unst (s : List UInt8) (i : Nat) (h : List UInt8) : List UInt8 := h.set (i / 2) (u8 (((u8 (((ata h (i / 2)).toNat : Int) * 16)).toNat : Int) + ((undig (ata s i)).toNat : Int) % 16))

def K31 : Nat → Option (List Nat × List Nat) := fun k => if k = 3 then some ([0, 2, 3, 4, 5], []) else none
noncomputable def T31 : List (FuncId × Spec) := [(36, .pure s36)]
noncomputable abbrev E31 (m : Int) (x y : Value) : Env := ⟨prog, look T31, QG m x y, K31⟩
def hd31 (t : List UInt8) (s : Nat × List UInt8) : St :=
  ⟨envK [(0, .d (.str (strL t))), (2, .ptr 0 []), (3, .d (.bool false)), (4, .ptr 1 []), (5, .d (.int .i64 s.1))], ⟨[(30, .d (.agg 29 (bytesD z32))), (30, .d (.agg 29 (bytesD s.2)))], []⟩⟩
def st31 (t : List UInt8) (s : Nat × List UInt8) : Nat × List UInt8 ⊕ Nat × List UInt8 :=
  if s.1 < 64 ∧ s.1 < t.length then .inl (s.1 + 1, unst t s.1 s.2) else .inr s

theorem step31 (n : Nat) (t : List UInt8) (s : Nat × List UInt8) (hI : s.1 ≤ 64 ∧ s.2.length = 32) :
    round (exec (E31 m x y) n (loopB f31 0)) (K31 3) 2 (hd31 t s) = some ((st31 t s).elim (fun s' => (.normal, hd31 t s')) fun r => (.exit 0, hd31 t r)) := by
  obtain ⟨i, s⟩ := s
  obtain ⟨hi, hs⟩ := hI
  simp only at hi hs
  have hd2 : ((i : Int) / 2).toNat = i / 2 := by omega
  by_cases h : i < 64 ∧ i < t.length
  · rw [show st31 t (i, s) = .inl (i + 1, unst t i s) from by simp [st31, h]]
    simp [-List.reduceReplicate, -ite_eq_left_iff, -ite_eq_right_iff, loopB, loopsOf, f31, hd31, K31]
    simp only [gd_eq, decide_eq_true_eq]
    have hu : undig (ata t i) = if 97 ≤ ((ata t i).toNat : Int) then u8 (((ata t i).toNat : Int) - 87) else u8 (((ata t i).toNat : Int) - 48) := rfl
    unfold unst
    rw [hu]
    by_cases h97 : 97 ≤ ((ata t i).toNat : Int)
    all_goals
      simp (disch := omega) only [wrap_i64, hd2]
      simp (disch := omega) only [wrap_u8_eq, tmod_pos, h97, if_true, if_false]
      repeat (first | refine chk_eq (by omega) ?_ | refine ite_p (by omega) ?_ | refine ite_n (by omega) ?_)
      simp only [bytesD_set]
  · rw [show st31 t (i, s) = .inr (i, s) from by simp [st31, h]]
    simp [-List.reduceReplicate, -ite_eq_left_iff, -ite_eq_right_iff, loopB, loopsOf, f31, hd31, K31]
    simp only [gd_eq, decide_eq_true_eq]
    refine ite_n (by omega) rfl

def unfold31 (t : List UInt8) : Nat → Nat × List UInt8 → Nat × List UInt8
  | 0, s => s
  | k + 1, s => if s.1 < 64 ∧ s.1 < t.length then unfold31 t k (s.1 + 1, unst t s.1 s.2) else s
/-- What ref02.Unhex reads. -/
def unhexF (t : List UInt8) : List UInt8 := (unfold31 t 64 (0, z32)).2

theorem unst_length (t : List UInt8) (i : Nat) (h : List UInt8) : (unst t i h).length = h.length := by simp [unst]
theorem unf_length (t : List UInt8) : ∀ k s, (unfold31 t k s).2.length = s.2.length
  | 0, s => rfl
  | k + 1, s => by
    simp only [unfold31]
    split
    · rw [unf_length t k]; simp [unst_length]
    · rfl
theorem unhexF_length (t : List UInt8) : (unhexF t).length = 32 := by unfold unhexF; rw [unf_length]; simp [z32]

theorem itr31 (t : List UInt8) : itr (st31 t) fuel (0, z32) = some (unfold31 t 64 (0, z32)) := by
  have key : ∀ k n s, s.1 + k = 64 → k < n → itr (st31 t) n s = some (unfold31 t k s) := by
    intro k
    induction k with
    | zero =>
      intro n s hs hn
      obtain ⟨n, rfl⟩ : ∃ n', n = n' + 1 := ⟨n - 1, by omega⟩
      simp [itr, st31, unfold31, show ¬ s.1 < 64 by omega]
    | succ k ih =>
      intro n s hs hn
      obtain ⟨n, rfl⟩ : ∃ n', n = n' + 1 := ⟨n - 1, by omega⟩
      simp only [itr, st31, unfold31]
      split
      · rename_i h1
        split at h1
        · rename_i hc
          simp only [Sum.inl.injEq] at h1; subst h1
          rw [if_pos hc]
          exact ih n _ (by simp; omega) (by omega)
        · cases h1
      · rename_i h1
        split at h1
        · cases h1
        · rename_i hc
          simp only [Sum.inr.injEq] at h1; subst h1
          rw [if_neg hc]
  exact key 64 fuel (0, z32) rfl (by simp [fuel])

theorem loop31 (t : List UInt8) : loopN (exec (E31 m x y) fuel (loopB f31 0)) (K31 3) 2 fuel (hd31 t (0, z32)) = some (.exit 0, hd31 t (unfold31 t 64 (0, z32))) :=
  loop_itr (hd31 t) (fun r => (.exit 0, hd31 t r)) (fun _ => by simp) (st31 t) (fun s => s.1 ≤ 64 ∧ s.2.length = 32) (step31 (m := m) (x := x) (y := y) fuel t) (fun s s' hs he => by
    unfold st31 at he
    split at he
    · simp at he; subst he; simp [unst_length]; omega
    · cases he) fuel (0, z32) _ (by simp [z32]) (itr31 t)

/-- What both of them tell. -/
def unhexO (t : List UInt8) : List DV := if hexL (unhexF t) = t then [.agg 29 (bytesD (unhexF t)), .bool true] else [.agg 29 (bytesD z32), .bool false]

theorem tree31 (t : List UInt8) : treeF (E31 m x y) fuel (bodyOf f31) f31.results.toList [.str (strL t)] = some (unhexO t) := by
  have h := loop31 (m := m) (x := x) (y := y) t
  have hl := unhexF_length t
  unfold unhexF at hl
  generalize hq : unfold31 t 64 (0, z32) = q at h hl
  have hz : bytesD z32 = bytesD (List.replicate 32 0) := rfl
  simp [-List.reduceReplicate, loopB, loopsOf, f31, hd31, K31, hz] at h
  simp [-List.reduceReplicate, -ite_eq_left_iff, -ite_eq_right_iff, f31, exec_loop, keyC, K31, h, T31]
  refine chk_eq hl ?_
  unfold unhexO unhexF
  rw [hq]
  split <;> rfl

noncomputable def s31 : List DV → Option (List DV) := specOf (fun l : List UInt8 => [.str (strL l)]) unhexO (fun _ => True)
@[simp] theorem s31_eq (l : List UInt8) : s31 [.str (strL l)] = some (unhexO l) := (specOf_eq (fun a b h => by simpa using h) l).trans chk_true
theorem m31 : Meets prog (QG m x y) 31 (.pure s31) := meets_spec (l := T31) K31 ⟨m36, trivial⟩ orders func31 (by kernel_rfl) (fun _ => by simp [f31]) fun l h => tree31 l

/-! ### sha.Unhex -/
def ixd (c : UInt8) : Int := Lib.indexByte digL c
def K52 : Nat → Option (List Nat × List Nat) := fun k => if k = 5 then some ([0, 2, 3, 4, 12], []) else none
noncomputable def T52 : List (FuncId × Spec) := [(71, .pure sIndexByte)]
noncomputable abbrev E52 (m : Int) (x y : Value) : Env := ⟨prog, look T52, QG m x y, K52⟩
def hd52 (t : List UInt8) (s : Nat × List UInt8) : St :=
  ⟨envK [(0, .d (.str (strL t))), (2, .ptr 0 []), (3, .d (.bool false)), (4, .ptr 1 []), (12, .d (.int .i64 s.1))], ⟨[(30, .d (.agg 29 (bytesD z32))), (30, .d (.agg 29 (bytesD s.2)))], []⟩⟩
def st52 (t : List UInt8) (s : Nat × List UInt8) : Nat × List UInt8 ⊕ Bool × Nat × List UInt8 :=
  if s.1 < 32 then
    if ixd (ata t (2 * s.1)) < 0 ∨ ixd (ata t (2 * s.1 + 1)) < 0 then .inr (false, s)
    else .inl (s.1 + 1, s.2.set s.1 (u8 (16 * ixd (ata t (2 * s.1)) + ixd (ata t (2 * s.1 + 1)))))
  else .inr (true, s)

theorem ixd_all : ((List.range 256).all fun n => decide (-1 ≤ ixd (UInt8.ofNat n) ∧ ixd (UInt8.ofNat n) < 16 ∧ (0 ≤ ixd (UInt8.ofNat n) → UInt8.ofNat n = hexd (ixd (UInt8.ofNat n)).toNat))) = true := by decide +kernel
theorem ixd_at (c : UInt8) : -1 ≤ ixd c ∧ ixd c < 16 ∧ (0 ≤ ixd c → c = hexd (ixd c).toNat) := by
  have := List.all_eq_true.1 ixd_all c.toNat (List.mem_range.2 (by have := c.toNat_lt; simpa using this))
  have h2 := of_decide_eq_true this
  simp only [UInt8.ofNat_toNat] at h2
  exact h2
theorem ixd_range (c : UInt8) : -1 ≤ ixd c ∧ ixd c < 16 := ⟨(ixd_at c).1, (ixd_at c).2.1⟩
theorem ixd_hexd : ∀ n, n < 16 → ixd (hexd n) = n := by decide +kernel
theorem undig_hexd : ∀ n, n < 16 → (undig (hexd n)).toNat = n := by decide +kernel

theorem step52 (n : Nat) (t : List UInt8) (ht : t.length = 64) (s : Nat × List UInt8) (hI : s.1 ≤ 32 ∧ s.2.length = 32) :
    round (exec (E52 m x y) n (loopB f52 0)) (K52 5) 2 (hd52 t s) = some ((st52 t s).elim (fun s' => (.normal, hd52 t s')) fun r => (if r.1 then .exit 0 else .ret, hd52 t r.2)) := by
  obtain ⟨i, s⟩ := s
  obtain ⟨hi, hs⟩ := hI
  simp only at hi hs
  by_cases h : i < 32
  · have r1 := ixd_range (ata t (2 * i))
    have r2 := ixd_range (ata t (2 * i + 1))
    have e1 : (2 * (i : Int)).toNat = 2 * i := by omega
    have e2 : (2 * (i : Int) + 1).toNat = 2 * i + 1 := by omega
    have hz : bytesD z32 = bytesD (List.replicate 32 0) := rfl
    simp [-List.reduceReplicate, -ite_eq_left_iff, -ite_eq_right_iff, loopB, loopsOf, f52, hd52, K52, T52, sIndexByte]
    simp only [gd_eq, decide_eq_true_eq]
    simp (disch := omega) only [wrap_i64, e1, e2]
    have hx : ∀ c, Lib.indexByte [48, 49, 50, 51, 52, 53, 54, 55, 56, 57, 97, 98, 99, 100, 101, 102] c = ixd c := fun _ => rfl
    simp only [hx]
    by_cases hc : ixd (ata t (2 * i)) < 0 ∨ ixd (ata t (2 * i + 1)) < 0
    · rw [show st52 t (i, s) = .inr (false, i, s) from by simp [st52, h, hc]]
      repeat (first | refine chk_eq (by omega) ?_ | refine ite_p (by omega) ?_ | refine ite_n (by omega) ?_)
      simp [hz]
    · rw [show st52 t (i, s) = .inl (i + 1, s.set i (u8 (16 * ixd (ata t (2 * i)) + ixd (ata t (2 * i + 1))))) from by simp [st52, h, hc]]
      simp (disch := omega) only [wrap_i64]
      simp only [wrap_u8_eq, bytesD_set]
      repeat (first | refine chk_eq (by omega) ?_ | refine ite_p (by omega) ?_ | refine ite_n (by omega) ?_)
      simp
  · obtain rfl : i = 32 := by omega
    rw [show st52 t (32, s) = .inr (true, 32, s) from by simp [st52]]
    simp [-List.reduceReplicate, -ite_eq_left_iff, -ite_eq_right_iff, loopB, loopsOf, f52, hd52, K52]

theorem hexL_cut (h : List UInt8) (i : Nat) (hi : i < h.length) (t : List UInt8) (ht : hexL (h.take i) = t.take (2 * i)) (h1 : ata t (2 * i) = hexd ((ata h i).toNat / 16)) (h2 : ata t (2 * i + 1) = hexd ((ata h i).toNat % 16)) (hl : 2 * i + 1 < t.length) :
    hexL (h.take (i + 1)) = t.take (2 * (i + 1)) := by
  have e1 : h.take (i + 1) = h.take i ++ [ata h i] := by rw [List.take_succ_eq_append_getElem hi, ata_lt hi]
  have e2 : t.take (2 * (i + 1)) = t.take (2 * i) ++ [ata t (2 * i), ata t (2 * i + 1)] := by
    rw [show 2 * (i + 1) = (2 * i + 1) + 1 by omega, List.take_succ_eq_append_getElem (by omega), List.take_succ_eq_append_getElem (by omega), ata_lt (by omega), ata_lt (by omega), List.append_assoc]
    rfl
  rw [e1, e2, ← ht, h1, h2]
  simp [hexL, hexB]

theorem ata_set_eq {α : Type} [Inhabited α] {l : List α} {i : Nat} {v : α} (h : i < l.length) : ata (l.set i v) i = v := ata_some (by simp [h])

theorem itr52 (t : List UInt8) (ht : t.length = 64) : ∃ r, itr (st52 t) fuel (0, z32) = some r ∧ r.2.2.length = 32 ∧ (r.1 = true → hexL r.2.2 = t) ∧ (r.1 = false → ∃ k, k < 64 ∧ ixd (ata t k) < 0) := by
  obtain ⟨s, r, h1, ⟨hI, hl, hx⟩, h2⟩ := itr_ends (step := st52 t) (fun s => s.1 ≤ 32 ∧ s.2.length = 32 ∧ hexL (s.2.take s.1) = t.take (2 * s.1)) (fun s => 32 - s.1) (fun s s' hI he => by
    obtain ⟨i, s⟩ := s
    obtain ⟨hi, hl, hx⟩ := hI
    simp only at hi hl hx
    unfold st52 at he
    split at he
    · rename_i hlt
      simp only at hlt
      split at he
      · cases he
      · rename_i hc
        simp only [Sum.inl.injEq] at he; subst he
        simp only at hc
        refine ⟨⟨by simp; omega, by simp [hl], ?_⟩, by simp; omega⟩
        obtain ⟨a1, a2, a3⟩ := ixd_at (ata t (2 * i))
        obtain ⟨b1, b2, b3⟩ := ixd_at (ata t (2 * i + 1))
        have hv := u8_toNat (16 * ixd (ata t (2 * i)) + ixd (ata t (2 * i + 1)))
        have hset : ata (s.set i (u8 (16 * ixd (ata t (2 * i)) + ixd (ata t (2 * i + 1))))) i = u8 (16 * ixd (ata t (2 * i)) + ixd (ata t (2 * i + 1))) := ata_set_eq (by omega)
        refine hexL_cut _ i (by simp; omega) t ?_ ?_ ?_ (by omega)
        · rw [List.take_set_of_le (Nat.le_refl i)]; exact hx
        · rw [hset]
          have : (ixd (ata t (2 * i))).toNat = (u8 (16 * ixd (ata t (2 * i)) + ixd (ata t (2 * i + 1)))).toNat / 16 := by omega
          rw [← this]; exact a3 (by omega)
        · rw [hset]
          have : (ixd (ata t (2 * i + 1))).toNat = (u8 (16 * ixd (ata t (2 * i)) + ixd (ata t (2 * i + 1)))).toNat % 16 := by omega
          rw [← this]; exact b3 (by omega)
    · cases he) fuel (0, z32) (by simp [z32, hexL]) (by simp [fuel])
  obtain ⟨i, s⟩ := s
  simp only at hI hl hx
  unfold st52 at h2
  split at h2
  · rename_i hlt
    simp only at hlt
    split at h2
    · rename_i hc
      simp only [Sum.inr.injEq] at h2; subst h2
      refine ⟨_, h1, hl, by simp, fun _ => ?_⟩
      simp only at hc
      rcases hc with hc | hc
      · exact ⟨2 * i, by omega, hc⟩
      · exact ⟨2 * i + 1, by omega, hc⟩
    · cases h2
  · rename_i hlt
    simp only at hlt
    simp only [Sum.inr.injEq] at h2; subst h2
    obtain rfl : i = 32 := by omega
    refine ⟨_, h1, hl, fun _ => ?_, by simp⟩
    simp only
    rw [List.take_of_length_le (by omega), List.take_of_length_le (by omega)] at hx
    exact hx

theorem two31 (h : List UInt8) (hl : h.length = 32) (k : Nat) (hk : k < 32) : unst (hexL h) (2 * k + 1) (unst (hexL h) (2 * k) (h.take k ++ List.replicate (32 - k) 0)) = h.take (k + 1) ++ List.replicate (32 - (k + 1)) 0 := by
  have hd : ∀ (l : List UInt8) (k : Nat), k < l.length → ata (hexL l) (2 * k) = hexd ((ata l k).toNat / 16) ∧ ata (hexL l) (2 * k + 1) = hexd ((ata l k).toNat % 16) := by
    intro l
    induction l with
    | nil => intro k hk; simp at hk
    | cons b l ih =>
      intro k hk
      cases k with
      | zero => simp [hexL, hexB]
      | succ k =>
        have := ih k (by simpa using hk)
        simp only [hexL, List.flatMap_cons, hexB] at this ⊢
        rw [show 2 * (k + 1) = 2 * k + 1 + 1 by omega, show 2 * k + 1 + 1 + 1 = (2 * k + 1) + 1 + 1 by omega]
        simpa using this
  obtain ⟨d1, d2⟩ := hd h k (by omega)
  have hb := (ata h k).toNat_lt
  have e1 : (undig (ata (hexL h) (2 * k))).toNat = (ata h k).toNat / 16 := by rw [d1]; exact undig_hexd _ (by omega)
  have e2 : (undig (ata (hexL h) (2 * k + 1))).toNat = (ata h k).toNat % 16 := by rw [d2]; exact undig_hexd _ (by omega)
  have hlen : (h.take k).length = k := by simp; omega
  have a0 : ata (h.take k ++ List.replicate (32 - k) 0) k = 0 := ata_some (by rw [List.getElem?_append_right (by omega), hlen, Nat.sub_self, List.getElem?_replicate, if_pos (by omega)])
  have hz0 : (0 : UInt8).toNat = 0 := rfl
  have v1 := u8_toNat (((u8 (((0 : UInt8).toNat : Int) * 16)).toNat : Int) + ((ata h k).toNat / 16 : Nat) % 16)
  have v0 := u8_toNat (((0 : UInt8).toNat : Int) * 16)
  simp only [unst, show 2 * k / 2 = k by omega, show (2 * k + 1) / 2 = k by omega, e1, e2, a0]
  rw [ata_set_eq (by simp; omega), List.set_set]
  generalize hu : u8 (((u8 (((0 : UInt8).toNat : Int) * 16)).toNat : Int) + ((ata h k).toNat / 16 : Nat) % 16) = u at v1
  have hu2 : u.toNat = (ata h k).toNat / 16 := by omega
  have v2 := u8_toNat (((u8 ((u.toNat : Int) * 16)).toNat : Int) + ((ata h k).toNat % 16 : Nat) % 16)
  have v3 := u8_toNat ((u.toNat : Int) * 16)
  have hfin : u8 (((u8 ((u.toNat : Int) * 16)).toNat : Int) + ((ata h k).toNat % 16 : Nat) % 16) = ata h k := by
    apply UInt8.toNat_inj.1
    omega
  rw [hfin, List.set_append_right _ _ (by omega), hlen, Nat.sub_self, show 32 - k = (32 - (k + 1)) + 1 by omega, List.replicate_succ, List.set_cons_zero, List.take_succ_eq_append_getElem (by omega), ata_lt (by omega), List.append_assoc]
  rfl

theorem unhexF_hexL (h : List UInt8) (hl : h.length = 32) : unhexF (hexL h) = h := by
  have hlen := hexL_length h
  have key : ∀ j k, k + j = 32 → unfold31 (hexL h) (2 * j) (2 * k, h.take k ++ List.replicate (32 - k) 0) = (64, h) := by
    intro j
    induction j with
    | zero =>
      intro k hk
      obtain rfl : k = 32 := by omega
      simp [unfold31, List.take_of_length_le (show h.length ≤ 32 by omega)]
    | succ j ih =>
      intro k hk
      rw [show 2 * (j + 1) = 2 * j + 1 + 1 by omega]
      simp only [unfold31]
      rw [if_pos (by omega), if_pos (by omega), two31 h hl k (by omega)]
      exact ih (k + 1) (by omega)
  have := key 32 0 rfl
  unfold unhexF
  have hz : z32 = h.take 0 ++ List.replicate (32 - 0) 0 := by simp [z32]
  rw [hz]
  simp only [Nat.mul_zero] at this
  rw [this]

theorem hexL_good (h : List UInt8) : ∀ k, k < (hexL h).length → 0 ≤ ixd (ata (hexL h) k) := by
  unfold hexL
  induction h with
  | nil => intro k hk; simp at hk
  | cons b h ih =>
    intro k hk
    have hb := b.toNat_lt
    simp only [List.flatMap_cons, hexB] at hk ⊢
    match k with
    | 0 => simp only [List.cons_append, ata_zero]; rw [ixd_hexd _ (by omega)]; omega
    | 0 + 1 => simp only [List.cons_append, ata_succ, ata_zero]; rw [ixd_hexd _ (by omega)]; omega
    | k + 2 =>
      have := ih k (by simp at hk ⊢; omega)
      simpa only [List.cons_append, List.nil_append, ata_succ] using this

theorem tree52 (t : List UInt8) : treeF (E52 m x y) fuel (bodyOf f52) f52.results.toList [.str (strL t)] = some (unhexO t) := by
  have hz : bytesD z32 = bytesD (List.replicate 32 0) := rfl
  by_cases ht : t.length = 64
  · obtain ⟨r, hi, hr1, hr2, hr3⟩ := itr52 t ht
    have h := loop_itr (hd52 t) (fun r => (if r.1 then .exit 0 else .ret, hd52 t r.2)) (fun r => by cases r.1 <;> simp) (st52 t) (fun s => s.1 ≤ 32 ∧ s.2.length = 32) (step52 (m := m) (x := x) (y := y) fuel t ht) (fun s s' hs he => by
      unfold st52 at he
      split at he
      · split at he
        · cases he
        · simp at he; subst he; simp; omega
      · cases he) fuel (0, z32) r (by simp [z32]) hi
    obtain ⟨b, i, s⟩ := r
    simp only at hr1 hr2 hr3
    cases b with
    | true =>
      have hx := hr2 rfl
      have hO : unhexO t = [.agg 29 (bytesD s), .bool true] := by
        unfold unhexO
        rw [← hx, unhexF_hexL s hr1, if_pos rfl]
      simp [-List.reduceReplicate, loopB, loopsOf, f52, hd52, K52, hz] at h
      simp [-List.reduceReplicate, -ite_eq_left_iff, -ite_eq_right_iff, f52, exec_loop, keyC, K52, h, ht, hO]
    | false =>
      obtain ⟨k, hk, hb⟩ := hr3 rfl
      have hO : unhexO t = [.agg 29 (bytesD z32), .bool false] := by
        unfold unhexO
        rw [if_neg]
        intro hx
        have := hexL_good (unhexF t) k (by rw [hx]; omega)
        rw [hx] at this
        omega
      simp [-List.reduceReplicate, loopB, loopsOf, f52, hd52, K52, hz] at h
      simp [-List.reduceReplicate, -ite_eq_left_iff, -ite_eq_right_iff, f52, exec_loop, keyC, K52, h, ht, hO, hz]
  · have hO : unhexO t = [.agg 29 (bytesD z32), .bool false] := by
      unfold unhexO
      rw [if_neg]
      intro hx
      have := congrArg List.length hx
      rw [hexL_length, unhexF_length] at this
      omega
    have h64 : ¬ (t.length : Int) = 64 := by omega
    simp [-List.reduceReplicate, -ite_eq_left_iff, -ite_eq_right_iff, f52, h64, hO, hz]

noncomputable def s52 : List DV → Option (List DV) := specOf (fun l : List UInt8 => [.str (strL l)]) unhexO (fun _ => True)
@[simp] theorem s52_eq (l : List UInt8) : s52 [.str (strL l)] = some (unhexO l) := (specOf_eq (fun a b h => by simpa using h) l).trans chk_true
theorem m52 : Meets prog (QG m x y) 52 (.pure s52) := meets_spec (l := T52) K52 ⟨m_IndexByte, trivial⟩ orders func52 (by kernel_rfl) (fun _ => by simp [f52]) fun l h => tree52 l

end
end Go.Tith

namespace Go.Tith
open Go.Proofs Go.Proofs.Tryz

def noK : Nat → Option (List Nat × List Nat) := fun _ => none
@[simp] theorem noK_eq (k : Nat) : noK k = none := rfl

section
variable {m : Int} {x y : Value}

/-! ### ref24.Digits -/
def decL : List UInt8 := [48, 49, 50, 51, 52, 53, 54, 55, 56, 57]
theorem dec_cut : ∀ n, n < 10 → (decL.take (n + 1)).drop n = [UInt8.ofNat (48 + n)] := by decide

noncomputable def sDigK (k : Nat) : List DV → Option (List DV) := specOf (fun n : Int => [.int .i64 n]) (fun n => [.str (strL (Lib.decDigits n.toNat))]) (fun n => 0 ≤ n ∧ n < 9223372036854775808 ∧ n.toNat < 10 ^ (k + 1) ∧ k < 20)
theorem sDigK_eq (k : Nat) (n : Int) : sDigK k [.int .i64 n] = chk (0 ≤ n ∧ n < 9223372036854775808 ∧ n.toNat < 10 ^ (k + 1) ∧ k < 20) (some [.str (strL (Lib.decDigits n.toNat))]) := specOf_eq (fun a b h => by simpa using h) n

theorem dec_len : ∀ (k n : Nat), n < 10 ^ (k + 1) → (Lib.decDigits n).length ≤ k + 1 := by
  intro k
  induction k with
  | zero => intro n h; rw [Lib.decDigits, dif_pos (by omega)]; simp
  | succ k ih =>
    intro n h
    rw [Lib.decDigits]
    split
    · simp
    · have := ih (n / 10) (by rw [Nat.pow_succ] at h; omega)
      simp; omega

theorem dig_step (s' : List DV → Option (List DV)) (n k : Nat) (hk : k < 20) (hn : n < 9223372036854775808) (hp : n < 10 ^ (k + 1)) (h : n < 10 ∨ s' [.int .i64 ((n / 10 : Nat) : Int)] = some [.str (strL (Lib.decDigits (n / 10)))]) :
    treeF ⟨prog, look [(34, .pure s')], QG m x y, noK⟩ fuel (bodyOf f34) f34.results.toList [.int .i64 (n : Int)] = some [.str (strL (Lib.decDigits n))] := by
  have hc : ∀ l : List UInt8, l = [48, 49, 50, 51, 52, 53, 54, 55, 56, 57] → l = decL := fun l h => h
  by_cases hlt : n < 10
  · have e1 : ((n : Int) + 1).toNat = n + 1 := by omega
    have hd : Lib.decDigits n = [UInt8.ofNat (48 + n)] := Lib.decDigits_one hlt
    simp [-List.reduceReplicate, -ite_eq_left_iff, -ite_eq_right_iff, f34]
    simp (disch := omega) only [wrap_i64]
    refine ite_p (by omega) ?_
    repeat (first | refine chk_eq (by omega) ?_)
    rw [e1, hd, ← dec_cut n hlt]; rfl
  · have h := h.resolve_left hlt
    have hl := dec_len k n hp
    have q1 : (n : Int) / 10 = ((n / 10 : Nat) : Int) := by omega
    have q2 : Int.tmod (n : Int) 10 = ((n % 10 : Nat) : Int) := by rw [Int.tmod_eq_emod_of_nonneg (by omega)]; omega
    have hd : Lib.decDigits n = Lib.decDigits (n / 10) ++ [UInt8.ofNat (48 + n % 10)] := by rw [Lib.decDigits.eq_def n, dif_neg hlt]
    rw [hd] at hl
    simp at hl
    have w1 : IntKind.wrap .i64 ((n / 10 : Nat) : Int) = ((n / 10 : Nat) : Int) := wrap_i64 (by omega)
    have c10 : ¬ (n : Int) < 10 := by omega
    simp [-List.reduceReplicate, -ite_eq_left_iff, -ite_eq_right_iff, -Int.natCast_ediv, f34, q1, q2, w1, h, c10]
    simp (disch := omega) only [wrap_i64]
    repeat (first | refine chk_eq (by omega) ?_)
    have e3 : ((n : Int) % 10).toNat = n % 10 := by omega
    have e4 : ((n : Int) % 10 + 1).toNat = n % 10 + 1 := by omega
    rw [hd, ← dec_cut (n % 10) (by omega), e3, e4]; rfl

theorem m_DigitsK : ∀ k, Meets prog (QG m x y) 34 (.pure (sDigK k)) := by
  have en : Enterable prog 34 := ⟨_, func34, by kernel_rfl, by kernel_rfl⟩
  have step : ∀ (s' : List DV → Option (List DV)) (k : Nat), Meets prog (QG m x y) 34 (.pure s') →
      (∀ n : Nat, n < 10 ^ (k + 1) → k < 20 → n < 9223372036854775808 → n < 10 ∨ s' [.int .i64 ((n / 10 : Nat) : Int)] = some [.str (strL (Lib.decDigits (n / 10)))]) →
      Meets prog (QG m x y) 34 (.pure (sDigK k)) := by
    intro s' k ms hs'
    refine meets_spec (l := [(34, .pure s')]) noK ⟨ms, trivial⟩ orders func34 (by kernel_rfl) (fun _ => by simp [f34]) fun n ⟨h0, h1, h2, h3⟩ => ?_
    obtain ⟨N, rfl⟩ : ∃ N : Nat, n = N := ⟨n.toNat, by omega⟩
    exact dig_step s' N k h3 (by omega) h2 (hs' N h2 h3 (by omega))
  intro k
  induction k with
  | zero => exact step (fun _ => none) 0 ⟨en, fun C w ds vs r _ _ _ _ hs => by cases hs⟩ fun n h1 _ _ => .inl (by omega)
  | succ k ih =>
    refine step (sDigK k) (k + 1) ih fun n h1 h2 h3 => .inr ?_
    have h4 : n / 10 < 10 ^ (k + 1) := by rw [Nat.pow_succ] at h1; omega
    rw [sDigK_eq, chk_eq ⟨by omega, by omega, by rw [Int.toNat_natCast]; exact h4, by omega⟩ rfl, Int.toNat_natCast]

noncomputable def sDig : List DV → Option (List DV) := specOf (fun n : Int => [.int .i64 n]) (fun n => [.str (strL (Lib.decDigits n.toNat))]) (fun n => 0 ≤ n ∧ n < 9223372036854775808)
@[simp] theorem sDig_eq (n : Int) : sDig [.int .i64 n] = chk (0 ≤ n ∧ n < 9223372036854775808) (some [.str (strL (Lib.decDigits n.toNat))]) := specOf_eq (fun a b h => by simpa using h) n

theorem m_Digits : Meets prog (QG m x y) 34 (.pure sDig) := by
  refine ⟨(m_DigitsK (m := m) (x := x) (y := y) 19).1, fun C w ds vs r a b c d hs => (m_DigitsK (m := m) (x := x) (y := y) 19).2 C w ds vs r a b c d ?_⟩
  obtain ⟨n, rfl, rfl, h1, h2⟩ := specOf_some hs
  rw [sDigK_eq]
  exact chk_eq ⟨h1, h2, by omega, by omega⟩ rfl

/-! ### query.number -/
def numF (t : List UInt8) : Int := match Lib.atoiAll t with
  | .ok v => if Lib.itoa v = t then v else 0
  | _ => 0
theorem atoi_range {t : List UInt8} {v : Int} (h : Lib.atoiAll t = .ok v) : -9223372036854775808 ≤ v ∧ v ≤ 9223372036854775807 := by
  unfold Lib.atoiAll at h
  split at h
  · cases h
  · simp only at h
    split at h
    · cases h
    · cases h
    · split at h
      · cases h
      · split at h
        · cases h
        · simp only [Lib.NumEnd.ok.injEq] at h; subst h
          split <;> omega

noncomputable def T51 : List (FuncId × Spec) := [(70, .eff sAtoi), (45, .pure sItoa)]
theorem tree51 (t : List UInt8) (ht : t.length ≤ 4294967296) : treeF ⟨prog, look T51, QG m x y, noK⟩ fuel (bodyOf f51) f51.results.toList [.str (strL t)] = some [.int .i64 (numF t)] := by
  unfold numF
  cases h : Lib.atoiAll t
  · rename_i v
    have hr := atoi_range h
    simp [-List.reduceReplicate, -ite_eq_left_iff, -ite_eq_right_iff, f51, T51, sAtoi, atoiA, h, sItoa]
    refine chk_eq ht (chk_eq hr ?_)
    split <;> rfl
  · skip
    simp [-List.reduceReplicate, -ite_eq_left_iff, -ite_eq_right_iff, f51, T51, sAtoi, atoiA, h, sItoa]
    exact chk_eq ht rfl
  · skip
    simp [-List.reduceReplicate, -ite_eq_left_iff, -ite_eq_right_iff, f51, T51, sAtoi, atoiA, h, sItoa]
    exact chk_eq ht rfl

noncomputable def s51 : List DV → Option (List DV) := specOf (fun l : List UInt8 => [.str (strL l)]) (fun t => [.int .i64 (numF t)]) (fun t => t.length ≤ 4294967296)
@[simp] theorem s51_eq (l : List UInt8) : s51 [.str (strL l)] = chk (l.length ≤ 4294967296) (some [.int .i64 (numF l)]) := specOf_eq (fun a b h => by simpa using h) l
theorem m51 (hx : ifV x = true) (hy : ifV y = true) : Meets prog (QG m x y) 51 (.pure s51) := meets_spec (l := T51) noK ⟨m_Atoi hx hy, m_Itoa, trivial⟩ orders func51 (by kernel_rfl) (fun _ => by simp [f51]) fun l h => tree51 l h

/-! ### ref06.Key -/
def keyB (b : UInt8) : Bool := (decide (97 ≤ (b.toNat : Int)) && decide ((b.toNat : Int) ≤ 122)) || (decide (48 ≤ (b.toNat : Int)) && decide ((b.toNat : Int) ≤ 57))
def keyOK (s : List UInt8) : Bool := s.all keyB && (decide (1 ≤ (s.length : Int)) && decide ((s.length : Int) ≤ 16))

def K35 : Nat → Option (List Nat × List Nat) := fun k => if k = 2 then some ([0, 2, 3], []) else none
noncomputable abbrev E35 (m : Int) (x y : Value) : Env := ⟨prog, look [], QG m x y, K35⟩
def hd35 (t : List UInt8) (i : Nat) : St := ⟨envK [(0, .d (.str (strL t))), (2, .d (.bool false)), (3, .d (.int .i64 i))], ⟨[], []⟩⟩
def st35 (t : List UInt8) (i : Nat) : Nat ⊕ Bool × Nat := if i < t.length then (if keyB (ata t i) = true then .inl (i + 1) else .inr (false, i)) else .inr (true, i)

theorem step35 (n : Nat) (t : List UInt8) (ht : t.length < 9223372036854775807) (i : Nat) (hi : i ≤ t.length) :
    round (exec (E35 m x y) n (loopB f35 0)) (K35 2) 0 (hd35 t i) = some ((st35 t i).elim (fun s' => (.normal, hd35 t s')) fun r => (if r.1 then .exit 0 else .ret, hd35 t r.2)) := by
  by_cases h : i < t.length
  · simp [-List.reduceReplicate, -ite_eq_left_iff, -ite_eq_right_iff, -getElem?_pos, loopB, loopsOf, f35, hd35, K35, h]
    simp (disch := omega) only [wrap_i64]
    by_cases hk : keyB (ata t i) = true
    · rw [show st35 t i = .inl (i + 1) from by simp [st35, h, hk]]
      simp [keyB] at hk
      exact ite_n (by simp [gd_eq]; omega) rfl
    · rw [show st35 t i = .inr (false, i) from by simp [st35, h, hk]]
      simp [keyB] at hk
      exact ite_p (by simp [gd_eq]; omega) rfl
  · rw [show st35 t i = .inr (true, i) from by simp [st35, h]]
    simp [-List.reduceReplicate, -ite_eq_left_iff, -ite_eq_right_iff, loopB, loopsOf, f35, hd35, K35]
    exact ite_n h rfl

theorem drop_ata {l : List UInt8} {i : Nat} (h : i < l.length) : l.drop i = ata l i :: l.drop (i + 1) := by rw [List.drop_eq_getElem_cons h, ata_lt h]

theorem itr35 (t : List UInt8) (ht : t.length < 9223372036854775807) : ∃ i, itr (st35 t) fuel 0 = some (t.all keyB, i) := by
  obtain ⟨i, r, h1, ⟨hi, hall⟩, h2⟩ := itr_ends (step := st35 t) (fun i => i ≤ t.length ∧ t.all keyB = (t.drop i).all keyB) (fun i => t.length - i) (fun i i' ⟨hi, hall⟩ he => by
    unfold st35 at he
    split at he
    · rename_i hlt
      split at he
      · rename_i hk
        simp only [Sum.inl.injEq] at he; subst he
        rw [drop_ata hlt] at hall
        exact ⟨⟨by omega, by rw [hall]; simp [hk]⟩, by omega⟩
      · cases he
    · cases he) fuel 0 ⟨Nat.zero_le _, by simp⟩ (by simp [fuel]; omega)
  unfold st35 at h2
  split at h2
  · rename_i hlt
    rw [drop_ata hlt] at hall
    split at h2
    · cases h2
    · rename_i hk
      simp only [Sum.inr.injEq] at h2; subst h2
      exact ⟨i, by rw [h1, hall]; simp [hk]⟩
  · simp only [Sum.inr.injEq] at h2; subst h2
    rw [List.drop_of_length_le (by omega)] at hall
    exact ⟨i, by rw [h1, hall]; rfl⟩

theorem tree35 (t : List UInt8) (ht : t.length < 9223372036854775807) : treeF (E35 m x y) fuel (bodyOf f35) f35.results.toList [.str (strL t)] = some [.bool (keyOK t)] := by
  obtain ⟨i, hi⟩ := itr35 t ht
  have h := loop_itr (hd35 t) (fun r => (if r.1 then .exit 0 else .ret, hd35 t r.2)) (fun r => by cases r.1 <;> simp) (st35 t) (fun i => i ≤ t.length) (step35 (m := m) (x := x) (y := y) fuel t ht) (fun s s' hs he => by
    unfold st35 at he
    split at he
    · split at he
      · simp at he; subst he; omega
      · cases he
    · cases he) fuel 0 _ (Nat.zero_le _) hi
  unfold keyOK
  cases hk : t.all keyB
  all_goals
    rw [hk] at h
    simp [-List.reduceReplicate, loopB, loopsOf, f35, hd35, K35] at h
    simp [-List.reduceReplicate, -ite_eq_left_iff, -ite_eq_right_iff, f35, exec_loop, keyC, K35, h, gd_eq]
    try (rw [Bool.eq_iff_iff]; simp; omega)

noncomputable def s35 : List DV → Option (List DV) := specOf (fun l : List UInt8 => [.str (strL l)]) (fun t => [.bool (keyOK t)]) (fun t => t.length < 9223372036854775807)
@[simp] theorem s35_eq (l : List UInt8) : s35 [.str (strL l)] = chk (l.length < 9223372036854775807) (some [.bool (keyOK l)]) := specOf_eq (fun a b h => by simpa using h) l
theorem m35 : Meets prog (QG m x y) 35 (.pure s35) := meets_spec (l := []) K35 trivial orders func35 (by kernel_rfl) (fun _ => by simp [f35]) fun l h => tree35 l h

end
end Go.Tith

namespace Go.Tith
open Go.Proofs Go.Proofs.Tryz
open Go.RowKit (wrap32)

def keyI (c : Int) : Bool := (decide (97 ≤ c) && decide (c ≤ 122)) || (decide (48 ≤ c) && decide (c ≤ 57))
theorem keyB_keyI (b : UInt8) : keyB b = keyI b.toNat := rfl

theorem take_all {s : ByteArray} {pos : Nat} (h : pos < s.size) (ha : (s.data.toList.take pos).all keyB = true) (hk : keyB s[pos] = true) : (s.data.toList.take (pos + 1)).all keyB = true := by
  have : s.data.toList.take (pos + 1) = s.data.toList.take pos ++ [s[pos]] := by
    rw [List.take_succ_eq_append_getElem (by simpa using h)]; rfl
  rw [this]; simp [ha, hk]

set_option maxRecDepth 1000000 in
theorem walkR (s : ByteArray) (w : World) (hs : s.size < 9223372036854775807) :
    Calls prog 58 #[.string s] w fun e w' => e = .returned (.bool (keyOK s.data.toList)) ∧ ∃ pos, w' = w.iter s pos := by
  go_enter func58, ntmps58
  go_wp2
  go_loopw [] (fun w' => ∃ (pos : Nat), w' = w.iter s pos ∧ pos ≤ s.size ∧ (s.data.toList.take pos).all keyB = true) (fun w' => s.size - w'.iterPos w.heap.size)
  case atStart => exact ⟨0, rfl, Nat.zero_le _, by simp⟩
  case round =>
    obtain ⟨pos, rfl, hps, hall⟩ := hrel
    by_cases hp : pos < s.size
    · have hnx : ∀ ty, (Instr.next (.pointer (some ⟨w.heap.size, 0, none⟩)) true ty).run prog (w.iter s pos) = _ := fun ty => run_next_any w s pos ty hp
      have hgo : ∀ c : Nat, (Utf8.decode s pos).1 = c → keyI c = true → (Utf8.decode s pos).2 = 1 ∧ keyB s[pos] = true := fun c hc hk => by
        by_cases ha : (s[pos]'hp).toNat < 128
        · rw [decode_ascii s pos hp ha] at hc ⊢
          simp only at hc
          exact ⟨rfl, by rw [keyB_keyI, hc]; exact hk⟩
        · have := (decode_high s pos hp (by omega)).1
          simp [keyI] at hk; omega
      have hno : ∀ c : Nat, (Utf8.decode s pos).1 = c → keyI c = false → keyOK s.data.toList = false := fun c hc hk => by
        have : keyB s[pos] = false := by
          by_cases ha : (s[pos]'hp).toNat < 128
          · rw [decode_ascii s pos hp ha] at hc
            simp only at hc
            rw [keyB_keyI, hc]; exact hk
          · have h8 := (s[pos]'hp).toNat_lt
            simp [keyB]; omega
        have hmem : s[pos] ∈ s.data.toList := List.getElem_mem (l := s.data.toList) (n := pos) (by simpa using hp)
        unfold keyOK
        have : s.data.toList.all keyB = false := List.all_eq_false.2 ⟨_, hmem, by simp [this]⟩
        rw [this]; rfl
      generalize hc : (Utf8.decode s pos).1 = c at hnx hgo hno
      have hgo := hgo c rfl
      have hno := hno c rfl
      have fin : keyI c = true → (s.data.toList.take (pos + (Utf8.decode s pos).2)).all keyB = true ∧ pos + (Utf8.decode s pos).2 ≤ s.size ∧ 1 ≤ (Utf8.decode s pos).2 := fun hk => by
        obtain ⟨h1, h2⟩ := hgo hk
        rw [h1]; exact ⟨take_all hp hall h2, by omega, Nat.le_refl _⟩
      generalize (Utf8.decode s pos).2 = wd at hnx fin
      clear hgo hc
      rcases (show (97 ≤ (c : Int) ∧ (c : Int) ≤ 122) ∨ (48 ≤ (c : Int) ∧ (c : Int) ≤ 57) ∨ (c : Int) < 48 ∨ (57 < (c : Int) ∧ (c : Int) < 97) ∨ 122 < (c : Int) by omega) with ⟨c1, c2⟩ | ⟨c1, c2⟩ | c1 | ⟨c1, c2⟩ | c1
      · obtain ⟨f1, f2, f3⟩ := fin (by simp [keyI]; omega)
        clear fin hno
        have d1 : decide ((c : Int) < 97) = false := by simp; omega
        have d2 : decide ((c : Int) > 122) = false := by simp; omega
        have F1 := Lib.hid f1
        clear f1
        go_wp2
        refine ⟨⟨pos + wd, rfl, f2, F1.out⟩, ?_⟩
        simp
        omega
      · obtain ⟨f1, f2, f3⟩ := fin (by simp [keyI]; omega)
        clear fin hno
        have d1 : decide ((c : Int) < 97) = true := by simp; omega
        have d2 : decide ((c : Int) < 48) = false := by simp; omega
        have d3 : decide ((c : Int) > 57) = false := by simp; omega
        have F1 := Lib.hid f1
        clear f1
        go_wp2
        refine ⟨⟨pos + wd, rfl, f2, F1.out⟩, ?_⟩
        simp
        omega
      · have f1 := hno (by simp [keyI]; omega)
        clear fin hno
        have d1 : decide ((c : Int) < 97) = true := by simp; omega
        have d2 : decide ((c : Int) < 48) = true := by simp; omega
        have F1 := Lib.hid f1
        clear f1
        go_wp2
        go_ret
        exact ⟨by rw [F1.out]; rfl, _, rfl⟩
      · have f1 := hno (by simp [keyI]; omega)
        clear fin hno
        have d1 : decide ((c : Int) < 97) = true := by simp; omega
        have d2 : decide ((c : Int) < 48) = false := by simp; omega
        have d3 : decide ((c : Int) > 57) = true := by simp; omega
        have F1 := Lib.hid f1
        clear f1
        go_wp2
        go_ret
        exact ⟨by rw [F1.out]; rfl, _, rfl⟩
      · have f1 := hno (by simp [keyI]; omega)
        clear fin hno
        have d1 : decide ((c : Int) < 97) = false := by simp; omega
        have d2 : decide ((c : Int) > 122) = true := by simp; omega
        have d3 : decide ((c : Int) < 48) = false := by simp; omega
        have d4 : decide ((c : Int) > 57) = true := by simp; omega
        have F1 := Lib.hid f1
        clear f1
        go_wp2
        go_ret
        exact ⟨by rw [F1.out]; rfl, _, rfl⟩
    · have hnx : ∀ ty, (Instr.next (.pointer (some ⟨w.heap.size, 0, none⟩)) true ty).run prog (w.iter s pos) = _ := fun ty => run_next_end w s pos ty hp
      obtain rfl : pos = s.size := by omega
      rw [List.take_of_length_le (by simp)] at hall
      have hl : s.data.toList.length = s.size := by simp
      have e : keyOK s.data.toList = (!s.toList.isEmpty && decide ((s.size : Int) ≤ 16)) := by
        unfold keyOK
        rw [hall, ByteArray.toList_eq, hl]
        cases hq : s.data.toList with
        | nil => rw [hq] at hl; simp at hl; simp [← hl]
        | cons b l => rw [hq] at hl; simp at hl; simp [← hl]; omega
      have E := Lib.hid e
      clear e hl hall hps
      by_cases hz : s.toList = []
      · go_wp2
        all_goals go_ret
        all_goals (refine ⟨?_, _, rfl⟩; rw [E.out]; simp [hz])
      · go_wp2
        all_goals go_ret
        all_goals (refine ⟨?_, _, rfl⟩; rw [E.out]; rfl)

section
variable {m : Int} {x y : Value}

noncomputable def s58 : List DV → Option (List DV) := specOf (fun l : List UInt8 => [.str (strL l)]) (fun t => [.bool (keyOK t)]) (fun t => t.length < 9223372036854775807)
@[simp] theorem s58_eq (l : List UInt8) : s58 [.str (strL l)] = chk (l.length < 9223372036854775807) (some [.bool (keyOK l)]) := specOf_eq (fun a b h => by simpa using h) l
theorem m58 : Meets prog (QG m x y) 58 (.pure s58) := ⟨⟨_, func58, by kernel_rfl, by kernel_rfl⟩, fun C w ds vs r _ hl hG hv hs => by
  obtain ⟨l, rfl, rfl, hp⟩ := specOf_some hs
  have hv' : vs = [.string (strL l)] := by simp [relVs, relV1, relD, DV.isAgg] at hv; exact hv
  subst hv'
  refine (walkR (strL l) w (by simpa using hp)).mono ?_
  rintro e w' ⟨rfl, pos, rfl⟩
  obtain ⟨h1, h2⟩ := step_ext (w' := w.iter (strL l) pos) hl rfl rfl rfl (by simp [World.iter]) (fun i hi => heap_alloc_old w _ hi)
  exact ⟨C, _, rfl, by simp [resA, relV, relV1, relD, DV.isAgg], h1, h2⟩⟩

end
end Go.Tith

namespace Go.Tith
open Go.Proofs Go.Proofs.Tryz

structure Acc where
  id : Int
  nonce : Int
  bal : Int
  deriving Inhabited, DecidableEq
structure Pr where
  key : List UInt8
  val : List UInt8
  deriving Inhabited, DecidableEq
def accD (a : Acc) : DV := .agg 57 [.int .i64 a.id, .int .i64 a.nonce, .int .i64 a.bal]
def prD (p : Pr) : DV := .agg 51 [.str (strL p.key), .str (strL p.val)]
attribute [simp] accD prD
theorem accD_inj : Function.Injective accD := fun a b h => by
  cases a; cases b; simpa using h
theorem prD_inj : Function.Injective prD := fun a b h => by
  cases a; cases b; simpa using h

section
variable {m : Int} {x y : Value}

noncomputable def aWithin (m : Int) (x y : Value) := autoF prog (QG m x y) [] noK f57
theorem m_within : Meets prog (QG m x y) 57 (.pure (aWithin m x y)) := auto_meets noK trivial orders func57 (by kernel_rfl)
@[simp] theorem aWithin_eq (n a b : Int) : aWithin m x y [.int .i64 n, .int .i64 a, .int .i64 b] = some [.bool (decide (a ≤ n ∧ n ≤ b))] := by
  simp [aWithin, autoF, f57, gd_eq]

def accOK1 (a : Acc) : Bool := (decide (1 ≤ a.id) && decide (a.id ≤ 40)) && ((decide (0 ≤ a.nonce) && decide (a.nonce ≤ 1099511627776)) && ((decide (0 ≤ a.bal) && decide (a.bal ≤ 1125899906842624)) && !(decide (a.nonce = 0) && decide (a.bal = 0))))
def accAt (l : List Acc) (i : Nat) : Bool := accOK1 (ata l i) && (decide (i = 0) || decide ((ata l (i - 1)).id < (ata l i).id))

noncomputable def aAid (m : Int) (x y : Value) := autoF prog (QG m x y) [(57, .pure (aWithin m x y))] noK f40
theorem m_aid : Meets prog (QG m x y) 40 (.pure (aAid m x y)) := auto_meets noK ⟨m_within, trivial⟩ orders func40 (by kernel_rfl)
@[simp] theorem aAid_eq (n : Int) : aAid m x y [.int .i64 n] = some [.bool (decide (1 ≤ n ∧ n ≤ 40))] := by
  simp [aAid, autoF, f40, gd_eq]

/-! ### account.Check -/
noncomputable def T38 (m : Int) (x y : Value) : List (FuncId × Spec) := [(40, .pure (aAid m x y)), (57, .pure (aWithin m x y))]
def K38 : Nat → Option (List Nat × List Nat) := fun k => if k = 2 then some ([0, 2, 5, 6, 7], []) else none
noncomputable abbrev E38 (m : Int) (x y : Value) : Env := ⟨prog, look (T38 m x y), QG m x y, K38⟩
def hd38 (l : List Acc) (s : Nat × Int) : St := ⟨envK [(0, .d (.list 58 (l.map accD))), (2, .d (.int .i64 s.2)), (5, .d (.list 58 (l.map accD))), (6, .d (.int .i64 l.length)), (7, .d (.int .i64 s.1))], ⟨[], []⟩⟩
def st38 (l : List Acc) (i : Nat) : Nat ⊕ Bool × Nat := if i < l.length then (if accAt l i = true then .inl (i + 1) else .inr (false, i)) else .inr (true, i)

theorem step38 (n : Nat) (l : List Acc) (hl : l.length < 9223372036854775807) (i : Nat) (hi : i ≤ l.length) :
    round (exec (E38 m x y) n (loopB f38 0)) (K38 2) 0 (hd38 l (i, 0)) = some ((st38 l i).elim (fun s' => (.normal, hd38 l (s', 0))) fun r => (if r.1 then .exit 0 else .ret, hd38 l (r.2, if r.1 then 0 else 1))) := by
  by_cases h : i < l.length
  · by_cases hk : accAt l i = true
    · rw [show st38 l i = .inl (i + 1) from by simp [st38, h, hk]]
      cases i with
      | zero =>
        simp [-List.reduceReplicate, -ite_eq_left_iff, -ite_eq_right_iff, -getElem?_pos, loopB, loopsOf, f38, hd38, K38, T38, h]
        simp [accAt, accOK1] at hk
        simp (disch := omega) only [wrap_i64]
        exact ite_n (by simp [gd_eq]; omega) rfl
      | succ i =>
        simp [-List.reduceReplicate, -ite_eq_left_iff, -ite_eq_right_iff, -getElem?_pos, loopB, loopsOf, f38, hd38, K38, T38, h]
        simp [accAt, accOK1] at hk
        simp (disch := omega) only [wrap_i64]
        simp only [Int.toNat_natCast]
        repeat (first | refine chk_eq (by omega) ?_ | refine ite_p (by omega) ?_)
        exact ite_n (by simp [gd_eq]; omega) rfl
    · rw [show st38 l i = .inr (false, i) from by simp [st38, h, hk]]
      cases i with
      | zero =>
        simp [-List.reduceReplicate, -ite_eq_left_iff, -ite_eq_right_iff, -getElem?_pos, loopB, loopsOf, f38, hd38, K38, T38, h]
        simp [accAt, accOK1] at hk
        exact ite_p (by simp [gd_eq]; omega) rfl
      | succ i =>
        simp [-List.reduceReplicate, -ite_eq_left_iff, -ite_eq_right_iff, -getElem?_pos, loopB, loopsOf, f38, hd38, K38, T38, h]
        simp [accAt, accOK1] at hk
        simp (disch := omega) only [wrap_i64]
        simp only [Int.toNat_natCast]
        repeat (first | refine chk_eq (by omega) ?_ | refine ite_p (by omega) ?_)
        exact ite_p (by simp [gd_eq]; omega) rfl
  · rw [show st38 l i = .inr (true, i) from by simp [st38, h]]
    simp [-List.reduceReplicate, -ite_eq_left_iff, -ite_eq_right_iff, loopB, loopsOf, f38, hd38, K38, T38]
    exact ite_n h rfl

/-- May accounts be? -/
def accsOK (l : List Acc) : Bool := (List.range l.length).all (accAt l)
theorem accsOK_iff {l : List Acc} : accsOK l = true ↔ ∀ i, i < l.length → accAt l i = true := by simp [accsOK]

/-- A search for the first place where p fails, up to n. -/
def stScan (n : Nat) (p : Nat → Bool) (i : Nat) : Nat ⊕ Bool × Nat := if i < n then (if p i = true then .inl (i + 1) else .inr (false, i)) else .inr (true, i)
theorem scan_ends (n : Nat) (p : Nat → Bool) (hn : n < fuel) : ∃ i, itr (stScan n p) fuel 0 = some ((List.range n).all p, i) := by
  obtain ⟨i, r, h1, ⟨hi, hall⟩, h2⟩ := itr_ends (step := stScan n p) (fun i => i ≤ n ∧ ∀ j, j < i → p j = true) (fun i => n - i) (fun i i' ⟨hi, hall⟩ he => by
    unfold stScan at he
    split at he
    · split at he
      · rename_i hlt hk
        simp only [Sum.inl.injEq] at he; subst he
        refine ⟨⟨by omega, fun j hj => ?_⟩, by omega⟩
        by_cases hji : j = i
        · rw [hji]; exact hk
        · exact hall j (by omega)
      · cases he
    · cases he) fuel 0 ⟨Nat.zero_le _, fun j hj => by omega⟩ (by omega)
  unfold stScan at h2
  split at h2
  · rename_i hlt
    split at h2
    · cases h2
    · rename_i hk
      simp only [Sum.inr.injEq] at h2; subst h2
      refine ⟨i, ?_⟩
      rw [h1, show (List.range n).all p = false from List.all_eq_false.2 ⟨i, List.mem_range.2 hlt, hk⟩]
  · simp only [Sum.inr.injEq] at h2; subst h2
    refine ⟨i, ?_⟩
    rw [h1, show (List.range n).all p = true from List.all_eq_true.2 fun j hj => hall j (by have := List.mem_range.1 hj; omega)]

theorem scan_next {n : Nat} {p : Nat → Bool} {i i' : Nat} (hi : i ≤ n) (h : stScan n p i = .inl i') : i' ≤ n := by
  unfold stScan at h
  split at h
  · split at h
    · simp at h; omega
    · cases h
  · cases h

theorem tree38 (l : List Acc) (hl : l.length < 9223372036854775807) : treeF (E38 m x y) fuel (bodyOf f38) f38.results.toList [.list 58 (l.map accD)] = some [.int .i64 (if accsOK l then 0 else 1)] := by
  obtain ⟨i, hi⟩ := scan_ends l.length (accAt l) (by simp [fuel]; omega)
  rw [show (List.range l.length).all (accAt l) = accsOK l from rfl] at hi
  have h := loop_itr (fun i => hd38 l (i, 0)) (fun r : Bool × Nat => (if r.1 then .exit 0 else .ret, hd38 l (r.2, if r.1 then 0 else 1))) (fun r => by cases r.1 <;> simp) (stScan l.length (accAt l)) (fun i => i ≤ l.length) (step38 (m := m) (x := x) (y := y) fuel l hl) (fun s s' hs he => scan_next hs he) fuel 0 _ (Nat.zero_le _) hi
  cases hk : accsOK l
  all_goals
    rw [hk] at h
    simp [-List.reduceReplicate, loopB, loopsOf, f38, hd38, K38] at h
    simp [-List.reduceReplicate, -ite_eq_left_iff, -ite_eq_right_iff, f38, exec_loop, keyC, K38, h]

noncomputable def s38 : List DV → Option (List DV) := specOf (fun l : List Acc => [.list 58 (l.map accD)]) (fun l => [.int .i64 (if accsOK l then 0 else 1)]) (fun l => l.length < 9223372036854775807)
theorem map_inj {α β : Type} {f : α → β} (hf : Function.Injective f) {a b : List α} (h : a.map f = b.map f) : a = b := (List.map_inj_right (fun _ _ h => hf h)).1 h
@[simp] theorem s38_eq (l : List Acc) : s38 [.list 58 (l.map accD)] = chk (l.length < 9223372036854775807) (some [.int .i64 (if accsOK l then 0 else 1)]) := specOf_eq (fun a b h => map_inj accD_inj (by simpa using h)) l
theorem m38 : Meets prog (QG m x y) 38 (.pure s38) := meets_spec (l := T38 m x y) K38 ⟨m_aid, m_within, trivial⟩ orders func38 (by kernel_rfl) (fun _ => by simp [f38]) fun l h => tree38 l h

/-! ### kv.Check -/
def blt (a b : List UInt8) : Bool := Op.bytesLess a b
def prOK1 (p : Pr) : Bool := keyOK p.key && decide (p.val.length ≤ 40)
def prAt (l : List Pr) (i : Nat) : Bool := prOK1 (ata l i) && (decide (i = 0) || blt (ata l (i - 1)).key (ata l i).key)
def prsOK (l : List Pr) : Bool := decide (l.length ≤ 100) && (List.range l.length).all (prAt l)
def prsB (l : List Pr) : Prop := ∀ i, i < l.length → (ata l i).key.length < 9223372036854775807

noncomputable def T39 : List (FuncId × Spec) := [(58, .pure s58)]
def K39 : Nat → Option (List Nat × List Nat) := fun k => if k = 4 then some ([0, 2, 8, 9, 10], []) else none
noncomputable abbrev E39 (m : Int) (x y : Value) : Env := ⟨prog, look T39, QG m x y, K39⟩
def hd39 (l : List Pr) (s : Nat × Int) : St := ⟨envK [(0, .d (.list 52 (l.map prD))), (2, .d (.int .i64 s.2)), (8, .d (.list 52 (l.map prD))), (9, .d (.int .i64 l.length)), (10, .d (.int .i64 s.1))], ⟨[], []⟩⟩

theorem step39 (n : Nat) (l : List Pr) (hl : l.length < 9223372036854775807) (hb : prsB l) (i : Nat) (hi : i ≤ l.length) :
    round (exec (E39 m x y) n (loopB f39 0)) (K39 4) 0 (hd39 l (i, 0)) = some ((stScan l.length (prAt l) i).elim (fun s' => (.normal, hd39 l (s', 0))) fun r => (if r.1 then .exit 0 else .ret, hd39 l (r.2, if r.1 then 0 else 1))) := by
  by_cases h : i < l.length
  · have hbi := hb i h
    by_cases hk : prAt l i = true
    · rw [show stScan l.length (prAt l) i = .inl (i + 1) from by simp [stScan, h, hk]]
      cases i with
      | zero =>
        simp [-List.reduceReplicate, -ite_eq_left_iff, -ite_eq_right_iff, -getElem?_pos, loopB, loopsOf, f39, hd39, K39, T39, h]
        simp [prAt, prOK1] at hk
        simp (disch := omega) only [wrap_i64]
        repeat (first | refine chk_eq (by omega) ?_ | refine ite_p (by omega) ?_)
        exact ite_n (by simp [gd_eq, hk]; omega) rfl
      | succ i =>
        simp [-List.reduceReplicate, -ite_eq_left_iff, -ite_eq_right_iff, -getElem?_pos, loopB, loopsOf, f39, hd39, K39, T39, h]
        simp [prAt, prOK1, blt] at hk
        simp (disch := omega) only [wrap_i64]
        simp only [Int.toNat_natCast]
        repeat (first | refine chk_eq (by omega) ?_ | refine ite_p (by omega) ?_)
        exact ite_n (by simp [gd_eq, hk]; omega) rfl
    · rw [show stScan l.length (prAt l) i = .inr (false, i) from by simp [stScan, h, hk]]
      cases i with
      | zero =>
        simp [-List.reduceReplicate, -ite_eq_left_iff, -ite_eq_right_iff, -getElem?_pos, loopB, loopsOf, f39, hd39, K39, T39, h]
        simp [prAt, prOK1] at hk
        simp (disch := omega) only [wrap_i64]
        repeat (first | refine chk_eq (by omega) ?_ | refine ite_p (by omega) ?_)
        refine ite_p ?_ rfl
        simp [gd_eq]
        cases hq : keyOK (ata l 0).key with
        | false => simp
        | true => simp [hq] at hk; simp; omega
      | succ i =>
        simp [-List.reduceReplicate, -ite_eq_left_iff, -ite_eq_right_iff, -getElem?_pos, loopB, loopsOf, f39, hd39, K39, T39, h]
        simp [prAt, prOK1, blt] at hk
        simp (disch := omega) only [wrap_i64]
        simp only [Int.toNat_natCast]
        repeat (first | refine chk_eq (by omega) ?_ | refine ite_p (by omega) ?_)
        refine ite_p ?_ rfl
        simp [gd_eq]
        cases hq : keyOK (ata l (i + 1)).key with
        | false => simp
        | true =>
          simp [hq] at hk
          by_cases hv : (ata l (i + 1)).val.length ≤ 40
          · exact .inr (hk hv)
          · exact .inl (.inr (by omega))
  · rw [show stScan l.length (prAt l) i = .inr (true, i) from by simp [stScan, h]]
    simp [-List.reduceReplicate, -ite_eq_left_iff, -ite_eq_right_iff, loopB, loopsOf, f39, hd39, K39, T39]
    exact ite_n h rfl

theorem tree39 (l : List Pr) (hl : l.length < 9223372036854775807) (hb : prsB l) : treeF (E39 m x y) fuel (bodyOf f39) f39.results.toList [.list 52 (l.map prD)] = some [.int .i64 (if prsOK l then 0 else 1)] := by
  obtain ⟨i, hi⟩ := scan_ends l.length (prAt l) (by simp [fuel]; omega)
  have h := loop_itr (fun i => hd39 l (i, 0)) (fun r : Bool × Nat => (if r.1 then .exit 0 else .ret, hd39 l (r.2, if r.1 then 0 else 1))) (fun r => by cases r.1 <;> simp) (stScan l.length (prAt l)) (fun i => i ≤ l.length) (step39 (m := m) (x := x) (y := y) fuel l hl hb) (fun s s' hs he => scan_next hs he) fuel 0 _ (Nat.zero_le _) hi
  unfold prsOK
  by_cases h100 : l.length ≤ 100
  · have h100' : (l.length : Int) ≤ 100 := by omega
    generalize (List.range l.length).all (prAt l) = b at h
    cases b
    all_goals
      simp [-List.reduceReplicate, loopB, loopsOf, f39, hd39, K39] at h
      simp [-List.reduceReplicate, -ite_eq_left_iff, -ite_eq_right_iff, f39, exec_loop, keyC, K39, h, h100]
      try exact ite_n (by omega) rfl
  · simp [-List.reduceReplicate, -ite_eq_left_iff, -ite_eq_right_iff, f39, exec_loop, keyC, K39, h100]
    try exact ite_p (by omega) rfl

noncomputable def s39 : List DV → Option (List DV) := specOf (fun l : List Pr => [.list 52 (l.map prD)]) (fun l => [.int .i64 (if prsOK l then 0 else 1)]) (fun l => l.length < 9223372036854775807 ∧ prsB l)
@[simp] theorem s39_eq (l : List Pr) : s39 [.list 52 (l.map prD)] = chk (l.length < 9223372036854775807 ∧ prsB l) (some [.int .i64 (if prsOK l then 0 else 1)]) := specOf_eq (fun a b h => map_inj prD_inj (by simpa using h)) l
@[simp] theorem s39_nil : s39 [.list 52 []] = some [.int .i64 0] := (s39_eq []).trans (chk_eq ⟨by simp, fun i hi => by simp at hi⟩ (by simp [prsOK]))
theorem m39 : Meets prog (QG m x y) 39 (.pure s39) := meets_spec (l := T39) K39 ⟨m58, trivial⟩ orders func39 (by kernel_rfl) (fun _ => by simp [f39]) fun l h => tree39 l h.1 h.2

end
end Go.Tith

namespace Go.Tith
open Go.Proofs Go.Proofs.Tryz

/-! ### a search by halves -/
def stBS (p : Nat → Bool) (s : Nat × Nat) : Nat × Nat ⊕ Nat × Nat :=
  if s.1 < s.2 then (if p ((s.1 + s.2) / 2) = true then .inl ((s.1 + s.2) / 2 + 1, s.2) else .inl (s.1, (s.1 + s.2) / 2)) else .inr s

theorem bs_ends (p : Nat → Bool) (N : Nat) (hN : N < fuel) (mono : ∀ i j, i ≤ j → j < N → p j = true → p i = true) :
    ∃ k, itr (stBS p) fuel (0, N) = some (k, k) ∧ k ≤ N ∧ (∀ i, i < k → p i = true) ∧ ∀ i, k ≤ i → i < N → p i = false := by
  obtain ⟨⟨lo, hi⟩, r, h1, ⟨a1, a2, a3, a4⟩, h2⟩ := itr_ends (step := stBS p) (fun s => s.1 ≤ s.2 ∧ s.2 ≤ N ∧ (∀ i, i < s.1 → p i = true) ∧ ∀ i, s.2 ≤ i → i < N → p i = false) (fun s => s.2 - s.1) (fun s s' ⟨a1, a2, a3, a4⟩ he => by
    obtain ⟨lo, hi⟩ := s
    simp only at a1 a2 a3 a4
    unfold stBS at he
    split at he
    · rename_i hlt
      simp only at hlt
      split at he
      · rename_i hp
        simp only at hp
        simp only [Sum.inl.injEq] at he; subst he
        refine ⟨⟨by simp; omega, a2, fun i hi' => ?_, a4⟩, by simp; omega⟩
        exact mono i _ (by simp at hi'; omega) (by omega) hp
      · rename_i hp
        simp only at hp
        simp only [Sum.inl.injEq] at he; subst he
        refine ⟨⟨by simp; omega, by simp; omega, a3, fun i hi' hN' => ?_⟩, by simp; omega⟩
        simp only at hi'
        cases hq : p i with
        | false => rfl
        | true => exact absurd (mono _ i hi' hN' hq) hp
    · cases he) fuel (0, N) ⟨by simp, by simp, fun i hi => by simp at hi, fun i h1 h2 => by simp at h1; omega⟩ (by simp; omega)
  simp only at a1 a2 a3 a4
  unfold stBS at h2
  split at h2
  · split at h2 <;> cases h2
  · rename_i hlt
    simp only at hlt
    simp only [Sum.inr.injEq] at h2; subst h2
    obtain rfl : lo = hi := by omega
    exact ⟨lo, h1, a2, a3, a4⟩

section
variable {m : Int} {x y : Value}

/-! ### accounts -/
noncomputable def aAcmp (m : Int) (x y : Value) := autoF prog (QG m x y) [(80, .pure sCmpI)] noK f79
theorem m_acmp : Meets prog (QG m x y) 79 (.pure (aAcmp m x y)) := auto_meets noK ⟨m_CmpI, trivial⟩ orders func79 (by kernel_rfl)
@[simp] theorem aAcmp_eq (a b c n : Int) : aAcmp m x y [.agg 57 [.int .i64 a, .int .i64 b, .int .i64 c], .int .i64 n] = some [.int .i64 (if a < n then -1 else if n < a then 1 else 0)] := by
  simp [aAcmp, autoF, f79, sCmpI]

noncomputable def T78 (m : Int) (x y : Value) : List (FuncId × Spec) := [(79, .eff (effOf prog (aAcmp m x y)))]
def K78 : Nat → Option (List Nat × List Nat) := fun k => if k = 3 then some ([0, 1, 2, 6, 7, 8, 9, 10], []) else none
noncomputable abbrev E78 (m : Int) (x y : Value) : Env := ⟨prog, look (T78 m x y), QG m x y, K78⟩
def hd78 (l : List Acc) (n : Int) (h : Heap) (s : Nat × Nat) : St := ⟨envK [(0, .d (.list 58 (l.map accD))), (1, .d (.int .i64 n)), (2, .fn 79 []), (6, .d (.int .i64 0)), (7, .d (.bool false)), (8, .d (.int .i64 l.length)), (9, .d (.int .i64 s.1)), (10, .d (.int .i64 s.2))], h⟩

theorem step78 (k : Nat) (l : List Acc) (n : Int) (h : Heap) (hl : l.length < 4611686018427387904) (s : Nat × Nat) (hI : s.1 ≤ s.2 ∧ s.2 ≤ l.length) :
    round (exec (E78 m x y) k (loopB f78 0)) (K78 3) h.boxes.length (hd78 l n h s) = some ((stBS (fun i => decide ((ata l i).id < n)) s).elim (fun s' => (.normal, hd78 l n h s')) fun r => (.exit 0, hd78 l n h r)) := by
  obtain ⟨lo, hi⟩ := s
  obtain ⟨h1, h2⟩ := hI
  simp only at h1 h2
  by_cases hlt : lo < hi
  · have e1 : ((lo : Int) + hi) / 2 = (((lo + hi) / 2 : Nat) : Int) := by omega
    simp [-List.reduceReplicate, -ite_eq_left_iff, -ite_eq_right_iff, -getElem?_pos, loopB, loopsOf, f78, hd78, K78, T78, hlt]
    rw [show min 1 IntKind.u64.bits = 1 from rfl]
    simp (disch := omega) only [wrap_i64, wrap_u64, fdiv_pos, Int.reducePow, e1, Int.toNat_natCast]
    repeat (first | refine chk_eq (by omega) ?_)
    by_cases hp : (ata l ((lo + hi) / 2)).id < n
    · rw [show stBS (fun i => decide ((ata l i).id < n)) (lo, hi) = .inl ((lo + hi) / 2 + 1, hi) from by simp [stBS, hlt, hp]]
      exact ite_p (by rw [if_pos hp]; omega) (by simp)
    · rw [show stBS (fun i => decide ((ata l i).id < n)) (lo, hi) = .inl (lo, (lo + hi) / 2) from by simp [stBS, hlt, hp]]
      exact ite_n (by rw [if_neg hp]; split <;> omega) (by simp)
  · obtain rfl : lo = hi := by omega
    rw [show stBS (fun i => decide ((ata l i).id < n)) (lo, lo) = .inr (lo, lo) from by simp [stBS]]
    simp [-List.reduceReplicate, -ite_eq_left_iff, -ite_eq_right_iff, -getElem?_pos, loopB, loopsOf, f78, hd78, K78, T78]

theorem tw_len {α : Type} [Inhabited α] {q : α → Bool} : ∀ (l : List α) (k : Nat), k ≤ l.length → (∀ i, i < k → q (ata l i) = true) → (k < l.length → q (ata l k) = false) → (l.takeWhile q).length = k
  | [], k, h, _, _ => by simp at h; subst h; rfl
  | a :: l, 0, _, _, h => by
    have := h (by simp)
    simp only [ata_zero] at this
    simp [this]
  | a :: l, k + 1, h, h1, h2 => by
    have h0 := h1 0 (by omega)
    simp only [ata_zero] at h0
    simp only [List.takeWhile_cons, h0, if_true, List.length_cons, Nat.add_right_cancel_iff]
    exact tw_len l k (by simpa using h) (fun i hi => by simpa using h1 (i + 1) (by omega)) fun hk => by simpa using h2 (by simp; omega)

def posA (l : List Acc) (n : Int) : Nat := (l.takeWhile fun a => decide (a.id < n)).length
def hasA (l : List Acc) (n : Int) : Bool := decide (posA l n < l.length) && decide ((ata l (posA l n)).id = n)
def sortA (l : List Acc) : Prop := ∀ i j, i ≤ j → j < l.length → (ata l i).id ≤ (ata l j).id
theorem sortA_of {l : List Acc} (h : accsOK l = true) : sortA l := by
  rw [accsOK_iff] at h
  intro i j hij
  induction j with
  | zero => intro _; rw [show i = 0 by omega]; exact Int.le_refl _
  | succ j ih =>
    intro hj
    by_cases he : i = j + 1
    · rw [he]; exact Int.le_refl _
    · have h1 := ih (by omega) (by omega)
      have h2 := h (j + 1) hj
      simp [accAt] at h2
      omega

theorem bsA_ends (l : List Acc) (n : Int) (hl : l.length < 4611686018427387904) (hs : sortA l) : itr (stBS (fun i => decide ((ata l i).id < n))) fuel (0, l.length) = some (posA l n, posA l n) ∧ posA l n ≤ l.length ∧ (∀ i, i < posA l n → (ata l i).id < n) ∧ ∀ i, posA l n ≤ i → i < l.length → n ≤ (ata l i).id := by
  obtain ⟨k, h1, h2, h3, h4⟩ := bs_ends (fun i => decide ((ata l i).id < n)) l.length (by simp [fuel]; omega) (fun i j hij hj hp => by
    have := hs i j hij hj
    simp at hp ⊢; omega)
  have hk : posA l n = k := tw_len l k h2 (fun i hi => h3 i hi) fun hk => h4 k (Nat.le_refl _) hk
  rw [hk]
  exact ⟨h1, h2, fun i hi => by simpa using h3 i hi, fun i h5 h6 => by have := h4 i h5 h6; simp at this; omega⟩

theorem run78 (l : List Acc) (n : Int) (h : Heap) (hl : l.length < 4611686018427387904) (hs : sortA l) : runF (E78 m x y) fuel (bodyOf f78) f78.results.toList [.d (.list 58 (l.map accD)), .d (.int .i64 n), .fn 79 []] h = some ([.d (.int .i64 (posA l n)), .d (.bool (hasA l n))], h) := by
  obtain ⟨hi, hp, h1, h2⟩ := bsA_ends l n hl hs
  have hh := loop_itr (hd78 l n h) (fun r => (.exit 0, hd78 l n h r)) (fun r => by simp) (stBS (fun i => decide ((ata l i).id < n))) (fun s => s.1 ≤ s.2 ∧ s.2 ≤ l.length) (step78 (m := m) (x := x) (y := y) fuel l n h hl) (fun s s' hs he => by
    obtain ⟨lo, hi⟩ := s
    unfold stBS at he
    split at he
    · rename_i hlt
      simp only at hlt hs
      split at he <;> (simp only [Sum.inl.injEq] at he; subst he; simp; omega)
    · cases he) fuel (0, l.length) _ (by simp) hi
  simp [-List.reduceReplicate, loopB, loopsOf, f78, hd78, K78] at hh
  by_cases hk : posA l n < l.length
  · have hv := h2 (posA l n) (Nat.le_refl _) hk
    simp [-List.reduceReplicate, -ite_eq_left_iff, -ite_eq_right_iff, -getElem?_pos, f78, exec_loop, keyC, K78, hh, T78, hk, hasA]
    have hnl : ¬ (ata l (posA l n)).id < n := by omega
    rw [if_neg hnl]
    by_cases he : (ata l (posA l n)).id = n
    · simp [he]
    · have hgt : n < (ata l (posA l n)).id := by omega
      simp [hgt, he]
  · simp [-List.reduceReplicate, -ite_eq_left_iff, -ite_eq_right_iff, -getElem?_pos, f78, exec_loop, keyC, K78, hh, T78, hk, hasA]

noncomputable def s78 : List AV → Heap → Option (AV × Heap) := specEf (fun q : List Acc × Int => [.d (.list 58 (q.1.map accD)), .d (.int .i64 q.2), .fn 79 []]) (fun q => .tup [.d (.int .i64 (posA q.1 q.2)), .d (.bool (hasA q.1 q.2))]) (fun q => q.1.length < 4611686018427387904 ∧ sortA q.1)
@[simp] theorem s78_eq (l : List Acc) (n : Int) (h : Heap) : s78 [.d (.list 58 (l.map accD)), .d (.int .i64 n), .fn 79 []] h = chk (l.length < 4611686018427387904 ∧ sortA l) (some (.tup [.d (.int .i64 (posA l n)), .d (.bool (hasA l n))], h)) :=
  specEf_eq (I := fun q : List Acc × Int => [.d (.list 58 (q.1.map accD)), .d (.int .i64 q.2), .fn 79 []]) (fun a b h => by
    obtain ⟨a1, a2⟩ := a
    obtain ⟨b1, b2⟩ := b
    simp at h
    rw [map_inj accD_inj h.1, h.2]) (l, n) h
theorem m78 : Meets prog (QG m x y) 78 (.eff s78) := meets_specEf (l := T78 m x y) K78 ⟨eff_of_pure m_acmp, trivial⟩ orders func78 (by kernel_rfl) (fun _ => by simp [f78]) (fun q => [.d (.int .i64 (posA q.1 q.2)), .d (.bool (hasA q.1 q.2))]) (fun _ => rfl) fun q h hp => run78 q.1 q.2 h hp.1 hp.2

noncomputable def aAfind (m : Int) (x y : Value) := autoF prog (QG m x y) [(78, .eff s78)] noK f59
theorem m_afind : Meets prog (QG m x y) 59 (.pure (aAfind m x y)) := auto_meets noK ⟨m78, trivial⟩ orders func59 (by kernel_rfl)
@[simp] theorem aAfind_eq (l : List Acc) (n : Int) : aAfind m x y [.list 58 (l.map accD), .int .i64 n] = chk (l.length < 4611686018427387904 ∧ sortA l) (some [.int .i64 (posA l n), .bool (hasA l n)]) := by
  simp [aAfind, autoF, f59]

def getA (l : List Acc) (n : Int) : Acc := if hasA l n = true then ata l (posA l n) else ⟨n, 0, 0⟩
noncomputable def aAget (m : Int) (x y : Value) := autoF prog (QG m x y) [(59, .pure (aAfind m x y))] noK f41
theorem m_aget : Meets prog (QG m x y) 41 (.pure (aAget m x y)) := auto_meets noK ⟨m_afind, trivial⟩ orders func41 (by kernel_rfl)
@[simp] theorem aAget_eq (l : List Acc) (n : Int) : aAget m x y [.list 58 (l.map accD), .int .i64 n] = chk (l.length < 4611686018427387904 ∧ sortA l) (some [accD (getA l n)]) := by
  unfold getA
  cases hk : hasA l n with
  | false => simp [aAget, autoF, f41, hk]
  | true =>
    have hp : posA l n < l.length := by simp [hasA] at hk; exact hk.1
    simp [-getElem?_pos, aAget, autoF, f41, hk, hp]

noncomputable def T17 (m : Int) (x y : Value) : List (FuncId × Spec) := [(38, .pure s38), (40, .pure (aAid m x y)), (41, .pure (aAget m x y))]
def GetA (l : List Acc) (n : Int) : Acc := if accsOK l = true ∧ 1 ≤ n ∧ n ≤ 40 then getA l n else ⟨0, 0, 0⟩
theorem tree17 (l : List Acc) (n : Int) (hl : l.length < 4611686018427387904) : treeF ⟨prog, look (T17 m x y), QG m x y, noK⟩ fuel (bodyOf f17) f17.results.toList [.list 58 (l.map accD), .int .i64 n] = some [accD (GetA l n)] := by
  unfold GetA
  have h2 : l.length < 9223372036854775807 := by omega
  cases hk : accsOK l with
  | false => simp [T17, f17, hk, gd_eq, h2]
  | true =>
    have hs := sortA_of hk
    simp [-getElem?_pos, T17, f17, hk, hs, gd_eq, hl, h2]
    by_cases hn : 1 ≤ n ∧ n ≤ 40
    · rw [if_pos hn]; exact ite_n (by omega) rfl
    · rw [if_neg hn]; exact ite_p (by omega) rfl
noncomputable def s17 : List DV → Option (List DV) := specOf (fun q : List Acc × Int => [.list 58 (q.1.map accD), .int .i64 q.2]) (fun q => [accD (GetA q.1 q.2)]) (fun q => q.1.length < 4611686018427387904)
@[simp] theorem s17_eq (l : List Acc) (n : Int) : s17 [.list 58 (l.map accD), .int .i64 n] = chk (l.length < 4611686018427387904) (some [accD (GetA l n)]) :=
  specOf_eq (I := fun q : List Acc × Int => [.list 58 (q.1.map accD), .int .i64 q.2]) (fun a b h => by
    obtain ⟨a1, a2⟩ := a
    obtain ⟨b1, b2⟩ := b
    simp at h
    rw [map_inj accD_inj h.1, h.2]) (l, n)
theorem m17 : Meets prog (QG m x y) 17 (.pure s17) := meets_spec (l := T17 m x y) noK ⟨m38, m_aid, m_aget, trivial⟩ orders func17 (by kernel_rfl) (fun _ => by simp [f17]) fun q h => tree17 q.1 q.2 h

/-! ### pairs -/
noncomputable def aKcmp (m : Int) (x y : Value) := autoF prog (QG m x y) [(62, .pure sCompare)] noK f61
theorem m_kcmp : Meets prog (QG m x y) 61 (.pure (aKcmp m x y)) := auto_meets noK ⟨m_Compare, trivial⟩ orders func61 (by kernel_rfl)
@[simp] theorem aKcmp_eq (a b n : List UInt8) : aKcmp m x y [.agg 51 [.str (strL a), .str (strL b)], .str (strL n)] = some [.int .i64 (Lib.compareBytes a n)] := by
  simp [aKcmp, autoF, f61, sCompare]

noncomputable def T60 (m : Int) (x y : Value) : List (FuncId × Spec) := [(61, .eff (effOf prog (aKcmp m x y)))]
def K60 : Nat → Option (List Nat × List Nat) := fun k => if k = 3 then some ([0, 1, 2, 6, 7, 8, 9, 10], []) else none
noncomputable abbrev E60 (m : Int) (x y : Value) : Env := ⟨prog, look (T60 m x y), QG m x y, K60⟩
def hd60 (l : List Pr) (n : List UInt8) (h : Heap) (s : Nat × Nat) : St := ⟨envK [(0, .d (.list 52 (l.map prD))), (1, .d (.str (strL n))), (2, .fn 61 []), (6, .d (.int .i64 0)), (7, .d (.bool false)), (8, .d (.int .i64 l.length)), (9, .d (.int .i64 s.1)), (10, .d (.int .i64 s.2))], h⟩
def ltP (l : List Pr) (n : List UInt8) (i : Nat) : Bool := decide (Lib.compareBytes (ata l i).key n < 0)

theorem step60 (k : Nat) (l : List Pr) (n : List UInt8) (h : Heap) (hl : l.length < 4611686018427387904) (s : Nat × Nat) (hI : s.1 ≤ s.2 ∧ s.2 ≤ l.length) :
    round (exec (E60 m x y) k (loopB f60 0)) (K60 3) h.boxes.length (hd60 l n h s) = some ((stBS (ltP l n) s).elim (fun s' => (.normal, hd60 l n h s')) fun r => (.exit 0, hd60 l n h r)) := by
  obtain ⟨lo, hi⟩ := s
  obtain ⟨h1, h2⟩ := hI
  simp only at h1 h2
  by_cases hlt : lo < hi
  · have e1 : ((lo : Int) + hi) / 2 = (((lo + hi) / 2 : Nat) : Int) := by omega
    simp [-List.reduceReplicate, -ite_eq_left_iff, -ite_eq_right_iff, -getElem?_pos, loopB, loopsOf, f60, hd60, K60, T60, hlt]
    rw [show min 1 IntKind.u64.bits = 1 from rfl]
    simp (disch := omega) only [wrap_i64, wrap_u64, fdiv_pos, Int.reducePow, e1, Int.toNat_natCast]
    repeat (first | refine chk_eq (by omega) ?_)
    by_cases hp : Lib.compareBytes (ata l ((lo + hi) / 2)).key n < 0
    · rw [show stBS (ltP l n) (lo, hi) = .inl ((lo + hi) / 2 + 1, hi) from by simp [stBS, hlt, hp, ltP]]
      exact ite_p hp (by simp)
    · rw [show stBS (ltP l n) (lo, hi) = .inl (lo, (lo + hi) / 2) from by simp [stBS, hlt, hp, ltP]]
      exact ite_n hp (by simp)
  · obtain rfl : lo = hi := by omega
    rw [show stBS (ltP l n) (lo, lo) = .inr (lo, lo) from by simp [stBS]]
    simp [-List.reduceReplicate, -ite_eq_left_iff, -ite_eq_right_iff, -getElem?_pos, loopB, loopsOf, f60, hd60, K60, T60]

def posP (l : List Pr) (n : List UInt8) : Nat := (l.takeWhile fun a => decide (Lib.compareBytes a.key n < 0)).length
def hasP (l : List Pr) (n : List UInt8) : Bool := decide (posP l n < l.length) && decide (Lib.compareBytes (ata l (posP l n)).key n = 0)
def sortP (l : List Pr) : Prop := ∀ n i j, i ≤ j → j < l.length → ltP l n j = true → ltP l n i = true

theorem bsP_ends (l : List Pr) (n : List UInt8) (hl : l.length < 4611686018427387904) (hs : sortP l) : itr (stBS (ltP l n)) fuel (0, l.length) = some (posP l n, posP l n) ∧ posP l n ≤ l.length := by
  obtain ⟨k, h1, h2, h3, h4⟩ := bs_ends (ltP l n) l.length (by simp [fuel]; omega) (hs n)
  have hk : posP l n = k := tw_len l k h2 (fun i hi => h3 i hi) fun hk => h4 k (Nat.le_refl _) hk
  rw [hk]
  exact ⟨h1, h2⟩

theorem run60 (l : List Pr) (n : List UInt8) (h : Heap) (hl : l.length < 4611686018427387904) (hs : sortP l) : runF (E60 m x y) fuel (bodyOf f60) f60.results.toList [.d (.list 52 (l.map prD)), .d (.str (strL n)), .fn 61 []] h = some ([.d (.int .i64 (posP l n)), .d (.bool (hasP l n))], h) := by
  obtain ⟨hi, hp⟩ := bsP_ends l n hl hs
  have hh := loop_itr (hd60 l n h) (fun r => (.exit 0, hd60 l n h r)) (fun r => by simp) (stBS (ltP l n)) (fun s => s.1 ≤ s.2 ∧ s.2 ≤ l.length) (step60 (m := m) (x := x) (y := y) fuel l n h hl) (fun s s' hs he => by
    obtain ⟨lo, hi⟩ := s
    unfold stBS at he
    split at he
    · rename_i hlt
      simp only at hlt hs
      split at he <;> (simp only [Sum.inl.injEq] at he; subst he; simp; omega)
    · cases he) fuel (0, l.length) _ (by simp) hi
  simp [-List.reduceReplicate, loopB, loopsOf, f60, hd60, K60] at hh
  by_cases hk : posP l n < l.length
  · simp [-List.reduceReplicate, -ite_eq_left_iff, -ite_eq_right_iff, -getElem?_pos, f60, exec_loop, keyC, K60, hh, T60, hk, hasP]
    rfl
  · simp [-List.reduceReplicate, -ite_eq_left_iff, -ite_eq_right_iff, -getElem?_pos, f60, exec_loop, keyC, K60, hh, T60, hk, hasP]

noncomputable def s60 : List AV → Heap → Option (AV × Heap) := specEf (fun q : List Pr × List UInt8 => [.d (.list 52 (q.1.map prD)), .d (.str (strL q.2)), .fn 61 []]) (fun q => .tup [.d (.int .i64 (posP q.1 q.2)), .d (.bool (hasP q.1 q.2))]) (fun q => q.1.length < 4611686018427387904 ∧ sortP q.1)
@[simp] theorem s60_eq (l : List Pr) (n : List UInt8) (h : Heap) : s60 [.d (.list 52 (l.map prD)), .d (.str (strL n)), .fn 61 []] h = chk (l.length < 4611686018427387904 ∧ sortP l) (some (.tup [.d (.int .i64 (posP l n)), .d (.bool (hasP l n))], h)) :=
  specEf_eq (I := fun q : List Pr × List UInt8 => [.d (.list 52 (q.1.map prD)), .d (.str (strL q.2)), .fn 61 []]) (fun a b h => by
    obtain ⟨a1, a2⟩ := a
    obtain ⟨b1, b2⟩ := b
    simp at h
    rw [map_inj prD_inj h.1, h.2]) (l, n) h
theorem m60 : Meets prog (QG m x y) 60 (.eff s60) := meets_specEf (l := T60 m x y) K60 ⟨eff_of_pure m_kcmp, trivial⟩ orders func60 (by kernel_rfl) (fun _ => by simp [f60]) (fun q => [.d (.int .i64 (posP q.1 q.2)), .d (.bool (hasP q.1 q.2))]) (fun _ => rfl) fun q h hp => run60 q.1 q.2 h hp.1 hp.2

noncomputable def aKfind (m : Int) (x y : Value) := autoF prog (QG m x y) [(60, .eff s60)] noK f42
theorem m_kfind : Meets prog (QG m x y) 42 (.pure (aKfind m x y)) := auto_meets noK ⟨m60, trivial⟩ orders func42 (by kernel_rfl)
@[simp] theorem aKfind_eq (l : List Pr) (n : List UInt8) : aKfind m x y [.list 52 (l.map prD), .str (strL n)] = chk (l.length < 4611686018427387904 ∧ sortP l) (some [.int .i64 (posP l n), .bool (hasP l n)]) := by
  simp [aKfind, autoF, f42]
@[simp] theorem aKfind_nil (n : List UInt8) : aKfind m x y [.list 52 [], .str (strL n)] = some [.int .i64 0, .bool false] :=
  (aKfind_eq [] n).trans (chk_eq ⟨by simp, fun _ _ j _ hj => by simp at hj⟩ (by simp [posP, hasP]))

end
end Go.Tith
