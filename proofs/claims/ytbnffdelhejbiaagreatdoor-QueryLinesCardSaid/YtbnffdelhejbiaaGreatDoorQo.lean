/- The first state; the plain law of lines; QueryLines on trees. A part of the proof: no condition of mine beyond what each theorem states. -/
import Derived.Test.YtbnffdelhejbiaaGreatDoorQn
import Derived.Test.YtbnffdelhejbiaaGreatDoorMe
import Derived.Test.YtbnffdelhejbiaaGreatDoorRows
import Derived.Lib.LaidTab

namespace Go.Tith
open Go.Proofs Go.Proofs.Tryz

section
variable {m : Int} {x y : Value}

/-! ### account.First -/
def firstTo (n : Nat) : List Acc := (List.range n).map fun (i : Nat) => ⟨(i : Int) + 1, 0, 1000⟩
def K37 : Nat → Option (List Nat × List Nat) := fun k => if k = 3 then some ([0, 1, 3], [1]) else none
noncomputable abbrev E37 (m : Int) (x y : Value) : Env := ⟨prog, look [], QG m x y, K37⟩
def hd37 (i : Nat) : St := ⟨envK [(0, .lst none 58 []), (1, .lst (some 0) 58 ((firstTo i).map accD)), (3, .d (.int .i64 i))], ⟨[], [i]⟩⟩
def st37 (i : Nat) : Nat ⊕ Nat := if i < 8 then .inl (i + 1) else .inr i
theorem firstTo_length (n : Nat) : (firstTo n).length = n := by simp [firstTo]
theorem firstTo_succ (n : Nat) : firstTo (n + 1) = firstTo n ++ [⟨(n : Int) + 1, 0, 1000⟩] := by simp [firstTo, List.range_succ]

theorem step37 (n : Nat) (i : Nat) (hi : i ≤ 8) :
    round (exec (E37 m x y) n (loopB f37 0)) (K37 3) 0 (hd37 i) = some ((st37 i).elim (fun s' => (.normal, hd37 s')) fun r => (.exit 0, hd37 r)) := by
  have hl := firstTo_length i
  by_cases h : i < 8
  · rw [show st37 i = .inl (i + 1) from by simp [st37, h]]
    simp [-List.reduceReplicate, -ite_eq_left_iff, -ite_eq_right_iff, loopB, loopsOf, f37, hd37, K37, firstTo_length]
    simp (disch := omega) only [wrap_i64]
    repeat (first | refine chk_eq (by omega) ?_ | refine ite_p (by omega) ?_ | refine ite_n (by omega) ?_)
    simp [firstTo_succ]
  · obtain rfl : i = 8 := by omega
    simp [-List.reduceReplicate, loopB, loopsOf, f37, hd37, K37, st37]

theorem itr37 : itr st37 fuel 0 = some 8 :=
  itr_measure (step := st37) (fun s => s ≤ 8) (fun s => 8 - s) (fun _ => 8) (fun s hs => by
    by_cases h : s < 8
    · exact .inl ⟨s + 1, by simp [st37, h], by omega, by omega, rfl⟩
    · obtain rfl : s = 8 := by omega
      exact .inr rfl) fuel 0 (by omega) (by simp [fuel])
theorem loop37 : loopN (exec (E37 m x y) fuel (loopB f37 0)) (K37 3) 0 fuel (hd37 0) = some (.exit 0, hd37 8) :=
  loop_itr hd37 (fun r => (.exit 0, hd37 r)) (fun _ => by simp) st37 (fun s => s ≤ 8) (step37 (m := m) (x := x) (y := y) fuel) (fun s s' hs he => by
    unfold st37 at he
    split at he
    · simp at he; omega
    · cases he) fuel 0 8 (by omega) itr37
theorem tree37 : treeF (E37 m x y) fuel (bodyOf f37) f37.results.toList [] = some [.list 58 ((firstTo 8).map accD)] := by
  have h := loop37 (m := m) (x := x) (y := y)
  simp [-List.reduceReplicate, loopB, loopsOf, f37, hd37, K37, firstTo] at h
  simp [-List.reduceReplicate, f37, exec_loop, keyC, K37, h, firstTo]

noncomputable def s37 : List DV → Option (List DV) := specOf (fun _ : Unit => []) (fun _ => [.list 58 ((firstTo 8).map accD)]) (fun _ => True)
@[simp] theorem s37_eq : s37 [] = some [.list 58 ((firstTo 8).map accD)] := (specOf_eq (fun a b h => rfl) ()).trans chk_true
theorem m37 : Meets prog (QG m x y) 37 (.pure s37) := meets_spec (l := []) K37 trivial orders func37 (by kernel_rfl) (fun _ => by simp [f37]) fun _ _ => tree37

/-! ### ledger.First, Check; query.fail, Ask -/
noncomputable def aLFirst (m : Int) (x y : Value) := autoF prog (QG m x y) [(37, .pure s37)] noK f13
theorem m_lFirst : Meets prog (QG m x y) 13 (.pure (aLFirst m x y)) := auto_meets noK ⟨m37, trivial⟩ orders func13 (by kernel_rfl)
noncomputable def aLCheck (m : Int) (x y : Value) := autoF prog (QG m x y) [(38, .pure s38), (39, .pure s39)] noK f14
theorem m_lCheck : Meets prog (QG m x y) 14 (.pure (aLCheck m x y)) := auto_meets noK ⟨m38, m39, trivial⟩ orders func14 (by kernel_rfl)
noncomputable def aQfail (m : Int) (x y : Value) := autoF prog (QG m x y) [] noK f15
theorem m_qfail : Meets prog (QG m x y) 15 (.pure (aQfail m x y)) := auto_meets noK trivial orders func15 (by kernel_rfl)
noncomputable def T7 (m : Int) (x y : Value) : List (FuncId × Spec) := [(14, .pure (aLCheck m x y)), (15, .pure (aQfail m x y)), (16, .pure (aQid m x y)), (17, .pure s17)]
noncomputable def aAsk1 (m : Int) (x y : Value) := autoF prog (QG m x y) (T7 m x y) noK f7
theorem m_qAsk1 : Meets prog (QG m x y) 7 (.pure (aAsk1 m x y)) := auto_meets noK ⟨m_lCheck, m_qfail, m_qid, m17, trivial⟩ orders func7 (by kernel_rfl)

/-! ### awake -/
theorem parse_bal3 : parseQ [98, 97, 108, 97, 110, 99, 101, 32, 51] = some ⟨1, 3, [], z32⟩ := by decide +kernel
theorem first_ok : accsOK (firstTo 8) = true := by decide +kernel
@[simp] theorem first_get : GetA (firstTo 8) 3 = ⟨3, 0, 1000⟩ := by decide +kernel
theorem no_prs : prsOK [] = true := by decide +kernel
noncomputable def T6 (m : Int) (x y : Value) : List (FuncId × Spec) := [(9, .pure s9), (13, .pure (aLFirst m x y)), (7, .pure (aAsk1 m x y))]
theorem tree6 : treeF ⟨prog, look (T6 m x y), QG m x y, noK⟩ fuel (bodyOf f6) f6.results.toList [] = some [.bool true] := by
  have hz : List.replicate 32 (0 : UInt8) = z32 := rfl
  have hl := firstTo_length 8
  simp [-List.reduceReplicate, f6, T6, parse_bal3, aLFirst, autoF, f13, aAsk1, T7, f7, aLCheck, f14, hz, hl, first_ok, first_get]

noncomputable def s6 : List DV → Option (List DV) := specOf (fun _ : Unit => []) (fun _ => [.bool true]) (fun _ => True)
@[simp] theorem s6_eq : s6 [] = some [.bool true] := (specOf_eq (fun _ _ _ => rfl) ()).trans chk_true
theorem m6 (hx : ifV x = true) (hy : ifV y = true) : Meets prog (QG m x y) 6 (.pure s6) := meets_spec (l := T6 m x y) noK ⟨m9 hx hy, m_lFirst, m_qAsk1, trivial⟩ orders func6 (by kernel_rfl) (fun _ => by simp [f6]) fun _ _ => tree6

end
end Go.Tith

namespace Go.Tith

theorem lineQ_eq {q : Qu} (hr : rightQ q = true) : lineQ q = rLineT q := by
  obtain ⟨k, i, s, h⟩ := q
  unfold lineQ rLineT wordsQ
  rw [hr]
  simp only [if_true]
  unfold rightQ at hr
  simp only at hr ⊢
  split
  · rename_i hk; subst hk
    simp at hr
    rw [show i = ((i.toNat : Nat) : Int) by omega, Lib.itoa_nonneg]
    simp [Lib.join, List.intercalate, wBal, show max i 0 = i by omega]
  split
  · rename_i hk; subst hk
    simp at hr
    rw [show i = ((i.toNat : Nat) : Int) by omega, Lib.itoa_nonneg]
    simp [Lib.join, List.intercalate, wNon, show max i 0 = i by omega]
  split
  · simp [Lib.join, List.intercalate, wVal]
  split
  · simp [Lib.join, List.intercalate, wRec]
  split
  · simp [Lib.join, List.intercalate, wHei]
  split
  · simp [Lib.join, List.intercalate, wDig]
  · simp [Lib.join, List.intercalate]

theorem isQ_iff {q : Qu} {s : List UInt8} : isQ q s = true ↔ rightQ q = true ∧ lineQ q = s := by
  unfold isQ
  simp only [Bool.and_eq_true, decide_eq_true_eq]
  constructor
  · rintro ⟨h1, h2⟩; exact ⟨h1, by rw [lineQ_eq h1]; exact h2⟩
  · rintro ⟨h1, h2⟩; exact ⟨h1, by rw [← lineQ_eq h1]; exact h2⟩

theorem readQ_tx (l : List (List UInt8)) : (readQ l).tx.length = 32 := by
  have := z32_len
  unfold readQ
  split
  · exact this
  split
  · exact this
  split
  · split
    · exact this
    split
    · exact this
    split
    · exact this
    split
    · split
      · exact unhexF_length _
      · exact this
    · exact this
  · exact this

theorem numF_itoa {t : List UInt8} (h : numF t ≠ 0) : Lib.itoa (numF t) = t := by
  unfold numF at h ⊢
  cases ha : Lib.atoiAll t
  · rename_i v
    rw [ha] at h
    simp only at h ⊢
    split
    · assumption
    · rename_i hn; rw [if_neg hn] at h; exact absurd rfl h
  · rw [ha] at h; exact absurd rfl h
  · rw [ha] at h; exact absurd rfl h

theorem parseQ_line {s : List UInt8} {q : Qu} (h : parseQ s = some q) : rightQ q = true ∧ lineQ q = s ∧ q.tx.length = 32 := by
  unfold parseQ at h
  split at h
  · rename_i hr
    simp only [Option.some.injEq] at h
    subst h
    refine ⟨hr, ?_, readQ_tx _⟩
    have hj := joinL_splitL 32 s
    generalize splitL 32 s = l at hr hj
    subst hj
    unfold readQ at hr ⊢
    split
    · rename_i e; subst e; rfl
    rename_i n1
    rw [if_neg n1] at hr
    split
    · rename_i e; subst e; rfl
    rename_i n2
    rw [if_neg n2] at hr
    split
    · rename_i a b
      simp only at hr
      split
      · rename_i e; subst e
        rw [if_pos rfl] at hr
        simp [rightQ] at hr
        have := numF_itoa (t := b) (by omega)
        simp [lineQ, wordsQ, joinL, Lib.join, List.intercalate, this]
      rename_i n3
      rw [if_neg n3] at hr
      split
      · rename_i e; subst e
        rw [if_pos rfl] at hr
        simp [rightQ] at hr
        have := numF_itoa (t := b) (by omega)
        simp [lineQ, wordsQ, joinL, Lib.join, List.intercalate, this]
      rename_i n4
      rw [if_neg n4] at hr
      split
      · rename_i e; subst e
        simp [lineQ, wordsQ, joinL, Lib.join, List.intercalate]
      rename_i n5
      rw [if_neg n5] at hr
      split
      · rename_i e; subst e
        rw [if_pos rfl] at hr
        split
        · rename_i e; simp [lineQ, wordsQ, joinL, Lib.join, List.intercalate, e]
        · rename_i e
          rw [if_neg e] at hr
          simp [rightQ, q0] at hr
      · rename_i n6
        rw [if_neg n6] at hr
        simp [rightQ, q0] at hr
    · simp [rightQ, q0] at hr
  · cases h

theorem key_clean {k : List UInt8} (h : keyOK k = true) : (32 : UInt8) ∉ k := by
  intro hm
  unfold keyOK at h
  simp only [Bool.and_eq_true] at h
  have := List.all_eq_true.1 h.1 _ hm
  revert this; decide
theorem hexd_clean : ∀ n, n < 16 → hexd n ≠ 32 := by decide
theorem hex_clean (h : List UInt8) : (32 : UInt8) ∉ hexL h := by
  intro hm
  unfold hexL at hm
  simp only [List.mem_flatMap] at hm
  obtain ⟨b, _, hb⟩ := hm
  have := b.toNat_lt
  simp [hexB] at hb
  rcases hb with hb | hb
  · exact hexd_clean _ (by omega) hb.symm
  · exact hexd_clean _ (by omega) hb.symm

theorem num40 : ∀ n : Nat, n ≤ 40 → 1 ≤ n → numF (Lib.itoa n) = n ∧ (32 : UInt8) ∉ Lib.itoa n := by
  have : ((List.range 41).all fun n => decide (1 ≤ n → numF (Lib.itoa n) = n ∧ (32 : UInt8) ∉ Lib.itoa n)) = true := by decide +kernel
  intro n hn h1
  exact of_decide_eq_true (List.all_eq_true.1 this n (List.mem_range.2 (by omega))) h1

theorem parseQ_lineQ {q : Qu} (hr : rightQ q = true) (ht : q.tx.length = 32) : parseQ (lineQ q) = some q := by
  suffices h : readQ (splitL 32 (lineQ q)) = q by
    unfold parseQ; rw [h, if_pos hr]
  obtain ⟨k, i, s, h⟩ := q
  simp only at ht
  unfold rightQ at hr
  simp only at hr
  have num : 1 ≤ i ∧ i ≤ 40 → numF (Lib.itoa i) = i ∧ (32 : UInt8) ∉ Lib.itoa i := fun hi => by
    have := num40 i.toNat (by omega) (by omega)
    rwa [show ((i.toNat : Nat) : Int) = i by omega] at this
  by_cases h1 : k = 1
  · subst h1
    simp at hr
    obtain ⟨rfl, rfl, h3⟩ := hr
    obtain ⟨e1, e2⟩ := num h3
    have : splitL 32 (lineQ ⟨1, i, [], z32⟩) = [[98, 97, 108, 97, 110, 99, 101], Lib.itoa i] := by
      rw [show lineQ ⟨1, i, [], z32⟩ = [98, 97, 108, 97, 110, 99, 101] ++ 32 :: Lib.itoa i from by simp [lineQ, wordsQ, Lib.join, List.intercalate], splitL_cat (by decide), splitL_none e2]
    rw [this]; simp [readQ, e1]
  by_cases h2 : k = 2
  · subst h2
    simp at hr
    obtain ⟨rfl, rfl, h3⟩ := hr
    obtain ⟨e1, e2⟩ := num h3
    have : splitL 32 (lineQ ⟨2, i, [], z32⟩) = [[110, 111, 110, 99, 101], Lib.itoa i] := by
      rw [show lineQ ⟨2, i, [], z32⟩ = [110, 111, 110, 99, 101] ++ 32 :: Lib.itoa i from by simp [lineQ, wordsQ, Lib.join, List.intercalate], splitL_cat (by decide), splitL_none e2]
    rw [this]; simp [readQ, e1]
  by_cases h3 : k = 3
  · subst h3
    simp at hr
    obtain ⟨rfl, rfl, h3⟩ := hr
    have : splitL 32 (lineQ ⟨3, 0, s, z32⟩) = [[118, 97, 108, 117, 101], s] := by
      rw [show lineQ ⟨3, 0, s, z32⟩ = [118, 97, 108, 117, 101] ++ 32 :: s from by simp [lineQ, wordsQ, Lib.join, List.intercalate], splitL_cat (by decide), splitL_none (key_clean h3)]
    rw [this]; simp [readQ]
  by_cases h4 : k = 4
  · subst h4
    simp at hr
    obtain ⟨rfl, rfl⟩ := hr
    have : splitL 32 (lineQ ⟨4, 0, [], h⟩) = [[114, 101, 99, 101, 105, 112, 116], hexL h] := by
      rw [show lineQ ⟨4, 0, [], h⟩ = [114, 101, 99, 101, 105, 112, 116] ++ 32 :: hexL h from by simp [lineQ, wordsQ, Lib.join, List.intercalate], splitL_cat (by decide), splitL_none (hex_clean h)]
    rw [this]; simp [readQ, unhexF_hexL h ht]
  by_cases h5 : k = 5
  · subst h5
    simp at hr
    obtain ⟨rfl, rfl, rfl⟩ := hr
    decide +kernel
  by_cases h6 : k = 6
  · subst h6
    simp at hr
    obtain ⟨rfl, rfl, rfl⟩ := hr
    decide +kernel
  simp [h1, h2, h3, h4, h5, h6] at hr

theorem refP_line {s : List UInt8} {q : Qu} (h : refP s = some q) : isQ q s = true ∧ q.tx.length = 32 := by
  unfold refP at h
  cases hF : FO s with
  | some r =>
    obtain ⟨k, i⟩ := r
    rw [hF] at h
    simp only [Option.some.injEq] at h; subst h
    refine ⟨?_, z32_len⟩
    have := ((FO_spec s).2.1 k i hF).1
    unfold FI at this
    split at this
    · simp at this; subst this; assumption
    · split at this
      · simp at this; subst this; assumption
      · cases this
  | none =>
    rw [hF] at h
    simp only at h
    split at h
    · split at h
      · simp only [Option.some.injEq] at h; subst h; exact ⟨by assumption, z32_len⟩
      · cases h
    split at h
    · split at h
      · simp only [Option.some.injEq] at h; subst h; exact ⟨by assumption, rHash_length _⟩
      · cases h
    · unfold FZ at h
      split at h
      · simp at h; subst h; exact ⟨by assumption, z32_len⟩
      · split at h
        · simp at h; subst h; exact ⟨by assumption, z32_len⟩
        · simp at h

theorem refP_none {s : List UInt8} (h : refP s = none) {q : Qu} (ht : q.tx.length = 32) : isQ q s = false := by
  cases hq : isQ q s with
  | false => rfl
  | true =>
    exfalso
    have hF : FO s = none := by
      cases hF : FO s with
      | none => rfl
      | some r => unfold refP at h; rw [hF] at h; cases h
    have hall := (FO_spec s).2.2 hF
    have hq' := hq
    unfold isQ at hq'
    simp only [Bool.and_eq_true, decide_eq_true_eq] at hq'
    obtain ⟨hr, hs⟩ := hq'
    obtain ⟨k, i, t, hh⟩ := q
    simp only at ht
    unfold rightQ at hr
    unfold rLineT at hs
    simp only at hr hs
    unfold refP at h
    rw [hF] at h
    simp only at h
    by_cases h1 : k = 1
    · subst h1
      simp at hr
      obtain ⟨rfl, rfl, h3⟩ := hr
      have := hall i h3.1 h3.2
      unfold FI qk at this
      rw [if_pos hq] at this
      cases this
    by_cases h2 : k = 2
    · subst h2
      simp at hr
      obtain ⟨rfl, rfl, h3⟩ := hr
      have := hall i h3.1 h3.2
      unfold FI qk at this
      rw [if_pos hq] at this
      split at this <;> cases this
    by_cases h3 : k = 3
    · subst h3
      simp at hr hs
      obtain ⟨rfl, rfl, h3⟩ := hr
      have hl : 1 ≤ t.length := by
        unfold keyOK at h3
        simp only [Bool.and_eq_true, decide_eq_true_eq] at h3
        omega
      have e1 : 6 < s.length ∧ s.take 6 = wVal := by rw [← hs]; simp [wVal]; omega
      have e2 : s.drop 6 = t := by rw [← hs]; simp [wVal]
      rw [if_pos e1, e2, if_pos hq] at h
      cases h
    by_cases h4 : k = 4
    · subst h4
      simp at hr hs
      obtain ⟨rfl, rfl⟩ := hr
      have hl := hexL_length hh
      have e0 : ¬ (6 < s.length ∧ s.take 6 = wVal) := by rw [← hs]; simp [wVal, wRec]
      have e1 : 8 < s.length ∧ s.take 8 = wRec := by rw [← hs]; simp [wRec]; omega
      have e2 : rHash (s.drop 8) = hh := by rw [← hs]; simp [wRec, rHash, unhexF_hexL hh ht]
      rw [if_neg e0, if_pos e1, e2, if_pos hq] at h
      cases h
    have fz : FZ s ≠ none → s = wHei ∨ s = wDig → False := fun hz hs' => by
      have e0 : ¬ (6 < s.length ∧ s.take 6 = wVal) := by rcases hs' with rfl | rfl <;> simp [wHei, wDig]
      have e1 : ¬ (8 < s.length ∧ s.take 8 = wRec) := by rcases hs' with rfl | rfl <;> simp [wHei, wDig]
      rw [if_neg e0, if_neg e1] at h
      cases hZ : FZ s with
      | none => exact hz hZ
      | some k => rw [hZ] at h; cases h
    by_cases h5 : k = 5
    · subst h5
      simp at hr hs
      obtain ⟨rfl, rfl, rfl⟩ := hr
      refine fz ?_ (.inl hs.symm)
      unfold FZ qk
      rw [if_pos hq]
      simp
    by_cases h6 : k = 6
    · subst h6
      simp at hr hs
      obtain ⟨rfl, rfl, rfl⟩ := hr
      refine fz ?_ (.inr hs.symm)
      unfold FZ qk
      split
      · simp
      · simp [hq]
    simp [h1, h2, h3, h4, h5, h6] at hr

theorem parse_same (s : List UInt8) : parseQ s = refP s := by
  cases hR : refP s with
  | some q =>
    obtain ⟨h1, h2⟩ := refP_line hR
    obtain ⟨h3, h4⟩ := isQ_iff.1 h1
    rw [← h4]
    exact parseQ_lineQ h3 h2
  | none =>
    cases hP : parseQ s with
    | none => rfl
    | some q =>
      obtain ⟨h1, h2, h3⟩ := parseQ_line hP
      have := refP_none hR h3
      rw [isQ_iff.2 ⟨h1, h2⟩] at this
      cases this

end Go.Tith

namespace Go.Tith
open Go.Proofs Go.Proofs.Tryz

section
variable {m : Int} {x y : Value}

theorem lineQ_len {q : Qu} (hk : q.key.length ≤ 100) (hi : -9223372036854775808 ≤ q.id ∧ q.id ≤ 9223372036854775807) (ht : q.tx.length = 32) : (lineQ q).length < 1000 := by
  have h21 := Lib.itoa_length_le q.id hi.1 hi.2
  have h64 := hexL_length q.tx
  unfold lineQ wordsQ
  split
  · simp [Lib.join, List.intercalate]; omega
  split
  · simp [Lib.join, List.intercalate]; omega
  split
  · simp [Lib.join, List.intercalate]; omega
  split
  · simp [Lib.join, List.intercalate]; omega
  split
  · simp [Lib.join, List.intercalate]
  split <;> simp [Lib.join, List.intercalate]

noncomputable def T4 : List (FuncId × Spec) := [(6, .pure s6), (9, .pure s9), (10, .pure s10), (11, .pure s11), (12, .pure s12)]
theorem tree4 (q : Qu) (s : List UInt8) (hi : -9223372036854775808 ≤ q.id ∧ q.id ≤ 9223372036854775807) (ht : q.tx.length = 32) : treeF ⟨prog, look T4, QG m x y, noK⟩ fuel (bodyOf f4) f4.results.toList [quD q, .str (strL s)] = some [.bool true] := by
  by_cases hbig : 100 < q.key.length ∨ 200 < s.length
  · obtain ⟨k, i, t, h⟩ := q
    simp only at hbig
    simp [-List.reduceReplicate, f4, T4]
    intro a b
    simp [gd_eq] at a
    omega
  have h100 : q.key.length ≤ 100 := by omega
  have h200 : s.length ≤ 200 := by omega
  have hll := lineQ_len h100 hi ht
  have hps := parse_same s
  have hc : ¬ ((200 : Int) < s.length) := by omega
  have hc2 : ¬ ((100 : Int) < q.key.length) := by omega
  have hs1 : s.length < 4294967281 := by omega
  have hs2 : s.length < 1000000000 := by omega
  have hk2 : q.key.length < 1000000000 := by omega
  cases hr : rightQ q with
  | false =>
    obtain ⟨k, i, t, h⟩ := q
    simp only at h100 hi ht hll hc2 hk2
    cases hP : refP s with
    | none =>
      simp [-List.reduceReplicate, f4, T4, hps, hr, hi, ht, hP, q0, hc, hc2, hs1, hs2, hk2, gd_eq]
    | some q' =>
      simp [-List.reduceReplicate, f4, T4, hps, hr, hi, ht, hP, hc, hc2, hs1, hs2, hk2, gd_eq]
  | true =>
    have hpl := parseQ_lineQ hr ht
    have hle := lineQ_eq hr
    rw [hle] at hpl hll
    obtain ⟨k, i, t, h⟩ := q
    simp only at h100 hi ht hll hc2 hk2
    cases hP : refP s with
    | none =>
      simp [-List.reduceReplicate, f4, T4, hps, hr, hi, ht, hpl, hle, hP, q0, hc, hc2, hs1, hs2, hk2, gd_eq]
      exact chk_eq (by omega) rfl
    | some q' =>
      simp [-List.reduceReplicate, f4, T4, hps, hr, hi, ht, hpl, hle, hP, hc, hc2, hs1, hs2, hk2, gd_eq]
      exact chk_eq (by omega) rfl

noncomputable def s4 : List DV → Option (List DV) := specOf (fun q : Qu × List UInt8 => [quD q.1, .str (strL q.2)]) (fun _ => [.bool true]) (fun q => (-9223372036854775808 ≤ q.1.id ∧ q.1.id ≤ 9223372036854775807) ∧ q.1.tx.length = 32)
theorem s4_eq (q : Qu × List UInt8) : s4 [quD q.1, .str (strL q.2)] = chk ((-9223372036854775808 ≤ q.1.id ∧ q.1.id ≤ 9223372036854775807) ∧ q.1.tx.length = 32) (some [.bool true]) := specOf_eq (fun a b h => by
    obtain ⟨⟨a1, a2, a3, a4⟩, a5⟩ := a; obtain ⟨⟨b1, b2, b3, b4⟩, b5⟩ := b; simpa [and_assoc] using h) q
theorem m4 (hx : ifV x = true) (hy : ifV y = true) : Meets prog (QG m x y) 4 (.pure s4) := meets_spec (l := T4) noK ⟨m6 hx hy, m9 hx hy, m10, m11, m12, trivial⟩ orders func4 (by kernel_rfl) (fun _ => by simp [f4]) fun q h => tree4 q.1 q.2 h.1 h.2

end
end Go.Tith

namespace Go.Tith
open Go.Proofs Go.Proofs.Tryz Go.Proofs.YtbnffdelhejbiaaGreatDoor

theorem relDs_ints {P : Program} {C : Con} {w : World} {k : IntKind} {e : TypeId} (he : oneB P e (isInt k) = true) : ∀ zs : List Int, relDs P C w (zs.map fun z => DV.int k z) (List.replicate zs.length e) (zs.map fun z => Value.int k z)
  | [] => by simp [relDs]
  | z :: zs => by
    simp only [List.map_cons, List.length_cons, List.replicate_succ, relDs]
    exact ⟨e, _, [.int k z], _, rfl, rfl, by simpa [fitsD] using he, by simp [oneB_size he], by simp [relD], relDs_ints he zs⟩

theorem var_heap {P : Program} {w : World} {n : String} {g : Nat} {cs : Array Value} (h : w.var? P n = some cs) (hg : P.globalNamed n = some g) : ∃ e f, w.heap[g]? = some (.cells cs e f) := by
  unfold World.var? at h
  rw [hg] at h
  simp only [Option.bind_some] at h
  split at h
  · rename_i c e f hh
    simp only [Option.some.injEq] at h; subst h
    exact ⟨e, f, hh⟩
  · cases h

/-- A variable that is listed. -/
theorem laid_var {P : Program} {w : World} : ∀ {l : List (String × DataW Unit)} {ps : List MemPlace}, DataW.LaidVars P w l ps → ∀ {n : String} {d : DataW Unit}, (n, d) ∈ l →
    ∃ g t cs fuel p, P.globalNamed n = some g ∧ (P.globals[g]?).map (·.type) = some t ∧ w.var? P n = some cs ∧ DataW.trod (fun _ => ()) P w 0 (fun _ => true) false fuel t cs.toList = some (d, p)
  | [], _, _, n, d, h => by simp at h
  | (n', d') :: l, _, ⟨g, t, cs, fuel, p, q, h1, h2, h3, h4, h5, _⟩, n, d, h => by
    simp only [List.mem_cons] at h
    rcases h with h | h
    · cases h; exact ⟨g, t, cs, fuel, p, h1, h2, h3, h4⟩
    · exact laid_var h5 h

theorem trod_iface {P : Program} {w : World} {fuel : Nat} {t : TypeId} {ms : Array (String × TypeId)} {cs : List Value} {nm : String} {d : DataW Unit} {p : List MemPlace} (ht : P.underlying t = some (.interface ms))
    (h : DataW.trod (fun _ => ()) P w 0 (fun _ => true) false fuel t cs = some (.iface nm d, p)) : ∃ u v, cs = [.iface u v] := by
  cases fuel with
  | zero => simp [DataW.trod] at h
  | succ m =>
    unfold DataW.trod at h
    rw [ht] at h
    split at h <;> simp_all

theorem iface_ok {P : Program} {C : Con} {w : World} {l : List (String × DataW Unit)} {n : String} {g : Nat} {t : TypeId} {ms : Array (String × TypeId)} {nm : String} {d : DataW Unit} {ps : List MemPlace} (hL : DataW.LaidVars P w l ps) (hm : (n, .iface nm d) ∈ l)
    (hg : P.globalNamed n = some g) (hty : (P.globals[g]?).map (·.type) = some t) (ht : P.underlying t = some (.interface ms)) (hc : P.cellsOf t = 1) (hf : oneB P t isIface = true) :
    ∃ v, ifV v = true ∧ ∃ cs e f, w.heap[g]? = some (.cells cs e f) ∧ cs.size = P.cellsOf t ∧ relD P C w (.any v) cs.toList ∧ fitsD P t (.any v) = true := by
  obtain ⟨g', t', cs, fuel, p, h1, h2, h3, h4⟩ := laid_var hL hm
  obtain rfl := Option.some.inj (hg.symm.trans h1)
  obtain rfl := Option.some.inj (hty.symm.trans h2)
  obtain ⟨u, v, hcs⟩ := trod_iface ht h4
  obtain ⟨e, f, hh⟩ := var_heap h3 hg
  refine ⟨.iface u v, rfl, cs, e, f, hh, ?_, ?_, by simpa [fitsD] using hf⟩
  · rw [hc, ← Array.length_toList, hcs]; rfl
  · simp [relD, hcs, ifV]

theorem ints_ok {P : Program} {C : Con} {w : World} {l : List (String × DataW Unit)} {n : String} {g N : Nat} {t e0 : TypeId} {k : IntKind} {zs : List Int} {ps : List MemPlace} (hL : DataW.LaidVars P w l ps) (hm : (n, Lib.tabData k zs) ∈ l)
    (hg : P.globalNamed n = some g) (hty : (P.globals[g]?).map (·.type) = some t) (ht : P.underlying t = some (.array N e0)) (he : P.underlying e0 = some (.int k)) (hce : P.cellsOf e0 = 1) (hct : P.cellsOf t = N)
    (hN : zs.length = N) (hoe : oneB P e0 (isInt k) = true) (hag : aggT P t = true) :
    ∃ cs e f, w.heap[g]? = some (.cells cs e f) ∧ cs.size = P.cellsOf t ∧ relD P C w (.agg (P.underlyingId t) (zs.map fun z => DV.int k z)) cs.toList ∧ fitsD P t (.agg (P.underlyingId t) (zs.map fun z => DV.int k z)) = true := by
  obtain ⟨g', t', cs, fuel, p, h1, h2, h3, h4⟩ := laid_var hL hm
  obtain rfl := Option.some.inj (hg.symm.trans h1)
  obtain rfl := Option.some.inj (hty.symm.trans h2)
  have hcs := Lib.cells_of_tab ht he hce hct h4
  obtain ⟨e, f, hh⟩ := var_heap h3 hg
  have hl : cs.toList.length = P.cellsOf t := by rw [hcs, hct]; simpa using hN
  have hty : tys P t = List.replicate zs.length e0 := by simp [tys, ht, hct, hce, hN]
  obtain ⟨r1, r2⟩ := aggT_rel (C := C) (w := w) (xs := zs.map fun z => DV.int k z) (cs := cs.toList) hag hl (by rw [hty, hcs]; exact relDs_ints hoe zs)
  exact ⟨cs, e, f, hh, by simpa using hl, r1, r2⟩

theorem int_ok {P : Program} {C : Con} {w : World} {g : Nat} {t : TypeId} {zero : Array Value} {k : IntKind}
    (h : w.ShapedOpen P) (hg : g < P.globals.size) (h0 : ((begin P (fun _ _ => 0) default).world.heap[g]?).bind Obj.row? = some (zero, t)) (hz : zero.size = 1)
    (hb : P.buildable t = true) (hc : P.cellTypes P.depth t = some [t]) (hu : P.underlying t = some (.int k)) (hoe : oneB P t (isInt k) = true) :
    ∃ m, ∃ cs e f, w.heap[g]? = some (.cells cs e f) ∧ cs.size = P.cellsOf t ∧ relD P C w (.int k m) cs.toList ∧ fitsD P t (.int k m) = true := by
  obtain ⟨m, hm⟩ := Go.Proofs.cell_of_shapedOpen_int h hg h0 hz hb hc hu
  obtain ⟨cs, hh, hs, _⟩ := h.1 g zero t hg h0
  refine ⟨m, cs, _, _, hh, by rw [hs, hz, oneB_size hoe], ?_, by simpa [fitsD] using hoe⟩
  simp only [World.cell?, hh] at hm
  simp only [relD]
  obtain ⟨l⟩ := cs
  have hl : l.length = 1 := by simpa [hz] using hs
  match l, hl with
  | [a], _ => simpa using hm

theorem gok {W : World} (hL0 : laidMetH prog Rows.queryLinesRow.laid W) (hsh : W.ShapedOpen prog) : ∃ m x y, ifV x = true ∧ ifV y = true ∧ GOK prog (QG m x y) (fzBelow W) W := by
  have hL1 : laidMet prog Rows.queryLinesRow.laid W := hL0
  obtain ⟨ps, hL, _, _⟩ := hL1
  obtain ⟨m, a⟩ := int_ok (C := fzBelow W) (g := 2) (zero := #[.int .i64 0]) (t := 3) hsh (of_decide_eq_true (by kernel_rfl)) (by kernel_rfl) rfl (by kernel_rfl) (by kernel_rfl) underlying3 (by kernel_rfl)
  have b := ints_ok (C := fzBelow W) (g := 3) (t := 148) (k := .u64) (zs := Lib.pow10Tab) (n := "internal/strconv.uint64pow10") (e0 := 129) (N := 20) hL (List.mem_of_getElem? (i := 2) rfl) (by kernel_rfl) (by kernel_rfl) underlying148 underlying129 (by kernel_rfl) (by kernel_rfl) (by kernel_rfl) (by kernel_rfl) (by kernel_rfl)
  rw [uid148] at b
  obtain ⟨x, hx, c⟩ := iface_ok (C := fzBelow W) (g := 4) (t := 86) (n := "strconv.ErrSyntax") hL (List.mem_of_getElem? (i := 5) rfl) (by kernel_rfl) (by kernel_rfl) underlying86 (by kernel_rfl) (by kernel_rfl)
  obtain ⟨y, hy, d⟩ := iface_ok (C := fzBelow W) (g := 5) (t := 86) (n := "strconv.ErrRange") hL (List.mem_of_getElem? (i := 4) rfl) (by kernel_rfl) (by kernel_rfl) underlying86 (by kernel_rfl) (by kernel_rfl)
  have lt : ∀ {g : Nat} {cs : Array Value} {e : TypeId} {f : Nat × Nat}, W.heap[g]? = some (.cells cs e f) → (fzBelow W).K g = .fz := fun h => fz_K (Array.getElem?_eq_some_iff.1 h).1
  refine ⟨m, x, y, hx, hy, fun g t z hz => ?_⟩
  unfold QG at hz
  split at hz
  · rename_i e; subst e; simp only [Option.some.injEq, Prod.mk.injEq] at hz; obtain ⟨rfl, rfl⟩ := hz
    obtain ⟨cs, e, f, h1, h2⟩ := a
    exact ⟨lt h1, cs, e, f, h1, h2⟩
  split at hz
  · rename_i e; subst e; simp only [Option.some.injEq, Prod.mk.injEq] at hz; obtain ⟨rfl, rfl⟩ := hz
    obtain ⟨cs, e, f, h1, h2⟩ := b
    exact ⟨lt h1, cs, e, f, h1, h2⟩
  split at hz
  · rename_i e; subst e; simp only [Option.some.injEq, Prod.mk.injEq] at hz; obtain ⟨rfl, rfl⟩ := hz
    obtain ⟨cs, e, f, h1, h2⟩ := c
    exact ⟨lt h1, cs, e, f, h1, h2⟩
  split at hz
  · rename_i e; subst e; simp only [Option.some.injEq, Prod.mk.injEq] at hz; obtain ⟨rfl, rfl⟩ := hz
    obtain ⟨cs, e, f, h1, h2⟩ := d
    exact ⟨lt h1, cs, e, f, h1, h2⟩
  · cases hz

/-- A query, of whatever numbers and letters. -/
theorem wt_query {y : DV} (h0 : wtD prog (3 + 1 + 1 + 1) 32 y) : ∃ q : Qu, y = quD q ∧ (-9223372036854775808 ≤ q.id ∧ q.id ≤ 9223372036854775807) ∧ q.tx.length = 32 := by
  obtain ⟨xs, rfl, h⟩ := wt_struct underlying32 h0
  obtain ⟨a, xs, rfl, h1, h⟩ := all2_cons h
  obtain ⟨b, xs, rfl, h2, h⟩ := all2_cons h
  obtain ⟨c, xs, rfl, h3, h⟩ := all2_cons h
  obtain ⟨d, xs, rfl, h4, h⟩ := all2_cons h
  obtain rfl := all2_nil h
  obtain ⟨k, rfl, _⟩ := wt_int underlying3 h1
  obtain ⟨i, rfl, hi⟩ := wt_int underlying3 h2
  obtain ⟨s, rfl, _⟩ := wt_str underlying9 h3
  obtain ⟨ys, rfl, hl, h5⟩ := wt_array underlying30 h4
  obtain ⟨l, rfl⟩ := wt_bytes underlying5 h5
  refine ⟨⟨k, i, s, l⟩, ?_, bounds_i64 hi, by simpa using hl⟩
  simp

end Go.Tith
