/- Soundness of code and functions; the table of contracts. A part of the proof: no condition of mine beyond what each theorem states. -/
import Derived.Test.YtbnffdelhejbiaaGreatDoorMc
import Derived.LoopN
import Derived.Laws.Sem

namespace Go.Tith

section
variable {E : Env} {C C' : Con} {w w' : World} {h h' : Heap} {o : Oper} {a a' : Act} {v : AV} {st st' : St} {N : Nat} {ops : Array Oper}

theorem put_h {d : Option Nat} : (st.put d v).h = st.h := by cases d <;> rfl
theorem put_env {d : Option Nat} {t : Nat} (ht : d ≠ some t) : (st.put d v).env t = st.env t := by
  cases d with
  | none => rfl
  | some d => exact upd_ne _ _ (fun e => ht (by rw [e]))

theorem stepOp_quiet (hne : cls E.S o ≠ .eff) (hs : stepOp E ops o st = some st') : st'.h = st.h ∧ ∀ t, o.dst ≠ some t → st'.env t = st.env t := by
  have fin : ∀ v, st.put o.dst v = st' → st'.h = st.h ∧ ∀ t, o.dst ≠ some t → st'.env t = st.env t := fun v e => by
    subst e; exact ⟨put_h, fun t ht => put_env ht⟩
  unfold stepOp at hs
  split at hs
  · split at hs
    · rename_i hc; exact absurd hc hne
    · split at hs
      · simp only [Option.some.injEq] at hs; exact fin _ hs
      · cases hs
  · split at hs
    · cases hs
    · split at hs
      · split at hs
        · split at hs
          · simp only [Option.some.injEq] at hs; exact fin _ hs
          · split at hs
            · cases hs
            · simp only [Option.some.injEq] at hs; exact fin _ hs
        · split at hs
          · cases hs
          · simp only [Option.some.injEq] at hs; exact fin _ hs
      · split at hs
        · split at hs
          · split at hs
            · simp only [Option.some.injEq] at hs; exact fin _ hs
            · cases hs
          · cases hs
        · simp only [Option.some.injEq] at hs; exact fin _ hs
      · rename_i hc; exact absurd hc hne

/-- The state behind the first n operations. -/
def stAt (E : Env) (ops : Array Oper) : List Oper → St → Nat → St
  | _, st, 0 => st
  | [], st, _ + 1 => st
  | o :: l, st, n + 1 => match stepOp E ops o st with
    | some st' => stAt E ops l st' n
    | none => st

theorem stAt_spec : ∀ (l : List Oper) (st : St), runOps E ops l st = some st' →
    stAt E ops l st l.length = st' ∧ ∀ (i : Nat) o, l[i]? = some o → stepOp E ops o (stAt E ops l st i) = some (stAt E ops l st (i + 1))
  | [], st, hr => by
    simp only [runOps, Option.some.injEq] at hr
    exact ⟨hr, fun i o ho => by simp at ho⟩
  | o :: l, st, hr => by
    simp only [runOps] at hr
    cases hs : stepOp E ops o st with
    | none => simp [hs] at hr
    | some st1 =>
      simp only [hs] at hr
      obtain ⟨h1, h3⟩ := stAt_spec l st1 hr
      refine ⟨by simp only [List.length_cons, stAt, hs]; exact h1, fun i p hp => ?_⟩
      · cases i with
        | zero =>
          simp at hp; subst hp
          simp only [stAt, hs]
        | succ i =>
          simp only [stAt, hs]
          exact h3 i p (by simpa using hp)

theorem put_grow {d : Option Nat} {xs : List (TypeId × AV)} : ∃ ys, (({ st with h := { st.h with boxes := st.h.boxes ++ xs } } : St).put d v).h = { st.h with boxes := st.h.boxes ++ ys } := ⟨xs, by rw [put_h]⟩

theorem eop_new {ev : Operand → AV} (hn : isNew o = true) (he : eop E h ev o = some (v, h')) : ∃ xs, h' = { h with boxes := h.boxes ++ xs } := by
  unfold isNew at hn
  unfold eop at he
  split at hn
  · rename_i t ho
    simp only [ho] at he
    split at he
    · simp only [Option.some.injEq, Prod.mk.injEq] at he; exact ⟨_, he.2.symm⟩
    · cases he
  · rename_i t x ho
    simp only [ho] at he
    split at he
    · simp only [Option.some.injEq, Prod.mk.injEq] at he; exact ⟨_, he.2.symm⟩
    · cases he
  · cases hn

theorem stepOp_other (hne : cls E.S o = .eff) (hs : stepOp E ops o st = some st') :
    (∀ t, o.dst ≠ some t → st'.env t = st.env t) ∧ (isNew o = true → ∃ xs, st'.h = { st.h with boxes := st.h.boxes ++ xs }) := by
  have fin : ∀ v h', ({ st with h := h' } : St).put o.dst v = st' → (isNew o = true → ∃ xs, h' = { st.h with boxes := st.h.boxes ++ xs }) → (∀ t, o.dst ≠ some t → st'.env t = st.env t) ∧ (isNew o = true → ∃ xs, st'.h = { st.h with boxes := st.h.boxes ++ xs }) := fun v h' e g => by
    subst e; exact ⟨fun t ht => put_env ht, fun hn => by rw [put_h]; exact g hn⟩
  have same : isNew o = true → ∃ xs, st.h = { st.h with boxes := st.h.boxes ++ xs } := fun _ => ⟨[], by simp⟩
  unfold stepOp at hs
  split at hs
  · rw [hne] at hs
    simp only at hs
    split at hs
    · rename_i v h' he
      simp only [Option.some.injEq] at hs
      exact fin _ _ hs (fun hn => eop_new hn he)
    · cases hs
  · split at hs
    · cases hs
    · rw [hne] at hs
      simp only at hs
      split at hs
      · split at hs
        · rename_i v h' he
          simp only [Option.some.injEq] at hs
          exact fin _ _ hs (fun hn => eop_new hn he)
        · cases hs
      · simp only [Option.some.injEq] at hs
        exact fin _ _ hs same

def dstOK (N : Nat) (o : Oper) : Bool := match o.dst with | some d => decide (d < N) | none => true

def regOK (N : Nat) (S : FuncId → Spec) (ops : Array Oper) (draw : Bool) : Bool := ops.toList.all (dstOK N) && (!draw || (comm ops && effOK S ops))

theorem regOK_dst {S : FuncId → Spec} {draw : Bool} (hr : regOK N S ops draw = true) : ∀ o ∈ ops.toList, ∀ d, o.dst = some d → d < N := by
  intro o ho d hd
  simp only [regOK, Bool.and_eq_true, List.all_eq_true] at hr
  have := hr.1 o ho
  simpa [dstOK, hd] using this

/-- A world that drew once more. -/
theorem inv_drawn (I : Inv E N C w st a) (n : Nat) : Step C w st.h C { w with drawn := n } st.h ∧ Inv E N C { w with drawn := n } st a := by
  have sp : Step C w st.h C { w with drawn := n } st.h :=
    ⟨rfl, rfl, rfl, Nat.le_refl _, fun b _ => by
      unfold keptB
      split
      · assumption
      · rename_i hb; exact .inl ⟨hb, rfl⟩
      · exact ⟨rfl, rfl⟩, fun _ _ => rfl, fun _ _ bc h => ⟨bc, h⟩, fun _ F h => ⟨F, h, Nat.le_refl _⟩⟩
  refine ⟨sp, ⟨fun id bt bc hb => ?_, I.sim.lt, I.sim.tk⟩, I.glob.step sp, fun t => relV_mono sp (I.env t), I.size, I.defers⟩
  obtain ⟨h1, h2, cs, e, h3, h4, h5⟩ := I.sim.box id bt bc hb
  exact ⟨h1, h2, cs, e, h3, h4, relC_mono sp h5⟩

theorem region_sound {Q : Exit → Act → World → Prop} (SO : SOK E) (hm : E.P.follows .mixedOrders = true) {id : Nat} {draw : Bool} (ok : regOK N E.S ops draw = true) (hr : runOps E ops ops.toList st = some st')
    (I : Inv E N C w st a) (hQ : ∀ C' w' a', Step C w st.h C' w' st'.h → Inv E N C' w' st' a' → Q .normal a' w') : (Code.region id ops draw).wp E.P Q a w := by
  cases draw with
  | false =>
    refine wp_region ?_
    have := runOps_sound (Q := Q) SO (regOK_dst ok) ops.toList 0 C w st a rfl hr I hQ
    rw [List.range_eq_range']
    simpa using this
  | true =>
    simp only [regOK, Bool.and_eq_true, Bool.not_true, Bool.false_or] at ok
    have co : CommOK ops := comm_ok ok.2.1
    have ef : EffOK E.S ops := eff_ok ok.2.2
    have hd : ∀ o ∈ ops.toList, ∀ d, o.dst = some d → d < N := by
      intro o ho d hd
      have := List.all_eq_true.1 ok.1 o ho
      simpa [dstOK, hd] using this
    obtain ⟨q1, q3⟩ := stAt_spec ops.toList st hr
    obtain ⟨sp, I'⟩ := inv_drawn I (w.drawn + 1)
    have q0 : stAt E ops ops.toList st 0 = st := by cases ops.toList <;> rfl
    have step : ∀ (i : Nat) o, ops[i]? = some o → stepOp E ops o (stAt E ops ops.toList st i) = some (stAt E ops ops.toList st (i + 1)) := fun i o ho => q3 i o (by simpa using ho)
    have tx : Text E ops (stAt E ops ops.toList st) := by
      refine ⟨step, fun i o t ho hdd => ?_, fun i o ho hne => (stepOp_quiet hne (step i o ho)).1, fun i o ho hnew => ?_⟩
      · by_cases hc : cls E.S o = .eff
        · exact (stepOp_other hc (step i o ho)).1 t hdd
        · exact (stepOp_quiet hc (step i o ho)).2 t hdd
      · by_cases hc : cls E.S o = .eff
        · exact (stepOp_other hc (step i o ho)).2 hnew
        · exact ⟨[], by rw [(stepOp_quiet hc (step i o ho)).1]; simp⟩
    have qn : stAt E ops ops.toList st ops.size = st' := by
      have : ops.size = ops.toList.length := by simp
      rw [this]; exact q1
    have hl : ∀ i, listL (Array.replicate ops.size false) i = false := by
      intro i
      simp only [listL, Array.getD_eq_getD_getElem?]
      by_cases hi : i < ops.size
      · simp [hi]
      · simp [hi]
    have hh0 : heapL E.S ops (stAt E ops ops.toList st) (listL (Array.replicate ops.size false)) ops.size = st.h := by
      rw [heapL_same (j := 0) ops.size (Nat.zero_le _) (fun i o _ _ _ _ => hl i)]
      simp only [heapL, q0]
    refine wp_region_any hm ?_
    refine any_sound SO tx co ef hd (C0 := C) (w0 := w) (by rw [q0]; exact I.sim.tk) (fun C' w' a' sp' I2 => ?_) ops.size _ C _ a ?_ (by simp) (by rw [hh0, q0]; exact sp) ?_
    · rw [qn] at I2 sp'
      rw [q0] at sp'
      exact hQ C' w' a' sp' I2
    · unfold unl
      exact Nat.le_trans (List.length_filter_le _ _) (by simp)
    · refine ⟨by rw [hh0]; exact I'.sim, I'.glob, fun t => ?_, I'.size, I'.defers, fun j o ho hL => by rw [hl] at hL; cases hL⟩
      rw [hh0, envL_same (j := 0) ops.size (Nat.zero_le _) (fun i o _ _ _ _ => hl i)]
      show relV _ _ _ _ ((stAt E ops ops.toList st 0).env t) _
      rw [q0]
      exact I'.env t

/-! ### boxes that are forgotten -/
def Con.drop (C : Con) (m n : Nat) : Con :=
  { K := fun b => if b < n then C.K b else match C.K b with | .box id => if id < m then .box id else .other | x => x, φ := C.φ }

theorem drop_fixed {m n : Nat} : ∀ b o, C.fixed b o → (C.drop m n).fixed b o := by
  intro b o hf
  simp only [Con.fixed, Con.drop] at hf ⊢
  split
  · exact hf
  · cases hk : C.K b <;> simp_all [Blk.fixed]

theorem drop_keeps {m n : Nat} : Keeps C w (C.drop m n) w := keeps_fixed drop_fixed

theorem drop_app {m n b τ f : Nat} (hk : C.K b = .app τ f) : (C.drop m n).K b = .app τ f := by
  simp only [Con.drop, hk]; simp

theorem drop_app' {m n b τ f : Nat} (hk : (C.drop m n).K b = .app τ f) : C.K b = .app τ f := by
  simp only [Con.drop] at hk
  split at hk
  · exact hk
  · cases hq : C.K b <;> simp only [hq] at hk
    · cases hk
    · split at hk <;> cases hk
    · exact hk
    · cases hk
    · cases hk

theorem tokOK_drop {P : Program} {m n : Nat} {k : Option Nat} {e l : Nat} {c : List Value} (ht : tokOK P C w h k e l c) : tokOK P (C.drop m n) w { h with boxes := h.boxes.take m } k e l c := by
  cases k with
  | none => exact ht
  | some τ =>
    obtain ⟨F, h1, h2, h3⟩ := ht
    refine ⟨F, h1, h2, fun hn a l cap hc => ?_⟩
    rcases h3 hn a l cap hc with h4 | ⟨b, cs, q1, q2, q3, q4⟩
    · exact .inl h4
    · exact .inr ⟨b, cs, q1, drop_app q2, q3, q4⟩

mutual
theorem relC_drop {P : Program} {m n : Nat} : ∀ {x : AV} {c : List Value}, below m x = true → relC P C w h x c → relC P (C.drop m n) w { h with boxes := h.boxes.take m } x c
  | .d _, _, _, r => by simp only [relC] at r ⊢; exact relD_mono drop_keeps r
  | .lst _ _ _, _, _, r => by simp only [relC] at r ⊢; exact ⟨relD_mono drop_keeps r.1, tokOK_drop r.2⟩
  | .agg _ _, _, hb, r => by simp only [below] at hb; simp only [relC] at r ⊢; exact ⟨r.1, relCs_drop hb r.2⟩
  | .ptr id _, _, hb, r => by
    simp only [below, decide_eq_true_eq] at hb
    simp only [relC] at r ⊢
    obtain ⟨bt, bc, off, t, h1, h2, h3⟩ := r
    exact ⟨bt, bc, off, t, by rw [List.getElem?_take_of_lt hb]; exact h1, h2, h3⟩
  | .sl id _ _ _, _, hb, r => by
    simp only [below, decide_eq_true_eq] at hb
    simp only [relC] at r ⊢
    obtain ⟨bt, bc, o, t, n, e, cap, h1, h2, h3, h4, h5, h8, h6⟩ := r
    exact ⟨bt, bc, o, t, n, e, cap, by rw [List.getElem?_take_of_lt hb]; exact h1, h2, h3, h4, h5, h8, h6⟩
  | .ro _ _, _, _, r => by
    simp only [relC] at r ⊢
    obtain ⟨b, o, cs, h1, h2, h3, h4, h5⟩ := r
    exact ⟨b, o, cs, h1, relD_mono drop_keeps h2, h3, h4, fun j v hj => let ⟨x, y⟩ := h5 j v hj; drop_keeps b _ v x y⟩
  | .fn _ _, _, hb, r => by
    simp only [below] at hb
    simp only [relC] at r ⊢
    obtain ⟨vs, h1, h2⟩ := r
    exact ⟨vs, h1, relOnes_drop hb h2⟩
  | .tup _, _, _, r => by simp [relC] at r
  | .sel _ _, _, _, r => by simp [relC] at r
  | .nils, _, _, r => by simpa [relC] using r
  | .emp _, _, _, r => by simpa [relC] using r
  | .ifc _, _, _, r => by simp only [relC] at r ⊢; exact r
  | .bad, _, _, _ => by simp [relC]
theorem relCs_drop {P : Program} {m n : Nat} : ∀ {ds : List AV} {ts : List TypeId} {c : List Value}, belows m ds = true → relCs P C w h ds ts c → relCs P (C.drop m n) w { h with boxes := h.boxes.take m } ds ts c
  | [], _, _, _, r => by simpa [relCs] using r
  | d :: ds, ts, c, hb, r => by
    simp only [belows, Bool.and_eq_true] at hb
    simp only [relCs] at r ⊢
    obtain ⟨t, ts', c1, c2, h1, h2, h3, h4, h5, h6⟩ := r
    exact ⟨t, ts', c1, c2, h1, h2, h3, h4, relC_drop hb.1 h5, relCs_drop hb.2 h6⟩
theorem relOnes_drop {P : Program} {m n : Nat} : ∀ {ds : List AV} {vs : List Value}, belows m ds = true → relOnes P C w h ds vs → relOnes P (C.drop m n) w { h with boxes := h.boxes.take m } ds vs
  | [], _, _, r => by simpa [relOnes] using r
  | d :: ds, vs, hb, r => by
    simp only [belows, Bool.and_eq_true] at hb
    simp only [relOnes] at r ⊢
    obtain ⟨v, vs', h1, h2, h3⟩ := r
    exact ⟨v, vs', h1, relC_drop hb.1 h2, relOnes_drop hb.2 h3⟩
end

theorem relV1_drop {P : Program} {m n : Nat} : ∀ {x : AV} {v : Value}, below m x = true → relV1 P C w h x v → relV1 P (C.drop m n) w { h with boxes := h.boxes.take m } x v
  | .d x, v, _, r => by
    simp only [relV1] at r ⊢
    split
    · rename_i hx; rw [if_pos hx] at r; obtain ⟨c, h1, h2⟩ := r; exact ⟨c, h1, relD_mono drop_keeps h2⟩
    · rename_i hx; rw [if_neg hx] at r; exact relD_mono drop_keeps r
  | .lst _ _ _, _, hb, r => by simp only [relV1] at r ⊢; exact relC_drop hb r
  | .agg _ _, _, hb, r => by simp only [relV1] at r ⊢; obtain ⟨c, h1, h2⟩ := r; exact ⟨c, h1, relC_drop hb h2⟩
  | .ptr _ _, _, hb, r => by simp only [relV1] at r ⊢; exact relC_drop hb r
  | .sl _ _ _ _, _, hb, r => by simp only [relV1] at r ⊢; exact relC_drop hb r
  | .ro _ _, _, hb, r => by simp only [relV1] at r ⊢; exact relC_drop hb r
  | .fn _ _, _, hb, r => by simp only [relV1] at r ⊢; exact relC_drop hb r
  | .tup _, _, _, r => by simp [relV1] at r
  | .sel b x, _, hb, r => by simp only [below] at hb; simp only [relV1] at r ⊢; exact ⟨fun hq => relV1_drop hb (r.1 hq), r.2⟩
  | .nils, _, _, r => by simpa [relV1] using r
  | .emp _, _, _, r => by simpa [relV1] using r
  | .ifc _, _, _, r => by simp only [relV1] at r ⊢; exact r
  | .bad, _, _, _ => by simp [relV1]

theorem relVs_drop {P : Program} {m n : Nat} : ∀ {ds : List AV} {vs : List Value}, belows m ds = true → relVs P C w h ds vs → relVs P (C.drop m n) w { h with boxes := h.boxes.take m } ds vs
  | [], _, _, r => by simpa [relVs] using r
  | d :: ds, vs, hb, r => by
    simp only [belows, Bool.and_eq_true] at hb
    simp only [relVs] at r ⊢
    obtain ⟨v, vs', h1, h2, h3⟩ := r
    exact ⟨v, vs', h1, relV1_drop hb.1 h2, relVs_drop hb.2 h3⟩

theorem relV_drop {P : Program} {m n : Nat} {x : AV} {v : Value} (hb : below m x = true) (r : relV P C w h x v) : relV P (C.drop m n) w { h with boxes := h.boxes.take m } x v := by
  cases x with
  | tup vs => simp only [below] at hb; obtain ⟨ws, h1, h2⟩ := r; exact ⟨ws, h1, relVs_drop hb h2⟩
  | _ => exact relV1_drop hb r

theorem forget_sound {m : Nat} {C0 : Con} {w0 : World} {h0 : Heap} (I : Inv E N C w st a) (hf : st.forget m = some st') (sp : Step C0 w0 h0 C w st.h) (hm : h0.boxes.length = m) :
    ∃ C', Inv E N C' w st' a ∧ Step C0 w0 h0 C' w st'.h ∧ st'.h.boxes.length = m := by
  unfold St.forget at hf
  split at hf
  · rename_i hl
    simp only [Option.some.injEq] at hf; subst hf
    exact ⟨C, I, sp, hl⟩
  · split at hf
    · rename_i hall
      simp only [Option.some.injEq] at hf; subst hf
      rw [List.all_eq_true] at hall
      have hlen : m ≤ st.h.boxes.length := by
        rcases Nat.lt_or_ge st.h.boxes.length m with hlt | hge
        · exfalso
          have e : h0.boxes[st.h.boxes.length]? = some (h0.boxes[st.h.boxes.length].1, h0.boxes[st.h.boxes.length].2) := by simp [show st.h.boxes.length < h0.boxes.length by omega]
          obtain ⟨bc', hb⟩ := sp.box _ _ _ e
          have := (List.getElem?_eq_some_iff.1 hb).1
          omega
        · exact hge
      refine ⟨C.drop m w0.heap.size, ⟨⟨fun id bt bc hb => ?_, fun b hb => ?_, fun b τ f hb => ?_⟩, I.glob.mono drop_keeps (fun b hz _ => ⟨by simp [Con.drop, hz], rfl⟩), fun t => ?_, I.size, I.defers⟩, ?_, by simp [Nat.min_eq_left hlen]⟩
      · simp only at hb
        have hlt : id < m := by
          have := (List.getElem?_eq_some_iff.1 hb).1
          rw [List.length_take] at this; omega
        have hmem : (bt, bc) ∈ st.h.boxes.take m := List.mem_of_getElem? hb
        rw [List.getElem?_take_of_lt hlt] at hb
        obtain ⟨h1, h2, cs, e, h3, h4, h5⟩ := I.sim.box id bt bc hb
        refine ⟨?_, h2, cs, e, h3, h4, relC_drop (hall _ hmem) h5⟩
        show (C.drop m w0.heap.size).K (C.φ id) = _
        simp only [Con.drop, h1, hlt, if_true]; simp
      · refine I.sim.lt b fun e => hb ?_
        simp [Con.drop, e]
      · exact I.sim.tk b τ f (drop_app' hb)
      · simp only
        split
        · rename_i hb; exact relV_drop hb (I.env t)
        · simp [relV, relV1]
      · refine ⟨sp.os, sp.tape, sp.output, sp.size, fun b hb => ?_, sp.phi, fun id bt bc hb => ?_, sp.tok⟩
        · have := sp.blk b hb
          unfold keptB at this ⊢
          simp only [Con.drop, hb, if_true]
          exact this
        · obtain ⟨bc', h1⟩ := sp.box id bt bc hb
          have : id < m := by have := (List.getElem?_eq_some_iff.1 hb).1; omega
          exact ⟨bc', by simp only; rw [List.getElem?_take_of_lt this]; exact h1⟩
    · cases hf

end
end Go.Tith

namespace Go.Tith

section
variable {E : Env} {C C' : Con} {w w' : World} {h h' : Heap} {o : Oper} {a a' : Act} {v : AV} {st st' : St} {N : Nat} {ops : Array Oper}

/-- What is asked of a body, whatever it is run on. -/
def codeOK (N : Nat) (S : FuncId → Spec) : Code → Bool
  | .region _ ops draw => regOK N S ops draw
  | .seq a b => codeOK N S a && codeOK N S b
  | .cond _ a b => codeOK N S a && codeOK N S b
  | .block _ b => codeOK N S b
  | .loop b => codeOK N S b
  | _ => true

def Ex.out : Ex → Exit
  | .normal => .normal
  | .exit i => .exit i
  | .ret => .ret

theorem envK_or {f : Nat → AV} {t : Nat} : ∀ (l : List Nat), envK (l.map fun t => (t, f t)) t = f t ∨ envK (l.map fun t => (t, f t)) t = .bad
  | [] => .inr rfl
  | u :: l => by
    simp only [List.map_cons, envK_cons]
    split
    · rename_i e; subst e; exact .inl rfl
    · exact envK_or l

theorem keep_sound {K : Option (List Nat × List Nat)} (I : Inv E N C w st a) : Inv E N C w (st.keep K) a ∧ (st.keep K).h = st.h := by
  cases K with
  | none => exact ⟨I, rfl⟩
  | some k =>
    refine ⟨⟨I.sim, I.glob, fun t => ?_, I.size, I.defers⟩, rfl⟩
    simp only [St.keep]
    rcases envK_or (f := st.env) (t := t) k.1 with e | e <;> rw [e]
    · exact I.env t
    · simp [relV, relV1]

/-- A heap that has no less. -/
def HExt (h h' : Heap) : Prop := (∀ id : Nat, (h.boxes[id]?).map Prod.fst = (h'.boxes[id]?).map Prod.fst) ∧ h.toks <+: h'.toks

theorem HExt.step {P : Program} (x : HExt h h') : Step C w h C w h' := by
  refine ⟨rfl, rfl, rfl, Nat.le_refl _, fun b _ => ?_, fun _ _ => rfl, fun id bt bc hb => ?_, fun τ F hF => ⟨F, ?_, Nat.le_refl _⟩⟩
  · unfold keptB
    split
    · assumption
    · rename_i hb; exact .inl ⟨hb, rfl⟩
    · exact ⟨rfl, rfl⟩
  · have := x.1 id
    rw [hb] at this
    simp only [Option.map_some] at this
    obtain ⟨⟨a, b⟩, h1, h2⟩ := Option.map_eq_some_iff.1 this.symm
    exact ⟨b, by rw [h1]; simp only at h2; rw [h2]⟩
  · obtain ⟨r, hr⟩ := x.2
    have hlt := (List.getElem?_eq_some_iff.1 hF).1
    rw [← hr, List.getElem?_append_left hlt]; exact hF

mutual
theorem mark_fits {P : Program} {t : TypeId} : ∀ {x : AV} {ts : List Nat}, fitsA P t (mark x ts).1 = fitsA P t x
  | .lst none e [], ts => by simp [mark, fitsA]
  | .lst none e (_ :: _), ts => by simp [mark]
  | .agg u fs, ts => by simp [mark, fitsA]
  | .lst (some _) _ _, _ | .d _, _ | .ptr _ _, _ | .sl _ _ _ _, _ | .ro _ _, _ | .fn _ _, _ | .tup _, _ | .sel _ _, _ | .nils, _ | .emp _, _ | .ifc _, _ | .bad, _ => by simp [mark]
end

mutual
theorem mark_pre : ∀ {x : AV} {ts : List Nat}, ts <+: (mark x ts).2
  | .lst none e [], ts => by simp [mark]
  | .lst none e (_ :: _), ts => by simp [mark]
  | .agg u fs, ts => by simp only [mark]; exact marks_pre
  | .lst (some _) _ _, _ | .d _, _ | .ptr _ _, _ | .sl _ _ _ _, _ | .ro _ _, _ | .fn _ _, _ | .tup _, _ | .sel _ _, _ | .nils, _ | .emp _, _ | .ifc _, _ | .bad, _ => by simp [mark]
theorem marks_pre : ∀ {xs : List AV} {ts : List Nat}, ts <+: (marks xs ts).2
  | [], _ => by simp [marks]
  | x :: xs, ts => by simp only [marks]; exact mark_pre.trans marks_pre
end

mutual
theorem mark_rel {P : Program} : ∀ {x : AV} {c : List Value} {ts : List Nat}, relC P C w h x c → HExt h h' → (mark x ts).2 <+: h'.toks → relC P C w h' (mark x ts).1 c
  | .lst none e (_ :: _), _, _, r, x, _ => by simp only [mark]; exact relC_mono (x.step (P := P)) r
  | .lst none e [], c, ts, r, x, hp => by
    simp only [mark] at hp ⊢
    simp only [relC] at r ⊢
    refine ⟨relD_mono (x.step (P := P) (C := C) (w := w)).keeps r.1, ?_⟩
    obtain ⟨q, hq⟩ := hp
    refine ⟨0, ?_, Nat.le_refl _, fun _ a l cap hc => ?_⟩
    · rw [← hq]; simp
    · have h1 := r.2 a l cap hc
      have h2 := r.1
      simp only [relD] at h2
      obtain ⟨a2, l2, cap2, h3, h4, _⟩ := h2
      rw [hc] at h3
      simp at h3
      obtain ⟨rfl, rfl, rfl⟩ := h3
      exact .inl (by simpa [h4] using h1)
  | .agg u fs, c, ts, r, x, hp => by
    simp only [mark] at hp ⊢
    simp only [relC] at r ⊢
    exact ⟨r.1, marks_rel r.2 x hp⟩
  | .lst (some _) _ _, _, _, r, x, _ | .d _, _, _, r, x, _ | .ptr _ _, _, _, r, x, _ | .sl _ _ _ _, _, _, r, x, _ | .ro _ _, _, _, r, x, _ | .fn _ _, _, _, r, x, _ | .tup _, _, _, r, x, _
  | .sel _ _, _, _, r, x, _ | .nils, _, _, r, x, _ | .emp _, _, _, r, x, _ | .ifc _, _, _, r, x, _ | .bad, _, _, r, x, _ => by
    simp only [mark]; exact relC_mono (x.step (P := P)) r
theorem marks_rel {P : Program} : ∀ {xs : List AV} {us : List TypeId} {c : List Value} {ts : List Nat}, relCs P C w h xs us c → HExt h h' → (marks xs ts).2 <+: h'.toks → relCs P C w h' (marks xs ts).1 us c
  | [], us, c, ts, r, x, hp => by simpa [marks, relCs] using r
  | y :: ys, us, c, ts, r, x, hp => by
    simp only [marks] at hp ⊢
    simp only [relCs] at r ⊢
    obtain ⟨t, ts', c1, c2, h1, h2, h3, h4, h5, h6⟩ := r
    exact ⟨t, ts', c1, c2, h1, h2, by rw [mark_fits]; exact h3, h4, mark_rel h5 x (marks_pre.trans hp), marks_rel h6 x hp⟩
end

theorem mark_V {P : Program} {x : AV} {v : Value} {ts : List Nat} (r : relV P C w h x v) (x' : HExt h h') (hp : (mark x ts).2 <+: h'.toks) : relV P C w h' (mark x ts).1 v := by
  cases x with
  | lst k e xs =>
    cases k with
    | none =>
      simp only [relV, relV1] at r
      have := mark_rel r x' hp
      cases xs with
      | nil => simpa [mark, relV, relV1] using this
      | cons y ys => simpa [mark, relV, relV1] using this
    | some k => simp only [mark]; exact relV_mono (x'.step (P := P)) r
  | agg t fs =>
    simp only [relV, relV1] at r
    obtain ⟨c, h1, h2⟩ := r
    have := mark_rel h2 x' hp
    simp only [mark] at this ⊢
    exact ⟨c, h1, this⟩
  | _ => simp only [mark]; exact relV_mono (x'.step (P := P)) r

theorem mark1_sound {t : Nat} (I : Inv E N C w st a) : Inv E N C w (st.mark1 t) a ∧ HExt st.h (st.mark1 t).h := by
  have plain : ∀ x, st.env t = x → Inv E N C w { env := upd st.env t (mark x st.h.toks).1, h := { st.h with toks := (mark x st.h.toks).2 } } a ∧ HExt st.h { st.h with toks := (mark x st.h.toks).2 } := by
    intro x hx
    have ex : HExt st.h { st.h with toks := (mark x st.h.toks).2 } := ⟨fun _ => rfl, mark_pre⟩
    have sp : Step C w st.h C w { st.h with toks := (mark x st.h.toks).2 } := ex.step (P := E.P)
    refine ⟨⟨⟨fun id bt bc hb => ?_, I.sim.lt, fun b τ f hb => ?_⟩, I.glob, fun u => ?_, I.size, I.defers⟩, ex⟩
    · obtain ⟨h1, h2, cs, e, h3, h4, h5⟩ := I.sim.box id bt bc hb
      exact ⟨h1, h2, cs, e, h3, h4, relC_mono sp h5⟩
    · obtain ⟨F, hF⟩ := I.sim.tk b τ f hb
      obtain ⟨F', h1, _⟩ := sp.tok τ F hF
      exact ⟨F', h1⟩
    · simp only [upd]
      split
      · rename_i e; subst e
        exact mark_V (by rw [← hx]; exact I.env u) ex (List.prefix_rfl)
      · exact relV_mono sp (I.env u)
  unfold St.mark1
  split
  · rename_i id hp
    split
    · rename_i bt bc hb
      have ex : HExt st.h { boxes := st.h.boxes.set id (bt, (mark bc st.h.toks).1), toks := (mark bc st.h.toks).2 } := by
        refine ⟨fun i => ?_, mark_pre⟩
        simp only [List.getElem?_set]
        split
        · rename_i e; subst e
          split
          · simp [hb]
          · rename_i hlt; exact absurd (List.getElem?_eq_some_iff.1 hb).1 hlt
        · rfl
      have sp : Step C w st.h C w { boxes := st.h.boxes.set id (bt, (mark bc st.h.toks).1), toks := (mark bc st.h.toks).2 } := ex.step (P := E.P)
      refine ⟨⟨⟨fun i bt' bc' hb' => ?_, I.sim.lt, fun b τ f hb => ?_⟩, I.glob, fun u => relV_mono sp (I.env u), I.size, I.defers⟩, ex⟩
      · simp only [List.getElem?_set] at hb'
        split at hb'
        · rename_i e; subst e
          split at hb'
          · simp only [Option.some.injEq, Prod.mk.injEq] at hb'
            obtain ⟨rfl, rfl⟩ := hb'
            obtain ⟨h1, h2, cs, e, h3, h4, h5⟩ := I.sim.box id bt bc hb
            exact ⟨h1, by rw [mark_fits]; exact h2, cs, e, h3, h4, mark_rel h5 ex List.prefix_rfl⟩
          · cases hb'
        · obtain ⟨h1, h2, cs, e, h3, h4, h5⟩ := I.sim.box i bt' bc' hb'
          exact ⟨h1, h2, cs, e, h3, h4, relC_mono sp h5⟩
      · obtain ⟨F, hF⟩ := I.sim.tk b τ f hb
        obtain ⟨F', h1, _⟩ := sp.tok τ F hF
        exact ⟨F', h1⟩
    · exact ⟨I, fun _ => rfl, List.prefix_rfl⟩
  · exact plain _ rfl

theorem marks_sound : ∀ (l : List Nat) (st : St), Inv E N C w st a → Inv E N C w (l.foldl St.mark1 st) a ∧ HExt st.h (l.foldl St.mark1 st).h
  | [], st, I => ⟨I, fun _ => rfl, List.prefix_rfl⟩
  | t :: l, st, I => by
    obtain ⟨I1, x1⟩ := mark1_sound (t := t) I
    obtain ⟨I2, x2⟩ := marks_sound l _ I1
    exact ⟨I2, fun id => (x1.1 id).trans (x2.1 id), x1.2.trans x2.2⟩

theorem start_sound {K : Option (List Nat × List Nat)} (I : Inv E N C w st a) : Inv E N C w (st.start K) a ∧ Step C w st.h C w (st.start K).h ∧ (st.start K).h.boxes.length = st.h.boxes.length := by
  cases K with
  | none => exact ⟨I, Step.refl, rfl⟩
  | some k =>
    obtain ⟨I1, x1⟩ := marks_sound k.2 st I
    obtain ⟨I2, e2⟩ := keep_sound (K := some k) I1
    simp only [St.start]
    refine ⟨I2, by rw [e2]; exact x1.step (P := E.P), ?_⟩
    rw [e2]
    have key := x1.1
    rcases Nat.lt_trichotomy (k.2.foldl St.mark1 st).h.boxes.length st.h.boxes.length with hlt | heq | hgt
    · have := key (k.2.foldl St.mark1 st).h.boxes.length
      rw [List.getElem?_eq_none (Nat.le_refl _), List.getElem?_eq_getElem hlt] at this
      simp at this
    · exact heq
    · have := key st.h.boxes.length
      rw [List.getElem?_eq_none (Nat.le_refl _), List.getElem?_eq_getElem hgt] at this
      simp at this

theorem loopN_sound {b : Code} {n : Nat} {K : Option (List Nat × List Nat)} {Q : Exit → Act → World → Prop} {ex : Ex} {st' : St} {m : Nat}
    (body : ∀ (st : St) (ex : Ex) (st' : St) (C : Con) (w : World) (a : Act) (Q : Exit → Act → World → Prop), exec E n b st = some (ex, st') → Inv E N C w st a →
      (∀ C' w' a', Step C w st.h C' w' st'.h → Inv E N C' w' st' a' → Q ex.out a' w') → b.wp E.P Q a w) :
    ∀ (k : Nat) (st : St) (C : Con) (w : World) (a : Act), loopN (exec E n b) K m k st = some (ex, st') → st.h.boxes.length = m → Inv E N C w st a →
      (∀ C' w' a', Step C w st.h C' w' st'.h → Inv E N C' w' st' a' → Q ex.out a' w') → Code.rounds E.P b Q k a w := by
  intro k
  induction k with
  | zero => intro st C w a hl; simp [loopN] at hl
  | succ k ih =>
    intro st C w a hl hm I hQ
    rw [rounds_succ]
    simp only [loopN] at hl
    cases hx : exec E n b st with
    | none => simp [hx] at hl
    | some r =>
      obtain ⟨x, s1⟩ := r
      rw [hx] at hl
      cases x with
      | normal =>
        simp only at hl
        cases hf : s1.forget m with
        | none => simp [hf] at hl
        | some s2 =>
          simp only [hf] at hl
          refine body st .normal s1 C w a _ hx I fun C' w' a' sp I' => ?_
          obtain ⟨C2, I2, sp2, hm2⟩ := forget_sound I' hf sp hm
          obtain ⟨I3, e3⟩ := keep_sound (K := K) I2
          refine ih (s2.keep K) C2 w' a' hl (by rw [e3]; exact hm2) I3 fun C3 w3 a3 sp3 I4 => hQ C3 w3 a3 ?_ I4
          rw [e3] at sp3
          exact sp2.trans I.sim.tk sp3
      | exit i =>
        simp only at hl
        cases hf : s1.forget m with
        | none => simp [hf] at hl
        | some s2 =>
          simp only [hf, Option.map_some, Option.some.injEq, Prod.mk.injEq] at hl
          obtain ⟨rfl, rfl⟩ := hl
          refine body st (.exit i) s1 C w a _ hx I fun C' w' a' sp I' => ?_
          obtain ⟨C2, I2, sp2, _⟩ := forget_sound I' hf sp hm
          obtain ⟨I3, e3⟩ := keep_sound (K := K) I2
          exact hQ C2 w' a' (by rw [e3]; exact sp2) I3
      | ret =>
        simp only [Option.some.injEq, Prod.mk.injEq] at hl
        obtain ⟨rfl, rfl⟩ := hl
        refine body st .ret s1 C w a _ hx I fun C' w' a' sp I' => ?_
        obtain ⟨C2, I2, sp2⟩ : ∃ C2, Inv E N C2 w' (s1.tidy K m) a' ∧ Step C w st.h C2 w' (s1.tidy K m).h := by
          unfold St.tidy
          split
          · split
            · cases hf : s1.forget m with
              | none => exact ⟨C', I', sp⟩
              | some s2 =>
                obtain ⟨C2, I2, sp2, _⟩ := forget_sound I' hf sp hm
                exact ⟨C2, I2, sp2⟩
            · exact ⟨C', I', sp⟩
          · exact ⟨C', I', sp⟩
        obtain ⟨I3, e3⟩ := keep_sound (K := K) I2
        exact hQ C2 w' a' (by rw [e3]; exact sp2) I3

theorem strip_isBool {x : AV} {t : Bool} {v : Value} {P : Program} (hs : strip true x = .d (.bool t)) (r : relV P C w h x v) : v = .bool t := by
  have := strip_rel r
  rw [hs, relV_bool] at this
  exact this

theorem exec_sound (SO : SOK E) (hm : E.P.follows .mixedOrders = true) (n : Nat) : ∀ (c : Code), codeOK N E.S c = true → ∀ (st : St) (ex : Ex) (st' : St) (C : Con) (w : World) (a : Act) (Q : Exit → Act → World → Prop),
    exec E n c st = some (ex, st') → Inv E N C w st a → (∀ C' w' a', Step C w st.h C' w' st'.h → Inv E N C' w' st' a' → Q ex.out a' w') → c.wp E.P Q a w := by
  intro c
  induction c with
  | skip =>
    intro _ st ex st' C w a Q hx I hQ
    simp only [exec, Option.some.injEq, Prod.mk.injEq] at hx
    obtain ⟨rfl, rfl⟩ := hx
    exact wp_skip (hQ C w a Step.refl I)
  | region id ops draw =>
    intro ok st ex st' C w a Q hx I hQ
    simp only [exec] at hx
    split at hx
    · rename_i s1 hr
      simp only [Option.some.injEq, Prod.mk.injEq] at hx
      obtain ⟨rfl, rfl⟩ := hx
      exact region_sound SO hm ok hr I hQ
    · cases hx
  | seq x y ihx ihy =>
    intro ok st ex st' C w a Q hx I hQ
    simp only [codeOK, Bool.and_eq_true] at ok
    simp only [exec] at hx
    cases h1 : exec E n x st with
    | none => simp [h1] at hx
    | some r =>
      obtain ⟨e1, s1⟩ := r
      rw [h1] at hx
      refine wp_seq ?_
      cases e1 with
      | normal =>
        simp only at hx
        refine ihx ok.1 st .normal s1 C w a _ h1 I fun C' w' a' sp I' => ?_
        exact ihy ok.2 s1 ex st' C' w' a' Q hx I' fun C2 w2 a2 sp2 I2 => hQ C2 w2 a2 (sp.trans I.sim.tk sp2) I2
      | exit i =>
        simp only [Option.some.injEq, Prod.mk.injEq] at hx
        obtain ⟨rfl, rfl⟩ := hx
        exact ihx ok.1 st (.exit i) s1 C w a _ h1 I fun C' w' a' sp I' => hQ C' w' a' sp I'
      | ret =>
        simp only [Option.some.injEq, Prod.mk.injEq] at hx
        obtain ⟨rfl, rfl⟩ := hx
        exact ihx ok.1 st .ret s1 C w a _ h1 I fun C' w' a' sp I' => hQ C' w' a' sp I'
  | cond c x y ihx ihy =>
    intro ok st ex st' C w a Q hx I hQ
    simp only [codeOK, Bool.and_eq_true] at ok
    simp only [exec] at hx
    split at hx
    · rename_i t ht
      have hc := strip_isBool ht (relV_evalO I c)
      refine wp_cond hc ?_
      cases t with
      | true => simp only [if_true] at hx ⊢; exact ihx ok.1 st ex st' C w a Q hx I hQ
      | false => simp only [Bool.false_eq_true, if_false] at hx ⊢; exact ihy ok.2 st ex st' C w a Q hx I hQ
    · cases hx
  | block id b ih =>
    intro ok st ex st' C w a Q hx I hQ
    simp only [codeOK] at ok
    simp only [exec] at hx
    refine wp_block ?_
    cases h1 : exec E n b st with
    | none => simp [h1] at hx
    | some r =>
      obtain ⟨e1, s1⟩ := r
      rw [h1] at hx
      refine ih ok st e1 s1 C w a _ h1 I fun C' w' a' sp I' => ?_
      cases e1 with
      | normal =>
        simp only [Option.some.injEq, Prod.mk.injEq] at hx
        obtain ⟨rfl, rfl⟩ := hx
        exact hQ C' w' a' sp I'
      | ret =>
        simp only [Option.some.injEq, Prod.mk.injEq] at hx
        obtain ⟨rfl, rfl⟩ := hx
        exact hQ C' w' a' sp I'
      | exit i =>
        simp only [Ex.out, Exit.inBlock]
        simp only at hx
        by_cases hi : i = id
        · rw [if_pos hi] at hx ⊢
          simp only [Option.some.injEq, Prod.mk.injEq] at hx
          obtain ⟨rfl, rfl⟩ := hx
          exact hQ C' w' a' sp I'
        · rw [if_neg hi] at hx ⊢
          simp only [Option.some.injEq, Prod.mk.injEq] at hx
          obtain ⟨rfl, rfl⟩ := hx
          exact hQ C' w' a' sp I'
  | loop b ih =>
    intro ok st ex st' C w a Q hx I hQ
    simp only [codeOK] at ok
    simp only [exec] at hx
    refine wp_loop_rounds n ?_
    obtain ⟨I1, sp1, hl1⟩ := start_sound (K := E.K (keyC b)) I
    exact loopN_sound (fun st ex st' C w a Q => ih ok st ex st' C w a Q) n _ C w a hx hl1 I1 fun C' w' a' sp I' => hQ C' w' a' (sp1.trans I.sim.tk sp) I'
  | exit id =>
    intro _ st ex st' C w a Q hx I hQ
    simp only [exec, Option.some.injEq, Prod.mk.injEq] at hx
    obtain ⟨rfl, rfl⟩ := hx
    exact wp_exit (hQ C w a Step.refl I)
  | ret =>
    intro _ st ex st' C w a Q hx I hQ
    simp only [exec, Option.some.injEq, Prod.mk.injEq] at hx
    obtain ⟨rfl, rfl⟩ := hx
    exact wp_ret (hQ C w a Step.refl I)
  | _ => intro _ st ex st' C w a Q hx; simp [exec] at hx

end
end Go.Tith

namespace Go.Tith

/-- A function's results. -/
def outsA (E : Env) (st : St) : List ResultVar → Option (List AV)
  | [] => some []
  | .tmp t :: rs => if notTup (strip true (st.env t)) = true then (outsA E st rs).map (strip true (st.env t) :: ·) else none
  | .cell a t :: rs => match strip true (st.env a) with
    | .ptr id path => match st.h.boxes[id]? with
      | some (bt, bc) => match getP E.P path bc bt with
        | some (v, t') => if t' = t ∧ notTup v = true then (outsA E st rs).map (v :: ·) else none
        | none => none
      | none => none
    | _ => none

def packA : List AV → AV
  | [x] => x
  | xs => .tup xs

def envOf (avs : List AV) : Nat → AV := fun t => (avs[t]?).getD undefA

/-- A body, run on trees. -/
def runF (E : Env) (n : Nat) (c : Code) (rs : List ResultVar) (avs : List AV) (h : Heap) : Option (List AV × Heap) :=
  match exec E n c ⟨envOf avs, h⟩ with
  | some (.exit _, _) => none
  | some (_, st') => (outsA E st' rs).map fun vs => (vs, st'.h)
  | none => none

section
variable {E : Env} {C C' : Con} {w w' : World} {h h' : Heap} {o : Oper} {a a' : Act} {v : AV} {st st' : St} {N : Nat} {ops : Array Oper}

theorem relV_up {P : Program} {x : AV} {u : Value} (hn : notTup x = true) (r : relV P C w h x u) : relV1 P C w h x u := by
  cases x <;> first | exact r | simp [notTup] at hn

theorem relV_dn {P : Program} {x : AV} {u : Value} (r : relV1 P C w h x u) : relV P C w h x u := by
  cases x <;> first | exact r | simp [relV1] at r

theorem outs_run (I : Inv E N C w st a) : ∀ (rs : List ResultVar) (vs : List AV), outsA E st rs = some vs →
    ∃ us, (rs.mapM fun | .tmp t => pure (a.tmps.getD t undef) | .cell x t => do loadVar t (← asAddr (a.tmps.getD x undef)) : Sem (List Value)).run E.P w = .ok us w ∧ relVs E.P C w st.h vs us
  | [], vs, hv => by
    simp only [outsA, Option.some.injEq] at hv; subst hv
    exact ⟨[], by simp, by simp [relVs]⟩
  | .tmp t :: rs, vs, hv => by
    simp only [outsA] at hv
    split at hv
    · rename_i hn
      cases ho : outsA E st rs with
      | none => simp [ho] at hv
      | some ws =>
        simp only [ho, Option.map_some, Option.some.injEq] at hv; subst hv
        obtain ⟨us, h1, h2⟩ := outs_run I rs ws ho
        refine ⟨a.tmps.getD t undef :: us, ?_, ?_⟩
        · simp only [List.mapM_cons, Sem.run_bind, Sem.run_pure, Result.andThen_ok]
          rw [h1]; rfl
        · simp only [relVs]
          exact ⟨_, us, rfl, relV_up hn (strip_rel (I.env t)), h2⟩
    · cases hv
  | .cell x t :: rs, vs, hv => by
    simp only [outsA] at hv
    split at hv
    · rename_i id path hx
      split at hv
      · rename_i bt bc hb
        split at hv
        · rename_i v t' hg
          split at hv
          · rename_i hq
            obtain ⟨rfl, hn⟩ := hq
            cases ho : outsA E st rs with
            | none => simp [ho] at hv
            | some ws =>
              simp only [ho, Option.map_some, Option.some.injEq] at hv; subst hv
              obtain ⟨us, h1, h2⟩ := outs_run I rs ws ho
              have r := strip_rel (I.env x)
              rw [hx] at r
              obtain ⟨off, cs, k1, k2, k3, k4, k5, k6⟩ := ptr_at I.sim r hb hg
              obtain ⟨u, q1, q2⟩ := run_loadAt k3 k4 k5 k6
              refine ⟨u :: us, ?_, ?_⟩
              · have e : (do loadVar t' (← asAddr (a.tmps.getD x undef)) : Sem Value).run E.P w = .ok u w := by
                  rw [k1]; exact q1
                simp only [List.mapM_cons, Sem.run_bind]
                rw [Sem.run_bind] at e
                rw [e]
                simp only [Result.andThen_ok, Sem.run_pure]
                rw [h1]; rfl
              · simp only [relVs]
                exact ⟨u, us, rfl, relV_up hn q2, h2⟩
          · cases hv
        · cases hv
      · cases hv
    · cases hv

theorem results_run {fn : Func} {vs : List AV} (I : Inv E N C w st a) (ho : outsA E st fn.results.toList = some vs) :
    ∃ u, (results fn a.tmps).run E.P w = .ok u w ∧ relV E.P C w st.h (packA vs) u := by
  obtain ⟨us, h1, h2⟩ := outs_run I _ _ ho
  unfold results
  rw [Array.mapM_eq_mapM_toList]
  refine ⟨if h : us.toArray.size = 1 then us.toArray[0] else .tuple us.toArray, ?_, ?_⟩
  · simp only [Sem.run_bind, map_eq_pure_bind, bind_assoc]
    erw [h1]
    simp
  · match vs, us, h2 with
    | [], us, h2 => simp only [relVs] at h2; subst h2; simp only [packA]; exact ⟨[], by simp, by simp [relVs]⟩
    | [x], us, h2 =>
      simp only [relVs] at h2
      obtain ⟨u, us', rfl, h3, rfl⟩ := h2
      simpa [packA] using relV_dn h3
    | x :: y :: l, us, h2 =>
      have h2' := h2
      simp only [relVs] at h2'
      obtain ⟨u, us', rfl, h3, u', us'', rfl, h4, h5⟩ := h2'
      exact ⟨_, by simp, h2⟩

theorem relVs_get {P : Program} : ∀ {ds : List AV} {vs : List Value}, relVs P C w h ds vs → ds.length = vs.length ∧ ∀ (i : Nat) d u, ds[i]? = some d → vs[i]? = some u → relV1 P C w h d u
  | [], _, r => by simp only [relVs] at r; subst r; simp
  | d :: ds, _, r => by
    simp only [relVs] at r
    obtain ⟨v, vs', rfl, h2, h3⟩ := r
    obtain ⟨k1, k2⟩ := relVs_get h3
    refine ⟨by simp [k1], fun i x u hx hu => ?_⟩
    cases i with
    | zero => simp at hx hu; subst hx; subst hu; exact h2
    | succ i => exact k2 i x u (by simpa using hx) (by simpa using hu)

theorem run_calls {f : FuncId} {fn : Func} {c : Code} {n : Nat} {avs : List AV} {vs : List Value} {outs : List AV} (SO : SOK E) (hm : E.P.follows .mixedOrders = true) (hf : E.P.funcs[f]? = some fn) (hb : fn.body = some c)
    (ok : codeOK fn.ntmps E.S c = true) (hn : avs.length ≤ fn.ntmps) (S : Sim E.P C h w) (G : GOK E.P E.G C w) (ra : relVs E.P C w h avs vs) (hr : runF E n c fn.results.toList avs h = some (outs, h')) :
    Calls E.P f vs.toArray w fun e w' => ∃ C' v, e = .returned v ∧ relV E.P C' w' h' (packA outs) v ∧ Step C w h C' w' h' ∧ Sim E.P C' h' w' := by
  obtain ⟨hl, hg⟩ := relVs_get ra
  have key : ∀ ex st', exec E n c ⟨envOf avs, h⟩ = some (ex, st') → (∀ i, ex ≠ .exit i) → outsA E st' fn.results.toList = some outs → st'.h = h' →
      Calls E.P f vs.toArray w fun e w' => ∃ C' v, e = .returned v ∧ relV E.P C' w' h' (packA outs) v ∧ Step C w h C' w' h' ∧ Sim E.P C' h' w' := by
    intro ex st' hx hne ho hh
    refine calls_of_wp hf hb ?_
    refine exec_sound (N := fn.ntmps) SO hm n c ok ⟨envOf avs, h⟩ ex st' C w _ _ hx ⟨S, G, fun t => ?_, by simp; omega, rfl⟩ fun C' w' a' sp I' => ?_
    · simp only [envOf, Array.getD_eq_getD_getElem?]
      by_cases ht : t < avs.length
      · have e1 : avs[t]? = some avs[t] := by simp [ht]
        have e2 : vs[t]? = some vs[t] := by simp [hl ▸ ht]
        rw [e1]
        rw [Array.getElem?_append_left (by simp; omega)]
        simp only [List.getElem?_toArray, e2, Option.getD_some]
        exact relV_dn (hg t _ _ e1 e2)
      · rw [List.getElem?_eq_none (by omega)]
        rw [Array.getElem?_append_right (by simp; omega)]
        have : ((Array.replicate (fn.ntmps - vs.toArray.size) undef)[t - vs.toArray.size]?).getD undef = undef := by
          rw [Array.getElem?_replicate]; split <;> rfl
        rw [this]
        exact relV_undefA
    · obtain ⟨u, h1, h2⟩ := results_run I' ho
      have fin : a'.defers = [] ∧ ∃ v, (results fn a'.tmps).run E.P w' = .ok v w' ∧ ∃ C' v', Ending.returned v = .returned v' ∧ relV E.P C' w' h' (packA outs) v' ∧ Step C w h C' w' h' ∧ Sim E.P C' h' w' :=
        ⟨I'.defers, u, h1, C', u, rfl, hh ▸ h2, hh ▸ sp, hh ▸ I'.sim⟩
      cases ex with
      | normal => exact fin
      | ret => exact fin
      | exit i => exact absurd rfl (hne i)
  unfold runF at hr
  split at hr
  · cases hr
  · rename_i ex st' hne hx
    cases ho : outsA E st' fn.results.toList with
    | none => simp [ho] at hr
    | some o2 =>
      simp only [ho, Option.map_some, Option.some.injEq, Prod.mk.injEq] at hr
      obtain ⟨rfl, h2⟩ := hr
      exact key _ st' hx (fun i e => hne i e) ho h2
  · cases hr

/-! ### functions of trees -/
theorem bare_view (S : Sim E.P C' h' w') (sp : Step C w hNil C' w' h') (hb : C.bare) : Step C w hNil (C'.view true) w' hNil ∧ ∀ b, (C'.view true).K b ≠ .other → b < w'.heap.size := by
  refine ⟨⟨sp.os, sp.tape, sp.output, sp.size, fun b hlt => ?_, fun id hid => by simp [hNil] at hid, fun id bt bc hb => by simp [hNil] at hb, fun τ F hF => by simp [hNil] at hF⟩, view_lt true S.lt⟩
  have := sp.blk b hlt
  unfold keptB at this ⊢
  rcases hb b with e | e | ⟨f, e⟩ <;> simp only [e, Con.view] at this ⊢ <;> rw [this.1] <;> exact ⟨rfl, this.2⟩

def viewOuts (P : Program) (h : Heap) : List AV → Option (List DV)
  | [] => some []
  | x :: xs => match viewD P h x, viewOuts P h xs with
    | some y, some ys => some (y :: ys)
    | _, _ => none

theorem viewOuts_rel {P : Program} (S : Sim P C h w) : ∀ {xs : List AV} {ys : List DV} {vs : List Value}, viewOuts P h xs = some ys → relVs P C w h xs vs → relVs P (C.view true) w hNil (ys.map .d) vs
  | [], _, _, hv, r => by simp only [viewOuts, Option.some.injEq] at hv; subst hv; simpa [relVs] using r
  | x :: xs, ys, vs, hv, r => by
    simp only [viewOuts] at hv
    split at hv
    · rename_i y ys' h1 h2
      simp only [Option.some.injEq] at hv; subst hv
      simp only [relVs] at r
      obtain ⟨u, vs', rfl, h3, h4⟩ := r
      simp only [List.map_cons, relVs]
      refine ⟨u, vs', rfl, ?_, viewOuts_rel S h2 h4⟩
      have r1 := viewD_relV S h1 (relV_dn h3)
      cases hq : !noSlA x with
      | true => rw [hq] at r1; exact r1
      | false =>
        rw [hq] at r1
        have k : Keeps (C.view false) w (C.view true) w := keeps_fixed fun b o hf => by
          simp only [Con.fixed, Con.view] at hf ⊢
          cases hk : C.K b <;> simp_all [Blk.fixed]
        simp only [relV1] at r1 ⊢
        split
        · rename_i hx; rw [if_pos hx] at r1; obtain ⟨c, q1, q2⟩ := r1; exact ⟨c, q1, relD_mono k q2⟩
        · rename_i hx; rw [if_neg hx] at r1; exact relD_mono k r1
    · cases hv

theorem pack_rel {P : Program} {xs : List AV} {u : Value} (hn : xs.all notTup = true) (r : relV P C w h (packA xs) u) : ∃ us, relVs P C w h xs us ∧ ∀ {C' w' h'} {ys : List DV}, ys.length = xs.length → relVs P C' w' h' (ys.map .d) us → relV P C' w' h' (resA ys) u := by
  match xs, hn, r with
  | [], _, r =>
    obtain ⟨ws, h1, h2⟩ := r
    refine ⟨ws, h2, fun {C' w' h' ys} hl r' => ?_⟩
    have : ys = [] := List.eq_nil_of_length_eq_zero hl
    subst this
    exact ⟨ws, h1, r'⟩
  | [x], hn, r =>
    refine ⟨[u], by simp only [relVs]; exact ⟨u, [], rfl, relV_up (by simpa using hn) r, rfl⟩, fun {C' w' h' ys} hl r' => ?_⟩
    match ys, hl, r' with
    | [y], _, r' =>
      simp only [List.map_cons, List.map_nil, relVs] at r'
      obtain ⟨u', us', h1, h2, h3⟩ := r'
      simp at h1; obtain ⟨rfl, rfl⟩ := h1
      exact h2
  | x :: y :: l, _, r =>
    obtain ⟨ws, h1, h2⟩ := r
    refine ⟨ws, h2, fun {C' w' h' ys} hl r' => ?_⟩
    match ys, hl, r' with
    | a :: b :: l', _, r' => exact ⟨ws, h1, r'⟩

theorem outs_notTup {E : Env} {st : St} : ∀ {rs : List ResultVar} {vs : List AV}, outsA E st rs = some vs → vs.all notTup = true
  | [], vs, hv => by simp only [outsA, Option.some.injEq] at hv; subst hv; rfl
  | .tmp t :: rs, vs, hv => by
    simp only [outsA] at hv
    split at hv
    · rename_i hn
      cases ho : outsA E st rs with
      | none => simp [ho] at hv
      | some ws =>
        simp only [ho, Option.map_some, Option.some.injEq] at hv; subst hv
        simp only [List.all_cons, hn, Bool.true_and]
        exact outs_notTup ho
    · cases hv
  | .cell x t :: rs, vs, hv => by
    simp only [outsA] at hv
    split at hv
    · split at hv
      · split at hv
        · split at hv
          · rename_i hq
            cases ho : outsA E st rs with
            | none => simp [ho] at hv
            | some ws =>
              simp only [ho, Option.map_some, Option.some.injEq] at hv; subst hv
              simp only [List.all_cons, hq.2, Bool.true_and]
              exact outs_notTup ho
          · cases hv
        · cases hv
      · cases hv
    · cases hv

theorem runF_notTup {n : Nat} {c : Code} {rs : List ResultVar} {avs outs : List AV} (hr : runF E n c rs avs h = some (outs, h')) : outs.all notTup = true := by
  unfold runF at hr
  split at hr
  · cases hr
  · rename_i st' _ _
    cases ho : outsA E st' rs with
    | none => simp [ho] at hr
    | some o2 =>
      simp only [ho, Option.map_some, Option.some.injEq, Prod.mk.injEq] at hr
      obtain ⟨rfl, _⟩ := hr
      exact outs_notTup ho
  · cases hr

theorem viewOuts_len {P : Program} : ∀ {xs : List AV} {ys : List DV}, viewOuts P h xs = some ys → ys.length = xs.length
  | [], _, hv => by simp only [viewOuts, Option.some.injEq] at hv; subst hv; rfl
  | x :: xs, ys, hv => by
    simp only [viewOuts] at hv
    split at hv
    · rename_i y ys' h1 h2
      simp only [Option.some.injEq] at hv; subst hv
      simp [viewOuts_len h2]
    · cases hv

/-- What a body computes on trees, from nothing. -/
def treeF (E : Env) (n : Nat) (c : Code) (rs : List ResultVar) (ds : List DV) : Option (List DV) :=
  match runF E n c rs (ds.map .d) hNil with
  | some (outs, h) => viewOuts E.P h outs
  | none => none

theorem sim_nil {P : Program} (hl : ∀ b, C.K b ≠ .other → b < w.heap.size) (hb : C.bare) : Sim P C hNil w :=
  ⟨fun id bt bc h => by simp [hNil] at h, hl, fun b τ f h => by rcases hb b with e | e | ⟨g, e⟩ <;> rw [e] at h <;> cases h⟩

theorem pure_meets {f : FuncId} {fn : Func} {c : Code} {s : List DV → Option (List DV)} (SO : SOK E) (hm : E.P.follows .mixedOrders = true) (hf : E.P.funcs[f]? = some fn) (hb : fn.body = some c)
    (ok : codeOK fn.ntmps E.S c = true) (hs : ∀ ds r, s ds = some r → ds.length ≤ fn.ntmps ∧ ∃ n, treeF E n c fn.results.toList ds = some r) : PureMeets E.P E.G f s := by
  intro C w ds vs r hbare hlt G ra hds
  obtain ⟨hn, n, hr⟩ := hs ds r hds
  unfold treeF at hr
  split at hr
  · rename_i outs h1 hrun
    refine (run_calls SO hm hf hb ok (by simpa using hn) (sim_nil hlt hbare) G ra hrun).mono ?_
    rintro e w' ⟨C', v, rfl, hv, sp, S'⟩
    obtain ⟨sp', hlt'⟩ := bare_view S' sp hbare
    obtain ⟨us, q1, q2⟩ := pack_rel (runF_notTup hrun) hv
    exact ⟨C'.view true, v, rfl, q2 (viewOuts_len hr) (viewOuts_rel S' hr q1), sp', hlt'⟩
  · cases hr

end
end Go.Tith

namespace Go.Tith

def Meets (P : Program) (G : Nat → Option (TypeId × DV)) (f : FuncId) : Spec → Prop
  | .pure s => Enterable P f ∧ PureMeets P G f s
  | .eff s => Enterable P f ∧ EffMeets P G f s
  | .no => True

def look : List (FuncId × Spec) → FuncId → Spec
  | [], _ => .no
  | (g, s) :: l, f => if f = g then s else look l f

/-- Contracts of a list. -/
def AllMeet (P : Program) (G : Nat → Option (TypeId × DV)) : List (FuncId × Spec) → Prop
  | [] => True
  | (f, s) :: l => Meets P G f s ∧ AllMeet P G l

theorem look_ok {P : Program} {G : Nat → Option (TypeId × DV)} : ∀ {l : List (FuncId × Spec)}, AllMeet P G l → ∀ f, Meets P G f (look l f)
  | [], _, f => by simp [look, Meets]
  | (g, s) :: l, h, f => by
    simp only [look]
    split
    · rename_i e; subst e; exact h.1
    · exact look_ok h.2 f

theorem SOK_look {P : Program} {G : Nat → Option (TypeId × DV)} {l : List (FuncId × Spec)} {K : Nat → Option (List Nat × List Nat)} (h : AllMeet P G l) : SOK ⟨P, look l, G, K⟩ := fun f => by
  have := look_ok h f
  simp only
  cases hs : look l f with
  | pure s => rw [hs] at this; exact this
  | eff s => rw [hs] at this; exact this
  | no => trivial

theorem enterable {P : Program} {f : FuncId} {fn : Func} {c : Code} (hf : P.funcs[f]? = some fn) (hb : fn.body = some c) (hname : (fn.name == "runtime.NumGoroutine") = false) : Enterable P f :=
  ⟨fn, hf, by rw [hb]; rfl, hname⟩

theorem pure_fn {P : Program} {G : Nat → Option (TypeId × DV)} {l : List (FuncId × Spec)} {f : FuncId} {fn : Func} {c : Code} {s : List DV → Option (List DV)} (K : Nat → Option (List Nat × List Nat)) (ml : AllMeet P G l) (hm : P.follows .mixedOrders = true)
    (hf : P.funcs[f]? = some fn) (hb : fn.body = some c) (hname : (fn.name == "runtime.NumGoroutine") = false) (ok : codeOK fn.ntmps (look l) c = true)
    (hs : ∀ ds r, s ds = some r → ds.length ≤ fn.ntmps ∧ ∃ n, treeF ⟨P, look l, G, K⟩ n c fn.results.toList ds = some r) : Meets P G f (.pure s) :=
  ⟨enterable hf hb hname, pure_meets (E := ⟨P, look l, G, K⟩) (SOK_look ml) hm hf hb ok hs⟩

theorem eff_fn {P : Program} {G : Nat → Option (TypeId × DV)} {l : List (FuncId × Spec)} {f : FuncId} {fn : Func} {c : Code} {s : List AV → Heap → Option (AV × Heap)} (K : Nat → Option (List Nat × List Nat)) (ml : AllMeet P G l) (hm : P.follows .mixedOrders = true)
    (hf : P.funcs[f]? = some fn) (hb : fn.body = some c) (hname : (fn.name == "runtime.NumGoroutine") = false) (ok : codeOK fn.ntmps (look l) c = true)
    (hs : ∀ avs h r h', s avs h = some (r, h') → avs.length ≤ fn.ntmps ∧ ∃ n outs, runF ⟨P, look l, G, K⟩ n c fn.results.toList avs h = some (outs, h') ∧ packA outs = r) : Meets P G f (.eff s) := by
  refine ⟨enterable hf hb hname, fun C w h avs vs r h' S g ra hr => ?_⟩
  obtain ⟨h1, n, outs, h2, rfl⟩ := hs avs h r h' hr
  exact run_calls (E := ⟨P, look l, G, K⟩) (SOK_look ml) hm hf hb ok h1 S g ra h2

end Go.Tith

namespace Go.Tith

/-- x, where c holds. -/
@[irreducible] noncomputable def chk {α : Type} (c : Prop) (x : Option α) : Option α := @ite _ c (Classical.propDecidable c) x none

section
variable {α β : Type}
theorem chk_eq {c : Prop} {x y : Option α} (h : c) (e : x = y) : chk c x = y := by unfold chk; rw [if_pos h, e]
@[simp] theorem chk_true {x : Option α} : chk True x = x := chk_eq trivial rfl
@[simp] theorem chk_false {x : Option α} : chk False x = none := by unfold chk; rw [if_neg id]
@[simp] theorem chk_none {c : Prop} : chk c (none : Option α) = none := by unfold chk; split <;> rfl
@[simp] theorem ite_none {c : Prop} [Decidable c] {x : Option α} : (if c then x else none) = chk c x := by unfold chk; by_cases h : c <;> simp [h]
@[simp] theorem ite_none' {c : Prop} [Decidable c] {x : Option α} : (if c then none else x) = chk (¬ c) x := by unfold chk; by_cases h : c <;> simp [h]
@[simp] theorem chk_bind {c : Prop} {x : Option α} {f : α → Option β} : (chk c x).bind f = chk c (x.bind f) := by unfold chk; split <;> rfl
@[simp] theorem chk_map {c : Prop} {x : Option α} {f : α → β} : (chk c x).map f = chk c (x.map f) := by unfold chk; split <;> rfl
@[simp] theorem ite_bind {c : Prop} [Decidable c] {x y : Option α} {f : α → Option β} : (if c then x else y).bind f = if c then x.bind f else y.bind f := by split <;> rfl
@[simp] theorem ite_map {c : Prop} [Decidable c] {x y : Option α} {f : α → β} : (if c then x else y).map f = if c then x.map f else y.map f := by split <;> rfl
theorem ite_p {α : Type} {c : Prop} [Decidable c] {x y z : α} (h : c) (e : x = z) : (if c then x else y) = z := by rw [if_pos h, e]
theorem ite_n {α : Type} {c : Prop} [Decidable c] {x y z : α} (h : ¬ c) (e : y = z) : (if c then x else y) = z := by rw [if_neg h, e]
theorem chk_ite {c : Prop} [Decidable c] {x : Option α} : chk c x = if c then x else none := ite_none.symm

/-- A list's part. -/
@[irreducible] def ata [Inhabited α] (l : List α) (i : Nat) : α := (l[i]?).getD default
theorem ata_some [Inhabited α] {l : List α} {i : Nat} {x : α} (h : l[i]? = some x) : ata l i = x := by unfold ata; rw [h]; rfl
theorem ata_lt [Inhabited α] {l : List α} {i : Nat} (h : i < l.length) : ata l i = l[i] := ata_some (by simp [h])
@[simp low] theorem getElem?_chk [Inhabited α] {l : List α} {i : Nat} : l[i]? = chk (i < l.length) (some (ata l i)) := by
  by_cases h : i < l.length
  · rw [chk_eq h rfl, ata_lt h]; simp [h]
  · have : (i < l.length) = False := eq_false h
    rw [this, chk_false]; simp; omega
@[simp high] theorem getElem?_replicate_chk {n i : Nat} {x : α} : (List.replicate n x)[i]? = chk (i < n) (some x) := by
  rw [List.getElem?_replicate]; exact ite_none
@[simp] theorem ata_replicate [Inhabited α] {n i : Nat} {x : α} : ata (List.replicate n x) i = if i < n then x else default := by
  unfold ata; rw [List.getElem?_replicate]; split <;> rfl
@[simp] theorem getElem?_map_chk [Inhabited α] {f : α → β} {l : List α} {i : Nat} : (l.map f)[i]? = chk (i < l.length) (some (f (ata l i))) := by
  rw [List.getElem?_map, getElem?_chk, chk_map]; rfl
@[simp] theorem ata_zero [Inhabited α] {l : List α} {x : α} : ata (x :: l) 0 = x := by unfold ata; simp
@[simp] theorem ata_succ [Inhabited α] {l : List α} {x : α} {i : Nat} : ata (x :: l) (i + 1) = ata l i := by unfold ata; simp
theorem ata_map [Inhabited α] [Inhabited β] {f : α → β} {l : List α} {i : Nat} (h : i < l.length) : ata (l.map f) i = f (ata l i) := by
  rw [ata_lt (by simpa using h), ata_lt h]; simp

/-- A string's byte. -/
@[irreducible] def bat (s : ByteArray) (i : Nat) : UInt8 := (s[i]?).getD 0
@[simp low] theorem getB?_chk {s : ByteArray} {i : Nat} : s[i]? = chk (i < s.size) (some (bat s i)) := by
  unfold bat
  by_cases h : i < s.size
  · rw [chk_eq h rfl]; simp [h]
  · have : (i < s.size) = False := eq_false h
    rw [this, chk_false]; simp; omega
end

@[simp] theorem upd_apply (env : Nat → AV) (t u : Nat) (v : AV) : upd env t v u = if u = t then v else env u := rfl

@[simp] theorem gd_true : gd true = true := gd_eq _
@[simp] theorem gd_false : gd false = false := gd_eq _
@[simp] theorem gd_gd (b : Bool) : gd (gd b) = gd b := by rw [gd_eq (gd b)]
@[simp] theorem gd_not (b : Bool) : gd (!gd b) = !gd b := gd_eq _

theorem envOf_nil (t : Nat) : envOf [] t = undefA := rfl
theorem envOf_zero (a : AV) (avs : List AV) : envOf (a :: avs) 0 = a := rfl
theorem envOf_succ (a : AV) (avs : List AV) (t : Nat) : envOf (a :: avs) (t + 1) = envOf avs t := by simp [envOf]

@[simp] theorem look_nil (f : FuncId) : look [] f = .no := rfl
@[simp] theorem look_cons (g : FuncId) (s : Spec) (l : List (FuncId × Spec)) (f : FuncId) : look ((g, s) :: l) f = if f = g then s else look l f := rfl

/-! ### one operation -/
def getK (P : Program) (i : Nat) (p : List Nat) : TypeId × List AV → Option (AV × TypeId)
  | (u, fs) => match fs[i]?, (tys P u)[i]? with
    | some x, some t => getP P p x t
    | _, _ => none
def getK2 (P : Program) (p : List Nat) (x : AV) (t : TypeId) : Option (AV × TypeId) := getP P p x t
@[simp] theorem getP_nil {P : Program} {v : AV} {t : TypeId} : getP P [] v t = some (v, t) := by rw [getP]
@[simp] theorem getP_cons {P : Program} {i : Nat} {p : List Nat} {v : AV} {t : TypeId} : getP P (i :: p) v t = v.parts.bind (getK P i p) := by
  rw [getP]
  cases v.parts with
  | none => rfl
  | some r => obtain ⟨u, fs⟩ := r; rfl
@[simp] theorem getK_eq {P : Program} {i : Nat} {p : List Nat} {u : TypeId} {fs : List AV} : getK P i p (u, fs) = (fs[i]?).bind fun x => ((tys P u)[i]?).bind (getP P p x) := by
  simp only [getK]
  cases fs[i]? with
  | none => rfl
  | some x =>
    simp only [Option.bind_some]
    cases (tys P u)[i]? <;> rfl

def loadK2 (t : TypeId) (q : AV × TypeId) : Option AV := if q.2 = t then some q.1 else none
@[simp] theorem loadK2_eq {t u : TypeId} {x : AV} : loadK2 t (x, u) = if u = t then some x else none := rfl
def loadK (E : Env) (path : List Nat) (t : TypeId) (r : TypeId × AV) : Option AV := (getP E.P path r.2 r.1).bind (loadK2 t)
@[simp] theorem loadK_eq {E : Env} {path : List Nat} {t u : TypeId} {x : AV} : loadK E path t (u, x) = (getP E.P path x u).bind (loadK2 t) := rfl
def loadA (E : Env) (h : Heap) (t : TypeId) : AV → Option AV
  | .ptr id path => (h.boxes[id]?).bind (loadK E path t)
  | .ro t' x => if t' = t then some (.d x) else none
  | _ => none

section
variable {E : Env} {h : Heap} {ev : Operand → AV} {g : Bool} {d : Option Nat} {ty : TypeId} {pos : String} {af : Array Edge} {gu : Option (Nat × Bool)}

def binP (E : Env) (ev : Operand → AV) (op : BinOp) (t : TypeId) (x y : Operand) : Option AV :=
  match y, ev x with
  | .const .nilIface, .ifc a => if oneB E.P t isIface = true then (eqR op (!a)).map .d else none
  | _, _ => (binA E op t (ev x) (ev y)).map .d
@[simp] theorem pop_move {x : Operand} : pop E g h ev ⟨d, .move x, ty, pos, af, gu⟩ = some (gdA (ev x)) := rfl
@[simp] theorem pop_assign {x : Operand} : pop E g h ev ⟨d, .assign x, ty, pos, af, gu⟩ = some (coe E.P ty (ev x)) := rfl
def pickP (g : Bool) (ev : Operand → AV) (a b : Operand) : AV → Option AV
  | .d (.bool t) => pickA g t (ev a) (ev b)
  | _ => none
@[simp] theorem pop_pick {c a b : Operand} : pop E g h ev ⟨d, .pick c a b, ty, pos, af, gu⟩ = pickP g ev a b (strip g (ev c)) := by
  simp only [pop]; unfold pickP; rfl
@[simp] theorem pop_bin {op : BinOp} {t u : TypeId} {x y : Operand} : pop E g h ev ⟨d, .binOp op t x y u, ty, pos, af, gu⟩ = binP E ev op t x y := rfl
@[simp] theorem pop_un {op : UnOp} {t : TypeId} {x : Operand} : pop E g h ev ⟨d, .unOp op t x, ty, pos, af, gu⟩ = (unA op (ev x)).map .d := rfl
@[simp] theorem pop_conv {s t : TypeId} {x : Operand} : pop E g h ev ⟨d, .convert s t x, ty, pos, af, gu⟩ = (convA E.P s t (ev x)).map .d := rfl
@[simp] theorem pop_nil {x : Operand} : pop E g h ev ⟨d, .nilCheck x, ty, pos, af, gu⟩ = if (ev x).isPtr then some (ev x) else none := rfl
def fieldP (P : Program) (t : TypeId) (f : Nat) (x : AV) : Option AV :=
  match P.underlying t with
  | some (.struct _) => match x.parts with
    | some (u, fs) => if P.underlyingId t = u then fs[f]? else none
    | none => none
  | _ => none
@[simp] theorem pop_field {t : TypeId} {f : Nat} {x : Operand} : pop E g h ev ⟨d, .field t x f, ty, pos, af, gu⟩ = fieldP E.P t f (ev x) := rfl
def extP (i : Nat) : AV → Option AV
  | .tup vs => vs[i]?
  | _ => none
@[simp] theorem pop_extr {x : Operand} {i : Nat} : pop E g h ev ⟨d, .extract x i, ty, pos, af, gu⟩ = extP i (ev x) := by
  simp only [pop]; unfold extP; rfl
def indexP (E : Env) (t : TypeId) : AV → AV → Option AV
  | .d (.str s), .d (.int _ n) => if 0 ≤ n ∧ oneB E.P t isStr = true then (s[n.toNat]?).map fun b => .d (.int .u8 b.toNat) else none
  | .d (.agg u xs), .d (.int _ n) => match E.P.underlying t with
    | some (.array k _) => if u = E.P.underlyingId t ∧ 0 ≤ n ∧ n < k then (idx xs n).map .d else none
    | _ => none
  | _, _ => none
@[simp] theorem pop_index {t : TypeId} {x i : Operand} : pop E g h ev ⟨d, .index t x i, ty, pos, af, gu⟩ = indexP E t (ev x) (ev i) := by
  simp only [pop]; unfold indexP; rfl
def idxAP (E : Env) (h : Heap) (t : TypeId) (x : AV) : AV → Option AV
  | .d (.int _ n) => indexAddrA E h t x n
  | _ => none
@[simp] theorem pop_idxA {t : TypeId} {x i : Operand} : pop E g h ev ⟨d, .indexAddr t x i, ty, pos, af, gu⟩ = idxAP E h t (ev x) (ev i) := by
  simp only [pop]; unfold idxAP; rfl
def fldAP (E : Env) (h : Heap) (t : TypeId) (f : Nat) (x : AV) : Option AV :=
  match E.P.underlying t with
  | some (.struct fs) => match fs[f]? with
    | some fd => if E.P.cellsOf fd.type = 0 then none else match x with
      | .ptr id path => if h.typeAt E.P id path = some t ∧ (tys E.P (E.P.underlyingId t)).isEmpty = false then some (.ptr id (path ++ [f])) else none
      | .ro t' (.agg _ xs) => if t' = t then (xs[f]?).map (.ro fd.type) else none
      | _ => none
    | none => none
  | _ => none
@[simp] theorem pop_fldA {t : TypeId} {f : Nat} {x : Operand} : pop E g h ev ⟨d, .fieldAddr t x f, ty, pos, af, gu⟩ = fldAP E h t f (ev x) := by
  simp only [pop]; unfold fldAP; rfl
def sliceP (E : Env) (h : Heap) (t : TypeId) (x : AV) : Option (Option Int) → Option (Option Int) → Option (Option Int) → Option AV
  | some l, some u, some m => sliceA E h t x l u m
  | _, _, _ => none
@[simp] theorem pop_slice {t : TypeId} {x : Operand} {lo hi mx : Option Operand} : pop E g h ev ⟨d, .slice t x lo hi mx, ty, pos, af, gu⟩ = sliceP E h t (ev x) (optI ev lo) (optI ev hi) (optI ev mx) := by
  simp only [pop]; unfold sliceP; rfl
@[simp] theorem pop_build {t : TypeId} {ps : Array (Nat × Operand)} : pop E g h ev ⟨d, .build t ps, ty, pos, af, gu⟩ = pop.buildA E t (ps.toList.map fun p => (p.1, ev p.2)) := rfl
def bslP (E : Env) (t : TypeId) (n : Nat) (ps : List (Nat × AV)) : Option AV :=
  match E.P.underlying t with
  | some (.slice e) => ((ps.map fun p => coe E.P e p.2).mapM plainD).bind fun xs =>
      if (zeroA E.P e).isSome = true ∧ ps.map (·.1) = List.range n ∧ n ≤ 4096 ∧ (ps.all fun p => fitsA E.P e (coe E.P e p.2)) = true ∧ n * E.P.cellsOf e ≤ 16777216 then some (.lst none e xs) else none
  | _ => none
@[simp] theorem pop_bsl {t : TypeId} {n : Nat} {ps : Array (Nat × Operand)} : pop E g h ev ⟨d, .buildSlice t n ps, ty, pos, af, gu⟩ = bslP E t n (ps.toList.map fun p => (p.1, ev p.2)) := by
  simp only [pop, bslP]
  cases E.P.underlying t with
  | none => rfl
  | some ut =>
    cases ut with
    | slice e =>
      simp only [List.map_map, Function.comp_def, List.all_map]
      cases (ps.toList.map fun p => coe E.P e (ev p.2)).mapM plainD with
      | none => rfl
      | some xs =>
        simp only [Option.bind_some]
        cases zeroA E.P e with
        | none => simp
        | some z => simp
    | _ => rfl
@[simp] theorem pop_fn {f : FuncId} {fi ca : Array Operand} : pop E g h ev ⟨d, .makeFunc (.func f) fi ca, ty, pos, af, gu⟩ = if fi.size = 0 ∧ (ca.toList.all fun x => (ev x).isBox) = true then some (.fn f (ca.toList.map ev)) else none := rfl
def lenP (E : Env) (t : TypeId) : AV → Option AV
  | .d (.str s) => if oneB E.P t isStr = true then some (.d (.int .i64 s.size)) else none
  | .lst _ _ xs => if oneB E.P t isAnySl = true then some (.d (.int .i64 xs.length)) else none
  | .d (.list _ xs) => if oneB E.P t isAnySl = true then some (.d (.int .i64 xs.length)) else none
  | .sl _ _ _ n => if oneB E.P t isAnySl = true then some (.d (.int .i64 n)) else none
  | .nils => if oneB E.P t isAnySl = true then some (.d (.int .i64 0)) else none
  | _ => none
@[simp] theorem pop_len {x : Operand} {t : TypeId} : pop E g h ev ⟨d, .call ⟨.builtin .len, #[x], #[t]⟩, ty, pos, af, gu⟩ = lenP E t (ev x) := by
  simp only [pop]; unfold lenP; rfl
def minP : AV → AV → Option AV
  | .d (.int k a), .d (.int _ b) => some (.d (.int k (if b < a then b else a)))
  | _, _ => none
def maxP : AV → AV → Option AV
  | .d (.int k a), .d (.int _ b) => some (.d (.int k (if b > a then b else a)))
  | _, _ => none
@[simp] theorem pop_min {x y : Operand} {ts : Array TypeId} : pop E g h ev ⟨d, .call ⟨.builtin .min, #[x, y], ts⟩, ty, pos, af, gu⟩ = minP (ev x) (ev y) := by
  simp only [pop]; unfold minP; rfl
@[simp] theorem pop_max {x y : Operand} {ts : Array TypeId} : pop E g h ev ⟨d, .call ⟨.builtin .max, #[x, y], ts⟩, ty, pos, af, gu⟩ = maxP (ev x) (ev y) := by
  simp only [pop]; unfold maxP; rfl

@[simp] theorem eop_alloc {t : TypeId} : eop E h ev ⟨d, .alloc t, ty, pos, af, gu⟩ = (zeroA E.P t).map fun z => (.ptr h.boxes.length [], { h with boxes := h.boxes ++ [(t, z)] }) := by
  simp only [eop]; cases zeroA E.P t <;> rfl
@[simp] theorem eop_box {t : TypeId} {x : Operand} : eop E h ev ⟨d, .box t x, ty, pos, af, gu⟩ = if fitsA E.P t (coe E.P t (ev x)) = true then some (.ptr h.boxes.length [], { h with boxes := h.boxes ++ [(t, coe E.P t (ev x))] }) else none := rfl
@[simp] theorem eop_store {t : TypeId} {a x : Operand} : eop E h ev ⟨d, .store t a x, ty, pos, af, gu⟩ = (storeA E h t (ev a) (ev x)).map fun h' => (.sel false .bad, h') := rfl
def mkslP (E : Env) (h : Heap) (u : Option TypeDesc) (l c : AV) : Option (AV × Heap) :=
  match u, l, c with
  | some (.slice e), .d (.int .i64 n), .d (.int .i64 m) => match zeroA E.P e with
    | some (.d z) => if 0 ≤ n ∧ n ≤ m ∧ m ≤ 4294967296 ∧ E.P.bytesOf e ≤ 32768 ∧ E.P.cellsOf e ≠ 0 then
        some (.lst (some h.toks.length) e (List.replicate n.toNat z), { h with toks := h.toks ++ [n.toNat] }) else none
    | _ => none
  | _, _, _ => none
@[simp] theorem eop_mksl {t : TypeId} {l c : Operand} : eop E h ev ⟨d, .makeSlice t l c, ty, pos, af, gu⟩ = mkslP E h (E.P.underlying t) (ev l) (ev c) := by
  simp only [eop]
  unfold mkslP
  rfl
def appP (E : Env) (h : Heap) (t t' : TypeId) (x y : AV) : Option (AV × Heap) :=
  match E.P.underlying t with
  | some (.slice e) => if oneB E.P t' y.srcD = true then appendA E.P h e (coe E.P t x) y else none
  | _ => none
@[simp] theorem eop_app {x y : Operand} {t t' : TypeId} : eop E h ev ⟨d, .call ⟨.builtin .append, #[x, y], #[t, t']⟩, ty, pos, af, gu⟩ = appP E h t t' (ev x) (ev y) := rfl
def callE (E : Env) (h : Heap) (avs : List Operand) (ts : List TypeId) (ev : Operand → AV) : AV → Option (AV × Heap)
  | .fn g caps => match E.S g with
    | .eff s => if ts.length = avs.length ∧ (avs.all fun x => notTup (ev x)) = true ∧ (caps.all fun x => !aggA x) = true then s (List.zipWith (fun t a => coe E.P t (ev a)) ts avs ++ caps) h else none
    | _ => none
  | _ => none
@[simp] theorem eop_call {f : Operand} {avs : Array Operand} {ts : Array TypeId} : eop E h ev ⟨d, .call ⟨.value f, avs, ts⟩, ty, pos, af, gu⟩ = callE E h avs.toList ts.toList ev (ev f) := by
  simp only [eop]; unfold callE; rfl

@[simp] theorem pop_load {t : TypeId} {a : Operand} : pop E g h ev ⟨d, .load t a, ty, pos, af, gu⟩ = loadA E h t (ev a) := by
  simp only [pop]
  cases ev a with
  | ptr id path =>
    simp only [loadA]
    cases h.boxes[id]? with
    | none => rfl
    | some r =>
      obtain ⟨bt, bc⟩ := r
      simp only [Option.bind_some, loadK]
      cases getP E.P path bc bt with
      | none => rfl
      | some q => rfl
  | _ => rfl

def callK2 (ts : List TypeId) (avs : List Operand) (ev : Operand → AV) (r : List DV) : Option AV :=
  if ts.length = avs.length ∧ ((avs.all fun a => noSlA (ev a)) = true ∨ noLsts r = true) then some (resA r) else none
def callK (s : List DV → Option (List DV)) (ts : List TypeId) (avs : List Operand) (ev : Operand → AV) (ds : List DV) : Option AV := (s ds).bind (callK2 ts avs ev)
def viewAll (P : Program) (h : Heap) : List AV → Option (List DV)
  | [] => some []
  | x :: xs => (viewD P h x).bind fun y => (viewAll P h xs).map fun ys => y :: ys
theorem viewAll_eq {P : Program} {h : Heap} : ∀ (xs : List AV), xs.mapM (viewD P h) = viewAll P h xs
  | [] => rfl
  | x :: xs => by
    simp only [List.mapM_cons, viewAll, viewAll_eq xs]
    cases viewD P h x with
    | none => rfl
    | some y => simp only [Option.bind_some]; cases viewAll P h xs <;> rfl

def callP (E : Env) (h : Heap) (avs : List Operand) (ts : List TypeId) (ev : Operand → AV) : AV → Option AV
  | .fn g [] => match E.S g with
    | .pure s => (viewAll E.P h (List.zipWith (fun t a => coe E.P t (ev a)) ts avs)).bind (callK s ts avs ev)
    | _ => none
  | _ => none

@[simp] theorem pop_call {f : Operand} {avs : Array Operand} {ts : Array TypeId} : pop E g h ev ⟨d, .call ⟨.value f, avs, ts⟩, ty, pos, af, gu⟩ = callP E h avs.toList ts.toList ev (ev f) := by
  simp only [pop]
  cases ev f with
  | fn k caps =>
    cases caps with
    | cons x l => rfl
    | nil =>
      simp only [callP]
      cases E.S k with
      | pure s =>
        simp only
        rw [viewAll_eq]
        cases viewAll E.P h (List.zipWith (fun t a => coe E.P t (ev a)) ts.toList avs.toList) with
        | none => rfl
        | some ds =>
          simp only [Option.bind_some, callK]
          cases s ds <;> rfl
      | _ => rfl
  | _ => rfl

def setD (t : TypeId) (fs : List DV) (i : Nat) : AV → AV
  | .d y => .d (.agg t (fs.set i y))
  | y => .agg t ((fs.map .d).set i y)
@[simp] theorem setP_nil {x v : AV} : setP [] x v = some v := by rw [setP]
@[simp] theorem setP_agg {i : Nat} {p : List Nat} {t : TypeId} {fs : List AV} {v : AV} : setP (i :: p) (.agg t fs) v = (fs[i]?).bind fun x => (setP p x v).map fun y => .agg t (fs.set i y) := by
  rw [setP]
  cases fs[i]? <;> rfl
@[simp] theorem setP_d {i : Nat} {p : List Nat} {t : TypeId} {fs : List DV} {v : AV} : setP (i :: p) (.d (.agg t fs)) v = (fs[i]?).bind fun x => (setP p (.d x) v).map (setD t fs i) := by
  rw [setP]
  cases fs[i]? with
  | none => rfl
  | some x =>
    simp only [Option.bind_some]
    cases setP p (.d x) v with
    | none => rfl
    | some y => cases y <;> rfl

def storeK2 (E : Env) (h : Heap) (id : Nat) (path : List Nat) (t : TypeId) (v : AV) (bt : TypeId) (bc : AV) (q : AV × TypeId) : Option Heap :=
  if q.2 = t ∧ fitsA E.P t (coe E.P t v) = true then (setP path bc (coe E.P t v)).map fun bc' => { h with boxes := h.boxes.set id (bt, bc') } else none
@[simp] theorem storeK2_eq {id : Nat} {path : List Nat} {t bt u : TypeId} {v bc x : AV} : storeK2 E h id path t v bt bc (x, u) =
  if u = t ∧ fitsA E.P t (coe E.P t v) = true then (setP path bc (coe E.P t v)).map fun bc' => { h with boxes := h.boxes.set id (bt, bc') } else none := rfl
def storeK (E : Env) (h : Heap) (id : Nat) (path : List Nat) (t : TypeId) (v : AV) (r : TypeId × AV) : Option Heap :=
  (getP E.P path r.2 r.1).bind (storeK2 E h id path t v r.1 r.2)
@[simp] theorem storeK_eq {id : Nat} {path : List Nat} {t bt : TypeId} {v bc : AV} : storeK E h id path t v (bt, bc) = (getP E.P path bc bt).bind (storeK2 E h id path t v bt bc) := rfl
@[simp] theorem storeA_ptr {id : Nat} {path : List Nat} {t : TypeId} {v : AV} : storeA E h t (.ptr id path) v = (h.boxes[id]?).bind (storeK E h id path t v) := by
  simp only [storeA]
  cases h.boxes[id]? with
  | none => rfl
  | some r =>
    obtain ⟨bt, bc⟩ := r
    simp only [Option.bind_some, storeK]
    cases getP E.P path bc bt with
    | none => rfl
    | some q =>
      simp only [Option.bind_some, storeK2]
      split
      · cases setP path bc (coe E.P t v) <;> rfl
      · rfl

def appK (h : Heap) (e : TypeId) (k : Option Nat) (xs ys : List DV) : Option (AV × Heap) :=
  match k with
  | none => some (.lst (if ys.isEmpty && !xs.isEmpty then none else some h.toks.length) e (xs ++ ys), { h with toks := h.toks ++ [xs.length + ys.length] })
  | some τ => if h.toks[τ]? = some xs.length then some (.lst (some τ) e (xs ++ ys), { h with toks := h.toks.set τ (xs.length + ys.length) }) else none

def appK1 (P : Program) (h : Heap) (e : TypeId) (k : Option Nat) (xs ys : List DV) : Option (AV × Heap) :=
  if xs.length + ys.length ≤ 4294967296 ∧ P.bytesOf e ≤ 32768 ∧ P.cellsOf e ≠ 0 ∧ (zeroA P e).isSome = true then appK h e k xs ys else none
@[simp] theorem appendA_lst {P : Program} {e e' : TypeId} {k : Option Nat} {xs : List DV} {y : AV} : appendA P h e (.lst k e' xs) y = if e' = e then (addedA P h e y).bind (appK1 P h e k xs) else none := by
  simp only [appendA]
  by_cases he : e' = e
  · simp only [he, ne_eq, not_true, if_false, if_true]
    cases addedA P h e y with
    | none => rfl
    | some ys => simp only [Option.bind_some, appK1]; cases k <;> rfl
  · simp only [ne_eq, he, not_false_eq_true, if_true, if_false]

def addK (e : TypeId) (r : TypeId × List DV) : Option (List DV) := if r.1 = e then some r.2 else none
theorem addedA_eq {P : Program} {e : TypeId} {y : AV} : addedA P h e y = match y with
  | .nils => some []
  | .d (.str s) => if oneB P e (isInt .u8) = true then some (ofBytes s.data.toList) else none
  | y => (viewL P h y).bind (addK e) := by
  cases y with
  | d x => cases x <;> first | rfl | (simp only [addedA]; generalize viewL P h _ = r; cases r <;> rfl)
  | nils => rfl
  | _ => simp only [addedA]; generalize viewL P h _ = r; cases r <;> rfl

def listK : DV → Option (TypeId × List DV)
  | .list e xs => some (e, xs)
  | _ => none
@[simp] theorem viewL_eq {P : Program} {v : AV} : viewL P h v = (viewD P h v).bind listK := by
  unfold viewL
  cases viewD P h v with
  | none => rfl
  | some d => cases d <;> rfl

/-! ### one operation in a frame -/
def putE (st : St) (dst : Option Nat) (r : AV × Heap) : Option St := some ({ st with h := r.2 }.put dst r.1)
@[simp] theorem putE_eq {st : St} {dst : Option Nat} {v : AV} {h' : Heap} : putE st dst (v, h') = some (({ st with h := h' } : St).put dst v) := rfl
def putP (st : St) (dst : Option Nat) (v : AV) : Option St := some (st.put dst v)
def stepU (E : Env) (st : St) (o : Oper) : Cls → Option St
  | .eff => (eop E st.h (fun x => strip true (evalO E st.env x)) o).bind (putE st o.dst)
  | .tot => (pop E true st.h (evG E st.env o true) o).bind (putP st o.dst)
  | .par => (pop E true st.h (evG E st.env o true) o).bind (putP st o.dst)

def totR (st : St) (dst : Option Nat) (g : Bool) : Option AV → Option St
  | some v => if notTup v = true then some (st.put dst (.sel g v)) else if g = true then none else some (st.put dst undefA)
  | none => if g = true then none else some (st.put dst undefA)

@[simp] theorem totR_some {st : St} {dst : Option Nat} {v : AV} : totR st dst g (some v) = if notTup v = true then some (st.put dst (.sel g v)) else if g = true then none else some (st.put dst undefA) := rfl
@[simp] theorem totR_none {st : St} {dst : Option Nat} : totR st dst g none = if g = true then none else some (st.put dst undefA) := rfl
@[simp high] theorem totR_true {st : St} {dst : Option Nat} {c : Prop} {x : Option AV} : totR st dst true (chk c x) = chk c (totR st dst true x) := by
  by_cases h : c
  · rw [chk_eq h rfl, chk_eq h rfl]
  · have : c = False := eq_false h
    subst this
    rw [chk_false, chk_false]; rfl
theorem totR_chk {st : St} {dst : Option Nat} {c : Prop} [Decidable c] {x : Option AV} : totR st dst g (chk c x) = if c then totR st dst g x else totR st dst g none := by
  by_cases h : c
  · rw [chk_eq h rfl, if_pos h]
  · rw [if_neg h]
    have : c = False := eq_false h
    subst this
    rw [chk_false]

@[simp] theorem totR_chk' {st : St} {dst : Option Nat} {c : Prop} {x : Option AV} : totR st dst g (chk c x) = @ite _ c (Classical.propDecidable c) (totR st dst g x) (totR st dst g none) := @totR_chk _ _ _ c (Classical.propDecidable c) _

def stepG (E : Env) (st : St) (o : Oper) (g : Bool) : Cls → Option St
  | .tot => totR st o.dst g (pop E g st.h (evG E st.env o g) o)
  | .par => if g = true then (pop E true st.h (evG E st.env o true) o).bind fun v => if notTup v = true then some (st.put o.dst (.sel true v)) else none else some (st.put o.dst undefA)
  | .eff => if g = true then (eop E st.h (fun x => strip true (evalO E st.env x)) o).bind (putE st o.dst) else some (st.put o.dst undefA)

def stepG' (E : Env) (st : St) (o : Oper) (c : Cls) (g : Bool) : Option St := stepG E st o g c

@[simp] theorem stepOp_u {ops : Array Oper} {op : Op} {st : St} : stepOp E ops ⟨d, op, ty, pos, af, none⟩ st = stepU E st ⟨d, op, ty, pos, af, none⟩ (cls E.S ⟨d, op, ty, pos, af, none⟩) := by
  simp only [stepOp]
  cases cls E.S ⟨d, op, ty, pos, af, none⟩ with
  | eff => simp only [stepU]; cases eop E st.h (fun x => strip true (evalO E st.env x)) ⟨d, op, ty, pos, af, none⟩ <;> rfl
  | tot => simp only [stepU]; cases pop E true st.h (evG E st.env ⟨d, op, ty, pos, af, none⟩ true) ⟨d, op, ty, pos, af, none⟩ <;> rfl
  | par => simp only [stepU]; cases pop E true st.h (evG E st.env ⟨d, op, ty, pos, af, none⟩ true) ⟨d, op, ty, pos, af, none⟩ <;> rfl

@[simp] theorem stepOp_g {ops : Array Oper} {op : Op} {st : St} {q : Nat × Bool} : stepOp E ops ⟨d, op, ty, pos, af, some q⟩ st = (wantA ops st.env ⟨d, op, ty, pos, af, some q⟩).bind (stepG' E st ⟨d, op, ty, pos, af, some q⟩ (cls E.S ⟨d, op, ty, pos, af, some q⟩)) := by
  unfold stepG'
  simp only [stepOp]
  cases wantA ops st.env ⟨d, op, ty, pos, af, some q⟩ with
  | none => rfl
  | some g =>
    simp only [Option.bind_some]
    cases cls E.S ⟨d, op, ty, pos, af, some q⟩ with
    | eff =>
      simp only [stepG]
      split
      · cases eop E st.h (fun x => strip true (evalO E st.env x)) ⟨d, op, ty, pos, af, some q⟩ <;> rfl
      · rfl
    | tot =>
      simp only [stepG]
      cases pop E g st.h (evG E st.env ⟨d, op, ty, pos, af, some q⟩ g) ⟨d, op, ty, pos, af, some q⟩ <;> rfl
    | par =>
      simp only [stepG]
      split
      · cases pop E true st.h (evG E st.env ⟨d, op, ty, pos, af, some q⟩ true) ⟨d, op, ty, pos, af, some q⟩ <;> rfl
      · rfl

@[simp] theorem runOps_nil {ops : Array Oper} {st : St} : runOps E ops [] st = some st := by rw [runOps]
@[simp] theorem runOps_cons {ops : Array Oper} {o : Oper} {l : List Oper} {st : St} : runOps E ops (o :: l) st = (stepOp E ops o st).bind (runOps E ops l) := by
  rw [runOps]; cases stepOp E ops o st <;> rfl

/-! ### code -/
def seqK (f : St → Option (Ex × St)) : Ex × St → Option (Ex × St)
  | (.normal, s) => f s
  | (.exit i, s) => some (.exit i, s)
  | (.ret, s) => some (.ret, s)
def blockK (id : Nat) : Ex × St → Ex × St
  | (.exit i, s) => if i = id then (.normal, s) else (.exit i, s)
  | (.normal, s) => (.normal, s)
  | (.ret, s) => (.ret, s)

variable {n id : Nat} {st : St}
@[simp] theorem exec_skip : exec E n .skip st = some (.normal, st) := by rw [exec]
@[simp] theorem exec_ret : exec E n .ret st = some (.ret, st) := by rw [exec]
@[simp] theorem exec_exit : exec E n (.exit id) st = some (.exit id, st) := by rw [exec]
@[simp] theorem exec_region {ops : Array Oper} {dr : Bool} : exec E n (.region id ops dr) st = (runOps E ops ops.toList st).map fun st' => (.normal, st') := by
  rw [exec]; cases runOps E ops ops.toList st <;> rfl
@[simp] theorem exec_seq {a b : Code} : exec E n (.seq a b) st = (exec E n a st).bind (seqK (exec E n b)) := by
  rw [exec]
  cases exec E n a st with
  | none => rfl
  | some r =>
    obtain ⟨e, s⟩ := r
    cases e <;> rfl
@[simp] theorem exec_cond {c : Operand} {a b : Code} : exec E n (.cond c a b) st = match strip true (evalO E st.env c) with
    | .d (.bool t) => if t = true then exec E n a st else exec E n b st
    | _ => none := by rw [exec]; rfl
@[simp] theorem exec_block {b : Code} : exec E n (.block id b) st = (exec E n b st).map (blockK id) := by
  rw [exec]
  cases exec E n b st with
  | none => rfl
  | some r =>
    obtain ⟨e, s⟩ := r
    cases e with
    | normal => rfl
    | ret => rfl
    | exit i => simp only [Option.map_some, blockK]; split <;> rfl
theorem exec_loop {b : Code} : exec E n (.loop b) st = loopN (exec E n b) (E.K (keyC b)) st.h.boxes.length n (st.start (E.K (keyC b))) := by rw [exec]

def outK (E : Env) (rs : List ResultVar) : Ex × St → Option (List AV × Heap)
  | (.exit _, _) => none
  | (.normal, s) => (outsA E s rs).map fun vs => (vs, s.h)
  | (.ret, s) => (outsA E s rs).map fun vs => (vs, s.h)
@[simp] theorem runF_eq {c : Code} {rs : List ResultVar} {avs : List AV} : runF E n c rs avs h = (exec E n c ⟨envOf avs, h⟩).bind (outK E rs) := by
  unfold runF
  cases exec E n c ⟨envOf avs, h⟩ with
  | none => rfl
  | some r =>
    obtain ⟨e, s⟩ := r
    cases e <;> rfl
def viewK (P : Program) (r : List AV × Heap) : Option (List DV) := viewOuts P r.2 r.1
@[simp] theorem viewK_eq {P : Program} {vs : List AV} : viewK P (vs, h) = viewOuts P h vs := rfl
@[simp] theorem treeF_eq {c : Code} {rs : List ResultVar} {ds : List DV} : treeF E n c rs ds = (runF E n c rs (ds.map .d) hNil).bind (viewK E.P) := by
  unfold treeF
  cases runF E n c rs (ds.map .d) hNil <;> rfl
@[simp] theorem viewOuts_nil {P : Program} : viewOuts P h [] = some [] := by rw [viewOuts]
@[simp] theorem viewOuts_cons {P : Program} {x : AV} {xs : List AV} : viewOuts P h (x :: xs) = (viewD P h x).bind fun y => (viewOuts P h xs).map fun ys => y :: ys := by
  rw [viewOuts]
  cases viewD P h x with
  | none => rfl
  | some y => cases viewOuts P h xs <;> rfl
end

theorem constA_int {k : IntKind} {z : Int} : constA (.int k z) = .d (.int k z) := rfl
theorem constA_bool {b : Bool} : constA (.bool b) = .d (.bool b) := rfl
theorem constA_nils : constA (.slice none 0 0) = .nils := rfl
theorem constA_nil : constA (.pointer none) = .d .nil := rfl
theorem constA_if : constA .nilIface = .ifc false := rfl
attribute [simp] putP callK callK2 viewAll stepU stepG stepG' seqK blockK outK loadA callP setD appK appK1 addK listK addedA_eq
attribute [simp] binP pickP fieldP extP indexP idxAP fldAP sliceP bslP lenP minP maxP mkslP appP callE AV.srcD
attribute [simp] wantA strip coe envOf_nil envOf_zero envOf_succ undefA St.put outsA viewD plainD plainDs notTup hNil binA unA convA constA_int constA_bool constA_nils constA_nil constA_if evalO cls AV.isPtr AV.parts Heap.typeAt pathT resA optI sliceA idx indexAddrA oneB isInt isBool isStr isAnySl isPtr isFn isSl fitsA fitsD isRowT TypeDesc.isRow binInt cmpInt shiftInt binStr eqR eqD eqDs pickA pop.buildA pop.fillA noSlA noLst noLsts bytesOf AV.isBox aggA packA St.forget below belows gdA isIface evG isPick

/-! ### numbers -/
theorem wrap_i64 {z : Int} (h : -9223372036854775808 ≤ z ∧ z < 9223372036854775808) : IntKind.wrap .i64 z = z := by
  simp only [IntKind.wrap, IntKind.bits, IntKind.signed]
  simp
  omega
theorem wrap_u8 {z : Int} (h : 0 ≤ z ∧ z < 256) : IntKind.wrap .u8 z = z := by
  simp only [IntKind.wrap, IntKind.bits, IntKind.signed]
  simp
  omega
theorem wrap_u32 {z : Int} (h : 0 ≤ z ∧ z < 4294967296) : IntKind.wrap .u32 z = z := by
  simp only [IntKind.wrap, IntKind.bits, IntKind.signed]
  simp
  omega
theorem wrap_u64 {z : Int} (h : 0 ≤ z ∧ z < 18446744073709551616) : IntKind.wrap .u64 z = z := by
  simp only [IntKind.wrap, IntKind.bits, IntKind.signed]
  simp
  omega
theorem tmod_pos {a b : Int} (h : 0 ≤ a) : Int.tmod a b = a % b := Int.tmod_eq_emod_of_nonneg h
theorem fdiv_pos {a b : Int} (h : 0 ≤ b) : Int.fdiv a b = a / b := Int.fdiv_eq_ediv_of_nonneg _ h
theorem tdiv_pos {a b : Int} (h : 0 ≤ a) : Int.tdiv a b = a / b := Int.tdiv_eq_ediv_of_nonneg h

end Go.Tith
