/- Soundness of single operations, part 1. A part of the proof: no condition of mine beyond what each theorem states. -/
import Derived.Test.YtbnffdelhejbiaaGreatDoorMa
import Derived.Lib.ConvBytes
import Derived.Laws.BytesArg
import Derived.Great.BuildSlice

namespace Go.Tith

section
variable {E : Env} {C C' : Con} {w w' : World} {h h' : Heap} {o : Oper} {a : Act} {ev : Operand → AV} {v : AV}

/-- The operands are told. -/
def Told (E : Env) (C : Con) (w : World) (h : Heap) (o : Oper) (a : Act) (ev : Operand → AV) : Prop := ∀ x ∈ o.op.operands, relV E.P C w h (ev x) (a.eval x)

theorem ran_move {x : Operand} (S : Sim E.P C h w) (ho : o.op = .move x) (T : Told E C w h o a ev) : Ran E.P C w h (execOp a.eval o) (ev x) :=
  .same S (by simp only [execOp, ho]; rfl) (T x (by simp [ho, Op.operands]))

theorem ran_assign {x : Operand} (S : Sim E.P C h w) (ho : o.op = .assign x) (T : Told E C w h o a ev) : Ran E.P C w h (execOp a.eval o) (coe E.P o.type (ev x)) :=
  .same S (by simp only [execOp, ho]; rfl) (coe_rel (T x (by simp [ho, Op.operands])))

theorem strip_bool {g : Bool} {x : AV} {v : Value} (hg : g = true) (r : relV E.P C w h x v) : relV E.P C w h (strip g x) v := by subst hg; exact strip_rel r

theorem ran_pick {c x y : Operand} {t : Bool} (S : Sim E.P C h w) (ho : o.op = .pick c x y) (T : Told E C w h o a ev) (hc : strip true (ev c) = .d (.bool t)) (hp : pickA true t (ev x) (ev y) = some v) :
    Ran E.P C w h (execOp a.eval o) v := by
  have rc := strip_rel (T c (by simp [ho, Op.operands]))
  have rx := T x (by simp [ho, Op.operands])
  have ry := T y (by simp [ho, Op.operands])
  rw [hc, relV_bool] at rc
  unfold pickA at hp
  simp only [gd_eq, Bool.true_and] at hp
  have one : ∀ {p : Bool}, t = true → strip t (ev x) = .d (.bool p) → Ran E.P C w h (execOp a.eval o) (.d (.bool p)) := by
    intro p ht hx
    subst ht
    have := strip_bool rfl rx
    rw [hx, relV_bool] at this
    exact .same S (by simp [execOp, ho, rc, this]; rfl) (by simp [relV_bool])
  have two : ∀ {p : Bool}, t = false → strip (!t) (ev y) = .d (.bool p) → Ran E.P C w h (execOp a.eval o) (.d (.bool p)) := by
    intro p ht hy
    subst ht
    have := strip_bool (g := !false) rfl ry
    rw [hy, relV_bool] at this
    exact .same S (by simp [execOp, ho, rc, this]; rfl) (by simp [relV_bool])
  split at hp
  · rename_i p q h1 h2
    simp only [Option.some.injEq] at hp; subst hp
    cases ht : t with
    | true => subst ht; simpa using one rfl h1
    | false => subst ht; simpa using two rfl h2
  · rename_i p h1 _
    split at hp
    · rename_i ht
      simp only [Option.some.injEq] at hp; subst hp
      exact one ht h1
    · cases hp
  · rename_i p h2 _
    split at hp
    · cases hp
    · rename_i ht
      simp only [Option.some.injEq] at hp; subst hp
      exact two (by simpa using ht) h2
  · cases hp

theorem ran_unOp {op : UnOp} {t : TypeId} {x : Operand} {d : DV} (S : Sim E.P C h w) (ho : o.op = .unOp op t x) (T : Told E C w h o a ev) (hu : unA op (ev x) = some d) :
    Ran E.P C w h (execOp a.eval o) (.d d) := by
  obtain ⟨u, h1, h2⟩ := unA_run (w := w) hu (T x (by simp [ho, Op.operands]))
  exact .same S (by simp [execOp, ho, h1]) h2

theorem ran_nilCheck {x : Operand} (S : Sim E.P C h w) (ho : o.op = .nilCheck x) (T : Told E C w h o a ev) (hp : (ev x).isPtr = true) : Ran E.P C w h (execOp a.eval o) (ev x) := by
  have r := T x (by simp [ho, Op.operands])
  refine .same S (val := a.eval x) ?_ r
  cases hx : ev x with
  | ptr id p => rw [hx] at r; obtain ⟨_, _, _, _, _, _, e⟩ := relV_ptr r; simp [execOp, ho, e]
  | ro t p => rw [hx] at r; obtain ⟨_, _, _, e, _⟩ := relV_ro r; simp [execOp, ho, e]
  | fn f p =>
    rw [hx] at r
    simp only [relV, relV1, relC] at r
    obtain ⟨vs, e, _⟩ := r
    simp at e
    simp [execOp, ho, e]
  | _ => simp [hx, AV.isPtr] at hp

theorem relV1_of {P : Program} {x : AV} {v : Value} (r : relV1 P C w h x v) : relV P C w h x v := by
  cases x <;> first | exact r | simp [relV1] at r

theorem ran_field {t : TypeId} {x : Operand} {f : Nat} {fs : Array Field} {u : TypeId} {gs : List AV} (S : Sim E.P C h w) (ho : o.op = .field t x f) (T : Told E C w h o a ev)
    (hu : E.P.underlying t = some (.struct fs)) (hp : (ev x).parts = some (u, gs)) (hid : E.P.underlyingId t = u) (hv : gs[f]? = some v) : Ran E.P C w h (execOp a.eval o) v := by
  have r := T x (by simp [ho, Op.operands])
  have hc : ∃ c, a.eval x = .agg c.toArray ∧ relC E.P C w h (ev x) c := by
    cases hx : ev x with
    | agg t fs => rw [hx] at r; exact r
    | d q => cases q with
      | agg t fs => rw [hx] at r; simpa [relV, relV1, DV.isAgg, relC] using r
      | _ => simp [hx, AV.parts] at hp
    | _ => simp [hx, AV.parts] at hp
  obtain ⟨c, hc, rc⟩ := hc
  obtain ⟨_, k2⟩ := parts_rel hp rc
  subst hid
  rcases tys_struct hu with e1 | ⟨e1, e2⟩
  · rw [e1] at k2
    have := relCs_len k2
    have : gs = [] := List.eq_nil_of_length_eq_zero (by simpa using this)
    subst this; simp at hv
  · rw [e1] at k2
    obtain ⟨ti, g1, g2, g3, g4⟩ := relCs_get f k2 hv
    have hf : f < fs.size := by
      have := (List.getElem?_eq_some_iff.1 g1).1; simpa using this
    have hfd : fs[f]? = some fs[f] := by simp [hf]
    have hti : ti = fs[f].type := by simp [hf] at g1; exact g1.symm
    subst hti
    obtain ⟨u, p1, p2, _⟩ := run_part g2 g3 g4
    refine .same S (val := u) ?_ (relV1_of p2)
    rw [← e2 f _ hfd] at p1
    simp [execOp, ho, Instr.field, run_underlying hu, hfd, hc, asAgg, p1]

theorem ran_extract {x : Operand} {i : Nat} {vs : List AV} (S : Sim E.P C h w) (ho : o.op = .extract x i) (T : Told E C w h o a ev) (hx : ev x = .tup vs) (hv : vs[i]? = some v) :
    Ran E.P C w h (execOp a.eval o) v := by
  have r := T x (by simp [ho, Op.operands])
  rw [hx] at r
  obtain ⟨ws, h1, h2⟩ := r
  have key : ∀ (vs : List AV) (ws : List Value) (i : Nat), relVs E.P C w h vs ws → vs[i]? = some v → ∃ u, ws[i]? = some u ∧ relV1 E.P C w h v u := by
    intro vs
    induction vs with
    | nil => intro ws i _ hv; simp at hv
    | cons x vs ih =>
      intro ws i r hv
      simp only [relVs] at r
      obtain ⟨u, ws', rfl, k1, k2⟩ := r
      cases i with
      | zero => simp at hv; subst hv; exact ⟨u, rfl, k1⟩
      | succ i => simpa using ih ws' i k2 (by simpa using hv)
  obtain ⟨u, k1, k2⟩ := key vs ws i h2 hv
  exact .same S (val := u) (by simp [execOp, ho, h1, Instr.extract, k1]) (relV1_of k2)

theorem pathT_offP {P : Program} : ∀ (p : List Nat) {t u : TypeId}, pathT P p t = some u → ∃ off, offP P p t = some (off, u)
  | [], t, u, h => by simp [pathT] at h; subst h; exact ⟨0, rfl⟩
  | i :: p, t, u, h => by
    simp only [pathT] at h
    cases hi : (tys P (P.underlyingId t))[i]? with
    | none => simp [hi] at h
    | some x =>
      simp only [hi] at h
      obtain ⟨off, k⟩ := pathT_offP p h
      exact ⟨_, by simp only [offP, hi, k]; rfl⟩

theorem offP_snoc {P : Program} : ∀ (p : List Nat) {t u x : TypeId} {off i : Nat}, offP P p t = some (off, u) → (tys P (P.underlyingId u))[i]? = some x →
    offP P (p ++ [i]) t = some (off + offL P (tys P (P.underlyingId u)) i, x)
  | [], t, u, x, off, i, h, hi => by simp [offP] at h; obtain ⟨rfl, rfl⟩ := h; simp [offP, hi]
  | j :: p, t, u, x, off, i, h, hi => by
    simp only [offP] at h
    cases hj : (tys P (P.underlyingId t))[j]? with
    | none => simp [hj] at h
    | some y =>
      simp only [hj, Option.map_eq_some_iff] at h
      obtain ⟨⟨o', u'⟩, k1, k2⟩ := h
      simp at k2; obtain ⟨rfl, rfl⟩ := k2
      simp only [List.cons_append, offP, hj, offP_snoc p k1 hi]
      simp [Nat.add_assoc]

theorem typeAt_ptr {id : Nat} {p : List Nat} {t : TypeId} {u : Value} (hty : h.typeAt E.P id p = some t) (r : relV E.P C w h (.ptr id p) u) :
    ∃ bt bc off, h.boxes[id]? = some (bt, bc) ∧ offP E.P p bt = some (off, t) ∧ u = .pointer (some ⟨C.φ id, off, none⟩) := by
  obtain ⟨bt, bc, off, t', h1, h2, h3⟩ := relV_ptr r
  simp only [Heap.typeAt, h1] at hty
  obtain ⟨off', k⟩ := pathT_offP p hty
  rw [h2] at k; simp at k; obtain ⟨rfl, rfl⟩ := k
  exact ⟨bt, bc, off, h1, h2, h3⟩

theorem relV_ptr_mk {P : Program} {id : Nat} {p : List Nat} {bt : TypeId} {bc : AV} {off : Nat} {t : TypeId} (h1 : h.boxes[id]? = some (bt, bc)) (h2 : offP P p bt = some (off, t)) : relV P C w h (.ptr id p) (.pointer (some ⟨C.φ id, off, none⟩)) := by
  simp only [relV, relV1, relC]
  exact ⟨bt, bc, off, t, h1, h2, rfl⟩

theorem tys_struct_ne {P : Program} {t : TypeId} {fs : Array Field} (hu : P.underlying t = some (.struct fs)) (hn : (tys P (P.underlyingId t)).isEmpty = false) :
    tys P (P.underlyingId t) = fs.toList.map (·.type) ∧ ∀ (i : Nat) f, fs[i]? = some f → f.offset = offL P (tys P (P.underlyingId t)) i := by
  rcases tys_struct hu with e | ⟨e1, e2⟩
  · rw [e] at hn; simp at hn
  · exact ⟨e1, fun i f hf => by rw [e1]; exact e2 i f hf⟩

theorem tys_array_ne {P : Program} {t e : TypeId} {n : Nat} (hu : P.underlying t = some (.array n e)) (hn : (tys P (P.underlyingId t)).isEmpty = false) : tys P (P.underlyingId t) = List.replicate n e := by
  rcases tys_array hu with e | e
  · exact e
  · rw [e] at hn; simp at hn

theorem run_fieldPlace {P : Program} {b off : Nat} {f : Field} {i : TypeInfo} (hi : P.info? f.type = some i) (hz : P.cellsOf f.type ≠ 0) : (fieldPlace ⟨b, off, none⟩ f).run P w = .ok ⟨b, off + f.offset, none⟩ w := by
  simp [fieldPlace, run_sizeOf w hi, hz, Addr.add_mid]

theorem cellsOf_info {P : Program} {t : TypeId} (h : P.cellsOf t ≠ 0) : ∃ i, P.info? t = some i := by
  unfold Program.cellsOf at h
  cases hi : P.info? t with
  | none => simp [hi] at h
  | some i => exact ⟨i, rfl⟩

theorem ran_fieldAddr_ptr {t : TypeId} {x : Operand} {f : Nat} {fs : Array Field} {fd : Field} {id : Nat} {path : List Nat} (S : Sim E.P C h w) (ho : o.op = .fieldAddr t x f) (T : Told E C w h o a ev)
    (hu : E.P.underlying t = some (.struct fs)) (hf : fs[f]? = some fd) (hz : E.P.cellsOf fd.type ≠ 0) (hx : ev x = .ptr id path) (hty : h.typeAt E.P id path = some t) (hn : (tys E.P (E.P.underlyingId t)).isEmpty = false) :
    Ran E.P C w h (execOp a.eval o) (.ptr id (path ++ [f])) := by
  have r := T x (by simp [ho, Op.operands])
  rw [hx] at r
  obtain ⟨bt, bc, off, h1, h2, h3⟩ := typeAt_ptr hty r
  obtain ⟨e1, e2⟩ := tys_struct_ne hu hn
  obtain ⟨i, hi⟩ := cellsOf_info hz
  have hsn := offP_snoc path h2 (i := f) (x := fd.type) (by rw [e1]; simp [hf])
  refine .same S ?_ (relV_ptr_mk h1 hsn)
  rw [← e2 f fd hf]
  simp [execOp, ho, Instr.fieldAt, run_underlying hu, hf, h3, Instr.sureAddr, run_fieldPlace hi hz]

theorem ran_fieldAddr_ro {t : TypeId} {x : Operand} {f : Nat} {fs : Array Field} {fd : Field} {u : TypeId} {xs : List DV} {y : DV} (S : Sim E.P C h w) (ho : o.op = .fieldAddr t x f) (T : Told E C w h o a ev)
    (hu : E.P.underlying t = some (.struct fs)) (hf : fs[f]? = some fd) (hz : E.P.cellsOf fd.type ≠ 0) (hx : ev x = .ro t (.agg u xs)) (hy : xs[f]? = some y) : Ran E.P C w h (execOp a.eval o) (.ro fd.type y) := by
  have r := T x (by simp [ho, Op.operands])
  rw [hx] at r
  obtain ⟨b, off, cs, h3, h4, h5, h6, h7⟩ := relV_ro r
  simp [fitsD] at h5
  obtain ⟨⟨rfl, _⟩, _⟩ := h5
  simp only [relD] at h4
  obtain ⟨i, hi⟩ := cellsOf_info hz
  rcases tys_struct hu with e1 | ⟨e1, e2⟩
  · rw [e1] at h4
    have := (relDs_len h4.2).1
    have : xs = [] := List.eq_nil_of_length_eq_zero (by simpa using this)
    subst this; simp at hy
  · rw [e1] at h4
    obtain ⟨ti, c1, g1, g2, g3, g4, g5⟩ := relDs_get f h4.2 hy
    have hti : ti = fd.type := by simp [hf] at g1; exact g1.symm
    subst hti
    rw [← e2 f fd hf] at g5
    refine .same S (val := .pointer (some ⟨b, off + fd.offset, none⟩)) ?_ ?_
    · simp [execOp, ho, Instr.fieldAt, run_underlying hu, hf, h3, Instr.sureAddr, run_fieldPlace hi hz]
    · simp only [relV, relV1, relC]
      refine ⟨b, off + fd.offset, c1, rfl, g4, g2, g3, fun j q hj => ?_⟩
      have := h7 (fd.offset + j) q (by
        rw [← g5] at hj
        rw [List.getElem?_take] at hj
        split at hj
        · simpa using hj
        · cases hj)
      rw [Nat.add_assoc]; exact this

theorem ran_load_ptr {t : TypeId} {x : Operand} {id : Nat} {path : List Nat} {bt : TypeId} {bc : AV} (S : Sim E.P C h w) (ho : o.op = .load t x) (T : Told E C w h o a ev) (hx : ev x = .ptr id path)
    (hb : h.boxes[id]? = some (bt, bc)) (hg : getP E.P path bc bt = some (v, t)) : Ran E.P C w h (execOp a.eval o) v := by
  have r := T x (by simp [ho, Op.operands])
  rw [hx] at r
  obtain ⟨off, cs, h1, h2, h3, h4, h5, h6⟩ := ptr_at S r hb hg
  obtain ⟨u, k1, k2⟩ := run_loadAt h3 h4 h5 h6
  exact .same S (by simp [execOp, ho, h1, k1]) k2

theorem ran_load_ro {t : TypeId} {x : Operand} {y : DV} (S : Sim E.P C h w) (ho : o.op = .load t x) (T : Told E C w h o a ev) (hx : ev x = .ro t y) : Ran E.P C w h (execOp a.eval o) (.d y) := by
  have r := T x (by simp [ho, Op.operands])
  rw [hx] at r
  obtain ⟨b, off, cs, h3, h4, h5, h6, h7⟩ := relV_ro r
  obtain ⟨u, k1, k2⟩ := run_loadAt (P := E.P) (C := C) (h := h) (w := w) (x := .d y) (t := t) (b := b) (off := off) (cs := cs) (by simpa [fitsA] using h5) h6 (by simpa [relC] using h4) (fun j q hj => (h7 j q hj).2)
  exact .same S (by simp [execOp, ho, h3, k1]) k2

end
end Go.Tith

namespace Go.Tith

section
variable {E : Env} {C C' : Con} {w w' : World} {h h' : Heap} {o : Oper} {a : Act} {ev : Operand → AV} {v : AV}

theorem idx_some {xs : List DV} {i : Int} {x : DV} (hi : idx xs i = some x) : 0 ≤ i ∧ xs[i.toNat]? = some x ∧ i.toNat < xs.length := by
  unfold idx at hi
  split at hi
  · rename_i h; exact ⟨h, hi, (List.getElem?_eq_some_iff.1 hi).1⟩
  · cases hi

theorem oneB_sl {P : Program} {t e : TypeId} (ho : oneB P t (isSl e) = true) : P.underlying t = some (.slice e) := by
  obtain ⟨d, h1, h2⟩ := oneB_desc ho
  cases d <;> simp [isSl] at h2
  rw [h1, h2]

theorem fits_cells {P : Program} {e : TypeId} {d : DV} (hf : fitsD P e d = true) : ∃ i, P.info? e = some i := by
  rcases fitsA_kind (x := .d d) (by simpa [fitsA] using hf) with k | ⟨g, k, _⟩
  · exact rowT_info k
  · exact oneB_info k

theorem ran_indexAddr_list {t e : TypeId} {x i : Operand} {k : IntKind} {n : Int} {xs : List DV} {y : DV} (S : Sim E.P C h w) (ho : o.op = .indexAddr t x i) (T : Told E C w h o a ev)
    (hx : relV E.P C w h (.d (.list e xs)) (a.eval x)) (hi : ev i = .d (.int k n)) (ht : oneB E.P t (isSl e) = true) (hy : idx xs n = some y) : Ran E.P C w h (execOp a.eval o) (.ro e y) := by
  have ri := T i (by simp [ho, Op.operands])
  rw [hi, relV_int] at ri
  obtain ⟨ad, len, cap, h1, h2, h3, h4, h5, h6⟩ := relV_list hx
  obtain ⟨g1, g2, g3⟩ := idx_some hy
  have hne : xs ≠ [] := by intro e; subst e; simp at g3
  obtain ⟨b, off, rfl, hr⟩ := h6 hne
  obtain ⟨c, k1, k2, k3, k4⟩ := relRow_get n.toNat hr g2
  obtain ⟨ie, hie⟩ := fits_cells k2
  have hu := oneB_sl ht
  have hlt : n < (len : Int) := by omega
  refine .same S (val := .pointer (some ⟨b, off + n.toNat * E.P.cellsOf e, none⟩)) ?_ ?_
  · simp only [execOp, ho, ri, h1, Instr.indexAt, asIntOf]
    simp [run_underlying hu, g1, hlt, run_sizeOf w hie, Addr.add_mid]
  · simp only [relV, relV1, relC]
    exact ⟨b, _, c, rfl, k1, k2, k3, fun j q hj => k4 j q hj⟩

theorem ran_indexAddr_sl {t t' e : TypeId} {x i : Operand} {k : IntKind} {n : Int} {m id off len : Nat} {path : List Nat} (S : Sim E.P C h w) (ho : o.op = .indexAddr t x i) (T : Told E C w h o a ev)
    (hx : ev x = .sl id path off len) (hi : ev i = .d (.int k n)) (hty : h.typeAt E.P id path = some t') (hu : E.P.underlying t' = some (.array m e)) (h0 : 0 ≤ n) (hn : n < len)
    (ht : oneB E.P t (isSl e) = true) (hne : (tys E.P (E.P.underlyingId t')).isEmpty = false) (hie : ∃ i, E.P.info? e = some i) : Ran E.P C w h (execOp a.eval o) (.ptr id (path ++ [off + n.toNat])) := by
  have ri := T i (by simp [ho, Op.operands])
  have rx := T x (by simp [ho, Op.operands])
  rw [hi, relV_int] at ri
  rw [hx] at rx
  simp only [relV, relV1, relC] at rx
  obtain ⟨bt, bc, oo, t2, m2, e2, cap, h1, h2, h3, h4, h5, h6, h7⟩ := rx
  simp at h7
  simp only [Heap.typeAt, h1] at hty
  obtain ⟨off', kk⟩ := pathT_offP path hty
  rw [h2] at kk; simp at kk; obtain ⟨rfl, rfl⟩ := kk
  rw [hu] at h3; simp at h3; obtain ⟨rfl, rfl⟩ := h3
  have ha := tys_array_ne hu hne
  have hlt : n.toNat < len := by omega
  have hsn := offP_snoc path h2 (i := off + n.toNat) (x := e) (by rw [ha]; exact List.getElem?_replicate_of_lt (by omega))
  rw [ha, offL_replicate e m _ (by omega)] at hsn
  obtain ⟨ie, hie⟩ := hie
  have hus := oneB_sl ht
  refine .same S ?_ (relV_ptr_mk h1 hsn)
  simp only [execOp, ho, ri, h7, Instr.indexAt, asIntOf]
  simp [run_underlying hus, h0, hn, run_sizeOf w hie, Addr.add_mid]
  rw [Nat.add_mul]; omega

theorem ran_indexAddr_ptr {t e : TypeId} {x i : Operand} {k : IntKind} {n : Int} {m id : Nat} {path : List Nat} (S : Sim E.P C h w) (ho : o.op = .indexAddr t x i) (T : Told E C w h o a ev)
    (hx : ev x = .ptr id path) (hi : ev i = .d (.int k n)) (hty : h.typeAt E.P id path = some t) (hu : E.P.underlying t = some (.array m e)) (h0 : 0 ≤ n) (hn : n < m) (hie : ∃ i, E.P.info? e = some i)
    (hne : (tys E.P (E.P.underlyingId t)).isEmpty = false) : Ran E.P C w h (execOp a.eval o) (.ptr id (path ++ [n.toNat])) := by
  have ri := T i (by simp [ho, Op.operands])
  have rx := T x (by simp [ho, Op.operands])
  rw [hi, relV_int] at ri
  rw [hx] at rx
  obtain ⟨bt, bc, off, h1, h2, h3⟩ := typeAt_ptr hty rx
  have ha := tys_array_ne hu hne
  have hsn := offP_snoc path h2 (i := n.toNat) (x := e) (by rw [ha]; exact List.getElem?_replicate_of_lt (by omega))
  rw [ha, offL_replicate e m _ (by omega)] at hsn
  obtain ⟨ie, hie⟩ := hie
  refine .same S ?_ (relV_ptr_mk h1 hsn)
  simp only [execOp, ho, ri, h3, Instr.indexAt, asIntOf]
  simp [run_underlying hu, h0, hn, run_sizeOf w hie, Addr.add_mid, Instr.sureAddr]

theorem ran_indexAddr_ro {t e : TypeId} {x i : Operand} {k : IntKind} {n : Int} {m : Nat} {u : TypeId} {xs : List DV} {y : DV} (S : Sim E.P C h w) (ho : o.op = .indexAddr t x i) (T : Told E C w h o a ev)
    (hx : ev x = .ro t (.agg u xs)) (hi : ev i = .d (.int k n)) (hu : E.P.underlying t = some (.array m e)) (h0 : 0 ≤ n) (hn : n < m) (hy : idx xs n = some y) :
    Ran E.P C w h (execOp a.eval o) (.ro e y) := by
  have ri := T i (by simp [ho, Op.operands])
  have rx := T x (by simp [ho, Op.operands])
  rw [hi, relV_int] at ri
  rw [hx] at rx
  obtain ⟨b, off, cs, h3, h4, h5, h6, h7⟩ := relV_ro rx
  simp [fitsD] at h5
  have hr := array_row hu h5.1.1 h4 (fun j q hj => h7 j q hj)
  obtain ⟨g1, g2, g3⟩ := idx_some hy
  obtain ⟨c, k1, k2, k3, k4⟩ := relRow_get n.toNat hr g2
  obtain ⟨ie, hie⟩ := fits_cells k2
  refine .same S (val := .pointer (some ⟨b, off + n.toNat * E.P.cellsOf e, none⟩)) ?_ ?_
  · simp only [execOp, ho, ri, h3, Instr.indexAt, asIntOf]
    simp [run_underlying hu, h0, hn, run_sizeOf w hie, Addr.add_mid, Instr.sureAddr]
  · simp only [relV, relV1, relC]
    exact ⟨b, _, c, rfl, k1, k2, k3, fun j q hj => k4 j q hj⟩

theorem oneB_str {P : Program} {t : TypeId} (ho : oneB P t isStr = true) : P.underlying t = some .string := by
  obtain ⟨d, h1, h2⟩ := oneB_desc ho
  cases d <;> simp [isStr] at h2
  exact h1

theorem ran_index_str {t : TypeId} {x i : Operand} {k : IntKind} {n : Int} {s : ByteArray} {b : UInt8} (S : Sim E.P C h w) (ho : o.op = .index t x i) (T : Told E C w h o a ev)
    (hx : ev x = .d (.str s)) (hi : ev i = .d (.int k n)) (ht : oneB E.P t isStr = true) (h0 : 0 ≤ n) (hb : s[n.toNat]? = some b) : Ran E.P C w h (execOp a.eval o) (.d (.int .u8 b.toNat)) := by
  have ri := T i (by simp [ho, Op.operands])
  have rx := T x (by simp [ho, Op.operands])
  rw [hi, relV_int] at ri
  rw [hx, relV_str] at rx
  refine .same S (val := .int .u8 b.toNat) ?_ (relV_int.2 rfl)
  simp only [execOp, ho, ri, rx, Instr.index, asIntOf]
  simp [run_underlying (oneB_str ht), h0, hb]

theorem ran_index_agg {t e : TypeId} {x i : Operand} {k : IntKind} {n : Int} {m : Nat} {u : TypeId} {xs : List DV} {y : DV} (S : Sim E.P C h w) (ho : o.op = .index t x i) (T : Told E C w h o a ev)
    (hx : ev x = .d (.agg u xs)) (hi : ev i = .d (.int k n)) (hu : E.P.underlying t = some (.array m e)) (hid : u = E.P.underlyingId t) (h0 : 0 ≤ n) (hn : n < m) (hy : idx xs n = some y) :
    Ran E.P C w h (execOp a.eval o) (.d y) := by
  have ri := T i (by simp [ho, Op.operands])
  have rx := T x (by simp [ho, Op.operands])
  rw [hi, relV_int] at ri
  rw [hx] at rx
  simp only [relV, relV1, DV.isAgg, if_true, relD] at rx
  obtain ⟨c, hc, lc, rc⟩ := rx
  subst hid
  obtain ⟨g1, g2, g3⟩ := idx_some hy
  rcases tys_array hu with e1 | e1
  · rw [e1] at rc
    obtain ⟨f1, v1, r1, q1⟩ := relDs_part rc g2 (t := e) (List.getElem?_replicate_of_lt (by omega))
    rw [offL_replicate e m _ (by omega)] at r1
    obtain ⟨ie, hie⟩ := fits_cells f1
    refine .same S (val := v1) ?_ q1
    simp only [execOp, ho, ri, hc, Instr.index, asIntOf]
    simp [run_underlying hu, h0, hn, run_sizeOf w hie, r1]
  · rw [e1] at rc
    have := (relDs_len rc).1
    have : xs = [] := List.eq_nil_of_length_eq_zero (by simpa using this)
    subst this; simp at g3

theorem ran_makeFunc {f : FuncId} {caps : Array Operand} {first : Array Operand} (S : Sim E.P C h w) (ho : o.op = .makeFunc (.func f) first caps) (T : Told E C w h o a ev) (hf : first.size = 0)
    (hcap : ∀ x ∈ caps.toList, ∃ id p, ev x = .ptr id p) : Ran E.P C w h (execOp a.eval o) (.fn f (caps.toList.map ev)) := by
  have hf' : first = #[] := by simpa using hf
  subst hf'
  refine .same S (val := .func (.func f) #[] (caps.map a.eval)) (by simp [execOp, ho, Instr.makeFunc]) ?_
  simp only [relV, relV1, relC]
  refine ⟨caps.toList.map a.eval, by simp only [List.cons.injEq, and_true, Value.func.injEq, true_and]; apply Array.ext'; simp, ?_⟩
  have : ∀ x ∈ caps.toList, relV E.P C w h (ev x) (a.eval x) := fun x hx => T x (by simp [ho, Op.operands]; simpa using hx)
  revert hcap this
  generalize caps.toList = l
  induction l with
  | nil => intro _ _; simp [relOnes]
  | cons x l ih =>
    intro hcap this
    simp only [List.map_cons, relOnes]
    refine ⟨_, _, rfl, ?_, ih (fun y hy => hcap y (by simp [hy])) (fun y hy => this y (by simp [hy]))⟩
    obtain ⟨id, p, e⟩ := hcap x (by simp)
    have r := this x (by simp)
    rw [e] at r ⊢
    exact r

end
end Go.Tith

namespace Go.Tith

section
variable {E : Env} {C C' : Con} {w w' : World} {h h' : Heap} {o : Oper} {a : Act} {ev : Operand → AV} {v : AV}

def optRel : Option Int → Option Value → Prop
  | none, none => True
  | some n, some v => ∃ k, v = .int k n
  | _, _ => False

theorem optI_rel {x : Option Operand} {r : Option Int} (T : ∀ y ∈ x.toList, relV E.P C w h (ev y) (a.eval y)) (hi : optI ev x = some r) : optRel r (x.map a.eval) := by
  cases x with
  | none => simp [optI] at hi; subst hi; trivial
  | some y =>
    simp only [optI] at hi
    split at hi
    · rename_i k n he
      simp at hi; subst hi
      have := T y (by simp)
      rw [he, relV_int] at this
      exact ⟨k, this⟩
    · cases hi

theorem bound_run {P : Program} {k : IntKind} {n : Int} {y : Nat} {code : BoundsCode} (h0 : 0 ≤ n) (h1 : n ≤ y) : (Instr.sliceBound (.int k n) y code).run P w = .ok n.toNat w := by
  simp [Instr.sliceBound, asIntOf, h0, h1]

theorem bounds_run {P : Program} {b : Bool} {len cap : Nat} {lo hi : Option Int} {vl vh : Option Value} (rl : optRel lo vl) (rh : optRel hi vh) (h0 : 0 ≤ lo.getD 0) (h1 : lo.getD 0 ≤ hi.getD len) (h2 : hi.getD len ≤ cap) :
    (Instr.sliceBounds b len cap vl vh none).run P w = .ok ((lo.getD 0).toNat, (hi.getD len).toNat, cap) w := by
  have e : ∀ n : Int, 0 ≤ n → ((n.toNat : Nat) : Int) = n := fun n hn => Int.toNat_of_nonneg hn
  unfold Instr.sliceBounds
  cases lo with
  | none => cases vl with
    | some _ => exact rl.elim
    | none => cases hi with
      | none => cases vh with
        | some _ => exact rh.elim
        | none => simp
      | some u => cases vh with
        | none => exact rh.elim
        | some q =>
          obtain ⟨k, rfl⟩ := rh
          simp only [Option.getD_some, Option.getD_none] at h0 h1 h2
          simp [bound_run (P := P) (w := w) (k := k) h1 h2]
  | some l => cases vl with
    | none => exact rl.elim
    | some p =>
      obtain ⟨k, rfl⟩ := rl
      cases hi with
      | none => cases vh with
        | some _ => exact rh.elim
        | none =>
          simp only [Option.getD_some, Option.getD_none] at h0 h1 h2
          simp [bound_run (P := P) (w := w) (k := k) h0 h1]
      | some u => cases vh with
        | none => exact rh.elim
        | some q =>
          obtain ⟨k', rfl⟩ := rh
          simp only [Option.getD_some] at h0 h1 h2
          have hu : 0 ≤ u := by omega
          have := bound_run (P := P) (w := w) (k := k') (code := if b then .sliceAcap else .sliceAlen) hu h2
          simp [this, bound_run (P := P) (w := w) (k := k) (y := u.toNat) h0 (by omega)]

theorem ran_slice_str {t : TypeId} {x : Operand} {lo hi mx : Option Operand} {l u : Option Int} {s : ByteArray} (S : Sim E.P C h w) (ho : o.op = .slice t x lo hi mx) (T : Told E C w h o a ev)
    (hx : ev x = .d (.str s)) (hl : optI ev lo = some l) (hu : optI ev hi = some u) (hm : optI ev mx = some none) (ht : oneB E.P t isStr = true)
    (h0 : 0 ≤ l.getD 0) (h1 : l.getD 0 ≤ u.getD s.size) (h2 : u.getD s.size ≤ s.size) : Ran E.P C w h (execOp a.eval o) (.d (.str (s.extract (l.getD 0).toNat (u.getD s.size).toNat))) := by
  have rx := T x (by simp [ho, Op.operands])
  rw [hx, relV_str] at rx
  have rl := optI_rel (a := a) (fun y hy => T y (by simp [ho, Op.operands]; simp at hy; simp [hy])) hl
  have ru := optI_rel (a := a) (fun y hy => T y (by simp [ho, Op.operands]; simp at hy; simp [hy])) hu
  have rm := optI_rel (a := a) (fun y hy => T y (by simp [ho, Op.operands]; simp at hy; simp [hy])) hm
  have hmx : mx.map a.eval = none := by cases hq : mx.map a.eval with | none => rfl | some q => rw [hq] at rm; exact rm.elim
  refine .same S (val := .string (s.extract (l.getD 0).toNat (u.getD s.size).toNat)) ?_ (relV_str.2 rfl)
  have hs := oneB_str ht
  have hb := bounds_run (P := E.P) (w := w) (b := false) (len := s.size) (cap := s.size) rl ru h0 h1 h2
  simp only [execOp, ho, rx, hmx, Instr.sliceAt]
  simp [run_underlying hs, Instr.slice, hb]

theorem ran_slice_list {t e : TypeId} {x : Operand} {lo hi mx : Option Operand} {l u : Option Int} {xs : List DV} (S : Sim E.P C h w) (ho : o.op = .slice t x lo hi mx) (T : Told E C w h o a ev)
    (rx : relV E.P C w h (.d (.list e xs)) (a.eval x)) (hl : optI ev lo = some l) (hu : optI ev hi = some u) (hm : optI ev mx = some none) (ht : oneB E.P t (isSl e) = true)
    (h0 : 0 ≤ l.getD 0) (h1 : l.getD 0 ≤ u.getD xs.length) (h2 : u.getD xs.length ≤ xs.length) (hz : E.P.cellsOf e ≠ 0) :
    Ran E.P C w h (execOp a.eval o) (.d (.list e ((xs.drop (l.getD 0).toNat).take ((u.getD xs.length).toNat - (l.getD 0).toNat)))) := by
  have rl := optI_rel (a := a) (fun y hy => T y (by simp [ho, Op.operands]; simp at hy; simp [hy])) hl
  have ru := optI_rel (a := a) (fun y hy => T y (by simp [ho, Op.operands]; simp at hy; simp [hy])) hu
  have rm := optI_rel (a := a) (fun y hy => T y (by simp [ho, Op.operands]; simp at hy; simp [hy])) hm
  have hmx : mx.map a.eval = none := by cases hq : mx.map a.eval with | none => rfl | some q => rw [hq] at rm; exact rm.elim
  obtain ⟨ad, len, cap, g1, g2, g3, g4, g5, g6⟩ := relV_list rx
  subst g2
  have hus := oneB_sl ht
  have hb := bounds_run (P := E.P) (w := w) (b := true) (len := xs.length) (cap := cap) rl ru h0 h1 (by omega)
  generalize hL : (l.getD 0).toNat = L at *
  generalize hU : (u.getD xs.length).toNat = U at *
  have hLU : L ≤ U := by omega
  have hUl : U ≤ xs.length := by omega
  obtain ⟨ie, hie⟩ := cellsOf_info hz
  refine .same S (val := .slice (if cap = L then ad else ad.map (·.add (L * E.P.cellsOf e))) (U - L) (cap - L)) ?_ ?_
  · simp only [execOp, ho, g1, hmx, Instr.sliceAt]
    simp [run_underlying hus, Instr.slice, hb, run_sizeOf w hie]
  · simp only [relV, relV1, DV.isAgg, Bool.false_eq_true, if_false, relD]
    refine ⟨_, _, _, rfl, by simp; omega, by omega, by omega, ?_, ?_⟩
    · intro hn
      split at hn
      · omega
      · cases ad with
        | none => have := g5 rfl; omega
        | some q => simp at hn
    · intro hne
      have hUL : L < U := by
        rcases Nat.lt_or_ge L U with q | q
        · exact q
        · exfalso; apply hne; rw [show U - L = 0 by omega]; simp
      obtain ⟨b, off, hb2, hr⟩ := g6 (by intro e; subst e; simp at hUl; omega)
      rw [if_neg (by omega)]
      refine ⟨b, off + L * E.P.cellsOf e, by rw [hb2]; simp [Addr.add_mid], relRow_sub L (U - L) hr (by omega)⟩

theorem ran_slice_ptr {t e : TypeId} {x : Operand} {lo hi mx : Option Operand} {l u : Option Int} {id n : Nat} {path : List Nat} (S : Sim E.P C h w) (ho : o.op = .slice t x lo hi mx) (T : Told E C w h o a ev)
    (hx : ev x = .ptr id path) (hty : h.typeAt E.P id path = some t) (hl : optI ev lo = some l) (hu : optI ev hi = some u) (hm : optI ev mx = some none) (ha : E.P.underlying t = some (.array n e))
    (h0 : 0 ≤ l.getD 0) (hln : l.getD 0 < n) (h1 : l.getD 0 ≤ u.getD n) (h2 : u.getD n ≤ n) (hn : n ≤ 1048576) (hie : ∃ i, E.P.info? e = some i) :
    Ran E.P C w h (execOp a.eval o) (.sl id path (l.getD 0).toNat ((u.getD n).toNat - (l.getD 0).toNat)) := by
  have rx := T x (by simp [ho, Op.operands])
  rw [hx] at rx
  have rl := optI_rel (a := a) (fun y hy => T y (by simp [ho, Op.operands]; simp at hy; simp [hy])) hl
  have ru := optI_rel (a := a) (fun y hy => T y (by simp [ho, Op.operands]; simp at hy; simp [hy])) hu
  have rm := optI_rel (a := a) (fun y hy => T y (by simp [ho, Op.operands]; simp at hy; simp [hy])) hm
  have hmx : mx.map a.eval = none := by cases hq : mx.map a.eval with | none => rfl | some q => rw [hq] at rm; exact rm.elim
  obtain ⟨bt, bc, off, k1, k2, k3⟩ := typeAt_ptr hty rx
  obtain ⟨ie, hie⟩ := hie
  have hb := bounds_run (P := E.P) (w := w) (b := false) (len := n) (cap := n) rl ru h0 h1 h2
  generalize hL : (l.getD 0).toNat = L at *
  generalize hU : (u.getD n).toNat = U at *
  have hLn : ¬ n = L := by omega
  refine .same S (val := .slice (some ⟨C.φ id, off + L * E.P.cellsOf e, none⟩) (U - L) (n - L)) ?_ ?_
  · simp only [execOp, ho, k3, hmx, Instr.sliceAt]
    simp [run_underlying ha, Instr.sureAddr, hb, run_sizeOf w hie, hLn, Addr.add_mid]
  · simp only [relV, relV1, relC]
    exact ⟨bt, bc, off, t, n, e, n - L, k1, k2, ha, by omega, by omega, by simp [maxLen]; omega, rfl⟩

end
end Go.Tith

namespace Go.Tith

section
variable {E : Env} {C C' : Con} {w w' : World} {h h' : Heap} {o : Oper} {a : Act} {ev : Operand → AV} {v : AV}

mutual
theorem chkD_rel {P : Program} : ∀ {x : DV} {c : List Value}, chkD P x c = true → relD P C w x c
  | .int k n, c, hc => by
    unfold chkD at hc
    split at hc <;> first | (simp_all [relD]; done) | skip
  | .bool b, c, hc => by
    unfold chkD at hc
    split at hc <;> first | (simp_all [relD]; done) | skip
  | .str s, c, hc => by
    unfold chkD at hc
    split at hc <;> first | (simp_all [relD]; done) | simp_all [relD]
  | .any _, c, hc => by simp [chkD] at hc
  | .nil, c, hc => by
    unfold chkD at hc
    split at hc <;> simp_all [relD]
  | .list e xs, c, hc => by
    unfold chkD at hc
    split at hc <;> simp_all
    exact relD_nil _
  | .agg t fs, c, hc => by
    unfold chkD at hc
    simp only [Bool.and_eq_true, beq_iff_eq] at hc
    simp only [relD]
    exact ⟨hc.1, chkDs_rel hc.2⟩
theorem chkDs_rel {P : Program} : ∀ {xs : List DV} {ts : List TypeId} {c : List Value}, chkDs P xs ts c = true → relDs P C w xs ts c
  | [], ts, c, hc => by
    unfold chkDs at hc
    split at hc <;> simp_all [relDs]
  | x :: xs, ts, c, hc => by
    cases ts with
    | nil => simp [chkDs] at hc
    | cons t ts =>
      unfold chkDs at hc
      simp only [Bool.and_eq_true, beq_iff_eq] at hc
      simp only [relDs]
      exact ⟨t, ts, _, _, rfl, (List.take_append_drop (P.cellsOf t) c).symm, hc.1.1.1, hc.1.1.2, chkD_rel hc.1.2, chkDs_rel hc.2⟩
end

mutual
theorem chkA_rel {P : Program} : ∀ {x : AV} {c : List Value}, chkA P x c = true → relC P C w h x c
  | .d x, c, hc => by
    simp only [chkA] at hc
    simp only [relC]; exact chkD_rel hc
  | .lst k e xs, c, hc => by
    unfold chkA at hc
    split at hc <;> simp_all
    simp only [relC]
    exact ⟨relD_nil _, by intro a l cap hc; simp at hc; omega⟩
  | .agg t fs, c, hc => by
    unfold chkA at hc
    simp only [Bool.and_eq_true, beq_iff_eq] at hc
    simp only [relC]
    exact ⟨hc.1, chkAs_rel hc.2⟩
  | .ptr _ _, _, hc => by simp [chkA] at hc
  | .sl _ _ _ _, _, hc => by simp [chkA] at hc
  | .ro _ _, _, hc => by simp [chkA] at hc
  | .fn _ _, _, hc => by simp [chkA] at hc
  | .tup _, _, hc => by simp [chkA] at hc
  | .sel _ _, _, hc => by simp [chkA] at hc
  | .nils, _, hc => by simp [chkA] at hc
  | .emp _, _, hc => by simp [chkA] at hc
  | .ifc _, _, hc => by simp [chkA] at hc
  | .bad, _, hc => by simp [chkA] at hc
theorem chkAs_rel {P : Program} : ∀ {xs : List AV} {ts : List TypeId} {c : List Value}, chkAs P xs ts c = true → relCs P C w h xs ts c
  | [], ts, c, hc => by
    unfold chkAs at hc
    split at hc <;> simp_all [relCs]
  | x :: xs, ts, c, hc => by
    cases ts with
    | nil => simp [chkAs] at hc
    | cons t ts =>
      unfold chkAs at hc
      simp only [Bool.and_eq_true, beq_iff_eq] at hc
      simp only [relCs]
      exact ⟨t, ts, _, _, rfl, (List.take_append_drop (P.cellsOf t) c).symm, hc.1.1.1, hc.1.1.2, chkA_rel hc.1.2, chkAs_rel hc.2⟩
end

theorem aggA_eq (x : AV) : aggA x = x.isAgg := by
  cases x with
  | d q => cases q <;> rfl
  | _ => rfl

theorem zeroA_ok {P : Program} {t : TypeId} {z : AV} (hz : zeroA P t = some z) : ∃ v, (∀ w, (zeroValue t).run P w = .ok v w) ∧ fitsA P t z = true ∧ (∀ C w h, relC P C w h z v.cells.toList) ∧ v.cells.size = P.cellsOf t ∧
    (∀ C w h, relV1 P C w h z v) ∧ (∃ i, P.info? t = some i ∧ i.zero = some v) := by
  unfold zeroA at hz
  cases hf : zeroF P 20 t with
  | none => simp [hf] at hz
  | some z' =>
    cases hi : P.info? t with
    | none => simp [hf, hi] at hz
    | some i =>
      cases hv : i.zero with
      | none => simp [hf, hi, hv] at hz
      | some v =>
        simp only [hf, hi, Option.bind_some, hv] at hz
        split at hz
        · rename_i hc
          simp only [Option.some.injEq] at hz; subst hz
          obtain ⟨h1, h2, h3⟩ := hc
          rw [aggA_eq] at h1
          have hr : ∀ C w h, relC P C w h z' v.cells.toList := fun C w h => chkA_rel h2
          have hsz : v.cells.size = P.cellsOf t := by
            by_cases ha : z'.isAgg = true
            · cases z' with
              | agg u fs => have := hr ⟨fun _ => .fz, fun _ => 0⟩ default hNil; simp only [relC] at this; simp [fitsA] at h3; rw [h3.1.2, ← this.1]; simp
              | d q => cases q with
                | agg u fs => have := hr ⟨fun _ => .fz, fun _ => 0⟩ default hNil; simp only [relC, relD] at this; simp [fitsA, fitsD] at h3; rw [h3.1.2, ← this.1]; simp
                | _ => simp [AV.isAgg, DV.isAgg] at ha
              | _ => simp [AV.isAgg] at ha
            · have ha' : z'.isAgg = false := by simpa using ha
              obtain ⟨g, hg, _⟩ := fitsA_one h3 ha'
              rw [oneB_size hg]
              rw [ha'] at h1
              cases v <;> first | rfl | simp [aggV] at h1
          refine ⟨v, fun w => by simp [zeroValue, typeInfo, hi, hv], h3, hr, hsz, fun C w h => ?_, i, rfl, hv⟩
          by_cases ha : z'.isAgg = true
          · rw [ha] at h1
            cases v <;> simp [aggV] at h1
            have := relC_relV_agg (hr C w h) ha
            simpa [Value.cells] using this
          · have ha' : z'.isAgg = false := by simpa using ha
            rw [ha'] at h1
            have hcv : v.cells.toList = [v] := by cases v <;> first | rfl | simp [aggV] at h1
            have := hr C w h
            rw [hcv] at this
            exact relC_relV this ha'
        · cases hz

theorem foldl_set (vs : List Value) : ∀ (off : Nat) (cs : Array Value) (k : Nat), off + k + vs.length ≤ cs.size →
    ((vs.zipIdx k).foldl (fun cs (c, j) => cs.setIfInBounds (off + j) c) cs).toList = cs.toList.take (off + k) ++ vs ++ cs.toList.drop (off + k + vs.length) := by
  induction vs with
  | nil => intro off cs k _; simp
  | cons v vs ih =>
    intro off cs k hl
    simp only [List.zipIdx_cons, List.foldl_cons]
    rw [ih off _ (k + 1) (by simp at hl ⊢; omega)]
    simp only [Array.toList_setIfInBounds, List.length_cons]
    have hlt : off + k < cs.toList.length := by simp at hl ⊢; omega
    rw [show off + (k + 1) = off + k + 1 by omega]
    rw [List.take_succ_eq_append_getElem (by simpa using hlt), List.take_set_of_le (by omega), List.drop_set_of_lt (by omega)]
    simp [List.append_assoc]
    congr 1
    omega


/-! ### build -/
theorem fill_run (place : Nat → Option (Nat × Nat)) {P : Program} {ts : List TypeId} {C : Con} {w : World} {h : Heap} (hp : ∀ (i : Nat) t, ts[i]? = some t → place i = some (offL P ts i, P.cellsOf t)) :
    ∀ (ps : List (Nat × AV)) (vs : List (Nat × Value)) (fs : List AV) (gs : List AV) (cs : Array Value), pop.fillA P ts fs ps = some gs → fs.length = ts.length → relCs P C w h fs ts cs.toList →
    (ps.length = vs.length ∧ ∀ (j : Nat) p q, ps[j]? = some p → vs[j]? = some q → p.1 = q.1 ∧ relV P C w h p.2 q.2) → ∃ cs', Instr.fill place cs vs = some cs' ∧ relCs P C w h gs ts cs'.toList ∧ cs'.size = cs.size
  | [], vs, fs, gs, cs, hf, hl, hr, hv => by
    have : vs = [] := List.eq_nil_of_length_eq_zero (by simpa using hv.1.symm)
    subst this
    simp [pop.fillA] at hf; subst hf
    exact ⟨cs, rfl, hr, rfl⟩
  | (i, x) :: ps, vs, fs, gs, cs, hf, hl, hr, hv => by
    cases vs with
    | nil => simp at hv
    | cons q vs =>
      obtain ⟨i', v⟩ := q
      obtain ⟨e1, e2⟩ := hv.2 0 (i, x) (i', v) rfl rfl
      simp only at e1 e2
      subst e1
      simp only [pop.fillA] at hf
      cases ht : ts[i]? with
      | none => simp [ht] at hf
      | some t =>
        simp only [ht] at hf
        split at hf
        · rename_i hc
          obtain ⟨c, k1, k2, _⟩ := relV_cells hc.1 (coe_rel e2)
          have hlen : c.length = P.cellsOf t := by
            by_cases ha : (coe P t x).isAgg = true
            · cases hx : coe P t x with
              | agg u fs => rw [hx] at k1 hc; simp only [relC] at k1; simp [fitsA] at hc; rw [k1.1, hc.1.1.2]
              | d q => cases q with
                | agg u fs => rw [hx] at k1 hc; simp only [relC, relD] at k1; simp [fitsA, fitsD] at hc; rw [k1.1, hc.1.1.2]
                | _ => simp [hx, AV.isAgg, DV.isAgg] at ha
              | _ => simp [hx, AV.isAgg] at ha
            · have ha' : (coe P t x).isAgg = false := by simpa using ha
              obtain ⟨g, hg, _⟩ := fitsA_one hc.1 ha'
              obtain ⟨c', q1, q2, _, q4⟩ := relV_cells hc.1 (coe_rel (P := P) (t := t) e2)
              rw [← k2, q2, q4 ha', oneB_size hg]; rfl
          have hi : i < ts.length := (List.getElem?_eq_some_iff.1 ht).1
          have hsz : offL P ts i + P.cellsOf t ≤ cs.size := by
            have hx0 : fs[i]? = some fs[i] := by simp [hc.2]
            obtain ⟨t2, g1, g2, g3, g4⟩ := relCs_get i hr hx0
            rw [ht] at g1; obtain rfl := Option.some.inj g1
            simpa using g3
          have hset := relCs_set i hr ht (by omega) hc.1 hlen k1
          have hvs : v.cells.size = P.cellsOf t := by rw [← hlen, ← k2]; simp
          have hfold := foldl_set v.cells.toList (offL P ts i) cs 0 (by simp; omega)
          simp only [Nat.add_zero] at hfold
          obtain ⟨cs', g1, g2, g3⟩ := fill_run place hp ps vs _ gs (v.cells.zipIdx.foldl (fun cs (c, j) => cs.setIfInBounds (offL P ts i + j) c) cs) hf (by simpa using hl) (by
            have e : (v.cells.zipIdx.foldl (fun cs (c, j) => cs.setIfInBounds (offL P ts i + j) c) cs) = (v.cells.toList.zipIdx 0).foldl (fun cs (c, j) => cs.setIfInBounds (offL P ts i + j) c) cs := by
              rw [← Array.foldl_toList]; simp
            rw [e, hfold, k2, hlen]
            exact hset) ⟨by simpa using hv.1, fun j p q hp' hq => hv.2 (j + 1) p q (by simpa using hp') (by simpa using hq)⟩
          refine ⟨cs', ?_, g2, ?_⟩
          · simp only [Instr.fill, hp i t ht]
            rw [if_neg (by simp [hvs]; omega)]
            exact g1
          · rw [g3, ← Array.foldl_toList]
            have : ∀ (l : List (Value × Nat)) (cs : Array Value), (l.foldl (fun cs (c, j) => cs.setIfInBounds (offL P ts i + j) c) cs).size = cs.size := by
              intro l
              induction l with
              | nil => intro cs; rfl
              | cons x l ih => intro cs; simp only [List.foldl_cons]; rw [ih]; simp
            exact this _ _
        · cases hf

end
end Go.Tith

namespace Go.Tith

section
variable {E : Env} {C C' : Con} {w w' : World} {h h' : Heap} {o : Oper} {a : Act} {ev : Operand → AV} {v : AV}

theorem mapM_places {P : Program} : ∀ (fs : List Field), (∀ f ∈ fs, ∃ i, P.info? f.type = some i) → fs.mapM (fun f => (P.info? f.type).map fun i => (f.offset, i.size)) = some (fs.map fun f => (f.offset, P.cellsOf f.type))
  | [], _ => rfl
  | f :: fs, hf => by
    obtain ⟨i, hi⟩ := hf f (by simp)
    have := mapM_places fs (fun g hg => hf g (by simp [hg]))
    simp [List.mapM_cons, hi, this, Program.cellsOf]

theorem parts_told {ps : Array (Nat × Operand)} (T : ∀ p ∈ ps.toList, relV E.P C w h (ev p.2) (a.eval p.2)) :
    (ps.toList.map fun p => (p.1, ev p.2)).length = (ps.map fun (i, x) => (i, a.eval x)).toList.length ∧ ∀ (j : Nat) p q, (ps.toList.map fun p => (p.1, ev p.2))[j]? = some p → (ps.map fun (i, x) => (i, a.eval x)).toList[j]? = some q →
      p.1 = q.1 ∧ relV E.P C w h p.2 q.2 := by
  refine ⟨by simp, fun j p q hp hq => ?_⟩
  simp only [List.getElem?_map, Option.map_eq_some_iff] at hp
  obtain ⟨x, hx, rfl⟩ := hp
  simp only [Array.toList_map, List.getElem?_map, hx, Option.map_some, Option.some.injEq] at hq
  subst hq
  exact ⟨rfl, T x (List.mem_of_getElem? hx)⟩

theorem ran_build {t : TypeId} {ps : Array (Nat × Operand)} (S : Sim E.P C h w) (ho : o.op = .build t ps) (T : Told E C w h o a ev) (hb : pop.buildA E t (ps.toList.map fun p => (p.1, ev p.2)) = some v) :
    Ran E.P C w h (execOp a.eval o) v := by
  have Tp : ∀ p ∈ ps.toList, relV E.P C w h (ev p.2) (a.eval p.2) := fun p hp => T p.2 (by
    simp only [ho, Op.operands]
    simpa using ⟨p.1, by simpa using hp⟩)
  unfold pop.buildA at hb
  cases hz : zeroA E.P t with
  | none => simp [hz] at hb
  | some z =>
    simp only [hz] at hb
    obtain ⟨zv, z1, z2, z3, z4, z5, it, z6, z7⟩ := zeroA_ok hz
    have hrow : z.isAgg = true → isRowT E.P t = true := fitsA_row z2
    cases hzp : z.parts with
    | none => simp [hzp] at hb
    | some q =>
      obtain ⟨u, fs⟩ := q
      simp only [hzp] at hb
      split at hb
      · rename_i hc
        obtain ⟨hall, hne⟩ := hc
        have hagg : z.isAgg = true := by
          cases z with
          | agg _ _ => rfl
          | d x => cases x <;> simp_all [AV.parts, AV.isAgg, DV.isAgg]
          | _ => simp [AV.parts] at hzp
        obtain ⟨f1, f2⟩ := parts_fits hzp z2
        obtain ⟨hl1, hr⟩ := parts_rel hzp (z3 C w h)
        have hrt := hrow hagg
        unfold isRowT at hrt
        cases hu : E.P.underlying t with
        | none => simp [hu] at hrt
        | some dd =>
          simp only [hu] at hrt
          subst f1
          rw [List.all_eq_true] at hall
          have hlen := relCs_len hr
          have fin : ∀ gs, pop.fillA E.P (tys E.P (E.P.underlyingId t)) fs (ps.toList.map fun p => (p.1, ev p.2)) = some gs →
              ∃ cs : Array Value, E.P.built t (ps.map fun (i, x) => (i, a.eval x)).toList = some cs ∧ relCs E.P C w h gs (tys E.P (E.P.underlyingId t)) cs.toList ∧ cs.size = E.P.cellsOf (E.P.underlyingId t) := by
            intro gs hg
            cases dd with
            | struct fds =>
              obtain ⟨e1, e2⟩ := tys_struct_ne hu hne
              have hinfo : ∀ f ∈ fds.toList, ∃ i, E.P.info? f.type = some i := fun f hf => cellsOf_info (by
                have := hall f.type (by rw [e1]; exact List.mem_map.2 ⟨f, hf, rfl⟩)
                simpa using this)
              obtain ⟨cs, g1, g2, g3⟩ := fill_run (P := E.P) (ts := tys E.P (E.P.underlyingId t)) (C := C) (w := w) (h := h) ((fds.toList.map fun f => (f.offset, E.P.cellsOf f.type)).toArray[·]?) (by
                intro i x hx
                rw [e1] at hx
                simp only [List.getElem?_map, Option.map_eq_some_iff] at hx
                obtain ⟨f, hf, rfl⟩ := hx
                have := e2 i f (by simpa using hf)
                simp only [Array.getElem?_toList, List.getElem?_toArray, List.getElem?_map] at hf ⊢
                simp [hf, this]) _ _ fs gs zv.cells hg hlen hr (parts_told Tp)
              refine ⟨cs, ?_, g2, by rw [g3, z4, f2]⟩
              simp only [Program.built, z6, hu, z7, mapM_places _ hinfo]
              exact g1
            | array n e =>
              have e1 := tys_array_ne hu hne
              have hn : n ≠ 0 := by intro e; subst e; rw [e1] at hne; simp at hne
              obtain ⟨ie, hie⟩ := cellsOf_info (P := E.P) (t := e) (by
                have := hall e (by rw [e1]; simp [hn])
                simpa using this)
              obtain ⟨cs, g1, g2, g3⟩ := fill_run (P := E.P) (ts := tys E.P (E.P.underlyingId t)) (C := C) (w := w) (h := h) (fun i => some (i * ie.size, ie.size)) (by
                intro i x hx
                rw [e1] at hx ⊢
                rw [List.getElem?_replicate] at hx
                split at hx
                · simp only [Option.some.injEq] at hx; subst hx
                  rw [offL_replicate _ _ _ (by omega)]
                  simp [Program.cellsOf, hie]
                · cases hx) _ _ fs gs zv.cells hg hlen hr (parts_told Tp)
              refine ⟨cs, ?_, g2, by rw [g3, z4, f2]⟩
              simp only [Program.built, z6, hu, z7, hie]
              exact g1
            | _ => simp at hrt
          split at hb
          · rename_i hemp
            simp only [Option.some.injEq] at hb; subst hb
            have hps : (ps.toList.map fun p => (p.1, ev p.2)) = [] := by simpa using hemp
            obtain ⟨cs, k1, k2, k3⟩ := fin fs (by rw [hps]; rfl)
            have hcs : cs = zv.cells := by
              have hps' : ps = #[] := by simpa using hps
              subst hps'
              unfold Program.built at k1
              simp only [z6, hu, z7] at k1
              cases dd <;> simp at k1
              · split at k1 <;> simp_all [Instr.fill]
              · split at k1 <;> simp_all [Instr.fill]
            refine .same S (val := .agg cs) ?_ (relV1_of ?_)
            · simp [execOp, ho, run_build w t _ cs k1]
            · have := relC_relV_agg (z3 C w h) hagg
              rw [hcs]; simpa using this
          · simp only [Option.map_eq_some_iff] at hb
            obtain ⟨gs, hg, rfl⟩ := hb
            obtain ⟨cs, k1, k2, k3⟩ := fin gs hg
            refine .same S (val := .agg cs) ?_ ?_
            · simp [execOp, ho, run_build w t _ cs k1]
            · simp only [relV, relV1, relC]
              exact ⟨cs.toList, by simp, by simpa using k3, k2⟩
      · cases hb

end
end Go.Tith

namespace Go.Tith

section
variable {E : Env} {C C' : Con} {w w' : World} {h h' : Heap} {o : Oper} {a : Act} {ev : Operand → AV} {v : AV}

theorem cyc (c : Array Value) : ∀ n, ((Array.range (n * c.size)).map (c[· % c.size]!)).toList = (List.replicate n c.toList).flatten := by
  have one : (List.range c.size).map (c[· % c.size]!) = c.toList := by
    apply List.ext_getElem
    · simp
    · intro i h1 h2
      simp at h1
      simp [Nat.mod_eq_of_lt h1, h1]
  intro n
  induction n with
  | zero => simp
  | succ n ih =>
    rw [Nat.add_mul, Nat.one_mul, Nat.add_comm]
    simp only [Array.toList_map, Array.toList_range] at ih ⊢
    rw [List.range_add, List.map_append, one, List.map_map, List.replicate_succ, List.flatten_cons, ← ih]
    congr 1
    apply List.map_congr_left
    intro i _
    simp

theorem relCs_replicate {P : Program} {z : AV} {e : TypeId} {c : List Value} (hf : fitsA P e z = true) (hl : c.length = P.cellsOf e) (hr : relC P C w h z c) : ∀ n, relCs P C w h (List.replicate n z) (List.replicate n e) (List.replicate n c).flatten
  | 0 => by simp [relCs]
  | n + 1 => by
    simp only [List.replicate_succ, relCs, List.flatten_cons]
    exact ⟨e, _, c, _, rfl, rfl, hf, hl, hr, relCs_replicate hf hl hr n⟩

/-- A new block, all of whose cells are fixed. -/
theorem alloc_fz {P : Program} (S : Sim P C h w) {w0 : World} (hh : w0.heap = w.heap) (hos : w0.os = w.os) (ht : w0.tape = w.tape) (ho : w0.output = w.output) (ob : Obj) :
    Step C w h (C.setK w.heap.size .fz) (w0.alloc ob) h ∧ Sim P (C.setK w.heap.size .fz) h (w0.alloc ob) := by
  have hsz : (w0.alloc ob).heap.size = w.heap.size + 1 := by rw [← hh]; simp
  have hold : ∀ b, b < w.heap.size → (w0.alloc ob).heap[b]? = w.heap[b]? := by
    intro b hb
    rw [← hh] at hb ⊢
    exact heap_alloc_old w0 ob hb
  have st : Step C w h (C.setK w.heap.size .fz) (w0.alloc ob) h := new_step (w' := w0.alloc ob) S hos ht ho hsz hold h rfl (fun _ _ hF => hF)
  exact ⟨st, new_sim S st hsz hold rfl (by simp) (fun _ _ hF => hF)⟩

theorem relRow_of_cells {P : Program} {e : TypeId} {b : Nat} {c : List Value} {ds : List DV} {n : Nat} (hr : relDs P C w ds (List.replicate n e) c) (hk : C.K b = .fz) (hc : ∀ (j : Nat) x, c[j]? = some x → w.cell? ⟨b, j, none⟩ = some x) :
    relRow P C w e ds b 0 := relDs_row hr fun j x hj => ⟨by simp [Con.fixed, hk, Blk.fixed], by simpa using hc j x hj⟩

theorem plains_rel {P : Program} {e : TypeId} : ∀ {xs : List AV} {ds : List DV} {c : List Value} {n : Nat}, xs.mapM plainD = some ds → relCs P C w h xs (List.replicate n e) c → (∀ d ∈ ds, fitsD P e d = true) → relDs P C w ds (List.replicate n e) c
  | [], ds, c, n, hm, hr, _ => by simp at hm; subst hm; simpa [relCs, relDs] using hr
  | x :: xs, ds, c, n, hm, hr, hf => by
    simp only [List.mapM_cons, Option.bind_eq_bind, Option.bind_eq_some_iff, Option.pure_def, Option.some.injEq] at hm
    obtain ⟨d, h1, ds', h2, rfl⟩ := hm
    cases n with
    | zero => simp [relCs] at hr
    | succ n =>
      simp only [List.replicate_succ, relCs] at hr
      obtain ⟨t, ts', c1, c2, k1, k2, k3, k4, k5, k6⟩ := hr
      simp only [List.cons.injEq] at k1
      obtain ⟨rfl, rfl⟩ := k1
      simp only [List.replicate_succ, relDs]
      exact ⟨e, _, c1, c2, rfl, k2, hf d (by simp), k4, plainD_relC h1 k5, plains_rel h2 k6 (fun d hd => hf d (by simp [hd]))⟩

theorem fillA_all {P : Program} {e : TypeId} {n : Nat} : ∀ (xs : List AV) (i : Nat) (fs : List AV), fs.length = n → i + xs.length = n → (∀ x ∈ xs, fitsA P e (coe P e x) = true) →
    pop.fillA P (List.replicate n e) fs ((List.range' i xs.length).zip xs) = some (fs.take i ++ xs.map (coe P e))
  | [], i, fs, hl, hi, _ => by
    simp only [List.length_nil, List.range'_zero, List.zip_nil_right, pop.fillA, List.map_nil, List.append_nil]
    rw [List.take_of_length_le (by simp at hi; omega)]
  | x :: xs, i, fs, hl, hi, hf => by
    simp only [List.length_cons, List.range'_succ, List.zip_cons_cons, pop.fillA]
    rw [List.getElem?_replicate_of_lt (by simp at hi; omega)]
    simp only
    rw [if_pos ⟨hf x (by simp), by simp at hi; omega⟩]
    rw [fillA_all xs (i + 1) _ (by simpa using hl) (by simp at hi ⊢; omega) (fun y hy => hf y (by simp [hy]))]
    simp only [List.map_cons]
    rw [List.take_succ_eq_append_getElem (by simp at hi ⊢; omega), List.take_set_of_le (by omega)]
    simp

theorem mapM_len {α β : Type} {f : α → Option β} : ∀ {l : List α} {r : List β}, l.mapM f = some r → r.length = l.length
  | [], r, hm => by simp at hm; subst hm; rfl
  | x :: l, r, hm => by
    simp only [List.mapM_cons, Option.bind_eq_bind, Option.bind_eq_some_iff, Option.pure_def, Option.some.injEq] at hm
    obtain ⟨y, h1, r', h2, rfl⟩ := hm
    simp [mapM_len h2]

theorem mapM_mem {α β : Type} {f : α → Option β} : ∀ {l : List α} {r : List β}, l.mapM f = some r → ∀ y ∈ r, ∃ x ∈ l, f x = some y
  | [], r, hm, y, hy => by simp at hm; subst hm; simp at hy
  | x :: l, r, hm, y, hy => by
    simp only [List.mapM_cons, Option.bind_eq_bind, Option.bind_eq_some_iff, Option.pure_def, Option.some.injEq] at hm
    obtain ⟨z, h1, r', h2, rfl⟩ := hm
    rcases List.mem_cons.1 hy with rfl | hy
    · exact ⟨x, by simp, h1⟩
    · obtain ⟨q, hq, hf⟩ := mapM_mem h2 y hy
      exact ⟨q, by simp [hq], hf⟩

theorem ran_buildSlice {t e : TypeId} {n : Nat} {ps : Array (Nat × Operand)} {xs : List DV} {z : AV} (S : Sim E.P C h w) (ho : o.op = .buildSlice t n ps) (T : Told E C w h o a ev) (hu : E.P.underlying t = some (.slice e))
    (hm : (ps.toList.map fun p => coe E.P e (ev p.2)).mapM plainD = some xs) (hz : zeroA E.P e = some z) (hi : ps.toList.map (·.1) = List.range n) (hn : n ≤ 4096)
    (hfa : ∀ p ∈ ps.toList, fitsA E.P e (coe E.P e (ev p.2)) = true) (hsz : n * E.P.cellsOf e ≤ 16777216) : Ran E.P C w h (execOp a.eval o) (.lst none e xs) := by
  have Tp : ∀ p ∈ ps.toList, relV E.P C w h (ev p.2) (a.eval p.2) := fun p hp => T p.2 (by
    simp only [ho, Op.operands]
    simpa using ⟨p.1, by simpa using hp⟩)
  obtain ⟨zv, z1, z2, z3, z4, z5, it, z6, z7⟩ := zeroA_ok hz
  have hcell : it.size = E.P.cellsOf e := by simp [Program.cellsOf, z6]
  have hlen : ps.toList.length = n := by have := congrArg List.length hi; simpa using this
  have hxl : xs.length = n := by
    have := mapM_len hm
    simpa [hlen] using this
  -- the cells
  have hbase : relCs E.P C w h (List.replicate n z) (List.replicate n e) ((Array.range (n * zv.cells.size)).map (zv.cells[· % zv.cells.size]!)).toList := by
    rw [cyc]; exact relCs_replicate z2 (by simpa using z4) (z3 C w h) n
  have hzip : (ps.toList.map fun p => (p.1, ev p.2)) = (List.range' 0 (ps.toList.map fun p => ev p.2).length).zip (ps.toList.map fun p => ev p.2) := by
    rw [List.length_map, hlen, ← List.range_eq_range', ← hi, List.zip_map']
  have hfill := fillA_all (P := E.P) (e := e) (n := n) (ps.toList.map fun p => ev p.2) 0 (List.replicate n z) (by simp) (by simpa using hlen) (by
    intro x hx
    obtain ⟨p, hp, rfl⟩ := List.mem_map.1 hx
    exact hfa p hp)
  rw [← hzip] at hfill
  simp only [List.take_zero, List.nil_append, List.map_map] at hfill
  have hbase' := hbase
  rw [z4] at hbase'
  obtain ⟨cs, g1, g2, g3⟩ := fill_run (P := E.P) (ts := List.replicate n e) (C := C) (w := w) (h := h) (fun i => some (i * it.size, it.size)) (by
    intro i x hx
    rw [List.getElem?_replicate] at hx
    split at hx
    · simp only [Option.some.injEq] at hx; subst hx
      rw [offL_replicate _ _ _ (by omega), hcell]
    · cases hx) _ _ _ _ _ hfill (by simp) hbase' (parts_told Tp)
  have hxs := plains_rel (xs := ps.toList.map fun p => coe E.P e (ev p.2)) hm (by simpa [Function.comp_def] using g2) (by
    intro d hd
    obtain ⟨x, hx, hxd⟩ := mapM_mem hm d hd
    obtain ⟨p, hp, rfl⟩ := List.mem_map.1 hx
    exact plainD_fits (C := C) (w := w) (h := h) hxd (hfa p hp))
  obtain ⟨st, S'⟩ := alloc_fz S (w0 := w) rfl rfl rfl rfl (.cells cs e)
  have hrun : (Instr.buildSlice t n (ps.map fun (i, x) => (i, a.eval x))).run E.P w = .ok (.slice (some ⟨w.heap.size, 0, none⟩) n n) (w.alloc (.cells cs e)) := by
    by_cases h0 : n * it.size = 0
    · have hcs : cs.size = 0 := by rw [g3]; simp [← hcell, h0]
      have hcs' : cs = #[] := by simpa using hcs
      have : ¬ n * it.size > 2 ^ 24 := by omega
      have hg1 : Instr.fill (fun i => some (i * it.size, it.size)) #[] (ps.map fun (i, x) => (i, a.eval x)).toList = some cs := by
        have e0 : ((Array.range (n * E.P.cellsOf e)).map (zv.cells[· % E.P.cellsOf e]!)) = #[] := by rw [← hcell, h0]; simp
        rw [← e0]; exact g1
      simp only [Array.toList_map] at hg1
      have er : ∀ f : Nat → Value, Array.map f (Array.range 0) = #[] := fun f => by simp
      simp [Instr.buildSlice, run_underlying hu, sizeOf, typeInfo, z6, this, h0, er, hg1, newRow]
    · refine run_buildSlice w t e n _ cs it zv hu z6 z7 (by rw [hcell]; omega) h0 ?_
      have e0 : it.size = zv.cells.size := by rw [hcell, z4]
      rw [hcell, z4]
      rw [hcell] at g1
      exact g1
  refine ⟨_, w.alloc (.cells cs e), .slice (some ⟨w.heap.size, 0, none⟩) n n, by simp [execOp, ho, hrun], st, S', ?_⟩
  simp only [relV, relV1, relC, relD]
  refine ⟨⟨_, n, n, rfl, hxl.symm, Nat.le_refl _, by simp [maxLen]; omega, by simp, fun _ => ⟨w.heap.size, 0, rfl, ?_⟩⟩, by intro a l c hc; simp at hc; omega⟩
  refine relRow_of_cells (relDs_mono st.keeps hxs) setK_same fun j x hj => ?_
  rw [cell_in (heap_alloc_new w (.cells cs e))]; exact hj

end
end Go.Tith

namespace Go.Tith

section
variable {E : Env} {C C' : Con} {w w' : World} {h h' : Heap} {o : Oper} {a : Act} {ev : Operand → AV} {v : AV}

theorem oneB_ptr {P : Program} {t : TypeId} (ho : oneB P t isPtr = true) : P.underlying t = some (.pointer (P.pointee t)) := by
  obtain ⟨d, h1, h2⟩ := oneB_desc ho
  cases d <;> simp [isPtr] at h2
  rw [h1]; simp [Program.pointee, h1]

theorem eqGuard_scalar {P : Program} {op : BinOp} {t : TypeId} {x y : Operand} {vx vy : Value} (hx : ∀ cs, vx ≠ .agg cs) (hx' : vx ≠ .nilIface) : (eqGuard op t x y vx vy).run P w = .ok () w := by
  cases vx with
  | agg cs => exact absurd rfl (hx cs)
  | nilIface => exact absurd rfl hx'
  | _ => cases op <;> simp [eqGuard]

theorem relV1_hNil {P : Program} {x : DV} {v : Value} (r : relV P C w h (.d x) v) : relV1 P C w hNil (.d x) v := by simpa only [relV, relV1] using r

theorem eqDs_run {P : Program} {t u : TypeId} {xs ys : List DV} {vx vy : Value} (hid : P.underlyingId t = u) (ht : eqT P t = true) (rx : relV1 P C w hNil (.d (.agg u xs)) vx) (ry : relV1 P C' w hNil (.d (.agg u ys)) vy)
    (hf : isRowT P t = true) (hc : P.cellsOf t = P.cellsOf u) : (Op.equal t vx vy).run P w = .ok (eqDs xs ys) w :=
  eqT_run ht (by simp [fitsD, hid, hf, hc]) (by simp [fitsD, hid, hf, hc]) rx ry

theorem run_eql_agg {P : Program} {t : TypeId} {op : BinOp} {x y : Operand} {xs ys : Array Value} {b : Bool} (hop : op = .eql ∨ op = .neq) (hg : P.eqGuardType P.depth t = false) (hr : (Op.equal t (.agg xs) (.agg ys)).run P w = .ok b w) :
    (do eqGuard op t x y (.agg xs) (.agg ys); binOp op t (.agg xs) (.agg ys) : Sem Value).run P w = .ok (.bool (if op = .eql then b else !b)) w := by
  rcases hop with rfl | rfl
  · simp [run_eqGuard_agg w .eql t x y xs ys hg, binOp, hr]
  · simp [run_eqGuard_agg w .neq t x y xs ys hg, binOp, hr]

theorem isRow_of_eqT {P : Program} {t : TypeId} (ht : eqT P t = true) {d : TypeDesc} (hd : P.underlying t = some d) (hr : d.isRow = true) : isRowT P t = true := by simp [isRowT, hd, hr]

theorem eqR_run {P : Program} {op : BinOp} {t : TypeId} {x y : Operand} {vx vy : Value} {b : Bool} {d : DV} (hq : eqR op b = some d) (hg : (eqGuard op t x y vx vy).run P w = .ok () w)
    (hb : ∀ op, op = .eql ∨ op = .neq → (binOp op t vx vy).run P w = .ok (.bool (if op = .eql then b else !b)) w) :
    ∃ val, (do eqGuard op t x y vx vy; binOp op t vx vy : Sem Value).run P w = .ok val w ∧ relV P C w h (.d d) val := by
  unfold eqR at hq
  split at hq
  · simp only [Option.some.injEq] at hq; subst hq
    exact ⟨_, by rw [Sem.run_bind, hg]; simpa using hb .eql (.inl rfl), relV_bool.2 (by simp)⟩
  · simp only [Option.some.injEq] at hq; subst hq
    exact ⟨_, by rw [Sem.run_bind, hg]; simpa using hb .neq (.inr rfl), relV_bool.2 (by simp)⟩
  · cases hq

theorem eqR_op {op : BinOp} {b : Bool} {d : DV} (hq : eqR op b = some d) : op = .eql ∨ op = .neq := by
  unfold eqR at hq
  split at hq
  · exact .inl rfl
  · exact .inr rfl
  · cases hq

theorem bin_of_equal {P : Program} {t : TypeId} {vx vy : Value} {b : Bool} (h1 : binOp .eql t vx vy = (do pure (.bool (← Op.equal t vx vy)))) (h2 : binOp .neq t vx vy = (do pure (.bool (!(← Op.equal t vx vy)))))
    (hr : (Op.equal t vx vy).run P w = .ok b w) : ∀ op, op = .eql ∨ op = .neq → (binOp op t vx vy).run P w = .ok (.bool (if op = .eql then b else !b)) w := by
  rintro op (rfl | rfl)
  · rw [h1]; simp [hr]
  · rw [h2]; simp [hr]

theorem plain_agg_val {P : Program} {x : AV} {u : TypeId} {xs : List DV} {vx : Value} (hp : plainD x = some (.agg u xs)) (r : relV P C w h x vx) : relV1 P C w hNil (.d (.agg u xs)) vx ∧ ∃ cs, vx = .agg cs := by
  have := plainD_relV (h' := hNil) hp r
  refine ⟨this, ?_⟩
  simp only [relV1, DV.isAgg, if_true] at this
  obtain ⟨c, h1, _⟩ := this
  exact ⟨_, h1⟩

theorem ran_binOp {op : BinOp} {t ty : TypeId} {x y : Operand} {d : DV} (S : Sim E.P C h w) (ho : o.op = .binOp op t x y ty) (T : Told E C w h o a ev) (hb : binA E op t (ev x) (ev y) = some d) :
    Ran E.P C w h (execOp a.eval o) (.d d) := by
  have rx := T x (by simp [ho, Op.operands])
  have ry := T y (by simp [ho, Op.operands])
  have fin : (∃ val, (do eqGuard op t x y (a.eval x) (a.eval y); binOp op t (a.eval x) (a.eval y) : Sem Value).run E.P w = .ok val w ∧ relV E.P C w h (.d d) val) → Ran E.P C w h (execOp a.eval o) (.d d) := by
    rintro ⟨val, h1, h2⟩
    refine .same S (val := val) ?_ h2
    simp only [execOp, ho]
    rw [Sem.run_bind, h1]; simp
  refine fin ?_
  generalize hX : a.eval x = vx at rx ⊢
  generalize hY : a.eval y = vy at ry ⊢
  unfold binA at hb
  split at hb
  · rename_i k p k' q h1 h2
    rw [h1, relV_int] at rx; rw [h2, relV_int] at ry
    subst rx; subst ry
    split at hb
    · obtain ⟨val, g1, g2⟩ := shiftInt_run (P := E.P) (C := C) (w := w) (h := h) (t := t) (k' := k') hb (.inl rfl)
      exact ⟨val, by simp [eqGuard, g1], g2⟩
    · obtain ⟨val, g1, g2⟩ := shiftInt_run (P := E.P) (C := C) (w := w) (h := h) (t := t) (k' := k') hb (.inr rfl)
      exact ⟨val, by simp [eqGuard, g1], g2⟩
    · rename_i n1 n2
      split at hb
      · rename_i hk; subst hk
        obtain ⟨val, g1, g2⟩ := binInt_run (P := E.P) (C := C) (w := w) (h := h) (t := t) hb (fun e => n1 e) (fun e => n2 e)
        exact ⟨val, by rw [Sem.run_bind, eqGuard_scalar (by simp) (by simp)]; simpa using g1, g2⟩
      · cases hb
  · rename_i p q h1 h2
    rw [h1, relV_str] at rx; rw [h2, relV_str] at ry
    subst rx; subst ry
    obtain ⟨val, g1, g2⟩ := binStr_run (P := E.P) (C := C) (w := w) (h := h) (t := t) hb
    exact ⟨val, by rw [Sem.run_bind, eqGuard_scalar (by simp) (by simp)]; simpa using g1, g2⟩
  · rename_i p q h1 h2
    rw [h1, relV_bool] at rx; rw [h2, relV_bool] at ry
    subst rx; subst ry
    split at hb
    · rename_i ht
      obtain ⟨dd, k1, k2⟩ := oneB_desc ht
      have hu : E.P.underlying t = some .bool := by cases dd <;> simp [isBool] at k2; exact k1
      exact eqR_run hb (eqGuard_scalar (by simp) (by simp)) (bin_of_equal (by rfl) (by rfl) (run_equal_bool w t p q hu))
    · cases hb
  · rename_i h1 h2
    rw [h1] at rx; rw [h2] at ry
    have rx := relV_null rx; have ry := relV_null ry
    subst rx; subst ry
    split at hb
    · rename_i ht
      have hu := oneB_ptr ht
      exact eqR_run hb (eqGuard_scalar (by simp) (by simp)) (bin_of_equal (by rfl) (by rfl) (run_equalIn_pointer_nil w 9999 t none hu))
    · cases hb
  · rename_i id p h1 h2
    rw [h1] at rx; rw [h2] at ry
    obtain ⟨_, _, off, _, _, _, rx⟩ := relV_ptr rx
    have ry := relV_null ry
    subst rx; subst ry
    split at hb
    · rename_i ht
      have hu := oneB_ptr ht
      exact eqR_run hb (eqGuard_scalar (by simp) (by simp)) (bin_of_equal (by rfl) (by rfl) (run_equalIn_pointer_nil w 9999 t (some _) hu))
    · cases hb
  · rename_i e h1 h2
    rw [h1] at rx; rw [h2] at ry
    simp only [relV, relV1] at rx ry
    obtain ⟨ad, cap, rx, _⟩ := rx
    subst rx; subst ry
    split at hb
    · rename_i ht
      have hu := oneB_sl ht
      exact eqR_run hb (eqGuard_scalar (by simp) (by simp)) (bin_of_equal (by rfl) (by rfl) (run_equal_slice_nil w t _ (some _) 0 _ hu))
    · cases hb
  · rename_i h1 h2
    rw [h1] at rx; rw [h2] at ry
    simp only [relV, relV1] at rx ry
    subst rx; subst ry
    split at hb
    · rename_i ht
      obtain ⟨dd, k1, k2⟩ := oneB_desc ht
      obtain ⟨e, hu⟩ : ∃ e, E.P.underlying t = some (.slice e) := by cases dd <;> simp [isAnySl] at k2; exact ⟨_, k1⟩
      exact eqR_run hb (eqGuard_scalar (by simp) (by simp)) (bin_of_equal (by rfl) (by rfl) (run_equal_slice_nil w t _ none 0 0 hu))
    · cases hb
  · rename_i e z zs h1 h2
    rw [h1] at rx; rw [h2] at ry
    simp only [relV, relV1] at ry
    obtain ⟨ad, len, cap, rx, q1, q2, q3, q4, q5⟩ := relV_list rx
    obtain ⟨b, off, rfl, _⟩ := q5 (by simp)
    subst rx; subst ry
    split at hb
    · rename_i ht
      have hu := oneB_sl ht
      exact eqR_run hb (eqGuard_scalar (by simp) (by simp)) (bin_of_equal (by rfl) (by rfl) (run_equal_slice_nil w t _ (some _) _ _ hu))
    · cases hb
  · split at hb
    · rename_i u p u' q h1 h2
      split at hb
      · rename_i hc
        obtain ⟨c1, rfl, c3, c4, c5⟩ := hc
        obtain ⟨r1, cs1, rfl⟩ := plain_agg_val h1 rx
        obtain ⟨r2, cs2, rfl⟩ := plain_agg_val h2 ry
        have hr := eqDs_run (w := w) c1 c3 r1 r2 c4 c5
        have hg : E.P.eqGuardType E.P.depth t = false := by simp [eqT] at c3; exact c3.2
        exact eqR_run hb (run_eqGuard_agg w op t x y cs1 cs2 hg) (bin_of_equal (by rfl) (by rfl) hr)
      · cases hb
    · cases hb

theorem ran_ifc {op : BinOp} {t ty : TypeId} {x : Operand} {b : Bool} {d : DV} (S : Sim E.P C h w) (ho : o.op = .binOp op t x (.const .nilIface) ty) (T : Told E C w h o a ev) (hx : ev x = .ifc b) (ht : oneB E.P t isIface = true) (hq : eqR op (!b) = some d) :
    Ran E.P C w h (execOp a.eval o) (.d d) := by
  have rx := T x (by simp [ho, Op.operands])
  rw [hx] at rx
  simp only [relV, relV1] at rx
  obtain ⟨dd, k1, k2⟩ := oneB_desc ht
  have hu : E.P.underlying t = some (.interface (E.P.methodsAt t)) := by
    cases dd <;> simp [isIface] at k2
    rw [k1]; simp [Program.methodsAt, k1]
  have fin : (∃ val, (do eqGuard op t x (.const .nilIface) (a.eval x) (a.eval (.const .nilIface)); binOp op t (a.eval x) (a.eval (.const .nilIface)) : Sem Value).run E.P w = .ok val w ∧ relV E.P C w h (.d d) val) → Ran E.P C w h (execOp a.eval o) (.d d) := by
    rintro ⟨val, h1, h2⟩
    refine .same S (val := val) ?_ h2
    simp only [execOp, ho]
    rw [Sem.run_bind, h1]; simp
  refine fin ?_
  cases b with
  | false =>
    rw [rx.1 rfl]
    refine eqR_run hq ?_ (bin_of_equal (by rfl) (by rfl) (run_equal_nil_nil w t hu))
    rcases eqR_op hq with rfl | rfl <;> simp [eqGuard, Act.eval]
  | true =>
    obtain ⟨u, z, e⟩ := rx.2 rfl
    rw [e]
    exact eqR_run hq (eqGuard_scalar (by simp) (by simp)) (bin_of_equal (by rfl) (by rfl) (run_equal_held_nil w t u z hu))

end
end Go.Tith

namespace Go.Tith

section
variable {E : Env} {C C' : Con} {w w' : World} {h h' : Heap} {o : Oper} {a : Act} {ev : Operand → AV} {v : AV}

theorem bytesOf_ints : ∀ {xs : List DV} {l : List UInt8}, bytesOf xs = some l → ∃ ns : List Int, xs = ns.map (DV.int .u8) ∧ l = ns.map (fun n => UInt8.ofNat n.toNat)
  | [], l, hb => by simp [bytesOf] at hb; subst hb; exact ⟨[], rfl, rfl⟩
  | x :: xs, l, hb => by
    unfold bytesOf at hb
    split at hb
    · rename_i heq; cases heq
    · rename_i n xs' heq
      cases heq
      simp only [Option.map_eq_some_iff] at hb
      obtain ⟨l', h1, rfl⟩ := hb
      obtain ⟨ns, rfl, rfl⟩ := bytesOf_ints h1
      exact ⟨n :: ns, rfl, rfl⟩
    · cases hb

theorem relRow_ints {P : Program} {e : TypeId} (h1 : P.cellsOf e = 1) : ∀ {ns : List Int} {b o : Nat}, relRow P C w e (ns.map (DV.int .u8)) b o → ∀ i, i < ns.length → w.cell? ⟨b, o + i, none⟩ = some (.int .u8 (ns.getD i 0)) := by
  intro ns b o r i hi
  obtain ⟨c, k1, k2, k3, k4⟩ := relRow_get i r (d := .int .u8 ns[i]) (by simp [hi])
  simp only [relD] at k1
  subst k1
  have := (k4 0 _ rfl).2
  rw [h1, Nat.mul_one, Nat.add_zero] at this
  simpa [hi] using this

theorem oneB_u8 {P : Program} {e : TypeId} (he : oneB P e (isInt .u8) = true) : P.underlying e = some (.int .u8) := by
  obtain ⟨d, h1, h2⟩ := oneB_desc he
  cases d <;> simp [isInt] at h2
  rw [h1, h2]

theorem relRow_bytes {P : Program} {e : TypeId} {b : Nat} (he : oneB P e (isInt .u8) = true) (hk : C.K b = .fz) : ∀ (l : List UInt8) (o : Nat), (∀ j (hj : j < l.length), w.cell? ⟨b, o + j, none⟩ = some (.int .u8 l[j].toNat)) → relRow P C w e (ofBytes l) b o
  | [], o, _ => by simp [ofBytes, relRow]
  | x :: l, o, hc => by
    simp only [ofBytes, List.map_cons, relRow]
    refine ⟨⟨[.int .u8 x.toNat], by simp [relD], by simpa [fitsD] using he, by simp [oneB_size he], fun j v hj => ?_⟩, ?_⟩
    · have hj0 : j = 0 := by have := (List.getElem?_eq_some_iff.1 hj).1; simpa using this
      subst hj0
      simp at hj; subst hj
      exact ⟨by simp [Con.fixed, hk, Blk.fixed], hc 0 (by simp)⟩
    · rw [oneB_size he]
      refine relRow_bytes he hk l (o + 1) fun j hj => ?_
      have := hc (j + 1) (by simp; omega)
      rw [show o + 1 + j = o + (j + 1) by omega]
      simpa using this

theorem ran_convert {s t : TypeId} {x : Operand} {d : DV} (S : Sim E.P C h w) (ho : o.op = .convert s t x) (T : Told E C w h o a ev) (hb : convA E.P s t (ev x) = some d) : Ran E.P C w h (execOp a.eval o) (.d d) := by
  have rx := T x (by simp [ho, Op.operands])
  have fin : ∀ {val : Value}, (convert s t (a.eval x)).run E.P w = .ok val w → relV E.P C w h (.d d) val → Ran E.P C w h (execOp a.eval o) (.d d) := fun h1 h2 =>
    .same S (by simp [execOp, ho, h1]) h2
  generalize hX : a.eval x = vx at rx fin
  unfold convA at hb
  split at hb
  · rename_i k n h1
    rw [h1, relV_int] at rx; subst rx
    split at hb
    · rename_i k1 k2 hu1 hu2
      simp only [Option.some.injEq] at hb; subst hb
      exact fin (by simp [convert, run_underlying hu1, run_underlying hu2, Conv.intToInt]) (relV_int.2 rfl)
    · cases hb
  · rename_i str h1
    rw [h1, relV_str] at rx; subst rx
    split at hb
    · rename_i hu1 hu2
      simp only [Option.some.injEq] at hb; subst hb
      exact fin (by simp [convert, run_underlying hu1, run_underlying hu2]) (relV_str.2 rfl)
    · rename_i e hu1 hu2
      split at hb
      · rename_i hc
        simp only [Option.some.injEq] at hb; subst hb
        have he := oneB_u8 hc.1
        have hr := Lib.run_convert_string_bytes w s t e str hu1 hu2 he
        have hsz := Lib.bytesWorld_size w e str
        have hold := fun b (hb : b < w.heap.size) => Lib.bytesWorld_at_old w e str b hb
        have st : Step C w h (C.setK w.heap.size .fz) (Lib.bytesWorld w e str) h := new_step (w' := Lib.bytesWorld w e str) S rfl rfl rfl hsz hold h rfl (fun _ _ hF => hF)
        refine ⟨_, _, .slice (some ⟨w.heap.size, 0, none⟩) str.size (grownCap w str.size 0 e), by simp [execOp, ho, hX, hr], st, new_sim S st hsz hold rfl (by simp) (fun _ _ hF => hF), ?_⟩
        simp only [relV, relV1, DV.isAgg, Bool.false_eq_true, if_false, relD]
        refine ⟨_, _, _, rfl, by simp [ofBytes], grownCap_ge w _ _ _, grownCap_le_maxLen w _ _ _ (by simp [maxLen]; omega), by simp, fun _ => ⟨w.heap.size, 0, rfl, ?_⟩⟩
        refine relRow_bytes hc.1 setK_same _ 0 fun j hj => ?_
        have hj' : j < str.size := by simpa using hj
        have := Lib.bytesWorld_cell w e str j hj'
        rw [Nat.zero_add, this]
        simp [List.getD, hj']
      · cases hb
    · cases hb
  · split at hb
    · rename_i e' xs hp
      split at hb
      · rename_i e hu1 hu2
        split at hb
        · rename_i hc
          obtain ⟨hc1, rfl⟩ := hc
          simp only [Option.map_eq_some_iff] at hb
          obtain ⟨l, h1, rfl⟩ := hb
          obtain ⟨ns, rfl, rfl⟩ := bytesOf_ints h1
          have he := oneB_u8 hc1
          obtain ⟨ad, len, cap, rfl, g2, g3, g4, g5, g6⟩ := relV_list (h := h) (show relV E.P C w h (.d (.list e' (ns.map (DV.int .u8)))) vx from plainD_relV (h' := h) hp rx)
          simp only [List.length_map] at g2
          subst g2
          have hstr : (⟨(ns.map fun n => UInt8.ofNat n.toNat).toArray⟩ : ByteArray) = strOfNums ns := rfl
          by_cases hne : ns = []
          · subst hne
            cases ad with
            | none => exact fin (run_convert_bytes_nil w s e' hu1 he _ _ t hu2) (relV_str.2 rfl)
            | some ad =>
              refine fin (val := .string ⟨#[]⟩) ?_ (relV_str.2 rfl)
              rw [run_convert_bytes_string w s t e' _ _ _ hu1 he hu2]
              rw [run_bytesToString w ad ([] : List Int).length cap [] (by simp [loadCells, loadCellsFrom])]
              rfl
          · obtain ⟨b, off, rfl, hr⟩ := g6 (by simpa using hne)
            rw [hstr]
            exact fin (run_convert_bytes_arg w s e' hu1 he b off ns.length cap ns rfl (relRow_ints (oneB_size hc1) hr) t hu2) (relV_str.2 rfl)
        · cases hb
      · cases hb
    · cases hb

theorem ran_len {x : Operand} {t : TypeId} {c : Call} {n : Nat} (S : Sim E.P C h w) (ho : o.op = .call c) (hc : c.callee = .builtin .len) (has : c.args = #[x]) (hts : c.argTypes = #[t]) (T : Told E C w h o a ev)
    (hn : (∃ s, ev x = .d (.str s) ∧ n = s.size ∧ oneB E.P t isStr = true) ∨ (∃ e xs, plainD (ev x) = some (.list e xs) ∧ n = xs.length ∧ oneB E.P t isAnySl = true) ∨ (∃ id p off, ev x = .sl id p off n ∧ oneB E.P t isAnySl = true) ∨ (ev x = .nils ∧ n = 0 ∧ oneB E.P t isAnySl = true)) :
    Ran E.P C w h (execOp a.eval o) (.d (.int .i64 n)) := by
  have rx := T x (by simp [ho, Op.operands, Call.operands, hc, has])
  have sl : oneB E.P t isAnySl = true → ∃ e, E.P.underlying t = some (.slice e) := by
    intro ht
    obtain ⟨dd, k1, k2⟩ := oneB_desc ht
    cases dd <;> simp [isAnySl] at k2
    exact ⟨_, k1⟩
  refine .same S (val := .int .i64 n) ?_ (relV_int.2 rfl)
  rcases hn with ⟨s, h1, rfl, ht⟩ | ⟨e, xs, h1, rfl, ht⟩ | ⟨id, p, off, h1, ht⟩ | ⟨h1, rfl, ht⟩
  · rw [h1, relV_str] at rx
    simp [execOp, ho, resolve, hc, has, hts, invoke, builtin, Builtin.len_, rx, run_underlying (oneB_str ht), goInt]
  · obtain ⟨ad, len, cap, g1, g2, _⟩ := relV_list (h := h) (show relV E.P C w h (.d (.list e xs)) (a.eval x) from plainD_relV (h' := h) h1 rx)
    obtain ⟨e0, hu⟩ := sl ht
    simp [execOp, ho, resolve, hc, has, hts, invoke, builtin, Builtin.len_, g1, g2, run_underlying hu, goInt]
  · rw [h1] at rx
    simp only [relV, relV1, relC] at rx
    obtain ⟨_, _, _, _, _, _, _, _, _, _, _, _, _, g1⟩ := rx
    simp at g1
    obtain ⟨e0, hu⟩ := sl ht
    simp [execOp, ho, resolve, hc, has, hts, invoke, builtin, Builtin.len_, g1, run_underlying hu, goInt]
  · rw [h1] at rx
    simp only [relV, relV1] at rx
    obtain ⟨e0, hu⟩ := sl ht
    simp [execOp, ho, resolve, hc, has, hts, invoke, builtin, Builtin.len_, rx, run_underlying hu, goInt]

theorem ran_min {x y : Operand} {c : Call} {k k' : IntKind} {p q : Int} (S : Sim E.P C h w) (ho : o.op = .call c) (hc : c.callee = .builtin .min) (has : c.args = #[x, y]) (T : Told E C w h o a ev)
    (hx : ev x = .d (.int k p)) (hy : ev y = .d (.int k' q)) : Ran E.P C w h (execOp a.eval o) (.d (.int k (if q < p then q else p))) := by
  have rx := T x (by simp [ho, Op.operands, Call.operands, hc, has])
  have ry := T y (by simp [ho, Op.operands, Call.operands, hc, has])
  rw [hx, relV_int] at rx; rw [hy, relV_int] at ry
  exact .same S (by simp [execOp, ho, resolve, hc, has, invoke, builtin, Builtin.min_, Builtin.min2, rx, ry]) (relV_int.2 rfl)

theorem ran_max {x y : Operand} {c : Call} {k k' : IntKind} {p q : Int} (S : Sim E.P C h w) (ho : o.op = .call c) (hc : c.callee = .builtin .max) (has : c.args = #[x, y]) (T : Told E C w h o a ev)
    (hx : ev x = .d (.int k p)) (hy : ev y = .d (.int k' q)) : Ran E.P C w h (execOp a.eval o) (.d (.int k (if q > p then q else p))) := by
  have rx := T x (by simp [ho, Op.operands, Call.operands, hc, has])
  have ry := T y (by simp [ho, Op.operands, Call.operands, hc, has])
  rw [hx, relV_int] at rx; rw [hy, relV_int] at ry
  exact .same S (by simp [execOp, ho, resolve, hc, has, invoke, builtin, Builtin.max_, Builtin.max2, rx, ry]) (relV_int.2 rfl)

end
end Go.Tith

namespace Go.Tith

section
variable {E : Env} {C C' : Con} {w w' : World} {h h' : Heap} {o : Oper} {a : Act} {ev : Operand → AV} {v : AV}

/-- What an operation leads to. -/
def OpGoes (E : Env) (C : Con) (w : World) (h : Heap) (o : Oper) (a : Act) (v : AV) (h' : Heap) : Prop :=
  ∀ (K : Act → World → Prop) (Q : Exit → Act → World → Prop), (∀ C' w' val, Step C w h C' w' h' → Sim E.P C' h' w' → relV E.P C' w' h' v val → K (a.put o.dst val) w') → o.wp E.P a w K Q

theorem Ran.goes (r : Ran E.P C w h (execOp a.eval o) v) : OpGoes E C w h o a v h := by
  intro K Q hK
  obtain ⟨C', w', val, h1, h2, h3, h4⟩ := r
  unfold Oper.wp
  rw [h1]
  exact hK C' w' val h2 h3 h4

theorem noSlA_coe {P : Program} {t : TypeId} {x : AV} : noSlA (coe P t x) = noSlA x := by
  cases x <;> simp only [coe]
  split <;> rfl

theorem view_mono (C : Con) (w : World) : Keeps (C.view false) w (C.view true) w := by
  intro b o v hf hv
  refine ⟨?_, hv⟩
  simp only [Con.fixed, Con.view] at hf ⊢
  cases hb : C.K b <;> simp_all [Blk.fixed]

theorem relV1_d_keeps {P : Program} (k : Keeps C w C' w') {x : DV} {v : Value} (r : relV1 P C w hNil (.d x) v) : relV1 P C' w' hNil (.d x) v := by
  simp only [relV1] at r ⊢
  split
  · rename_i hx; rw [if_pos hx] at r; obtain ⟨c, h1, h2⟩ := r; exact ⟨c, h1, relD_mono k h2⟩
  · rename_i hx; rw [if_neg hx] at r; exact relD_mono k r

theorem args_told (S : Sim E.P C h w) {fb : Bool} : ∀ {avs : List Operand} {ts : List TypeId} {ds : List DV}, (∀ x ∈ avs, relV E.P C w h (ev x) (a.eval x)) → ts.length = avs.length →
    (List.zipWith (fun t a => coe E.P t (ev a)) ts avs).mapM (viewD E.P h) = some ds → (fb = false → (avs.all fun a => noSlA (ev a)) = true) → relVs E.P (C.view fb) w hNil (ds.map .d) (avs.map a.eval)
  | [], ts, ds, _, hl, hm, _ => by
    simp at hm; subst hm; simp [relVs]
  | x :: avs, [], ds, _, hl, hm, _ => by simp at hl
  | x :: avs, t :: ts, ds, T, hl, hm, hfb => by
    simp only [List.zipWith_cons_cons, List.mapM_cons, Option.bind_eq_bind, Option.bind_eq_some_iff, Option.pure_def, Option.some.injEq] at hm
    obtain ⟨d, h1, ds', h2, rfl⟩ := hm
    simp only [List.map_cons, relVs]
    refine ⟨_, _, rfl, ?_, args_told S (fun y hy => T y (by simp [hy])) (by simpa using hl) h2 (fun hf => by have := hfb hf; simp at this; simpa using this.2)⟩
    have r := viewD_relV S h1 (coe_rel (P := E.P) (t := t) (T x (by simp)))
    rw [noSlA_coe] at r
    cases hn : noSlA (ev x) with
    | true =>
      rw [hn] at r
      cases fb with
      | false => exact r
      | true => exact relV1_d_keeps (view_mono C w) r
    | false =>
      rw [hn] at r
      cases fb with
      | false => have := hfb rfl; simp [hn] at this
      | true => exact r

theorem wp_call {f : FuncId} {P : Program} {c : Call} {fv : Operand} {caps : List Value} {R : Ending → World → Prop} {K : Act → World → Prop} {Q : Exit → Act → World → Prop} (en : Enterable P f) (ho : o.op = .call c) (hc : c.callee = .value fv)
    (hf : a.eval fv = .func (.func f) #[] caps.toArray) (hcalls : Calls P f ((c.args.toList.map a.eval) ++ caps).toArray w R) (hK : ∀ e w', R e w' → ∃ v, e = .returned v ∧ K (a.put o.dst v) w') : o.wp P a w K Q := by
  obtain ⟨fn, h1, h2, h3⟩ := en
  unfold Oper.wp
  have hargs : c.args.map a.eval ++ caps.toArray = ((c.args.toList.map a.eval) ++ caps).toArray := by
    apply Array.ext'; simp
  have hrun : (execOp a.eval o).run P w = .ok (.enter f ((c.args.toList.map a.eval) ++ caps).toArray) w := by
    simp only [execOp, ho, resolve, hc, hf, Deferred.ofValue]
    simp only [Sem.run_bind, Sem.run_pure, Result.andThen_ok, invoke, callFunc, run_program, h1, h2, h3, Array.empty_append, Bool.false_eq_true, if_false, hargs]
  rw [hrun, Oper.upon_enter]
  refine hcalls.mono fun e w' hR => ?_
  obtain ⟨v, rfl, hk⟩ := hK e w' hR
  exact hk

theorem goes_pure_call {c : Call} {fv : Operand} {f : FuncId} {s : List DV → Option (List DV)} {ds r : List DV} (S : Sim E.P C h w) (G : GOK E.P E.G C w) (ho : o.op = .call c) (hc : c.callee = .value fv) (T : Told E C w h o a ev)
    (hf : ev fv = .fn f []) (en : Enterable E.P f) (m : PureMeets E.P E.G f s) (hl : c.argTypes.toList.length = c.args.toList.length)
    (hd : (List.zipWith (fun t a => coe E.P t (ev a)) c.argTypes.toList c.args.toList).mapM (viewD E.P h) = some ds) (hs : s ds = some r)
    (hsl : (c.args.toList.all fun a => noSlA (ev a)) = true ∨ noLsts r = true) : OpGoes E C w h o a (resA r) h := by
  intro K Q hK
  have rf := T fv (by simp [ho, Op.operands, Call.operands, hc])
  rw [hf] at rf
  simp only [relV, relV1, relC, relOnes] at rf
  obtain ⟨vs, h1, rfl⟩ := rf
  simp at h1
  have Ta : ∀ x ∈ c.args.toList, relV E.P C w h (ev x) (a.eval x) := fun x hx => T x (by
    simp only [ho, Op.operands, Call.operands]
    simp; exact .inr (by simpa using hx))
  have key : ∀ fb, (fb = false → (c.args.toList.all fun a => noSlA (ev a)) = true) → (fb = false ∨ noLsts r = true) → o.wp E.P a w K Q := by
    intro fb hfb hn
    have ha := args_told (a := a) S (fb := fb) Ta hl hd hfb
    have hcall := call_pure m S G fb ha hs hn
    refine wp_call (caps := []) en ho hc (by simpa using h1) (by simpa using hcall) ?_
    rintro e w' ⟨C', v, rfl, hr, st, S'⟩
    exact ⟨v, rfl, hK C' w' v st S' hr⟩
  rcases hsl with q | q
  · exact key false (fun _ => q) (.inl rfl)
  · by_cases q' : (c.args.toList.all fun a => noSlA (ev a)) = true
    · exact key false (fun _ => q') (.inl rfl)
    · exact key true (by simp) (.inr q)

theorem pop_goes (S : Sim E.P C h w) (SO : SOK E) (G : GOK E.P E.G C w) {g : Bool} (hg : g = true) (T : Told E C w h o a ev) (hp : pop E g h ev o = some v) : OpGoes E C w h o a v h := by
  subst hg
  unfold pop at hp
  split at hp
  · rename_i x ho
    simp only [gdA_eq, Option.some.injEq] at hp; subst hp
    exact (ran_move S ho T).goes
  · rename_i x ho
    simp only [Option.some.injEq] at hp; subst hp
    exact (ran_assign S ho T).goes
  · rename_i c x y ho
    split at hp
    · rename_i t hc; exact (ran_pick S ho T hc hp).goes
    · cases hp
  · rename_i op t x y ty ho
    split at hp
    · rename_i b hx
      split at hp
      · rename_i ht
        simp only [Option.map_eq_some_iff] at hp
        obtain ⟨d, hb, rfl⟩ := hp
        exact (ran_ifc S ho T hx ht hb).goes
      · cases hp
    · simp only [Option.map_eq_some_iff] at hp
      obtain ⟨d, hb, rfl⟩ := hp
      exact (ran_binOp S ho T hb).goes
  · rename_i op t x ho
    simp only [Option.map_eq_some_iff] at hp
    obtain ⟨d, hb, rfl⟩ := hp
    exact (ran_unOp S ho T hb).goes
  · rename_i s t x ho
    simp only [Option.map_eq_some_iff] at hp
    obtain ⟨d, hb, rfl⟩ := hp
    exact (ran_convert S ho T hb).goes
  · rename_i x ho
    split at hp
    · rename_i hx; simp only [Option.some.injEq] at hp; subst hp; exact (ran_nilCheck S ho T hx).goes
    · cases hp
  · rename_i t x f ho
    split at hp
    · rename_i fs hu
      split at hp
      · rename_i u gs hparts
        split at hp
        · rename_i hid; exact (ran_field S ho T hu hparts hid hp).goes
        · cases hp
      · cases hp
    · cases hp
  · rename_i x i ho
    split at hp
    · rename_i vs hx; exact (ran_extract S ho T hx hp).goes
    · cases hp
  · rename_i t x i ho
    split at hp
    · rename_i s k n h1 h2
      split at hp
      · rename_i hc
        simp only [Option.map_eq_some_iff] at hp
        obtain ⟨b, hb, rfl⟩ := hp
        exact (ran_index_str S ho T h1 h2 hc.2 hc.1 hb).goes
      · cases hp
    · rename_i u xs k n h1 h2
      split at hp
      · rename_i m e hu
        split at hp
        · rename_i hc
          simp only [Option.map_eq_some_iff] at hp
          obtain ⟨b, hb, rfl⟩ := hp
          exact (ran_index_agg S ho T h1 h2 hu hc.1 hc.2.1 hc.2.2 hb).goes
        · cases hp
      · cases hp
    · cases hp
  · rename_i t x i ho
    split at hp
    · rename_i k n h2
      unfold indexAddrA at hp
      split at hp
      · rename_i k' e xs hx
        split at hp
        · rename_i ht
          simp only [Option.map_eq_some_iff] at hp
          obtain ⟨y, hy, rfl⟩ := hp
          have rx := T x (by simp [ho, Op.operands])
          rw [hx] at rx
          exact (ran_indexAddr_list S ho T (lst_list rx) h2 ht hy).goes
        · cases hp
      · rename_i e xs hx
        split at hp
        · rename_i ht
          simp only [Option.map_eq_some_iff] at hp
          obtain ⟨y, hy, rfl⟩ := hp
          have rx := T x (by simp [ho, Op.operands])
          rw [hx] at rx
          exact (ran_indexAddr_list S ho T rx h2 ht hy).goes
        · cases hp
      · rename_i id path off len hx
        split at hp
        · rename_i t' hty
          split at hp
          · rename_i m e hu
            split at hp
            · rename_i hc
              simp only [Option.some.injEq] at hp; subst hp
              exact (ran_indexAddr_sl S ho T hx h2 hty hu hc.1 hc.2.1 hc.2.2.1 hc.2.2.2.1 (cellsOf_info hc.2.2.2.2)).goes
            · cases hp
          · cases hp
        · cases hp
      · rename_i id path hx
        split at hp
        · rename_i m e hu
          split at hp
          · rename_i hc
            simp only [Option.some.injEq] at hp; subst hp
            exact (ran_indexAddr_ptr S ho T hx h2 hc.2.2.1 hu hc.1 hc.2.1 (cellsOf_info hc.2.2.2.2) hc.2.2.2.1).goes
          · cases hp
        · cases hp
      · rename_i t' u xs hx
        split at hp
        · rename_i m e hu
          split at hp
          · rename_i hc
            simp only [Option.map_eq_some_iff] at hp
            obtain ⟨y, hy, rfl⟩ := hp
            obtain ⟨rfl, c2, c3⟩ := hc
            exact (ran_indexAddr_ro S ho T hx h2 hu c2 c3 hy).goes
          · cases hp
        · cases hp
      · cases hp
    · cases hp
  · rename_i t x f ho
    split at hp
    · rename_i fs hu
      split at hp
      · rename_i fd hfd
        split at hp
        · cases hp
        · rename_i hz
          split at hp
          · rename_i id path hx
            split at hp
            · rename_i hc
              simp only [Option.some.injEq] at hp; subst hp
              exact (ran_fieldAddr_ptr S ho T hu hfd hz hx hc.1 hc.2).goes
            · cases hp
          · rename_i t' u xs hx
            split at hp
            · rename_i hc
              subst hc
              simp only [Option.map_eq_some_iff] at hp
              obtain ⟨y, hy, rfl⟩ := hp
              exact (ran_fieldAddr_ro S ho T hu hfd hz hx hy).goes
            · cases hp
          · cases hp
      · cases hp
    · cases hp
  · rename_i t x ho
    split at hp
    · rename_i id path hx
      split at hp
      · rename_i bt bc hb
        split at hp
        · rename_i v' t' hg
          split at hp
          · rename_i ht
            subst ht
            simp only [Option.some.injEq] at hp; subst hp
            exact (ran_load_ptr S ho T hx hb hg).goes
          · cases hp
        · cases hp
      · cases hp
    · rename_i t' y hx
      split at hp
      · rename_i ht
        subst ht
        simp only [Option.some.injEq] at hp; subst hp
        exact (ran_load_ro S ho T hx).goes
      · cases hp
    · cases hp
  · rename_i t x lo hi mx ho
    split at hp
    · rename_i l u m hl hu hm
      unfold sliceA at hp
      split at hp
      · cases hp
      · split at hp
        · rename_i s hx
          simp only at hp
          split at hp
          · rename_i hc
            simp only [Option.some.injEq] at hp; subst hp
            exact (ran_slice_str S ho T hx hl hu hm hc.2.2.2 hc.1 hc.2.1 hc.2.2.1).goes
          · cases hp
        · rename_i k e xs hx
          simp only at hp
          split at hp
          · rename_i hc
            simp only [Option.some.injEq] at hp; subst hp
            have rx := T x (by simp [ho, Op.operands])
            rw [hx] at rx
            exact (ran_slice_list S ho T (lst_list rx) hl hu hm hc.2.2.2.1 hc.1 hc.2.1 hc.2.2.1 hc.2.2.2.2).goes
          · cases hp
        · rename_i e xs hx
          simp only at hp
          split at hp
          · rename_i hc
            simp only [Option.some.injEq] at hp; subst hp
            have rx := T x (by simp [ho, Op.operands])
            rw [hx] at rx
            exact (ran_slice_list S ho T rx hl hu hm hc.2.2.2.1 hc.1 hc.2.1 hc.2.2.1 hc.2.2.2.2).goes
          · cases hp
        · rename_i id path hx
          split at hp
          · rename_i hty
            split at hp
            · rename_i n e ha
              simp only at hp
              split at hp
              · rename_i hc
                simp only [Option.some.injEq] at hp; subst hp
                exact (ran_slice_ptr S ho T hx hty hl hu hm ha hc.1 hc.2.1 hc.2.2.1 hc.2.2.2.1 hc.2.2.2.2.1 (cellsOf_info hc.2.2.2.2.2)).goes
              · cases hp
            · cases hp
          · cases hp
        · cases hp
    · cases hp
  · rename_i t ps ho
    exact (ran_build S ho T hp).goes
  · rename_i t n ps ho
    split at hp
    · rename_i e hu
      split at hp
      · rename_i xs z hm hz
        split at hp
        · rename_i hc
          simp only [Option.some.injEq] at hp; subst hp
          exact (ran_buildSlice S ho T hu hm hz hc.1 hc.2.1 (by have := hc.2.2.1; rw [List.all_eq_true] at this; exact this) hc.2.2.2).goes
        · cases hp
      · cases hp
    · cases hp
  · rename_i f first caps ho
    split at hp
    · rename_i hc
      simp only [Option.some.injEq] at hp; subst hp
      refine (ran_makeFunc S ho T hc.1 fun x hx => ?_).goes
      have := List.all_eq_true.1 hc.2 x hx
      cases hq : ev x with
      | ptr id p => exact ⟨id, p, rfl⟩
      | _ => simp [hq, AV.isBox] at this
    · cases hp
  · rename_i c ho
    split at hp
    · rename_i x t hcal has hts
      have has' : c.args = #[x] := by apply Array.ext'; simpa using has
      have hts' : c.argTypes = #[t] := by apply Array.ext'; simpa using hts
      split at hp
      · rename_i s hx
        split at hp
        · rename_i ht; simp only [Option.some.injEq] at hp; subst hp
          exact (ran_len S ho hcal has' hts' T (.inl ⟨s, hx, rfl, ht⟩)).goes
        · cases hp
      · rename_i k e xs hx
        split at hp
        · rename_i ht; simp only [Option.some.injEq] at hp; subst hp
          exact (ran_len S ho hcal has' hts' T (.inr (.inl ⟨e, xs, by rw [hx]; rfl, rfl, ht⟩))).goes
        · cases hp
      · rename_i e xs hx
        split at hp
        · rename_i ht; simp only [Option.some.injEq] at hp; subst hp
          exact (ran_len S ho hcal has' hts' T (.inr (.inl ⟨e, xs, by rw [hx]; rfl, rfl, ht⟩))).goes
        · cases hp
      · rename_i id p off n hx
        split at hp
        · rename_i ht; simp only [Option.some.injEq] at hp; subst hp
          exact (ran_len S ho hcal has' hts' T (.inr (.inr (.inl ⟨id, p, off, hx, ht⟩)))).goes
        · cases hp
      · rename_i hx
        split at hp
        · rename_i ht; simp only [Option.some.injEq] at hp; subst hp
          exact (ran_len (n := 0) S ho hcal has' hts' T (.inr (.inr (.inr ⟨hx, rfl, ht⟩)))).goes
        · cases hp
      · cases hp
    · rename_i x y hcal has
      have has' : c.args = #[x, y] := by apply Array.ext'; simpa using has
      split at hp
      · rename_i k p k' q hx hy
        simp only [Option.some.injEq] at hp; subst hp
        exact (ran_min S ho hcal has' T hx hy).goes
      · cases hp
    · rename_i x y hcal has
      have has' : c.args = #[x, y] := by apply Array.ext'; simpa using has
      split at hp
      · rename_i k p k' q hx hy
        simp only [Option.some.injEq] at hp; subst hp
        exact (ran_max S ho hcal has' T hx hy).goes
      · cases hp
    · rename_i hcal
      split at hp
      · rename_i g hf
        split at hp
        · rename_i s hS
          split at hp
          · rename_i ds hd
            split at hp
            · rename_i r hs
              split at hp
              · rename_i hc
                simp only [Option.some.injEq] at hp; subst hp
                have := SO g
                rw [hS] at this
                exact goes_pure_call S G ho hcal T hf this.1 this.2 hc.1 hd hs hc.2
              · cases hp
            · cases hp
          · cases hp
        · cases hp
      · cases hp
    · cases hp
  · cases hp

end
end Go.Tith
