/- Soundness of single operations, part 2; regions. A part of the proof: no condition of mine beyond what each theorem states. -/
import Derived.Test.YtbnffdelhejbiaaGreatDoorMb
import Derived.IntWalk

namespace Go.Tith

section
variable {E : Env} {C C' : Con} {w w' : World} {h h' : Heap} {o : Oper} {a : Act} {ev : Operand → AV} {v : AV}

mutual
theorem relD_one' {P : Program} : ∀ {x : DV} {c : List Value}, relD P C w x c → ∀ v ∈ c, v.oneCell' = true
  | .int _ _, c, r => by simp only [relD] at r; subst r; simp [Value.oneCell']
  | .bool _, c, r => by simp only [relD] at r; subst r; simp [Value.oneCell']
  | .str _, c, r => by simp only [relD] at r; subst r; simp [Value.oneCell']
  | .nil, c, r => by simp only [relD] at r; subst r; simp [Value.oneCell']
  | .any v, c, r => by
    simp only [relD] at r
    obtain ⟨rfl, h2⟩ := r
    cases v <;> simp [ifV] at h2 <;> simp [Value.oneCell']
  | .list _ _, c, r => by simp only [relD] at r; obtain ⟨a, l, cp, rfl, _⟩ := r; simp [Value.oneCell']
  | .agg t fs, c, r => by simp only [relD] at r; exact relDs_one' r.2
theorem relDs_one' {P : Program} : ∀ {xs : List DV} {ts : List TypeId} {c : List Value}, relDs P C w xs ts c → ∀ v ∈ c, v.oneCell' = true
  | [], ts, c, r => by simp only [relDs] at r; rw [r.2]; simp
  | x :: xs, ts, c, r => by
    simp only [relDs] at r
    obtain ⟨t, ts', c1, c2, _, rfl, _, _, k5, k6⟩ := r
    intro v hv
    rcases List.mem_append.1 hv with q | q
    · exact relD_one' k5 v q
    · exact relDs_one' k6 v q
end

mutual
theorem relC_one' {P : Program} : ∀ {x : AV} {c : List Value} {t : TypeId}, fitsA P t x = true → relC P C w h x c → ∀ v ∈ c, v.oneCell' = true
  | .d x, c, t, _, r => by simp only [relC] at r; exact relD_one' r
  | .lst k e xs, c, t, _, r => by simp only [relC] at r; exact relD_one' r.1
  | .agg u fs, c, t, _, r => by simp only [relC] at r; exact relCs_one' r.2
  | .ptr _ _, c, t, _, r => by simp only [relC] at r; obtain ⟨_, _, _, _, _, _, rfl⟩ := r; simp [Value.oneCell']
  | .sl _ _ _ _, c, t, _, r => by simp only [relC] at r; obtain ⟨_, _, _, _, _, _, _, _, _, _, _, _, _, rfl⟩ := r; simp [Value.oneCell']
  | .ro _ _, c, t, _, r => by simp only [relC] at r; obtain ⟨_, _, _, rfl, _⟩ := r; simp [Value.oneCell']
  | .fn _ _, c, t, _, r => by simp only [relC] at r; obtain ⟨_, rfl, _⟩ := r; simp [Value.oneCell']
  | .tup _, _, _, hf, _ => by simp [fitsA] at hf
  | .sel _ _, _, _, hf, _ => by simp [fitsA] at hf
  | .nils, c, t, _, r => by simp only [relC] at r; subst r; simp [Value.oneCell']
  | .ifc b, c, t, _, r => by
    simp only [relC] at r
    cases b with
    | false => rw [r.1 rfl]; simp [Value.oneCell']
    | true => obtain ⟨_, _, e⟩ := r.2 rfl; rw [e]; simp [Value.oneCell']
  | .emp _, c, t, _, r => by simp only [relC] at r; obtain ⟨_, _, rfl, _⟩ := r; simp [Value.oneCell']
  | .bad, _, _, hf, _ => by simp [fitsA] at hf
theorem relCs_one' {P : Program} : ∀ {xs : List AV} {ts : List TypeId} {c : List Value}, relCs P C w h xs ts c → ∀ v ∈ c, v.oneCell' = true
  | [], ts, c, r => by simp only [relCs] at r; rw [r.2]; simp
  | x :: xs, ts, c, r => by
    simp only [relCs] at r
    obtain ⟨t, ts', c1, c2, _, rfl, k3, _, k5, k6⟩ := r
    intro v hv
    rcases List.mem_append.1 hv with q | q
    · exact relC_one' k3 k5 v q
    · exact relCs_one' k6 v q
end

theorem fits_len {P : Program} {x : AV} {t : TypeId} {c : List Value} (hf : fitsA P t x = true) (r : relC P C w h x c) : c.length = P.cellsOf t := by
  by_cases ha : x.isAgg = true
  · cases x with
    | agg u fs => simp only [relC] at r; simp [fitsA] at hf; rw [r.1, hf.1.2]
    | d q => cases q with
      | agg u fs => simp only [relC, relD] at r; simp [fitsA, fitsD] at hf; rw [r.1, hf.1.2]
      | _ => simp [AV.isAgg, DV.isAgg] at ha
    | _ => simp [AV.isAgg] at ha
  · have ha' : x.isAgg = false := by simpa using ha
    obtain ⟨g, hg, _⟩ := fitsA_one hf ha'
    rw [oneB_size hg]
    cases x with
    | agg u fs => simp [AV.isAgg] at ha
    | d q => simp only [relC] at r; obtain ⟨v, rfl⟩ := relD_one r (by simpa [AV.isAgg] using ha'); rfl
    | lst k e xs => simp only [relC] at r; obtain ⟨v, rfl⟩ := relD_one r.1 rfl; rfl
    | ptr _ _ => simp only [relC] at r; obtain ⟨_, _, _, _, _, _, rfl⟩ := r; rfl
    | sl _ _ _ _ => simp only [relC] at r; obtain ⟨_, _, _, _, _, _, _, _, _, _, _, _, _, rfl⟩ := r; rfl
    | ro _ _ => simp only [relC] at r; obtain ⟨_, _, _, rfl, _⟩ := r; rfl
    | fn _ _ => simp only [relC] at r; obtain ⟨_, rfl, _⟩ := r; rfl
    | nils => simp only [relC] at r; subst r; rfl
    | emp _ => simp only [relC] at r; obtain ⟨_, _, rfl, _⟩ := r; rfl
    | ifc b =>
      simp only [relC] at r
      cases b with
      | false => rw [r.1 rfl]; rfl
      | true => obtain ⟨_, _, e⟩ := r.2 rfl; rw [e]; rfl
    | _ => simp [fitsA] at hf

/-! ### a new box -/
def Con.newBox (C : Con) (b id : Nat) : Con := { K := fun k => if k = b then .box id else C.K k, φ := fun i => if i = id then b else C.φ i }

theorem box_step {P : Program} (S : Sim P C h w) {t : TypeId} {z : AV} {cs : Array Value} (hf : fitsA P t z = true) (hr : relC P C w h z cs.toList) :
    Step C w h (C.newBox w.heap.size h.boxes.length) (w.alloc (.cells cs t)) { h with boxes := h.boxes ++ [(t, z)] } ∧
    Sim P (C.newBox w.heap.size h.boxes.length) { h with boxes := h.boxes ++ [(t, z)] } (w.alloc (.cells cs t)) ∧
    relV P (C.newBox w.heap.size h.boxes.length) (w.alloc (.cells cs t)) { h with boxes := h.boxes ++ [(t, z)] } (.ptr h.boxes.length []) (.pointer (some ⟨w.heap.size, 0, none⟩)) := by
  have hsz : (w.alloc (.cells cs t)).heap.size = w.heap.size + 1 := by simp
  have hold : ∀ b, b < w.heap.size → (w.alloc (.cells cs t)).heap[b]? = w.heap[b]? := fun b hb => heap_alloc_old w (.cells cs t) hb
  have hnew := heap_alloc_new w (.cells cs t)
  have st : Step C w h (C.newBox w.heap.size h.boxes.length) (w.alloc (.cells cs t)) { h with boxes := h.boxes ++ [(t, z)] } := by
    refine ⟨rfl, rfl, rfl, by omega, fun b hb => ?_, fun id hid => ?_, fun id bt bc hb => ⟨bc, ?_⟩, fun τ F hF => ⟨F, hF, Nat.le_refl _⟩⟩
    · have : (C.newBox w.heap.size h.boxes.length).K b = C.K b := by simp only [Con.newBox]; rw [if_neg (by omega)]
      simp only [keptB, this]
      cases C.K b <;> simp [hold b hb]
    · simp only [Con.newBox]; rw [if_neg (by omega)]
    · rw [List.getElem?_append_left (List.getElem?_eq_some_iff.1 hb).1]; exact hb
  refine ⟨st, ⟨fun id bt bc hb => ?_, fun b hb => ?_, fun b τ f hb => ?_⟩, ?_⟩
  · by_cases hid : id < h.boxes.length
    · rw [List.getElem?_append_left hid] at hb
      obtain ⟨h1, h2, cs', e, h3, h4, h5⟩ := S.box id bt bc hb
      have hlt : C.φ id < w.heap.size := S.lt _ (by rw [h1]; simp)
      have hphi : (C.newBox w.heap.size h.boxes.length).φ id = C.φ id := st.phi id hid
      refine ⟨?_, h2, cs', e, by rw [hphi, hold _ hlt]; exact h3, h4, relC_mono st h5⟩
      rw [hphi]; simp only [Con.newBox]; rw [if_neg (by omega)]; exact h1
    · have hid' : id = h.boxes.length := by
        have := (List.getElem?_eq_some_iff.1 hb).1
        simp at this; omega
      subst hid'
      simp at hb
      obtain ⟨rfl, rfl⟩ := hb
      refine ⟨by simp [Con.newBox], hf, cs, t, by simpa [Con.newBox] using hnew, ⟨by simpa using fits_len hf hr, rfl⟩, relC_mono st hr⟩
  · by_cases e : b = w.heap.size
    · omega
    · simp only [Con.newBox, if_neg e] at hb; have := S.lt b hb; omega
  · by_cases e : b = w.heap.size
    · simp [Con.newBox, e] at hb
    · simp only [Con.newBox, if_neg e] at hb; exact S.tk b τ f hb
  · simp only [relV, relV1, relC]
    exact ⟨t, z, 0, t, by simp, rfl, by simp [Con.newBox]⟩

theorem goes_alloc {t : TypeId} {z : AV} (S : Sim E.P C h w) (ho : o.op = .alloc t) (hz : zeroA E.P t = some z) : OpGoes E C w h o a (.ptr h.boxes.length []) { h with boxes := h.boxes ++ [(t, z)] } := by
  intro K Q hK
  obtain ⟨v, z1, z2, z3, z4, z5, _⟩ := zeroA_ok hz
  obtain ⟨st, S', r⟩ := box_step S z2 (z3 C w h) (t := t) (cs := v.cells)
  have hrun : (execOp a.eval o).run E.P w = .ok (.value (.pointer (some ⟨w.heap.size, 0, none⟩))) (w.alloc (.cells v.cells t)) := by
    simp [execOp, ho, Instr.alloc, z1, newVar, newRow]
  unfold Oper.wp
  rw [hrun]
  exact hK _ _ _ st S' r

theorem goes_box {t : TypeId} {x : Operand} {z : AV} (S : Sim E.P C h w) (ho : o.op = .box t x) (T : Told E C w h o a ev) (hz : z = coe E.P t (ev x)) (hf : fitsA E.P t z = true) :
    OpGoes E C w h o a (.ptr h.boxes.length []) { h with boxes := h.boxes ++ [(t, z)] } := by
  intro K Q hK
  subst hz
  obtain ⟨c, k1, k2, _, _⟩ := relV_cells hf (coe_rel (P := E.P) (t := t) (T x (by simp [ho, Op.operands])))
  obtain ⟨st, S', r⟩ := box_step S hf (t := t) (cs := (a.eval x).cells) (by rw [k2]; exact k1)
  have hrun : (execOp a.eval o).run E.P w = .ok (.value (.pointer (some ⟨w.heap.size, 0, none⟩))) (w.alloc (.cells (a.eval x).cells t)) := by
    simp [execOp, ho, Instr.box, newVar, newRow]
  unfold Oper.wp
  rw [hrun]
  exact hK _ _ _ st S' r

/-! ### a store -/
theorem store_step {P : Program} (S : Sim P C h w) {id : Nat} {bt : TypeId} {bc bc' : AV} {cs : Array Value} {e : TypeId} {cs' : List Value} (hb : h.boxes[id]? = some (bt, bc)) (hh : w.heap[C.φ id]? = some (.cells cs e (0, 0))) (he : e = bt)
    (hf : fitsA P bt bc' = true) (hr : relC P C w h bc' cs') : Step C w h C (w.setRow (C.φ id) cs'.toArray) { h with boxes := h.boxes.set id (bt, bc') } ∧
      Sim P C { h with boxes := h.boxes.set id (bt, bc') } (w.setRow (C.φ id) cs'.toArray) := by
  have hid := (List.getElem?_eq_some_iff.1 hb).1
  have hK := (S.box id bt bc hb).1
  have hlt : C.φ id < w.heap.size := S.lt _ (by rw [hK]; simp)
  have hoth : ∀ b, b ≠ C.φ id → (w.setRow (C.φ id) cs'.toArray).heap[b]? = w.heap[b]? := fun b hne => setRow_other w _ b _ hne
  have st : Step C w h C (w.setRow (C.φ id) cs'.toArray) { h with boxes := h.boxes.set id (bt, bc') } := by
    refine ⟨rfl, rfl, rfl, by simp, fun b _ => ?_, fun _ _ => rfl, fun j bt' bc'' hj => ?_, fun τ F hF => ⟨F, hF, Nat.le_refl _⟩⟩
    · by_cases hbe : b = C.φ id
      · subst hbe; simp only [keptB, hK]
      · have := hoth b hbe
        simp only [keptB]
        cases hk : C.K b <;> simp [this]
    · by_cases hji : j = id
      · subst hji; rw [hb] at hj; simp at hj; obtain ⟨rfl, rfl⟩ := hj
        exact ⟨bc', by simp [hid]⟩
      · exact ⟨bc'', by rw [List.getElem?_set_ne (Ne.symm hji)]; exact hj⟩
  refine ⟨st, ⟨fun j bt' bc'' hj => ?_, fun b hbk => ?_, fun b τ f hbk => S.tk b τ f hbk⟩⟩
  · by_cases hji : j = id
    · subst hji
      simp [hid] at hj
      obtain ⟨rfl, rfl⟩ := hj
      refine ⟨hK, hf, cs'.toArray, e, setRow_heap w _ cs _ e _ hh, ⟨by simpa using fits_len hf hr, he⟩, relC_mono st (by simpa using hr)⟩
    · rw [List.getElem?_set_ne (Ne.symm hji)] at hj
      obtain ⟨h1, h2, cs2, e2, h3, h4, h5⟩ := S.box j bt' bc'' hj
      refine ⟨h1, h2, cs2, e2, ?_, h4, relC_mono st h5⟩
      rw [hoth _ (fun he => by rw [he, hK] at h1; simp at h1; exact hji h1.symm)]; exact h3
  · have := S.lt b hbk; simpa using this

theorem goes_store {t : TypeId} {x y : Operand} (S : Sim E.P C h w) (ho : o.op = .store t x y) (T : Told E C w h o a ev) (hs : storeA E h t (ev x) (ev y) = some h') : OpGoes E C w h o a (.sel false .bad) h' := by
  have rx := T x (by simp [ho, Op.operands])
  have ry := T y (by simp [ho, Op.operands])
  unfold storeA at hs
  split at hs
  · rename_i id path hx
    split at hs
    · rename_i bt bc hb
      split at hs
      · rename_i old t' hg
        split at hs
        · rename_i hc
          obtain ⟨rfl, hc⟩ := hc
          split at hs
          · rename_i bc' hset
            simp only [Option.some.injEq] at hs; subst hs
            intro K Q hK
            rw [hx] at rx
            obtain ⟨off, cs0, h1, h2, h3, h4, h5, h6⟩ := ptr_at S rx hb hg
            obtain ⟨k1, k2, cs, e, k3, ⟨k4, ke⟩, k5⟩ := S.box _ _ _ hb
            have k4 : cs.toList.length = E.P.cellsOf bt := by simpa using k4
            obtain ⟨c, q1, q2, _, _⟩ := relV_cells hc (coe_rel (P := E.P) (t := t') ry)
            have hlen := fits_len hc q1
            obtain ⟨off', g1, g2, g3, g4⟩ := setP_sound path hset hg k5 k2 k4 hc q1 hlen
            rw [h2] at g1; simp at g1; subst g1
            obtain ⟨st, S'⟩ := store_step S hb k3 ke g3 g4
            have hst := run_storeCells_at E.P (C.φ id) off e c 0 cs w k3 (by simp at k4 g2 ⊢; omega) (relC_one' hc q1)
            simp only [Nat.add_zero] at hst
            have hinfo : ∃ i, E.P.info? t' = some i := by
              rcases fitsA_kind hc with q | ⟨g, q, _⟩
              · exact rowT_info q
              · exact oneB_info q
            obtain ⟨i, hi⟩ := hinfo
            have hcell : ¬ ((a.eval y).cells.size ≠ E.P.cellsOf t') := by
              have := congrArg List.length q2
              simp at this; omega
            have hrun : (execOp a.eval o).run E.P w = .ok .skip (w.setRow (C.φ id) (cs.toList.take off ++ c ++ cs.toList.drop (off + E.P.cellsOf t')).toArray) := by
              simp only [execOp, ho, h1, Instr.storeAt, Instr.sureAddr]
              simp only [Sem.run_bind, Sem.run_pure, Result.andThen_ok, storeVar, run_sizeOf w hi, hcell, if_false, q2, hst, hlen]
            unfold Oper.wp
            rw [hrun]
            exact hK _ _ undef st S' (by simp [relV, relV1])
          · cases hs
        · cases hs
      · cases hs
    · cases hs
  · cases hs

end
end Go.Tith

namespace Go.Tith

section
variable {E : Env} {C C' : Con} {w w' : World} {h h' : Heap} {o : Oper} {a : Act} {ev : Operand → AV} {v : AV}

/-- The cells of a row. -/
theorem row_cells {P : Program} {e : TypeId} : ∀ {ds : List DV} {b o : Nat}, relRow P C w e ds b o → ∃ news, relDs P C w ds (List.replicate ds.length e) news ∧ news.length = ds.length * P.cellsOf e ∧ w.rangeAt b o news
  | [], b, o, _ => ⟨[], by simp [relDs], by simp, by intro j v hj; simp at hj⟩
  | d :: ds, b, o, r => by
    simp only [relRow] at r
    obtain ⟨⟨c, k1, k2, k3, k4⟩, k5⟩ := r
    obtain ⟨news, g1, g2, g3⟩ := row_cells k5
    refine ⟨c ++ news, ?_, by simp [k3, g2, Nat.add_mul]; omega, ?_⟩
    · simp only [List.length_cons, List.replicate_succ, relDs]
      exact ⟨e, _, c, news, rfl, rfl, k2, k3, k1, g1⟩
    · intro j v hj
      by_cases hjc : j < c.length
      · rw [List.getElem?_append_left hjc] at hj; exact (k4 j v hj).2
      · rw [List.getElem?_append_right (by omega)] at hj
        have := g3 (j - c.length) v hj
        rw [show o + j = o + P.cellsOf e + (j - c.length) by omega]; exact this

theorem relDs_append {P : Program} : ∀ {ds ds' : List DV} {ts ts' : List TypeId} {c c' : List Value}, relDs P C w ds ts c → relDs P C w ds' ts' c' → relDs P C w (ds ++ ds') (ts ++ ts') (c ++ c')
  | [], ds', ts, ts', c, c', r, r' => by simp only [relDs] at r; obtain ⟨rfl, rfl⟩ := r; simpa using r'
  | d :: ds, ds', ts, ts', c, c', r, r' => by
    simp only [relDs] at r
    obtain ⟨t, ts2, c1, c2, rfl, rfl, k3, k4, k5, k6⟩ := r
    simp only [List.cons_append, relDs]
    exact ⟨t, _, c1, _, rfl, by simp [List.append_assoc], k3, k4, k5, relDs_append k6 r'⟩

/-- What is appended, avs cells. -/
theorem added_src {P : Program} (S : Sim P C h w) {e t' : TypeId} {y : AV} {vy : Value} {ys : List DV} (r : relV P C w h y vy) (hy : addedA P h e y = some ys) (ht : oneB P t' y.srcD = true) :
    ∃ news, Src P (P.cellsOf e) t' vy ys.length news w ∧ relDs P C w ys (List.replicate ys.length e) news := by
  have slT : oneB P t' isAnySl = true → ∃ e', P.underlying t' = some (.slice e') := by
    intro hq
    obtain ⟨dd, k1, k2⟩ := oneB_desc hq
    cases dd <;> simp [isAnySl] at k2
    exact ⟨_, k1⟩
  have slice_case : ∀ {a : Option Addr} {len cap : Nat} {b off : Nat} {news : List Value}, oneB P t' isAnySl = true → vy = .slice a len cap → len = ys.length → (ys ≠ [] → a = some ⟨b, off, none⟩) → relDs P C w ys (List.replicate ys.length e) news →
      news.length = ys.length * P.cellsOf e → w.rangeAt b off news → ∃ news, Src P (P.cellsOf e) t' vy ys.length news w ∧ relDs P C w ys (List.replicate ys.length e) news := by
    intro a len cap b off news hq hv hl ha hr hn hrange
    obtain ⟨e', hu⟩ := slT hq
    have h1 := relDs_one' hr
    by_cases hne : ys = []
    · subst hne
      have : news = [] := List.eq_nil_of_length_eq_zero (by simpa using hn)
      subst this
      refine ⟨[], ?_, hr⟩
      simp at hl; subst hl; subst hv
      have lc : ∀ w' : World, (Builtin.firstCells (P.cellsOf e) 0 (.slice a 0 cap)).run P w' = .ok #[] w' := by
        intro w'
        cases a <;> simp [Builtin.firstCells, loadCells, loadCellsFrom]
      exact ⟨.inl ⟨e', hu⟩, fun _ => rfl, lc w, lc w.drew, by simp, by simp⟩
    · have := ha hne
      subst this; subst hv; subst hl
      exact ⟨news, Src.ofSlice w hu ⟨b, off, none⟩ _ cap news hn (fun j u hj => by rw [Addr.add_mid]; exact hrange j u hj) h1, hr⟩
  unfold addedA at hy
  split at hy
  · simp only [Option.some.injEq] at hy; subst hy
    simp only [relV, relV1] at r; subst r
    exact slice_case (b := 0) (off := 0) (news := []) ht rfl rfl (by simp) (by simp [relDs]) (by simp) (by intro j v hj; simp at hj)
  · rename_i s
    split at hy
    · rename_i he
      simp only [Option.some.injEq] at hy; subst hy
      rw [relV_str] at r; subst r
      have hs := oneB_str ht
      have hb : (byteCells s) = (ofBytes s.data.toList).map (fun d => match d with | .int k n => Value.int k n | _ => undef) := by
        simp [byteCells, ofBytes, List.map_map, Function.comp_def]
      have hsrc := Src.ofString w hs s
      rw [oneB_size he]
      have hlen : (ofBytes s.data.toList).length = s.size := by simp [ofBytes]
      rw [hlen]
      refine ⟨byteCells s, hsrc, ?_⟩
      rw [← hlen]
      have : ∀ l : List UInt8, relDs P C w (ofBytes l) (List.replicate (ofBytes l).length e) (l.map fun b => Value.int .u8 b.toNat) := by
        intro l
        induction l with
        | nil => simp [ofBytes, relDs]
        | cons x l ih =>
          simp only [ofBytes, List.map_cons, List.length_cons, List.replicate_succ, relDs]
          exact ⟨e, _, [.int .u8 x.toNat], _, rfl, rfl, by simpa [fitsD] using he, by simp [oneB_size he], by simp [relD], by simpa [ofBytes] using ih⟩
      exact this s.data.toList
    · cases hy
  · rename_i n1 n2
    have hq : oneB P t' isAnySl = true := by
      have : y.srcD = isAnySl := by
        cases y with
        | d q => cases q <;> first | rfl | (exfalso; exact n2 _ rfl)
        | _ => rfl
      rw [this] at ht; exact ht
    split at hy
    · rename_i e' ys' hv
      split at hy
      · rename_i hee
        subst hee
        simp only [Option.some.injEq] at hy; subst hy
        unfold viewL at hv
        split at hv
        · rename_i e2 xs2 hvd
          simp only [Option.some.injEq, Prod.mk.injEq] at hv
          obtain ⟨rfl, rfl⟩ := hv
          by_cases hsl : noSlA y = true
          · have hp : plainD y = some (.list e2 xs2) := by
              cases y <;> first | exact hvd | simp [noSlA] at hsl
            obtain ⟨a, len, cap, g1, g2, g3, g4, g5, g6⟩ := relV_list (h := h) (show relV P C w h (.d (.list e2 xs2)) vy from plainD_relV (h' := h) hp r)
            by_cases hne : xs2 = []
            · subst hne
              exact slice_case (b := 0) (off := 0) (news := []) hq g1 g2 (by simp) (by simp [relDs]) (by simp) (by intro j v hj; simp at hj)
            · obtain ⟨b, off, rfl, hrow⟩ := g6 hne
              obtain ⟨news, k1, k2, k3⟩ := row_cells hrow
              exact slice_case hq g1 g2 (fun _ => rfl) k1 k2 k3
          · cases y with
            | sl id path off len =>
              simp only [viewD] at hvd
              cases hb : h.boxes[id]? with
              | none => simp [hb] at hvd
              | some q =>
                obtain ⟨bt, bc⟩ := q
                simp only [hb] at hvd
                cases hg : getP P path bc bt with
                | none => simp [hg] at hvd
                | some q =>
                  obtain ⟨q1, t⟩ := q
                  simp only [hg] at hvd
                  cases q1 with
                  | d q1 => cases q1 with
                    | agg u fs =>
                      simp only at hvd
                      cases hu : P.underlying t with
                      | none => simp [hu] at hvd
                      | some dd => cases dd with
                        | array n e3 =>
                          simp only [hu] at hvd
                          split at hvd
                          · rename_i hlen
                            simp at hvd
                            obtain ⟨rfl, rfl⟩ := hvd
                            obtain ⟨oo, cs, k1, k2, k3, k4, k5⟩ := S.at hb hg
                            simp only [relV, relV1, relC] at r
                            obtain ⟨bt', bc', o', t2, n', e', cap, g1, g2, g3, g4, g5, g7, g6⟩ := r
                            rw [hb] at g1; simp at g1; obtain ⟨rfl, rfl⟩ := g1
                            rw [k1] at g2; simp at g2; obtain ⟨rfl, rfl⟩ := g2
                            rw [hu] at g3; simp at g3; obtain ⟨rfl, rfl⟩ := g3
                            simp at g6
                            simp only [relC, relD] at k4
                            simp [fitsA, fitsD] at k2
                            have hys : (List.take len (List.drop off fs)).length = len := by simp; omega
                            -- the cells of the part
                            have sub : ∀ (m : Nat) (ds : List DV) (c : List Value) (b o : Nat), relDs P C w ds (List.replicate m e3) c → w.rangeAt b o c → ∀ i, i ≤ ds.length →
                                ∃ c', relDs P C w (ds.drop i) (List.replicate (m - i) e3) c' ∧ w.rangeAt b (o + i * P.cellsOf e3) c' := by
                              intro m ds
                              induction ds generalizing m with
                              | nil => intro c b o hr hc i hi; simp at hi; subst hi; exact ⟨c, by simpa using hr, by simpa using hc⟩
                              | cons d ds ih =>
                                intro c b o hr hc i hi
                                cases i with
                                | zero => exact ⟨c, by simpa using hr, by simpa using hc⟩
                                | succ i =>
                                  simp only [relDs] at hr
                                  obtain ⟨t9, ts9, c1, c2, q1, rfl, q3, q4, q5, q6⟩ := hr
                                  cases m with
                                  | zero => simp at q1
                                  | succ m =>
                                    simp only [List.replicate_succ, List.cons.injEq] at q1
                                    obtain ⟨rfl, rfl⟩ := q1
                                    obtain ⟨c', z1, z2⟩ := ih m c2 b (o + P.cellsOf e3) q6 (fun j v hj => by
                                      have := hc (c1.length + j) v (by rw [List.getElem?_append_right (by omega)]; simpa using hj)
                                      rw [show o + P.cellsOf e3 + j = o + (c1.length + j) by omega]; exact this) i (by simpa using hi)
                                    refine ⟨c', by simpa using z1, ?_⟩
                                    rw [show o + (i + 1) * P.cellsOf e3 = o + P.cellsOf e3 + i * P.cellsOf e3 by rw [Nat.add_mul]; omega]; exact z2
                            have tk : ∀ (len m : Nat) (ds : List DV) (c : List Value), relDs P C w ds (List.replicate m e3) c → len ≤ ds.length → relDs P C w (ds.take len) (List.replicate len e3) (c.take (len * P.cellsOf e3)) := by
                              intro len
                              induction len with
                              | zero => intro m ds c _ _; simp [relDs]
                              | succ len ih =>
                                intro m ds c hr hl
                                cases ds with
                                | nil => simp at hl
                                | cons d ds =>
                                  simp only [relDs] at hr
                                  obtain ⟨t9, ts9, c1, c2, q1, rfl, q3, q4, q5, q6⟩ := hr
                                  cases m with
                                  | zero => simp at q1
                                  | succ m =>
                                    simp only [List.replicate_succ, List.cons.injEq] at q1
                                    obtain ⟨rfl, rfl⟩ := q1
                                    simp only [List.take_succ_cons, List.replicate_succ, relDs]
                                    refine ⟨_, _, c1, _, rfl, ?_, q3, q4, q5, ih m ds c2 q6 (by simpa using hl)⟩
                                    rw [Nat.add_mul, Nat.one_mul, Nat.add_comm, ← q4, List.take_length_add_append]
                            have hcells : ∃ news, relDs P C w (List.take len (List.drop off fs)) (List.replicate len e3) news ∧ news.length = len * P.cellsOf e3 ∧ w.rangeAt (C.φ id) (oo + off * P.cellsOf e3) news := by
                              have htys := tys_array hu
                              rw [k2.1.1] at htys
                              rcases htys with et | et
                              · rw [et] at k4
                                obtain ⟨c', z1, z2⟩ := sub n fs cs (C.φ id) oo k4.2 k5 off (by omega)
                                have hl := tk len _ _ _ z1 (by simp; omega)
                                refine ⟨_, hl, ?_, fun j v hj => z2 j v ?_⟩
                                · have := (relDs_len hl).2; simpa using this
                                · rw [List.getElem?_take] at hj
                                  split at hj
                                  · exact hj
                                  · cases hj
                              · rw [et] at k4
                                have : fs = [] := List.eq_nil_of_length_eq_zero (by simpa using (relDs_len k4.2).1)
                                subst this
                                simp at hlen
                                obtain ⟨rfl, rfl⟩ := hlen
                                exact ⟨[], by simp [relDs], by simp, by intro j v hj; simp at hj⟩
                            obtain ⟨news, m1, m2, m3⟩ := hcells
                            exact slice_case hq g6 hys.symm (fun _ => rfl) (by rw [hys]; exact m1) (by rw [hys]; exact m2) m3
                          · cases hvd
                        | _ => simp [hu] at hvd
                    | _ => simp at hvd
                  | _ => simp at hvd
            | _ => simp [noSlA] at hsl
        · cases hv
      · cases hy
    · cases hy

end
end Go.Tith

namespace Go.Tith

section
variable {E : Env} {C C' : Con} {w w' : World} {h h' : Heap} {o : Oper} {a : Act} {ev : Operand → AV} {v : AV}

def ToksUp (h h' : Heap) : Prop := ∀ (τ F : Nat), h.toks[τ]? = some F → ∃ F' : Nat, h'.toks[τ]? = some F' ∧ F ≤ F'

theorem new_step' {B : Blk} (hos : w'.os = w.os) (ht : w'.tape = w.tape) (ho : w'.output = w.output) (hs : w'.heap.size = w.heap.size + 1)
    (hh : ∀ b, b < w.heap.size → w'.heap[b]? = w.heap[b]?) (hbx : h'.boxes = h.boxes) (htk : ToksUp h h') : Step C w h (C.setK w.heap.size B) w' h' where
  os := hos
  tape := ht
  output := ho
  size := by omega
  blk b hb := by
    have : (C.setK w.heap.size B).K b = C.K b := setK_ne (by omega)
    simp only [keptB, this]
    cases C.K b <;> simp [hh b hb]
  phi _ _ := rfl
  box _ _ bc hb := ⟨bc, by rw [hbx]; exact hb⟩
  tok := htk

theorem new_sim' {P : Program} (S : Sim P C h w) {B : Blk} (st : Step C w h (C.setK w.heap.size B) w' h') (hs : w'.heap.size = w.heap.size + 1) (hh : ∀ b, b < w.heap.size → w'.heap[b]? = w.heap[b]?)
    (hbx : h'.boxes = h.boxes) (hB : ∀ τ f, B = .app τ f → ∃ F : Nat, h'.toks[τ]? = some F) (htk : ToksUp h h') : Sim P (C.setK w.heap.size B) h' w' where
  box id bt bc hb := by
    rw [hbx] at hb
    obtain ⟨h1, h2, cs, e, h3, h4, h5⟩ := S.box id bt bc hb
    have hlt : C.φ id < w.heap.size := S.lt _ (by rw [h1]; simp)
    refine ⟨by show (C.setK w.heap.size B).K (C.φ id) = _; rw [setK_ne (by omega)]; exact h1, h2, cs, e, ?_, h4, relC_mono st h5⟩
    show w'.heap[C.φ id]? = _
    rw [hh _ hlt]; exact h3
  lt b hb := by
    by_cases e : b = w.heap.size
    · omega
    · rw [setK_ne e] at hb; have := S.lt b hb; omega
  tk b τ f hb := by
    by_cases e : b = w.heap.size
    · subst e; rw [setK_same] at hb; exact hB τ f hb
    · rw [setK_ne e] at hb
      obtain ⟨F, hF⟩ := S.tk b τ f hb
      obtain ⟨F', h1, _⟩ := htk τ F hF
      exact ⟨F', h1⟩

/-- The world stays; marks are added or rise. -/
theorem toks_step (hbx : h'.boxes = h.boxes) (htk : ToksUp h h') : Step C w h C w h' where
  os := rfl
  tape := rfl
  output := rfl
  size := Nat.le_refl _
  blk b hb := by
    simp only [keptB]
    cases C.K b <;> simp
  phi _ _ := rfl
  box _ _ bc hb := ⟨bc, by rw [hbx]; exact hb⟩
  tok := htk

theorem toks_sim {P : Program} (S : Sim P C h w) (hbx : h'.boxes = h.boxes) (htk : ToksUp h h') : Sim P C h' w where
  box id bt bc hb := by
    rw [hbx] at hb
    obtain ⟨h1, h2, cs, e, h3, h4, h5⟩ := S.box id bt bc hb
    exact ⟨h1, h2, cs, e, h3, h4, relC_mono (toks_step hbx htk) h5⟩
  lt := S.lt
  tk b τ f hb := by
    obtain ⟨F, hF⟩ := S.tk b τ f hb
    obtain ⟨F', h1, _⟩ := htk τ F hF
    exact ⟨F', h1⟩

theorem toks_snoc (n : Nat) : ToksUp h { h with toks := h.toks ++ [n] } := fun τ F hF => ⟨F, by show (h.toks ++ [n])[τ]? = _; rw [List.getElem?_append_left (List.getElem?_eq_some_iff.1 hF).1]; exact hF, Nat.le_refl _⟩

theorem toks_set {τ F n : Nat} (hF : h.toks[τ]? = some F) (hn : F ≤ n) : ToksUp h { h with toks := h.toks.set τ n } := by
  intro τ' F' hF'
  show ∃ F'' : Nat, (h.toks.set τ n)[τ']? = some F'' ∧ F' ≤ F''
  by_cases e : τ' = τ
  · subst e
    rw [hF] at hF'; obtain rfl := Option.some.inj hF'
    exact ⟨n, by simp [(List.getElem?_eq_some_iff.1 hF).1], hn⟩
  · exact ⟨F', by rw [List.getElem?_set_ne (Ne.symm e)]; exact hF', Nat.le_refl _⟩

theorem append_zero_run {P : Program} {t tx ty e : TypeId} {i : TypeInfo} (ht : P.underlying t = some (.slice e)) (hi : P.info? e = some i) {base : Option Addr} {l cap : Nat} {x : Value} (hs : Src P i.size tx x 0 [] w) (hl : l ≤ cap) :
    (Builtin.append_ #[t, tx] ty #[.slice base l cap, x]).run P w = .ok (.slice base l cap) w := by
  rcases hs.kind with ⟨e', hk⟩ | hk <;> cases base <;> simp [Builtin.append_, run_underlying ht, run_underlying hk, sizeOf, typeInfo, hi, hs.len, hl, hs.cells, storeCells]

theorem append_room_run {P : Program} {t tx ty e : TypeId} {i : TypeInfo} (ht : P.underlying t = some (.slice e)) (hi : P.info? e = some i) {g l cap n : Nat} {cur : Array Value} {x : Value} {news : List Value} (hg : w.heap[g]? = some (.cells cur e (0, 0)))
    (hs : Src P i.size tx x n news w) (hroom : l + n ≤ cap) (hfit : l * i.size + news.length ≤ cur.size) :
    (Builtin.append_ #[t, tx] ty #[.slice (some ⟨g, 0, none⟩) l cap, x]).run P w = .ok (.slice (some ⟨g, 0, none⟩) (l + n) cap) (w.setRow g (cur.toList.take (l * i.size) ++ news ++ cur.toList.drop (l * i.size + news.length)).toArray) := by
  have hst := run_storeCells_at P g (l * i.size) e news 0 cur w hg (by simpa using hfit) hs.one
  simp only [Nat.add_zero] at hst
  rcases hs.kind with ⟨e', hk⟩ | hk <;> simp [Builtin.append_, run_underlying ht, run_underlying hk, sizeOf, typeInfo, hi, hs.len, hroom, hs.cells, Addr.add_mid, hst]

theorem relRow_new {P : Program} {e : TypeId} {b : Nat} {ds : List DV} {news : List Value} (r : relDs P C w ds (List.replicate ds.length e) news) (hc : ∀ (j : Nat) x, news[j]? = some x → C.fixed b j ∧ w.cell? ⟨b, j, none⟩ = some x) : relRow P C w e ds b 0 :=
  relDs_row r fun j x hj => by simpa using hc j x hj

/-- A list that grows into a new block. -/
theorem grow_goes {e : TypeId} {xs ys : List DV} {τ : Nat} {olds news : List Value} {z : Array Value} (S : Sim E.P C h w) (hbx : h'.boxes = h.boxes) (htk : ToksUp h h') (hF : h'.toks[τ]? = some (xs.length + ys.length))
    (ro : relDs E.P C w xs (List.replicate xs.length e) olds) (rn : relDs E.P C w ys (List.replicate ys.length e) news) (cap : Nat) (hcap : xs.length + ys.length ≤ cap) (hmax : cap ≤ maxLen) (hz : z.size = E.P.cellsOf e) :
    ∃ C', Step C w h C' (w.drew.alloc (.cells ((olds ++ news).toArray ++ Builtin.zeroCells z (cap - (xs.length + ys.length))) e)) h' ∧
      Sim E.P C' h' (w.drew.alloc (.cells ((olds ++ news).toArray ++ Builtin.zeroCells z (cap - (xs.length + ys.length))) e)) ∧
      relV E.P C' (w.drew.alloc (.cells ((olds ++ news).toArray ++ Builtin.zeroCells z (cap - (xs.length + ys.length))) e)) h' (.lst (some τ) e (xs ++ ys)) (.slice (some ⟨w.heap.size, 0, none⟩) (xs.length + ys.length) cap) := by
  generalize hob : ((olds ++ news).toArray ++ Builtin.zeroCells z (cap - (xs.length + ys.length))) = cells
  have hsz : (w.drew.alloc (.cells cells e)).heap.size = w.heap.size + 1 := by simp
  have hold : ∀ b, b < w.heap.size → (w.drew.alloc (.cells cells e)).heap[b]? = w.heap[b]? := fun b hb => heap_alloc_old w.drew (.cells cells e) hb
  have hnew : (w.drew.alloc (.cells cells e)).heap[w.heap.size]? = some (.cells cells e (0, 0)) := heap_alloc_new w.drew (.cells cells e)
  have st : Step C w h (C.setK w.heap.size (.app τ ((xs.length + ys.length) * E.P.cellsOf e))) (w.drew.alloc (.cells cells e)) h' := new_step' rfl rfl rfl hsz hold hbx htk
  refine ⟨_, st, new_sim' S st hsz hold hbx (by rintro τ' f' hq; simp at hq; obtain ⟨rfl, _⟩ := hq; exact ⟨_, hF⟩) htk, ?_⟩
  have hall := relDs_append ro rn
  rw [List.replicate_append_replicate, ← List.length_append] at hall
  have hlen : (olds ++ news).length = (xs.length + ys.length) * E.P.cellsOf e := by
    have := (relDs_len hall).2
    simpa using this
  simp only [relV, relV1, relC, relD]
  refine ⟨⟨_, _, _, rfl, by simp, hcap, hmax, by simp, fun _ => ⟨w.heap.size, 0, rfl, ?_⟩⟩, ⟨_, hF, by simp, fun _ a l cp hc => ?_⟩⟩
  · refine relRow_new (relDs_mono st.keeps hall) fun j x hj => ⟨?_, ?_⟩
    · have := (List.getElem?_eq_some_iff.1 hj).1
      simp only [Con.fixed, setK_same, Blk.fixed]
      omega
    · rw [cell_in hnew, ← hob]
      simp only [Array.toList_append]
      rw [List.getElem?_append_left (by simpa using (List.getElem?_eq_some_iff.1 hj).1)]
      exact hj
  · simp at hc
    obtain ⟨rfl, rfl, rfl⟩ := hc
    refine .inr ⟨w.heap.size, cells, rfl, by simp [setK_same], hnew, ?_⟩
    rw [← hob]
    simp only [Array.size_append, List.size_toArray, hlen, size_zeroCells, hz, ← Nat.add_mul]
    congr 1
    omega

end
end Go.Tith

namespace Go.Tith

section
variable {E : Env} {C C' : Con} {w w' : World} {h h' : Heap} {o : Oper} {a : Act} {ev : Operand → AV} {v : AV}

theorem append_goes {t t' e : TypeId} {x y : Operand} {c : Call} (S : Sim E.P C h w) (ho : o.op = .call c) (hc : c.callee = .builtin .append) (has : c.args = #[x, y]) (hts : c.argTypes = #[t, t']) (T : Told E C w h o a ev)
    (hu : E.P.underlying t = some (.slice e)) (ht' : oneB E.P t' (ev y).srcD = true) (hp : appendA E.P h e (coe E.P t (ev x)) (ev y) = some (v, h')) : OpGoes E C w h o a v h' := by
  have rx := coe_rel (P := E.P) (t := t) (T x (by simp [ho, Op.operands, Call.operands, hc, has]))
  have ry := T y (by simp [ho, Op.operands, Call.operands, hc, has])
  intro K Q hK
  have fin : ∀ {C' : Con} {w' : World} {val : Value}, (Builtin.append_ #[t, t'] o.type #[a.eval x, a.eval y]).run E.P w = .ok val w' → Step C w h C' w' h' → Sim E.P C' h' w' → relV E.P C' w' h' v val → o.wp E.P a w K Q := by
    intro C' w' val hr st S' r
    have hrun : (execOp a.eval o).run E.P w = .ok (.value val) w' := by
      simp [execOp, ho, resolve, hc, has, hts, invoke, builtin, hr]
    unfold Oper.wp
    rw [hrun]
    exact hK _ _ _ st S' r
  unfold appendA at hp
  split at hp
  · rename_i k e' xs hx
    rw [hx] at rx
    split at hp
    · cases hp
    · rename_i hee
      have hee' : e' = e := by simpa using hee
      subst hee'
      split at hp
      · rename_i ys hy
        split at hp
        · rename_i hcond
          obtain ⟨hlen, hbytes, hcell, hz⟩ := hcond
          obtain ⟨z, hz⟩ := Option.isSome_iff_exists.1 hz
          obtain ⟨zv, z1, z2, z3, z4, z5, it, z6, z7⟩ := zeroA_ok hz
          have hsize : it.size = E.P.cellsOf e' := by simp [Program.cellsOf, z6]
          have hib : it.bytes = E.P.bytesOf e' := by simp [Program.bytesOf, z6]
          obtain ⟨news, hsrc, rn⟩ := added_src S ry hy ht'
          rw [← hsize] at hsrc
          have rx' := rx
          simp only [relV, relV1, relC] at rx
          obtain ⟨rx1, rtok⟩ := rx
          simp only [relD] at rx1
          obtain ⟨base, l, cap, hv, hl, hlc, hmax, hbn, hrow⟩ := rx1
          simp at hv
          subst hl
          have htoks : ToksUp h h' ∧ h'.boxes = h.boxes ∧ ∃ τ kr, v = .lst kr e' (xs ++ ys) ∧ h'.toks[τ]? = some (xs.length + ys.length) ∧ (∀ τ', k = some τ' → τ' = τ ∧ h.toks[τ]? = some xs.length) ∧
              ((kr = some τ ∧ (k = none → ys = [] → xs = [])) ∨ (kr = none ∧ k = none ∧ ys = [])) := by
            split at hp
            · simp only [Option.some.injEq, Prod.mk.injEq] at hp
              obtain ⟨rfl, rfl⟩ := hp
              refine ⟨toks_snoc _, rfl, h.toks.length, _, rfl, by simp, (fun _ hq => nomatch hq), ?_⟩
              cases ys with
              | cons y ys => exact .inl ⟨by simp, fun _ hq => by cases hq⟩
              | nil => cases xs with
                | nil => exact .inl ⟨by simp, fun _ _ => rfl⟩
                | cons x xs => exact .inr ⟨by simp, rfl, rfl⟩
            · rename_i τ
              split at hp
              · rename_i hτ
                simp only [Option.some.injEq, Prod.mk.injEq] at hp
                obtain ⟨rfl, rfl⟩ := hp
                exact ⟨toks_set hτ (by omega), rfl, τ, _, rfl, by simp [(List.getElem?_eq_some_iff.1 hτ).1], fun τ' hq => by cases hq; exact ⟨rfl, hτ⟩, .inl ⟨rfl, fun hq => by cases hq⟩⟩
              · cases hp
          obtain ⟨up, hbx, τ, kr, rfl, hF, hkτ, hkr⟩ := htoks
          -- what stood there
          have holds : ∃ olds, relDs E.P C w xs (List.replicate xs.length e') olds ∧ olds.length = xs.length * E.P.cellsOf e' ∧ (∀ w1 : World, (∀ ad, w1.cell? ad = w.cell? ad) → (Builtin.firstCells it.size xs.length (.slice base xs.length cap)).run E.P w1 = .ok olds.toArray w1) ∧ (∀ b, base = some ⟨b, 0, none⟩ → w.rangeAt b 0 olds) := by
            by_cases hne : xs = []
            · subst hne
              refine ⟨[], by simp [relDs], by simp, fun w1 _ => ?_, fun b _ j u hj => by simp at hj⟩
              cases base <;> simp [Builtin.firstCells, loadCells, loadCellsFrom]
            · obtain ⟨b, off, rfl, hr⟩ := hrow hne
              obtain ⟨olds, k1, k2, k3⟩ := row_cells hr
              exact ⟨olds, k1, k2, fun w1 hw1 => run_firstCells_some w1 it.size xs.length ⟨b, off, none⟩ _ cap olds (by rw [hsize]; exact k2) (fun j u hj => by rw [Addr.add_mid, hw1]; exact k3 j u hj), fun b' hb' => by simp at hb'; obtain ⟨rfl, rfl⟩ := hb'; exact k3⟩
          obtain ⟨olds, ro, hol, hfirst, hrange⟩ := holds
          have grow : kr = some τ → cap < xs.length + ys.length → o.wp E.P a w K Q := by
            intro hkr' hg
            subst hkr'
            have hbig : (xs.length + ys.length) * it.bytes ≤ 140737488355328 := by
              rw [hib]
              calc (xs.length + ys.length) * E.P.bytesOf e' ≤ 4294967296 * 32768 := Nat.mul_le_mul hlen hbytes
                _ = 140737488355328 := by decide
            have hr := run_append_grow_src w t t' o.type e' it zv hu z6 z7 base xs.length cap olds (hfirst w.drew (by intro ad; simp)) (a.eval y) ys.length news hsrc hg (by omega) (growslice_fits hg hbig)
            have hge := grownCap_ge w (xs.length + ys.length) cap e'
            obtain ⟨C', st, S', r⟩ := grow_goes (E := E) (z := zv.cells) S hbx up hF ro rn (grownCap w (xs.length + ys.length) cap e') hge (grownCap_le_maxLen w _ _ _ (by simp [maxLen]; omega)) z4
            rw [hv] at fin
            exact fin hr st S' r
          by_cases hys : ys = []
          · subst hys
            have hnews : news = [] := List.eq_nil_of_length_eq_zero (by have := hsrc.newsLen; simpa using this)
            subst hnews
            rw [hv] at fin
            refine fin (append_zero_run hu z6 hsrc hlc) (toks_step hbx up) (toks_sim S hbx up) ?_
            simp only [List.append_nil, relV, relV1, relC]
            refine ⟨relD_mono (toks_step hbx up).keeps (by simp only [relD]; exact ⟨base, _, cap, rfl, rfl, hlc, hmax, hbn, hrow⟩), ?_⟩
            rcases hkr with ⟨rfl, hx0⟩ | ⟨rfl, rfl, _⟩
            case inr =>
              intro a2 l2 cap2 hq
              simp at hq
              obtain ⟨rfl, rfl, rfl⟩ := hq
              exact rtok _ _ _ (by rw [hv])
            refine ⟨_, hF, by simp, fun _ a2 l2 cap2 hq => ?_⟩
            simp at hq
            obtain ⟨rfl, rfl, rfl⟩ := hq
            cases k with
            | none =>
              have := rtok _ _ _ (by rw [hv])
              have hx1 := hx0 rfl rfl
              subst hx1
              exact .inl (by simpa using this)
            | some τ' =>
              obtain ⟨F, q1, q2, q3⟩ := rtok
              obtain ⟨rfl, ht0⟩ := hkτ τ' rfl
              rw [ht0] at q1; obtain rfl := Option.some.inj q1
              exact q3 rfl _ _ _ (by rw [hv])
          · have hpos : 0 < ys.length := by cases ys with | nil => exact absurd rfl hys | cons _ _ => simp
            have hkr' : kr = some τ := by
              rcases hkr with ⟨h1, _⟩ | ⟨_, _, h3⟩
              · exact h1
              · exact absurd h3 hys
            cases k with
            | none => exact grow hkr' (by have := rtok _ _ _ (by rw [hv]); omega)
            | some τ' =>
              obtain ⟨F, q1, q2, q3⟩ := rtok
              obtain ⟨rfl, ht0⟩ := hkτ τ' rfl
              rw [ht0] at q1; obtain rfl := Option.some.inj q1
              rcases q3 rfl _ _ _ (by rw [hv]) with q4 | ⟨b, cs, rfl, hKb, hheap, hcs⟩
              · exact grow hkr' (by omega)
              · subst hkr'
                by_cases hroom : xs.length + ys.length ≤ cap
                · have hnl : news.length = ys.length * E.P.cellsOf e' := by rw [hsrc.newsLen, hsize]
                  have hfit : xs.length * it.size + news.length ≤ cs.size := by
                    rw [hsize, hnl, hcs, ← Nat.add_mul]; exact Nat.mul_le_mul_right _ hroom
                  have hr := append_room_run (ty := o.type) hu z6 hheap hsrc hroom hfit
                  generalize hrow' : (cs.toList.take (xs.length * it.size) ++ news ++ cs.toList.drop (xs.length * it.size + news.length)).toArray = row' at hr
                  have hblt : b < w.heap.size := (Array.getElem?_eq_some_iff.1 hheap).1
                  have hoth : ∀ b', b' ≠ b → (w.setRow b row').heap[b']? = w.heap[b']? := fun b' hne => setRow_other w b b' _ hne
                  have hnew := setRow_heap w b cs row' e' (0, 0) hheap
                  have hsz : row'.size = cs.size := by
                    rw [← hrow']; simp; omega
                  have hpre : ∀ (j : Nat), j < xs.length * E.P.cellsOf e' → row'.toList[j]? = cs.toList[j]? := by
                    intro j hj
                    rw [← hrow', hsize]
                    rw [List.append_assoc, List.getElem?_append_left (by simp; rw [← hsize]; rw [← hsize] at hj; omega), List.getElem?_take_of_lt hj]
                  have hmid : ∀ (j : Nat), j < news.length → row'.toList[xs.length * E.P.cellsOf e' + j]? = news[j]? := by
                    intro j hj
                    have hl1 : (cs.toList.take (xs.length * E.P.cellsOf e')).length = xs.length * E.P.cellsOf e' := by
                      simp; rw [hsize] at hfit; omega
                    rw [← hrow', hsize]
                    rw [List.append_assoc, List.getElem?_append_right (by omega), hl1, List.getElem?_append_left (by omega)]
                    congr 1; omega
                  have st : Step C w h (C.setK b (.app τ' ((xs.length + ys.length) * E.P.cellsOf e'))) (w.setRow b row') h' := by
                    refine ⟨rfl, rfl, rfl, by simp, fun b' hb' => ?_, fun _ _ => rfl, fun _ _ bc hb => ⟨bc, by rw [hbx]; exact hb⟩, up⟩
                    by_cases hbe : b' = b
                    · subst hbe
                      simp only [keptB, hKb]
                      refine .inr ⟨_, _, _, Nat.mul_le_mul_right _ (by omega), setK_same, ht0, hF, by omega, fun j u hj hc => ?_⟩
                      rw [cell_in hnew, hpre j hj, ← cell_in hheap]; exact hc
                    · have := hoth b' hbe
                      simp only [keptB, setK_ne hbe]
                      cases C.K b' <;> simp [this]
                  have S' : Sim E.P (C.setK b (.app τ' ((xs.length + ys.length) * E.P.cellsOf e'))) h' (w.setRow b row') := by
                    refine ⟨fun id bt bc hb => ?_, fun b' hb' => ?_, fun b' τ2 f hb' => ?_⟩
                    · rw [hbx] at hb
                      obtain ⟨h1, h2, cs2, e2, h3, h4, h5⟩ := S.box id bt bc hb
                      have hne : C.φ id ≠ b := fun he => by rw [he, hKb] at h1; cases h1
                      refine ⟨by show (C.setK b _).K (C.φ id) = _; rw [setK_ne hne]; exact h1, h2, cs2, e2, ?_, h4, relC_mono st h5⟩
                      show (w.setRow b row').heap[C.φ id]? = _
                      rw [hoth _ hne]; exact h3
                    · by_cases hbe : b' = b
                      · subst hbe; simpa using hblt
                      · rw [setK_ne hbe] at hb'; simpa using S.lt b' hb'
                    · by_cases hbe : b' = b
                      · subst hbe; rw [setK_same] at hb'; simp at hb'; obtain ⟨rfl, _⟩ := hb'; exact ⟨_, hF⟩
                      · rw [setK_ne hbe] at hb'
                        obtain ⟨F, hF'⟩ := S.tk b' τ2 f hb'
                        obtain ⟨F', h1, _⟩ := up τ2 F hF'
                        exact ⟨F', h1⟩
                  rw [hv] at fin
                  refine fin hr st S' ?_
                  have hall := relDs_append ro rn
                  rw [List.replicate_append_replicate, ← List.length_append] at hall
                  simp only [relV, relV1, relC, relD]
                  refine ⟨⟨_, _, _, rfl, by simp, hroom, hmax, by simp, fun _ => ⟨b, 0, rfl, ?_⟩⟩, ⟨_, hF, by simp, fun _ a2 l2 cp2 hq => ?_⟩⟩
                  · refine relRow_new (relDs_mono st.keeps hall) fun j u hj => ⟨?_, ?_⟩
                    · have := (List.getElem?_eq_some_iff.1 hj).1
                      simp only [List.length_append] at this
                      simp only [Con.fixed, setK_same, Blk.fixed, Nat.add_mul]
                      omega
                    · rw [cell_in hnew]
                      by_cases hjl : j < olds.length
                      · rw [List.getElem?_append_left hjl] at hj
                        rw [hpre j (by omega), ← cell_in hheap]
                        have := hrange b rfl j u hj
                        simpa using this
                      · rw [List.getElem?_append_right (by omega)] at hj
                        have hjn := (List.getElem?_eq_some_iff.1 hj).1
                        have := hmid (j - olds.length) hjn
                        rw [show xs.length * E.P.cellsOf e' + (j - olds.length) = j by omega] at this
                        rw [this]; exact hj
                  · simp at hq
                    obtain ⟨rfl, rfl, rfl⟩ := hq
                    exact .inr ⟨b, row', rfl, by simp [setK_same], hnew, by rw [hsz, hcs]⟩
                · exact grow rfl (by omega)
        · cases hp
      · cases hp
  · cases hp

end
end Go.Tith

namespace Go.Tith

section
variable {E : Env} {C C' : Con} {w w' : World} {h h' : Heap} {o : Oper} {a : Act} {ev : Operand → AV} {v : AV}

theorem wrap_small {n : Int} (h0 : 0 ≤ n) (h1 : n ≤ 4294967296) : IntKind.i64.wrap n = n := IntWalk.i64_in n (by omega)

theorem goes_make {t e : TypeId} {l c : Operand} {n m : Int} {z : DV} (S : Sim E.P C h w) (ho : o.op = .makeSlice t l c) (T : Told E C w h o a ev) (hu : E.P.underlying t = some (.slice e)) (hl : ev l = .d (.int .i64 n)) (hc : ev c = .d (.int .i64 m))
    (hz : zeroA E.P e = some (.d z)) (h0 : 0 ≤ n) (h1 : n ≤ m) (h2 : m ≤ 4294967296) (hb : E.P.bytesOf e ≤ 32768) (hne : E.P.cellsOf e ≠ 0) :
    OpGoes E C w h o a (.lst (some h.toks.length) e (List.replicate n.toNat z)) { h with toks := h.toks ++ [n.toNat] } := by
  intro K Q hK
  have rl := T l (by simp [ho, Op.operands])
  have rc := T c (by simp [ho, Op.operands])
  rw [hl, relV_int] at rl
  rw [hc, relV_int] at rc
  obtain ⟨zv, z1, z2, z3, z4, z5, it, z6, z7⟩ := zeroA_ok hz
  have hsize : it.size = E.P.cellsOf e := by simp [Program.cellsOf, z6]
  have hib : it.bytes = E.P.bytesOf e := by simp [Program.bytesOf, z6]
  generalize hcells : (Array.range (m.toNat * zv.cells.size)).map (zv.cells[· % zv.cells.size]!) = cells
  have hcl : cells.toList = (List.replicate m.toNat zv.cells.toList).flatten := by rw [← hcells, cyc]
  have hrun : (execOp a.eval o).run E.P w = .ok (.value (.slice (some ⟨w.heap.size, 0, none⟩) n.toNat m.toNat)) (w.alloc (.cells cells e)) := by
    have hbig : m.toNat * it.bytes ≤ 140737488355328 := by
      rw [hib]
      calc m.toNat * E.P.bytesOf e ≤ 4294967296 * 32768 := Nat.mul_le_mul (by omega) hb
        _ = 140737488355328 := by decide
    have hbig' : (it.bytes : Int) * m ≤ 140737488355328 := by
      have : (it.bytes : Int) * m = ((m.toNat * it.bytes : Nat) : Int) := by
        rw [Int.natCast_mul, Int.toNat_of_nonneg (by omega), Int.mul_comm]
      omega
    have w1 := wrap_small (n := n) h0 (by omega)
    have w2 := wrap_small (n := m) (by omega) h2
    have t1 : ¬ (m < 0) := by omega
    have t2 : ¬ (281474976710656 < (it.bytes : Int) * m) := by omega
    have t3 : ¬ (n < 0) := by omega
    have t4 : ¬ (m < n) := by omega
    have t5 : ¬ (140737488355328 < m.toNat * it.bytes) := by omega
    by_cases hm : m.toNat * it.size = 0
    · have hm0 : m.toNat = 0 := by
        rcases Nat.mul_eq_zero.1 hm with q | q
        · exact q
        · rw [hsize] at q; exact absurd q hne
      have hce : cells = #[] := by apply Array.ext'; rw [hcl, hm0]; simp
      simp [execOp, ho, Instr.makeSlice, run_underlying hu, rl, rc, asInt, asIntOf, typeInfo, z6, w1, w2, t1, t2, t3, t4, askRoom, roomBytes, t5, sizeOf, hm0, newRow, hce]
      rw [show Array.map (fun _ => (default : Value)) (Array.range 0) = #[] by simp]
    · have hcs : it.size = zv.cells.size := by rw [hsize, z4]
      simp [execOp, ho, Instr.makeSlice, run_underlying hu, rl, rc, asInt, asIntOf, typeInfo, z6, w1, w2, t1, t2, t3, t4, askRoom, roomBytes, t5, sizeOf, hm, zeroValue, z7, newRow]
      rw [hcs, hcells]
  have hsz : (w.alloc (.cells cells e)).heap.size = w.heap.size + 1 := by simp
  have hold : ∀ b, b < w.heap.size → (w.alloc (.cells cells e)).heap[b]? = w.heap[b]? := fun b hb => heap_alloc_old w (.cells cells e) hb
  have hnew : (w.alloc (.cells cells e)).heap[w.heap.size]? = some (.cells cells e (0, 0)) := heap_alloc_new w (.cells cells e)
  have st : Step C w h (C.setK w.heap.size (.app h.toks.length (n.toNat * E.P.cellsOf e))) (w.alloc (.cells cells e)) { h with toks := h.toks ++ [n.toNat] } := new_step' rfl rfl rfl hsz hold rfl (toks_snoc _)
  have S' := new_sim' S st hsz hold rfl (by rintro τ' f' hq; simp at hq; obtain ⟨rfl, _⟩ := hq; exact ⟨n.toNat, by simp⟩) (toks_snoc _)
  unfold Oper.wp
  rw [hrun]
  refine hK _ _ _ st S' ?_
  have hrep := relCs_replicate (P := E.P) (C := C) (w := w) (h := h) z2 (by simpa using z4) (z3 C w h) n.toNat
  rw [show List.replicate n.toNat (AV.d z) = (List.replicate n.toNat z).map .d by simp] at hrep
  have hds := relCs_relDs hrep
  simp only [relV, relV1, relC, relD]
  refine ⟨⟨_, _, _, rfl, by simp, by omega, by simp [maxLen]; omega, by simp, fun _ => ⟨w.heap.size, 0, rfl, ?_⟩⟩, ⟨n.toNat, by simp, by simp, fun _ a2 l2 cp2 hq => ?_⟩⟩
  · refine relRow_new (news := (List.replicate n.toNat zv.cells.toList).flatten) (by simpa using relDs_mono st.keeps hds) fun j x hj => ⟨?_, ?_⟩
    · have := (List.getElem?_eq_some_iff.1 hj).1
      simp at this
      simp only [Con.fixed, setK_same, Blk.fixed]
      rw [← z4]; exact this
    · rw [cell_in hnew, hcl]
      have : m.toNat = n.toNat + (m.toNat - n.toNat) := by omega
      rw [this, ← List.replicate_append_replicate, List.flatten_append, List.getElem?_append_left (List.getElem?_eq_some_iff.1 hj).1]
      exact hj
  · simp at hq
    obtain ⟨rfl, rfl, rfl⟩ := hq
    refine .inr ⟨w.heap.size, cells, rfl, by simp [setK_same], hnew, ?_⟩
    have := congrArg List.length hcl
    simp at this
    rw [this, z4]

theorem relVs_append {P : Program} : ∀ {xs ys : List AV} {vs ws : List Value}, relVs P C w h xs vs → relVs P C w h ys ws → relVs P C w h (xs ++ ys) (vs ++ ws)
  | [], ys, vs, ws, r, r' => by simp only [relVs] at r; subst r; simpa using r'
  | x :: xs, ys, vs, ws, r, r' => by
    simp only [relVs] at r
    obtain ⟨v, vs', rfl, h1, h2⟩ := r
    simp only [List.cons_append, relVs]
    exact ⟨v, _, rfl, h1, relVs_append h2 r'⟩

theorem relOnes_relVs {P : Program} : ∀ {xs : List AV} {vs : List Value}, (∀ x ∈ xs, x.isAgg = false) → relOnes P C w h xs vs → relVs P C w h xs vs
  | [], vs, _, r => by simpa [relOnes, relVs] using r
  | x :: xs, vs, hx, r => by
    simp only [relOnes] at r
    obtain ⟨v, vs', rfl, h1, h2⟩ := r
    simp only [relVs]
    exact ⟨v, vs', rfl, relC_relV h1 (hx x (by simp)), relOnes_relVs (fun y hy => hx y (by simp [hy])) h2⟩

theorem relV_relV1 {P : Program} {x : AV} {v : Value} (ht : notTup x = true) (r : relV P C w h x v) : relV1 P C w h x v := by
  cases x <;> first | exact r | simp [notTup] at ht

theorem notTup_coe {P : Program} {t : TypeId} {x : AV} : notTup (coe P t x) = notTup x := by
  cases x with
  | nils => simp only [coe]; split <;> rfl
  | _ => rfl

theorem eff_args {avs : List Operand} {ts : List TypeId} (T : ∀ x ∈ avs, relV E.P C w h (ev x) (a.eval x)) (hl : ts.length = avs.length) (hn : (avs.all fun x => notTup (ev x)) = true) :
    relVs E.P C w h (List.zipWith (fun t a => coe E.P t (ev a)) ts avs) (avs.map a.eval) := by
  induction avs generalizing ts with
  | nil => cases ts <;> simp [relVs]
  | cons x avs ih =>
    cases ts with
    | nil => simp at hl
    | cons t ts =>
      simp only [List.all_cons, Bool.and_eq_true] at hn
      simp only [List.zipWith_cons_cons, List.map_cons, relVs]
      refine ⟨_, _, rfl, relV_relV1 ?_ (coe_rel (T x (by simp))), ih (fun y hy => T y (by simp [hy])) (by simpa using hl) hn.2⟩
      rw [notTup_coe]; exact hn.1

theorem goes_eff_call {c : Call} {fv : Operand} {f : FuncId} {caps : List AV} {s : List AV → Heap → Option (AV × Heap)} (S : Sim E.P C h w) (G : GOK E.P E.G C w) (ho : o.op = .call c) (hc : c.callee = .value fv) (T : Told E C w h o a ev)
    (hf : ev fv = .fn f caps) (en : Enterable E.P f) (m : EffMeets E.P E.G f s) (hl : c.argTypes.toList.length = c.args.toList.length) (hn : (c.args.toList.all fun x => notTup (ev x)) = true) (hcap : (caps.all fun x => !aggA x) = true)
    (hs : s (List.zipWith (fun t a => coe E.P t (ev a)) c.argTypes.toList c.args.toList ++ caps) h = some (v, h')) : OpGoes E C w h o a v h' := by
  intro K Q hK
  have rf := T fv (by simp [ho, Op.operands, Call.operands, hc])
  rw [hf] at rf
  simp only [relV, relV1, relC] at rf
  obtain ⟨vs, h1, hones⟩ := rf
  simp at h1
  have Ta : ∀ x ∈ c.args.toList, relV E.P C w h (ev x) (a.eval x) := fun x hx => T x (by
    simp only [ho, Op.operands, Call.operands]
    simp; exact .inr (by simpa using hx))
  have ha := relVs_append (eff_args (a := a) Ta hl hn) (relOnes_relVs (by
    intro x hx
    have := List.all_eq_true.1 hcap x hx
    rw [aggA_eq] at this
    simpa using this) hones)
  refine wp_call (caps := vs) en ho hc h1 (m C w h _ _ v h' S G ha hs) ?_
  rintro e w' ⟨C', val, rfl, hr, st, S'⟩
  exact ⟨val, rfl, hK C' w' val st S' hr⟩

theorem eop_goes (S : Sim E.P C h w) (SO : SOK E) (G : GOK E.P E.G C w) (T : Told E C w h o a ev) (hp : eop E h ev o = some (v, h')) : OpGoes E C w h o a v h' := by
  unfold eop at hp
  split at hp
  · rename_i t ho
    split at hp
    · rename_i z hz
      simp only [Option.some.injEq, Prod.mk.injEq] at hp
      obtain ⟨rfl, rfl⟩ := hp
      exact goes_alloc S ho hz
    · cases hp
  · rename_i t x ho
    split at hp
    · rename_i hf
      simp only [Option.some.injEq, Prod.mk.injEq] at hp
      obtain ⟨rfl, rfl⟩ := hp
      exact goes_box S ho T rfl hf
    · cases hp
  · rename_i t x y ho
    simp only [Option.map_eq_some_iff, Prod.mk.injEq] at hp
    obtain ⟨h2, hs, rfl, rfl⟩ := hp
    exact goes_store S ho T hs
  · rename_i t l c ho
    split at hp
    · rename_i e n m hu hl hc
      split at hp
      · rename_i z hz
        split at hp
        · rename_i hcnd
          simp only [Option.some.injEq, Prod.mk.injEq] at hp
          obtain ⟨rfl, rfl⟩ := hp
          exact goes_make S ho T hu hl hc hz hcnd.1 hcnd.2.1 hcnd.2.2.1 hcnd.2.2.2.1 hcnd.2.2.2.2
        · cases hp
      · cases hp
    · cases hp
  · rename_i c ho
    split at hp
    · rename_i x y t t' hcal has hts
      have has' : c.args = #[x, y] := by apply Array.ext'; simpa using has
      have hts' : c.argTypes = #[t, t'] := by apply Array.ext'; simpa using hts
      split at hp
      · rename_i e hu
        split at hp
        · rename_i ht'
          exact append_goes S ho hcal has' hts' T hu ht' hp
        · cases hp
      · cases hp
    · rename_i hcal
      split at hp
      · rename_i g caps hf
        split at hp
        · rename_i s hS
          split at hp
          · rename_i hcnd
            have := SO g
            rw [hS] at this
            exact goes_eff_call S G ho hcal T hf this.1 this.2 hcnd.1 hcnd.2.1 hcnd.2.2 hp
          · cases hp
        · cases hp
      · cases hp
    · cases hp
  · cases hp

end
end Go.Tith

namespace Go.Tith

section
variable {E : Env} {C C' : Con} {w w' : World} {h h' : Heap} {o : Oper} {a a' : Act} {v : AV} {st st' : St} {N : Nat} {ops : Array Oper}

/-- A frame is told by a state. -/
structure Inv (E : Env) (N : Nat) (C : Con) (w : World) (st : St) (a : Act) : Prop where
  sim : Sim E.P C st.h w
  glob : GOK E.P E.G C w
  env : ∀ t, relV E.P C w st.h (st.env t) (a.tmps.getD t undef)
  size : a.tmps.size = N
  defers : a.defers = []

theorem relV_evalO (I : Inv E N C w st a) (x : Operand) : relV E.P C w st.h (evalO E st.env x) (a.eval x) := by
  cases x with
  | tmp t => exact I.env t
  | func f => simp only [evalO, Act.eval, relV, relV1, relC, relOnes]; exact ⟨[], rfl, rfl⟩
  | global g =>
    simp only [evalO, Act.eval]
    cases hg : E.G g with
    | none => simp [relV, relV1]
    | some q =>
      obtain ⟨t, x⟩ := q
      obtain ⟨cs, h1, h2, h3, h4⟩ := I.glob.cells hg
      simp only [relV, relV1, relC]
      exact ⟨g, 0, cs, rfl, h1, h2, h3, fun j v hj => by simpa using h4 j v hj⟩
  | const v =>
    simp only [evalO, Act.eval]
    unfold constA
    split <;> simp [relV, relV1, relD, DV.isAgg]

theorem put_getD {d : Nat} {val : Value} (hd : d < a.tmps.size) (t : Nat) : ((a.put (some d) val).tmps).getD t undef = if t = d then val else a.tmps.getD t undef := by
  simp only [Act.put, Array.getD_eq_getD_getElem?]
  by_cases e : t = d
  · subst e; simp [hd]
  · rw [Array.getElem?_setIfInBounds_ne (Ne.symm e)]; simp [e]

theorem inv_put (I : Inv E N C w st a) (sp : Step C w st.h C' w' h') (S' : Sim E.P C' h' w') {val : Value} (r : relV E.P C' w' h' v val) (hd : ∀ d, o.dst = some d → d < N) :
    Inv E N C' w' ({ st with h := h' }.put o.dst v) (a.put o.dst val) := by
  cases hdst : o.dst with
  | none => exact ⟨S', I.glob.step sp, fun t => relV_mono sp (I.env t), I.size, I.defers⟩
  | some d =>
    have hlt := hd d hdst
    refine ⟨S', I.glob.step sp, fun t => ?_, by simp [Act.put, I.size], by simp [Act.put, I.defers]⟩
    rw [put_getD (by rw [I.size]; exact hlt)]
    simp only [St.put, upd]
    split
    · exact r
    · exact relV_mono sp (I.env t)

theorem getD_bool {t : Nat} {b : Bool} (h : a.tmps.getD t undef = .bool b) : a.tmps[t]? = some (.bool b) := by
  rw [Array.getD_eq_getD_getElem?] at h
  cases hq : a.tmps[t]? with
  | none => rw [hq] at h; simp [undef] at h
  | some x => rw [hq] at h; simp at h; rw [h]

theorem getD_undef {t : Nat} (h : a.tmps.getD t undef = undef) : ∀ b, a.tmps[t]? ≠ some (.bool b) := by
  intro b hb
  rw [Array.getD_eq_getD_getElem?, hb] at h
  simp [undef] at h

/-- The temporary that a guard looks at is told. -/
def GuardTold (E : Env) (C : Con) (w : World) (h : Heap) (ops : Array Oper) (o : Oper) (a : Act) (env : Nat → AV) : Prop :=
  ∀ j want d, o.guard = some (j, want) → (ops[j]?).bind (·.dst) = some d → relV E.P C w h (env d) (a.tmps.getD d undef)

theorem wanted_of (I : GuardTold E C w h ops o a st.env) {g : Bool} (hw : wantA ops st.env o = some g) : Region.wanted o (yielded ops a.tmps) = g := by
  unfold wantA at hw
  unfold Region.wanted
  split at hw
  · rename_i hg; rw [hg]; simp at hw; simp [hw]
  · rename_i j want hg
    rw [hg]
    simp only
    simp only [gd_eq] at hw
    split at hw
    · rename_i d hd
      have r := I j want d hg hd
      unfold yielded
      rw [hd]
      simp only [Option.bind_some]
      split at hw
      · rename_i b hb
        rw [hb, relV_bool] at r
        rw [getD_bool r]
        simp only [Option.some.injEq] at hw; subst hw
        simp
      · rename_i c b hb
        rw [hb] at r
        simp only [relV, relV1] at r
        simp only [Option.some.injEq] at hw; subst hw
        cases c with
        | true =>
          have r := r.1 rfl
          simp [DV.isAgg, relD] at r
          rw [getD_bool (by simpa using r)]
          simp
        | false =>
          have r := r.2 rfl
          have := getD_undef r
          cases hq : a.tmps[d]? with
          | none => simp
          | some x => cases x <;> first | (exact absurd hq (this _)) | simp
      · rename_i x hb
        rw [hb] at r
        simp only [relV, relV1] at r
        simp only [Option.some.injEq] at hw; subst hw
        have r := r.2 trivial
        have := getD_undef r
        cases hq : a.tmps[d]? with
        | none => simp
        | some x => cases x <;> first | (exact absurd hq (this _)) | simp
      · cases hw
    · cases hw

theorem relV_undefA {P : Program} : relV P C w h undefA undef := by simp [undefA, relV, relV1]

/-- One operation. -/
theorem step_core {i : Nat} {Q : Exit → Act → World → Prop} (SO : SOK E) (hi : ops[i]? = some o) (S : Sim E.P C st.h w) (G : GOK E.P E.G C w) (T : Told E C w st.h o a (evalO E st.env)) (GT : GuardTold E C w st.h ops o a st.env)
    (hs : stepOp E ops o st = some st') : ∃ v h', st' = { st with h := h' }.put o.dst v ∧ (cls E.S o ≠ .eff → h' = st.h) ∧
      ∀ K : Act → World → Prop, (∀ C' w' val, Step C w st.h C' w' h' → Sim E.P C' h' w' → relV E.P C' w' h' v val → K (a.put o.dst val) w') → wpOp E.P ops Q i K a w := by
  have T' : ∀ {g : Bool}, g = true → Told E C w st.h o a (fun x => strip g (evalO E st.env x)) := fun hg x hx => by subst hg; exact strip_rel (T x hx)
  have TG : ∀ {g : Bool}, g = true → Told E C w st.h o a (evG E st.env o g) := fun hg x hx => by
    unfold evG
    split
    · exact T x hx
    · exact T' hg x hx
  have run : ∀ {v : AV} {h' : Heap}, Region.wanted o (yielded ops a.tmps) = true → OpGoes E C w st.h o a v h' →
      ∀ K : Act → World → Prop, (∀ C' w' val, Step C w st.h C' w' h' → Sim E.P C' h' w' → relV E.P C' w' h' v val → K (a.put o.dst val) w') → wpOp E.P ops Q i K a w := by
    intro v h' hw hg K hK
    unfold wpOp
    rw [hi]
    simp only [hw, if_true]
    exact .inl (hg K Q hK)
  have skip : ∀ {v : AV}, Region.wanted o (yielded ops a.tmps) = false → relV E.P C w st.h v undef →
      ∀ K : Act → World → Prop, (∀ C' w' val, Step C w st.h C' w' st.h → Sim E.P C' st.h w' → relV E.P C' w' st.h v val → K (a.put o.dst val) w') → wpOp E.P ops Q i K a w := by
    intro v hw hr K hK
    unfold wpOp
    rw [hi]
    simp only [hw, Bool.false_eq_true, if_false]
    exact hK C w undef Step.refl S hr
  unfold stepOp at hs
  split at hs
  · rename_i hguard
    have hw : Region.wanted o (yielded ops a.tmps) = true := by simp [Region.wanted, hguard]
    split at hs
    · rename_i hcls
      split at hs
      · rename_i v h' he
        simp only [Option.some.injEq] at hs
        exact ⟨v, h', hs.symm, fun hc => absurd hcls hc, run hw (eop_goes S SO G (T' rfl) he)⟩
      · cases hs
    · split at hs
      · rename_i v he
        simp only [Option.some.injEq] at hs
        exact ⟨v, st.h, hs.symm, fun _ => rfl, run hw (pop_goes S SO G rfl (TG rfl) he)⟩
      · cases hs
  · rename_i jw hguard
    split at hs
    · cases hs
    · rename_i g hwant
      have hw := wanted_of GT hwant
      split at hs
      · split at hs
        · rename_i v he
          split at hs
          · rename_i hnt
            simp only [Option.some.injEq] at hs
            cases g with
            | true =>
              refine ⟨_, st.h, hs.symm, fun _ => rfl, fun K hK => run hw (pop_goes S SO G rfl (TG rfl) he) K fun C' w' val sp S' r => hK C' w' val sp S' ?_⟩
              simp only [relV, relV1]
              exact ⟨fun _ => relV_relV1 hnt r, by simp⟩
            | false => exact ⟨_, st.h, hs.symm, fun _ => rfl, skip hw (by simp [relV, relV1])⟩
          · split at hs
            · cases hs
            · rename_i hgf
              simp only [Option.some.injEq] at hs
              exact ⟨_, st.h, hs.symm, fun _ => rfl, skip (by rw [hw]; simpa using hgf) relV_undefA⟩
        · split at hs
          · cases hs
          · rename_i hgf
            simp only [Option.some.injEq] at hs
            exact ⟨_, st.h, hs.symm, fun _ => rfl, skip (by rw [hw]; simpa using hgf) relV_undefA⟩
      · split at hs
        · rename_i hgt
          split at hs
          · rename_i v he
            split at hs
            · rename_i hnt
              simp only [Option.some.injEq] at hs
              refine ⟨_, st.h, hs.symm, fun _ => rfl, fun K hK => run (by rw [hw, hgt]) (pop_goes S SO G rfl (TG rfl) he) K fun C' w' val sp S' r => hK C' w' val sp S' ?_⟩
              simp only [relV, relV1]
              exact ⟨fun _ => relV_relV1 hnt r, by simp⟩
            · cases hs
          · cases hs
        · rename_i hgf
          simp only [Option.some.injEq] at hs
          exact ⟨_, st.h, hs.symm, fun _ => rfl, skip (by rw [hw]; simpa using hgf) relV_undefA⟩
      · rename_i hcls
        split at hs
        · rename_i hgt
          split at hs
          · rename_i v h' he
            simp only [Option.some.injEq] at hs
            exact ⟨v, h', hs.symm, fun hc => absurd hcls hc, run (by rw [hw, hgt]) (eop_goes S SO G (T' rfl) he)⟩
          · cases hs
        · rename_i hgf
          simp only [Option.some.injEq] at hs
          exact ⟨_, st.h, hs.symm, fun _ => rfl, skip (by rw [hw]; simpa using hgf) relV_undefA⟩

theorem step_sound {i : Nat} {Q : Exit → Act → World → Prop} {K : Act → World → Prop} (SO : SOK E) (hi : ops[i]? = some o) (hd : ∀ d, o.dst = some d → d < N) (I : Inv E N C w st a) (hs : stepOp E ops o st = some st')
    (hK : ∀ C' w' a', Step C w st.h C' w' st'.h → Inv E N C' w' st' a' → K a' w') : wpOp E.P ops Q i K a w := by
  obtain ⟨v, h', rfl, _, hgo⟩ := step_core (Q := Q) SO hi I.sim I.glob (fun x _ => relV_evalO I x) (fun _ _ d _ _ => I.env d) hs
  refine hgo K fun C' w' val sp S' r => hK C' w' _ ?_ (inv_put (o := o) I sp S' r hd)
  cases o.dst <;> exact sp

theorem runOps_sound {Q : Exit → Act → World → Prop} (SO : SOK E) (hd : ∀ o ∈ ops.toList, ∀ d, o.dst = some d → d < N) : ∀ (l : List Oper) (i : Nat) (C : Con) (w : World) (st : St) (a : Act), ops.toList.drop i = l → runOps E ops l st = some st' → Inv E N C w st a →
    (∀ C' w' a', Step C w st.h C' w' st'.h → Inv E N C' w' st' a' → Q .normal a' w') → wpOps E.P ops Q (List.range' i l.length) a w
  | [], i, C, w, st, a, _, hr, I, hQ => by
    simp only [runOps, Option.some.injEq] at hr; subst hr
    simp only [List.length_nil, List.range'_zero, wpOps]
    exact hQ C w a Step.refl I
  | o :: l, i, C, w, st, a, hl, hr, I, hQ => by
    simp only [runOps] at hr
    cases hs : stepOp E ops o st with
    | none => simp [hs] at hr
    | some st1 =>
      simp only [hs] at hr
      have hi : ops[i]? = some o := by
        have h0 : (ops.toList.drop i)[0]? = some o := by rw [hl]; rfl
        rw [List.getElem?_drop] at h0
        simpa using h0
      have hl' : ops.toList.drop (i + 1) = l := by rw [← List.drop_drop, hl]; rfl
      simp only [List.length_cons, List.range'_succ]
      rw [wpOps_cons]
      refine step_sound SO hi (hd o (List.mem_of_getElem? (by simpa using hi))) I hs fun C' w' a' sp I' => ?_
      exact runOps_sound SO hd l (i + 1) C' w' st1 a' hl' hr I' fun C2 w2 a2 sp2 I2 => hQ C2 w2 a2 (sp.trans I.sim.tk sp2) I2

end
end Go.Tith

namespace Go.Tith

section
variable {E : Env} {C C' : Con} {w w' : World} {h h' : Heap} {o : Oper} {a a' : Act} {v : AV} {st st' : St} {N : Nat} {ops : Array Oper}

theorem befS_bit {acc : List Nat} {o : Oper} {i : Nat} (hb : (befS acc o).testBit i = true) : ∃ e ∈ o.after.toList, Region.binds .any e = true ∧ (i = e.on ∨ (acc.getD e.on 0).testBit i = true) := by
  unfold befS at hb
  have key : ∀ (l : List Edge) (s : Nat), (l.foldl (fun s e => if Region.binds .any e = true then s ||| 2 ^ e.on ||| acc.getD e.on 0 else s) s).testBit i = true →
      s.testBit i = true ∨ ∃ e ∈ l, Region.binds .any e = true ∧ (i = e.on ∨ (acc.getD e.on 0).testBit i = true) := by
    intro l
    induction l with
    | nil => intro s hs; exact .inl hs
    | cons e l ih =>
      intro s hs
      simp only [List.foldl_cons] at hs
      rcases ih _ hs with q | ⟨e', h1, h2⟩
      · split at q
        · rename_i hbd
          simp only [Nat.testBit_or, Bool.or_eq_true, Nat.testBit_two_pow, decide_eq_true_eq] at q
          rcases q with (q | q) | q
          · exact .inl q
          · exact .inr ⟨e, by simp, hbd, .inl q.symm⟩
          · exact .inr ⟨e, by simp, hbd, .inr q⟩
        · exact .inl q
      · exact .inr ⟨e', by simp [h1], h2⟩
  rcases key _ _ hb with q | q
  · simp at q
  · exact q

theorem befL_spec : ∀ (l : List Oper) (acc : List Nat), ∃ X, befL l acc = acc ++ X ∧ X.length = l.length ∧ ∀ (j : Nat) o, l[j]? = some o → X[j]? = some (befS (acc ++ X.take j) o)
  | [], acc => ⟨[], by simp [befL], rfl, by simp⟩
  | o :: l, acc => by
    obtain ⟨X, h1, h2, h3⟩ := befL_spec l (acc ++ [befS acc o])
    refine ⟨befS acc o :: X, by simp [befL, h1], by simp [h2], fun j p hp => ?_⟩
    cases j with
    | zero => simp at hp; subst hp; simp
    | succ j =>
      have := h3 j p (by simpa using hp)
      simpa using this

/-- A set of operations with all that is ahead of them. -/
def Closed (ops : Array Oper) (L : Nat → Bool) : Prop := ∀ j o, ops[j]? = some o → L j = true → ∀ e ∈ o.after.toList, Region.binds .any e = true → L e.on = true

theorem bef_sound {L : Nat → Bool} (hc : Closed ops L) (hlt : ∀ j o, ops[j]? = some o → ∀ e ∈ o.after.toList, Region.binds .any e = true → e.on < j) :
    ∀ (j : Nat) (o : Oper), ops[j]? = some o → (∀ e ∈ o.after.toList, Region.binds .any e = true → L e.on = true) → ∀ i, ((befL ops.toList []).getD j 0).testBit i = true → L i = true := by
  obtain ⟨X, h1, h2, h3⟩ := befL_spec ops.toList []
  simp only [List.nil_append] at h1 h3
  rw [h1]
  intro j
  induction j using Nat.strongRecOn with
  | _ j ih =>
    intro o ho he i hb
    have hX := h3 j o (by simpa using ho)
    rw [List.getD_eq_getElem?_getD, hX] at hb
    obtain ⟨e, m1, m2, m3⟩ := befS_bit (by simpa using hb)
    rcases m3 with rfl | m3
    · exact he e m1 m2
    · have hej := hlt j o ho e m1 m2
      have hes : ∃ p, ops[e.on]? = some p := by
        have : j < ops.size := (Array.getElem?_eq_some_iff.1 ho).1
        exact ⟨ops[e.on], by simp [show e.on < ops.size by omega]⟩
      obtain ⟨p, hp⟩ := hes
      refine ih e.on hej p hp (fun e' he' hb' => hc e.on p hp (he e m1 m2) e' he' hb') i ?_
      rw [List.getD_eq_getElem?_getD, List.getElem?_take_of_lt hej] at m3
      rw [List.getD_eq_getElem?_getD]; exact m3

structure CommOK (ops : Array Oper) : Prop where
  lt : ∀ (j : Nat) o, ops[j]? = some o → ∀ e ∈ o.after.toList, Region.binds .any e = true → e.on < j
  bef : ∀ (i j : Nat) p o, ops[i]? = some p → ops[j]? = some o → i < j → clash ops p o = true → ((befL ops.toList []).getD j 0).testBit i = true

theorem comm_ok (hc : comm ops = true) : CommOK ops := by
  unfold comm at hc
  rw [List.all_eq_true] at hc
  have mem : ∀ (j : Nat) o, ops[j]? = some o → (o, j) ∈ ops.toList.zipIdx := by
    intro j o ho
    rw [List.mk_mem_zipIdx_iff_getElem?]
    simpa using ho
  constructor
  · intro j o ho e he hb
    have := hc _ (mem j o ho)
    simp only [Bool.and_eq_true, List.all_eq_true] at this
    have := this.1 e he
    simpa [hb] using this
  · intro i j p o hp ho hij hcl
    have := hc _ (mem j o ho)
    simp only [Bool.and_eq_true, List.all_eq_true] at this
    have := this.2 _ (mem i p hp)
    simpa [hij, hcl] using this

/-- The frame behind those of the first operations that are listed. -/
def envL (ops : Array Oper) (envs : Nat → Nat → AV) (L : Nat → Bool) : Nat → Nat → AV
  | 0 => envs 0
  | i + 1 => match (ops[i]?).bind (·.dst) with
    | some d => if L i = true then upd (envL ops envs L i) d (envs (i + 1) d) else envL ops envs L i
    | none => envL ops envs L i

/-- The states of a run in the text's order. -/
structure Text (E : Env) (ops : Array Oper) (sts : Nat → St) : Prop where
  step : ∀ (i : Nat) o, ops[i]? = some o → stepOp E ops o (sts i) = some (sts (i + 1))
  same : ∀ (i : Nat) o t, ops[i]? = some o → o.dst ≠ some t → (sts (i + 1)).env t = (sts i).env t
  quiet : ∀ (i : Nat) o, ops[i]? = some o → cls E.S o ≠ .eff → (sts (i + 1)).h = (sts i).h
  grow : ∀ (i : Nat) o, ops[i]? = some o → isNew o = true → ∃ xs, (sts (i + 1)).h = { (sts i).h with boxes := (sts i).h.boxes ++ xs }

theorem envL_same {envs : Nat → Nat → AV} {L : Nat → Bool} {t : Nat} {j : Nat} : ∀ n, j ≤ n → (∀ (i : Nat) o, j ≤ i → i < n → ops[i]? = some o → o.dst = some t → L i = false) → envL ops envs L n t = envL ops envs L j t := by
  intro n
  induction n with
  | zero => intro hj _; have : j = 0 := by omega
            subst this; rfl
  | succ n ih =>
    intro hj hL
    by_cases e : j = n + 1
    · subst e; rfl
    · have ih' := ih (by omega) (fun i o h1 h2 => hL i o h1 (by omega))
      rw [← ih']
      simp only [envL]
      cases hd : (ops[n]?).bind (·.dst) with
      | none => rfl
      | some d =>
        simp only
        split
        · rename_i hLn
          cases ho : ops[n]? with
          | none => simp [ho] at hd
          | some o =>
            simp [ho] at hd
            rw [upd_ne]
            intro et
            subst et
            have := hL n o (by omega) (by omega) ho hd
            rw [this] at hLn; cases hLn
        · rfl

theorem envL_text {sts : Nat → St} {L : Nat → Bool} {t : Nat} (tx : Text E ops sts) : ∀ j, j ≤ ops.size → (∀ (i : Nat) o, i < j → ops[i]? = some o → o.dst = some t → L i = true) → envL ops (fun i => (sts i).env) L j t = (sts j).env t := by
  intro j
  induction j with
  | zero => intro _ _; rfl
  | succ j ih =>
    intro hj hL
    have ih' := ih (by omega) (fun i o h1 => hL i o (by omega))
    have ho : ops[j]? = some ops[j] := by simp [show j < ops.size by omega]
    simp only [envL, ho, Option.bind_some]
    cases hd : ops[j].dst with
    | none =>
      simp only
      rw [ih', tx.same j _ t ho (by rw [hd]; simp)]
    | some d =>
      simp only
      by_cases e : t = d
      · subst e
        rw [if_pos (hL j _ (by omega) ho hd), upd_same]
      · have hs := tx.same j _ t ho (by rw [hd]; simpa using Ne.symm e)
        split
        · rw [upd_ne _ _ e, ih', hs]
        · rw [ih', hs]

theorem envL_add {envs : Nat → Nat → AV} {L L' : Nat → Bool} {j : Nat} {o : Oper} {t : Nat} (ho : ops[j]? = some o) (hLj : L j = false) (hL' : ∀ i, L' i = (L i || i == j)) :
    ∀ n, j < n → n ≤ ops.size → (∀ d, o.dst = some d → ∀ (i : Nat) p, j < i → i < n → ops[i]? = some p → p.dst = some d → L i = false) →
      envL ops envs L' n t = (match o.dst with | some d => if t = d then envs (j + 1) d else envL ops envs L n t | none => envL ops envs L n t) := by
  have below : ∀ n, n ≤ j → ∀ t, envL ops envs L' n t = envL ops envs L n t := by
    intro n
    induction n with
    | zero => intro _ _; rfl
    | succ n ih =>
      intro hn t
      have hLn : L' n = L n := by rw [hL']; simp; omega
      simp only [envL, hLn]
      cases (ops[n]?).bind (·.dst) with
      | none => exact ih (by omega) t
      | some d =>
        simp only
        split
        · simp only [upd]; split
          · rfl
          · exact ih (by omega) t
        · exact ih (by omega) t
  intro n
  induction n with
  | zero => intro h; omega
  | succ n ih =>
    intro hjn hsz hdd
    by_cases e : n = j
    · subst e
      simp only [envL, ho, Option.bind_some]
      have hL'n : L' n = true := by rw [hL']; simp
      cases hd : o.dst with
      | none => simp only; exact below n (Nat.le_refl _) t
      | some d =>
        simp only [hL'n, hLj, if_true, Bool.false_eq_true, if_false, upd]
        split
        · rfl
        · exact below n (Nat.le_refl _) t
    · have ih' := ih (by omega) (by omega) (fun d hd i p h1 h2 => hdd d hd i p h1 (by omega))
      have hLn : L' n = L n := by rw [hL']; simp; omega
      have hon : ops[n]? = some ops[n] := by simp [show n < ops.size by omega]
      simp only [envL, hLn, hon, Option.bind_some]
      cases hq : ops[n].dst with
      | none => simp only; exact ih'
      | some q =>
        simp only
        split
        · rename_i hLt
          simp only [upd]
          by_cases etq : t = q
          · subst etq
            simp only [if_true]
            cases hd : o.dst with
            | none => rfl
            | some d =>
              simp only
              split
              · rename_i etd
                subst etd
                have := hdd t hd n _ (by omega) (by omega) hon hq
                rw [this] at hLt; cases hLt
              · rfl
          · simp only [etq, if_false]; exact ih'
        · exact ih'

end
end Go.Tith

namespace Go.Tith

def Ext (h h' : Heap) : Prop := ∃ xs, h' = { h with boxes := h.boxes ++ xs }

theorem Ext.refl (h : Heap) : Ext h h := ⟨[], by simp⟩
theorem Ext.trans {a b c : Heap} (x : Ext a b) (y : Ext b c) : Ext a c := by
  obtain ⟨xs, rfl⟩ := x; obtain ⟨ys, rfl⟩ := y
  exact ⟨xs ++ ys, by simp⟩

section
variable {E : Env} {C C' : Con} {w w' : World} {h h' : Heap} {o : Oper} {a a' : Act} {v : AV} {st st' : St} {N : Nat} {ops : Array Oper} {P : Program} {ev : Operand → AV}

theorem Ext.box (e : Ext h h') {id : Nat} {x : TypeId × AV} (hb : h.boxes[id]? = some x) : h'.boxes[id]? = some x := by
  obtain ⟨xs, rfl⟩ := e
  simp only
  rw [List.getElem?_append_left (List.getElem?_eq_some_iff.1 hb).1]; exact hb

theorem Ext.typeAt (e : Ext h h') {id : Nat} {p : List Nat} {t : TypeId} (ht : h.typeAt P id p = some t) : h'.typeAt P id p = some t := by
  unfold Heap.typeAt at ht ⊢
  split at ht
  · rename_i bt bc hb; rw [e.box hb]; exact ht
  · cases ht

theorem Ext.viewD (e : Ext h h') {x : AV} {y : DV} (hv : viewD P h x = some y) : viewD P h' x = some y := by
  unfold Go.Tith.viewD at hv ⊢
  split at hv
  · split at hv
    · rename_i hb; rw [e.box hb]; exact hv
    · cases hv
  · exact hv

theorem Ext.views (e : Ext h h') : ∀ {xs : List AV} {ys : List DV}, xs.mapM (Go.Tith.viewD P h) = some ys → xs.mapM (Go.Tith.viewD P h') = some ys
  | [], ys, hv => by simpa using hv
  | x :: xs, ys, hv => by
    simp only [List.mapM_cons, Option.bind_eq_bind, Option.pure_def] at hv ⊢
    cases h1 : Go.Tith.viewD P h x with
    | none => simp [h1] at hv
    | some y =>
      rw [h1] at hv
      rw [e.viewD h1]
      simp only [Option.bind_some] at hv ⊢
      cases h2 : xs.mapM (Go.Tith.viewD P h) with
      | none => simp [h2] at hv
      | some zs =>
        rw [h2] at hv
        rw [e.views h2]
        exact hv

theorem sliceA_ext (e : Ext h h') {t : TypeId} {x : AV} {l u m : Option Int} (hp : sliceA E h t x l u m = some v) : sliceA E h' t x l u m = some v := by
  unfold sliceA at hp ⊢
  cases m with
  | some _ => cases hp
  | none =>
    cases x with
    | ptr id p =>
      simp only at hp ⊢
      split at hp
      · rename_i ht; rw [if_pos (e.typeAt ht)]; exact hp
      · cases hp
    | d y => cases y <;> exact hp
    | _ => exact hp

theorem indexAddrA_ext (e : Ext h h') {t : TypeId} {x : AV} {i : Int} (hp : indexAddrA E h t x i = some v) : indexAddrA E h' t x i = some v := by
  unfold indexAddrA at hp ⊢
  cases x with
  | sl id p off len =>
    simp only at hp ⊢
    split at hp
    · rename_i t' ht; rw [e.typeAt ht]; exact hp
    · cases hp
  | ptr id p =>
    simp only at hp ⊢
    split at hp
    · split at hp
      · rename_i hc; rw [if_pos ⟨hc.1, hc.2.1, e.typeAt hc.2.2.1, hc.2.2.2⟩]; exact hp
      · cases hp
    · cases hp
  | d y => cases y <;> exact hp
  | ro _ y => cases y <;> exact hp
  | _ => exact hp

theorem pop_ext {g : Bool} (e : Ext h h') (hp : pop E g h ev o = some v) : pop E g h' ev o = some v := by
  unfold pop at hp ⊢
  cases ho : o.op with
  | indexAddr t x i =>
    simp only [ho] at hp ⊢
    split at hp
    · exact indexAddrA_ext e hp
    · cases hp
  | fieldAddr t x f =>
    simp only [ho] at hp ⊢
    split at hp
    · split at hp
      · split at hp
        · cases hp
        · rename_i hz
          rw [if_neg hz]
          cases hx : ev x with
          | ptr id p =>
            simp only [hx] at hp ⊢
            split at hp
            · rename_i hc; rw [if_pos ⟨e.typeAt hc.1, hc.2⟩]; exact hp
            · cases hp
          | ro _ y => cases y <;> (simp only [hx] at hp ⊢; exact hp)
          | _ => simp only [hx] at hp ⊢; exact hp
      · cases hp
    · cases hp
  | load t x =>
    simp only [ho] at hp ⊢
    cases hx : ev x with
    | ptr id p =>
      simp only [hx] at hp ⊢
      split at hp
      · rename_i hb; rw [e.box hb]; exact hp
      · cases hp
    | _ => simp only [hx] at hp ⊢; exact hp
  | slice t x lo hi mx =>
    simp only [ho] at hp ⊢
    split at hp
    · exact sliceA_ext e hp
    · cases hp
  | call c =>
    simp only [ho] at hp ⊢
    generalize c.callee = cc at hp ⊢
    generalize c.args.toList = avs at hp ⊢
    generalize c.argTypes.toList = ts at hp ⊢
    split at hp
    · exact hp
    · exact hp
    · exact hp
    · split at hp
      · split at hp
        · split at hp
          · rename_i hm; rw [e.views hm]; exact hp
          · cases hp
        · cases hp
      · cases hp
    · cases hp
  | makeFunc f b cs => cases f <;> first | (simp only [ho] at hp ⊢; exact hp) | exact hp
  | _ => first | (simp only [ho] at hp ⊢; exact hp) | (rw [ho] at hp; cases hp)

theorem relV_of_undef {x : AV} {u : Value} (r : relV P C w h (.sel false x) u) : relV P C w h undefA u := by
  simp only [relV, relV1, undefA] at r ⊢
  exact ⟨by simp, r.2⟩

/-- A quiet operation, on a heap with more boxes. -/
theorem quiet_ext (hne : cls E.S o ≠ .eff) (e : Ext h h') {env : Nat → AV} (hs : stepOp E ops o ⟨env, h⟩ = some st') :
    ∃ v v', st' = (⟨env, h⟩ : St).put o.dst v ∧ stepOp E ops o ⟨env, h'⟩ = some ((⟨env, h'⟩ : St).put o.dst v') ∧ ∀ C w g u, relV E.P C w g v' u → relV E.P C w g v u := by
  unfold stepOp at hs ⊢
  cases hg : o.guard with
  | none =>
    simp only [hg] at hs ⊢
    cases hc : cls E.S o with
    | eff => exact absurd hc hne
    | tot =>
      try simp only [hc] at hs ⊢
      split at hs
      · rename_i v hp
        simp only [Option.some.injEq] at hs
        exact ⟨v, v, hs.symm, by rw [pop_ext e hp], fun _ _ _ _ r => r⟩
      · cases hs
    | par =>
      try simp only [hc] at hs ⊢
      split at hs
      · rename_i v hp
        simp only [Option.some.injEq] at hs
        exact ⟨v, v, hs.symm, by rw [pop_ext e hp], fun _ _ _ _ r => r⟩
      · cases hs
  | some q =>
    simp only [hg] at hs ⊢
    cases hw : wantA ops env o with
    | none => simp [hw] at hs
    | some g =>
      simp only [hw] at hs ⊢
      cases hc : cls E.S o with
      | eff => exact absurd hc hne
      | tot =>
        simp only [hc] at hs ⊢
        split at hs
        · rename_i v hp
          rw [pop_ext e hp]
          simp only
          split at hs
          · rename_i hn
            simp only [Option.some.injEq] at hs
            exact ⟨_, _, hs.symm, by rw [if_pos hn], fun _ _ _ _ r => r⟩
          · rename_i hn
            split at hs
            · cases hs
            · rename_i hgf
              simp only [Option.some.injEq] at hs
              exact ⟨_, _, hs.symm, by rw [if_neg hn, if_neg hgf], fun _ _ _ _ r => r⟩
        · split at hs
          · cases hs
          · rename_i hgf
            simp only [Option.some.injEq] at hs
            have hgf : g = false := by simpa using hgf
            subst hgf
            cases hp' : pop E false h' (evG E env o false) o with
            | none => exact ⟨_, _, hs.symm, by simp, fun _ _ _ _ r => r⟩
            | some v' =>
              simp only
              by_cases hn : notTup v' = true
              · exact ⟨_, .sel false v', hs.symm, by simp [hn], fun _ _ _ _ r => relV_of_undef r⟩
              · exact ⟨_, _, hs.symm, by simp [hn], fun _ _ _ _ r => r⟩
      | par =>
        simp only [hc] at hs ⊢
        split at hs
        · rename_i hgt
          split at hs
          · rename_i v hp
            split at hs
            · rename_i hn
              simp only [Option.some.injEq] at hs
              exact ⟨_, _, hs.symm, by rw [if_pos hgt, pop_ext e hp]; simp [hn], fun _ _ _ _ r => r⟩
            · cases hs
          · cases hs
        · rename_i hgt
          simp only [Option.some.injEq] at hs
          exact ⟨_, _, hs.symm, by rw [if_neg hgt], fun _ _ _ _ r => r⟩

end
end Go.Tith

namespace Go.Tith

section
variable {E : Env} {C C' : Con} {w w' : World} {h h' : Heap} {o : Oper} {a a' : Act} {v : AV} {st st' : St} {N : Nat} {ops : Array Oper} {sts : Nat → St}

def listL (listed : Array Bool) (i : Nat) : Bool := listed.getD i false

/-- The heap behind those of the first operations that are listed. -/
def heapL (S : FuncId → Spec) (ops : Array Oper) (sts : Nat → St) (L : Nat → Bool) : Nat → Heap
  | 0 => (sts 0).h
  | i + 1 => match ops[i]? with
    | some o => if cls S o = .eff ∧ L i = true then (sts (i + 1)).h else heapL S ops sts L i
    | none => heapL S ops sts L i

/-- A frame in the middle of a region, whatever the order. -/
structure InvD (E : Env) (N : Nat) (ops : Array Oper) (sts : Nat → St) (L : Nat → Bool) (C : Con) (w : World) (a : Act) : Prop where
  sim : Sim E.P C (heapL E.S ops sts L ops.size) w
  glob : GOK E.P E.G C w
  env : ∀ t, relV E.P C w (heapL E.S ops sts L ops.size) (envL ops (fun i => (sts i).env) L ops.size t) (a.tmps.getD t undef)
  size : a.tmps.size = N
  defers : a.defers = []
  closed : Closed ops L

/-- What an operation looks at is, in the middle, what the text's order gives. -/
theorem looks_text (tx : Text E ops sts) (co : CommOK ops) {L : Nat → Bool} (hc : Closed ops L) {j : Nat} (ho : ops[j]? = some o) (hLj : L j = false) (hready : ∀ e ∈ o.after.toList, Region.binds .any e = true → L e.on = true)
    {t : Nat} (ht : t ∈ o.looksAt ops) : envL ops (fun i => (sts i).env) L ops.size t = (sts j).env t := by
  have hj : j < ops.size := (Array.getElem?_eq_some_iff.1 ho).1
  rw [envL_same (j := j) ops.size (by omega) ?_, envL_text tx j (by omega) ?_]
  · intro i p hij hp hpd
    refine bef_sound hc co.lt j o ho hready i (co.bef i j p o hp ho hij ?_)
    simp [clash, hpd, ht]
  · intro i p hji hin hp hpd
    by_cases e : i = j
    · subst e; exact hLj
    · cases hLi : L i with
      | false => rfl
      | true =>
        have hb := co.bef j i o p ho hp (by omega) (by simp [clash, hpd]; exact .inr (by simpa using ht))
        have := bef_sound hc co.lt i p hp (fun e he hb => hc i p hp hLi e he hb) j hb
        rw [this] at hLj; cases hLj

theorem no_later (co : CommOK ops) {L : Nat → Bool} (hc : Closed ops L) {j : Nat} (ho : ops[j]? = some o) (hLj : L j = false) {d : Nat} (hd : o.dst = some d) : ∀ (i : Nat) p, j < i → ops[i]? = some p → p.dst = some d → L i = false := by
  intro i p hji hp hpd
  cases hLi : L i with
  | false => rfl
  | true =>
    have hb := co.bef j i o p ho hp hji (by simp [clash, hpd, hd])
    have := bef_sound hc co.lt i p hp (fun e he hb => hc i p hp hLi e he hb) j hb
    rw [this] at hLj; cases hLj

/-! ### effects -/
structure EffOK (S : FuncId → Spec) (ops : Array Oper) : Prop where
  later : ∀ (j i : Nat) o p, ops[j]? = some o → ops[i]? = some p → cls S o = .eff → j < i → ((befL ops.toList []).getD i 0).testBit j = true
  sooner : ∀ (j i : Nat) o p, ops[j]? = some o → ops[i]? = some p → cls S o = .eff → i < j → ((befL ops.toList []).getD j 0).testBit i = true ∨ (isNew o = true ∧ cls S p ≠ .eff)

theorem eff_ok {S : FuncId → Spec} (h : effOK S ops = true) : EffOK S ops := by
  unfold effOK at h
  rw [List.all_eq_true] at h
  have mem : ∀ (j : Nat) o, ops[j]? = some o → (o, j) ∈ ops.toList.zipIdx := by
    intro j o ho
    rw [List.mk_mem_zipIdx_iff_getElem?]
    simpa using ho
  constructor
  · intro j i o p ho hp hc hji
    have := h _ (mem j o ho)
    simp only [hc, Bool.or_eq_true, List.all_eq_true] at this
    have := (this.resolve_left (by simp)) _ (mem i p hp)
    simp only [Bool.and_eq_true] at this
    simpa [hji] using this.1
  · intro j i o p ho hp hc hij
    have := h _ (mem j o ho)
    simp only [hc, Bool.or_eq_true, List.all_eq_true] at this
    have := (this.resolve_left (by simp)) _ (mem i p hp)
    simp only [Bool.and_eq_true] at this
    have := this.2
    simp only [hij, decide_true, Bool.not_true, Bool.false_or, Bool.or_eq_true, Bool.and_eq_true] at this
    rcases this with q | q
    · exact .inl q
    · exact .inr ⟨q.1, by simpa using q.2⟩

theorem heapL_full (tx : Text E ops sts) {L : Nat → Bool} : ∀ j, j ≤ ops.size → (∀ (i : Nat) o, i < j → ops[i]? = some o → cls E.S o = .eff → L i = true) → heapL E.S ops sts L j = (sts j).h := by
  intro j
  induction j with
  | zero => intro _ _; rfl
  | succ j ih =>
    intro hj hL
    have ih' := ih (by omega) (fun i o h1 => hL i o (by omega))
    have ho : ops[j]? = some ops[j] := by simp [show j < ops.size by omega]
    simp only [heapL, ho]
    split
    · rfl
    · rename_i hq
      rw [ih']
      by_cases hc : cls E.S ops[j] = .eff
      · exact absurd ⟨hc, hL j _ (by omega) ho hc⟩ hq
      · exact (tx.quiet j _ ho hc).symm

theorem heapL_same {L : Nat → Bool} {j : Nat} : ∀ n, j ≤ n → (∀ (i : Nat) o, j ≤ i → i < n → ops[i]? = some o → cls E.S o = .eff → L i = false) → heapL E.S ops sts L n = heapL E.S ops sts L j := by
  intro n
  induction n with
  | zero => intro hj _; have : j = 0 := by omega
            subst this; rfl
  | succ n ih =>
    intro hj hL
    by_cases e : j = n + 1
    · subst e; rfl
    · have ih' := ih (by omega) (fun i o h1 h2 => hL i o h1 (by omega))
      rw [← ih']
      simp only [heapL]
      cases ho : ops[n]? with
      | none => rfl
      | some o =>
        simp only
        rw [if_neg]
        rintro ⟨h1, h2⟩
        have := hL n o (by omega) (by omega) ho h1
        rw [this] at h2; cases h2

/-- All that has effects and is ahead of an operation that is ready is listed. -/
theorem sooner_listed (co : CommOK ops) (ef : EffOK E.S ops) {L : Nat → Bool} (hc : Closed ops L) {j : Nat} (ho : ops[j]? = some o) (hready : ∀ e ∈ o.after.toList, Region.binds .any e = true → L e.on = true) :
    ∀ (i : Nat) p, i < j → ops[i]? = some p → cls E.S p = .eff → L i = true := fun i p hij hp hcp =>
  bef_sound hc co.lt j o ho hready i (ef.later i j p o hp ho hcp hij)

/-- What has effects, is behind an operation that is not listed, and is listed, makes a box. -/
theorem later_new (co : CommOK ops) (ef : EffOK E.S ops) {L : Nat → Bool} (hc : Closed ops L) {j : Nat} (ho : ops[j]? = some o) (hLj : L j = false) :
    ∀ (i : Nat) p, j < i → ops[i]? = some p → cls E.S p = .eff → L i = true → isNew p = true ∧ cls E.S o ≠ .eff := fun i p hji hp hcp hLi => by
  rcases ef.sooner i j p o hp ho hcp hji with q | q
  · have := bef_sound hc co.lt i p hp (fun e he hb => hc i p hp hLi e he hb) j q
    rw [this] at hLj; cases hLj
  · exact q

theorem heapL_ext (tx : Text E ops sts) (co : CommOK ops) (ef : EffOK E.S ops) {L : Nat → Bool} (hc : Closed ops L) {j : Nat} (ho : ops[j]? = some o) (hLj : L j = false) (hready : ∀ e ∈ o.after.toList, Region.binds .any e = true → L e.on = true) (hne : cls E.S o ≠ .eff) :
    Ext (sts j).h (heapL E.S ops sts L ops.size) := by
  have hj : j < ops.size := (Array.getElem?_eq_some_iff.1 ho).1
  have h0 : heapL E.S ops sts L (j + 1) = (sts j).h := by
    simp only [heapL, ho]
    rw [if_neg (fun q => hne q.1)]
    exact heapL_full tx j (by omega) (sooner_listed co ef hc ho hready)
  -- the states behind j, avs far avs a listed one with effects
  have grow : ∀ n, j + 1 ≤ n → n ≤ ops.size → (∀ (i : Nat) p, j < i → i < n → ops[i]? = some p → cls E.S p = .eff → L i = true) → Ext (sts j).h (sts n).h := by
    intro n
    induction n with
    | zero => intro h; omega
    | succ n ih =>
      intro h1 h2 hL
      have hon : ops[n]? = some ops[n] := by simp [show n < ops.size by omega]
      by_cases e : n = j
      · subst e
        rw [ho] at hon
        rw [tx.quiet n o ho hne]
        exact Ext.refl _
      · have ih' := ih (by omega) (by omega) (fun i p a b => hL i p a (by omega))
        refine ih'.trans ?_
        by_cases hcn : cls E.S ops[n] = .eff
        · have := hL n _ (by omega) (by omega) hon hcn
          obtain ⟨hnew, _⟩ := later_new co ef hc ho hLj n _ (by omega) hon hcn this
          exact tx.grow n _ hon hnew
        · rw [tx.quiet n _ hon hcn]
          exact Ext.refl _
  have key : ∀ n, j + 1 ≤ n → n ≤ ops.size → Ext (sts j).h (heapL E.S ops sts L n) := by
    intro n
    induction n with
    | zero => intro h; omega
    | succ n ih =>
      intro h1 h2
      by_cases e : n = j
      · subst e; rw [h0]; exact Ext.refl _
      · have ih' := ih (by omega) (by omega)
        have hon : ops[n]? = some ops[n] := by simp [show n < ops.size by omega]
        simp only [heapL, hon]
        split
        · rename_i hq
          refine grow (n + 1) (by omega) h2 fun i p a b hp hcp => ?_
          by_cases ein : i = n
          · subst ein; exact hq.2
          · exact bef_sound hc co.lt n _ hon (fun e he hb => hc n _ hon hq.2 e he hb) i (ef.later i n p _ hp hon hcp (by omega))
        · exact ih'
  exact key ops.size (by omega) (Nat.le_refl _)

theorem heapL_at (tx : Text E ops sts) (co : CommOK ops) (ef : EffOK E.S ops) {L : Nat → Bool} (hc : Closed ops L) {j : Nat} (ho : ops[j]? = some o) (hLj : L j = false) (hready : ∀ e ∈ o.after.toList, Region.binds .any e = true → L e.on = true) (hE : cls E.S o = .eff) :
    heapL E.S ops sts L ops.size = (sts j).h := by
  have hj : j < ops.size := (Array.getElem?_eq_some_iff.1 ho).1
  rw [heapL_same (j := j) ops.size (by omega) ?_]
  · exact heapL_full tx j (by omega) (sooner_listed co ef hc ho hready)
  · intro i p hji hin hp hcp
    by_cases e : i = j
    · subst e; exact hLj
    · cases hLi : L i with
      | false => rfl
      | true => exact absurd hE (later_new co ef hc ho hLj i p (by omega) hp hcp hLi).2

theorem heapL_add_eff {L' : Nat → Bool} {j : Nat} (ho : ops[j]? = some o) (hE : cls E.S o = .eff) (hL'j : L' j = true) (hno : ∀ (i : Nat) p, j < i → ops[i]? = some p → cls E.S p = .eff → L' i = false) :
    heapL E.S ops sts L' ops.size = (sts (j + 1)).h := by
  have hj : j < ops.size := (Array.getElem?_eq_some_iff.1 ho).1
  rw [heapL_same (j := j + 1) ops.size (by omega) (fun i p a _ hp hcp => hno i p (by omega) hp hcp)]
  simp only [heapL, ho, hE, hL'j]
  simp

theorem heapL_add_quiet {L L' : Nat → Bool} {j : Nat} (ho : ops[j]? = some o) (hne : cls E.S o ≠ .eff) (hL' : ∀ i, L' i = (L i || i == j)) : ∀ n, heapL E.S ops sts L' n = heapL E.S ops sts L n := by
  intro n
  induction n with
  | zero => rfl
  | succ n ih =>
    simp only [heapL]
    cases hon : ops[n]? with
    | none => exact ih
    | some p =>
      simp only [ih]
      by_cases e : n = j
      · subst e
        rw [ho] at hon; obtain rfl := Option.some.inj hon
        rw [if_neg (fun q => hne q.1), if_neg (fun q => hne q.1)]
      · have : L' n = L n := by rw [hL']; simp [e]
        rw [this]

def unl (listed : Array Bool) (n : Nat) : Nat := ((List.range n).filter fun i => !listL listed i).length

theorem unl_set {listed : Array Bool} {n j : Nat} (hj : j < n) (hsz : listed.size = n) (hl : listL listed j = false) : unl (listed.setIfInBounds j true) n + 1 = unl listed n := by
  unfold unl
  have key : ∀ (l : List Nat), l.Nodup → j ∈ l → ((l.filter fun i => !listL (listed.setIfInBounds j true) i).length + 1 = (l.filter fun i => !listL listed i).length) := by
    intro l
    induction l with
    | nil => intro _ h; simp at h
    | cons x l ih =>
      intro hnd hm
      have hlx : ∀ x, x ≠ j → listL (listed.setIfInBounds j true) x = listL listed x := by
        intro x hx
        simp only [listL, Array.getD_eq_getD_getElem?]
        rw [Array.getElem?_setIfInBounds_ne (Ne.symm hx)]
      by_cases e : x = j
      · subst e
        have hx1 : listL (listed.setIfInBounds x true) x = true := by
          simp only [listL, Array.getD_eq_getD_getElem?]
          simp [show x < listed.size by omega]
        have hnot : ∀ y ∈ l, y ≠ x := by
          intro y hy e; subst e
          exact (List.nodup_cons.1 hnd).1 hy
        have heq : (l.filter fun i => !listL (listed.setIfInBounds x true) i) = (l.filter fun i => !listL listed i) := by
          apply List.filter_congr
          intro y hy
          rw [hlx y (hnot y hy)]
        simp [List.filter_cons, hx1, hl, heq]
      · have hm' : j ∈ l := by
          rcases List.mem_cons.1 hm with q | q
          · exact absurd q.symm e
          · exact q
        have := ih (List.nodup_cons.1 hnd).2 hm'
        simp only [List.filter_cons, hlx x e]
        split
        · simp only [List.length_cons]; omega
        · exact this
  exact key _ List.nodup_range (by simpa using hj)

theorem ready_iff {listed : Array Bool} (hsz : listed.size = ops.size) {j : Nat} (hj : j ∈ Region.ready .any ops listed) : ∃ o, ops[j]? = some o ∧ listL listed j = false ∧ ∀ e ∈ o.after.toList, Region.binds .any e = true → listL listed e.on = true := by
  rw [mem_ready] at hj
  obtain ⟨h1, o, h2, h3⟩ := hj
  have hlt : j < ops.size := (Array.getElem?_eq_some_iff.1 h2).1
  refine ⟨o, h2, ?_, fun e he hb => h3 e (by simpa using he) hb⟩
  simp only [listL, Array.getD_eq_getD_getElem?] at h1 ⊢
  have : listed[j]? = some listed[j] := by simp [show j < listed.size by omega]
  rw [this] at h1 ⊢
  simpa using h1

theorem all_listed (co : CommOK ops) {listed : Array Bool} (hsz : listed.size = ops.size) (hr : Region.ready .any ops listed = []) : ∀ i, i < ops.size → listL listed i = true := by
  intro i
  induction i using Nat.strongRecOn with
  | _ i ih =>
    intro hi
    cases hl : listL listed i with
    | true => rfl
    | false =>
      exfalso
      have ho : ops[i]? = some ops[i] := by simp [hi]
      have : i ∈ Region.ready .any ops listed := by
        rw [mem_ready]
        refine ⟨?_, _, ho, fun e he hb => ?_⟩
        · have : listed[i]? = some listed[i] := by simp [show i < listed.size by omega]
          simp only [listL, Array.getD_eq_getD_getElem?, this] at hl ⊢
          simpa using hl
        · exact ih e.on (co.lt i _ ho e (by simpa using he) hb) (by have := co.lt i _ ho e (by simpa using he) hb; omega)
      rw [hr] at this; cases this

theorem any_sound {Q : Exit → Act → World → Prop} (SO : SOK E) (tx : Text E ops sts) (co : CommOK ops) (ef : EffOK E.S ops) (hd : ∀ o ∈ ops.toList, ∀ d, o.dst = some d → d < N) {C0 : Con} {w0 : World} (tk0 : C0.tk (sts 0).h)
    (hQ : ∀ C' w' a', Step C0 w0 (sts 0).h C' w' (sts ops.size).h → Inv E N C' w' (sts ops.size) a' → Q .normal a' w') :
    ∀ (fuel : Nat) (listed : Array Bool) (C : Con) (w : World) (a : Act), unl listed ops.size ≤ fuel → listed.size = ops.size → Step C0 w0 (sts 0).h C w (heapL E.S ops sts (listL listed) ops.size) → InvD E N ops sts (listL listed) C w a → wpAny E.P .any ops Q fuel listed a w := by
  have done : ∀ (listed : Array Bool) (C : Con) (w : World) (a : Act), listed.size = ops.size → Step C0 w0 (sts 0).h C w (heapL E.S ops sts (listL listed) ops.size) → InvD E N ops sts (listL listed) C w a → Region.ready .any ops listed = [] → Q .normal a w := by
    intro listed C w a hsz sp I hr
    have hall := all_listed co hsz hr
    have hh : heapL E.S ops sts (listL listed) ops.size = (sts ops.size).h := heapL_full tx ops.size (Nat.le_refl _) (fun i o hi _ _ => hall i hi)
    have hs := I.sim
    have he := I.env
    rw [hh] at sp hs
    refine hQ C w a sp ⟨hs, I.glob, fun t => ?_, I.size, I.defers⟩
    have := he t
    rw [hh, envL_text tx ops.size (Nat.le_refl _) (fun i o hi _ _ => hall i hi)] at this
    exact this
  intro fuel
  induction fuel with
  | zero =>
    intro listed C w a hu hsz sp I
    have hr : Region.ready .any ops listed = [] := by
      cases hq : Region.ready .any ops listed with
      | nil => rfl
      | cons j l =>
        exfalso
        obtain ⟨o, ho, hl, _⟩ := ready_iff hsz (by rw [hq]; simp : j ∈ Region.ready .any ops listed)
        have hj : j < ops.size := (Array.getElem?_eq_some_iff.1 ho).1
        have := unl_set hj hsz hl
        omega
    exact ⟨hr, done listed C w a hsz sp I hr⟩
  | succ fuel ih =>
    intro listed C w a hu hsz sp I
    refine ⟨done listed C w a hsz sp I, fun j hj => ?_⟩
    obtain ⟨o, ho, hl, hedges⟩ := ready_iff hsz hj
    have hjlt : j < ops.size := (Array.getElem?_eq_some_iff.1 ho).1
    have hmem : o ∈ ops.toList := List.mem_of_getElem? (by simpa using ho)
    have hlook : ∀ t ∈ o.looksAt ops, relV E.P C w (heapL E.S ops sts (listL listed) ops.size) ((sts j).env t) (a.tmps.getD t undef) := by
      intro t ht
      have := I.env t
      rw [looks_text tx co I.closed ho hl hedges ht] at this
      exact this
    have T : Told E C w (heapL E.S ops sts (listL listed) ops.size) o a (evalO E (sts j).env) := by
      intro x hx
      cases x with
      | tmp t =>
        refine hlook t ?_
        unfold Oper.looksAt
        exact List.mem_append_left _ (List.mem_filterMap.2 ⟨.tmp t, by simpa using hx, rfl⟩)
      | func f => simp only [evalO, Act.eval, relV, relV1, relC, relOnes]; exact ⟨[], rfl, rfl⟩
      | global g =>
        simp only [evalO, Act.eval]
        cases hg : E.G g with
        | none => simp [relV, relV1]
        | some q =>
          obtain ⟨t, x⟩ := q
          obtain ⟨cs, h1, h2, h3, h4⟩ := I.glob.cells hg
          simp only [relV, relV1, relC]
          exact ⟨g, 0, cs, rfl, h1, h2, h3, fun j v hj => by simpa using h4 j v hj⟩
      | const v =>
        simp only [evalO, Act.eval]
        unfold constA
        split <;> simp [relV, relV1, relD, DV.isAgg]
    have GT : GuardTold E C w (heapL E.S ops sts (listL listed) ops.size) ops o a (sts j).env := by
      intro jj want d hg hdd
      refine hlook d ?_
      unfold Oper.looksAt
      refine List.mem_append_right _ ?_
      rw [hg]
      simp [hdd]
    have hlt := hd o hmem
    have hL' : ∀ i, listL (listed.setIfInBounds j true) i = (listL listed i || i == j) := by
      intro i
      by_cases e : i = j
      · subst e
        simp only [listL, Array.getD_eq_getD_getElem?]
        simp [show i < listed.size by omega]
      · simp only [listL, Array.getD_eq_getD_getElem?]
        rw [Array.getElem?_setIfInBounds_ne (Ne.symm e)]
        simp [e]
    have hL'j : listL (listed.setIfInBounds j true) j = true := by rw [hL']; simp
    have hclosed : Closed ops (listL (listed.setIfInBounds j true)) := by
      intro i p hp hLi e he hb
      rw [hL'] at hLi ⊢
      simp only [Bool.or_eq_true, beq_iff_eq] at hLi
      rcases hLi with q | q
      · rw [I.closed i p hp q e he hb]; rfl
      · subst q
        rw [ho] at hp; obtain rfl := Option.some.inj hp
        rw [hedges e he hb]; rfl
    -- behind the operation
    have behind : ∀ (v v0 : AV) (h' : Heap), heapL E.S ops sts (listL (listed.setIfInBounds j true)) ops.size = h' → (∀ d, o.dst = some d → (sts (j + 1)).env d = v0) → (∀ C w g u, relV E.P C w g v u → relV E.P C w g v0 u) →
        ∀ C' w' val, Step C w (heapL E.S ops sts (listL listed) ops.size) C' w' h' → Sim E.P C' h' w' → relV E.P C' w' h' v val → wpAny E.P .any ops Q fuel (listed.setIfInBounds j true) (a.put o.dst val) w' := by
      intro v v0 h' hh he hv C' w' val sp' S' r
      subst hh
      refine ih _ C' w' _ (by have := unl_set hjlt hsz hl; omega) (by simpa using hsz) (sp.trans tk0 sp') ⟨S', I.glob.step sp', fun t => ?_, ?_, ?_, hclosed⟩
      · rw [envL_add ho hl hL' ops.size hjlt (Nat.le_refl _) (fun d hdd i p h1 _ h3 h4 => no_later co I.closed ho hl hdd i p h1 h3 h4)]
        cases hdst : o.dst with
        | none =>
          simp only
          exact relV_mono sp' (I.env t)
        | some d =>
          simp only
          rw [put_getD (by rw [I.size]; exact hlt d hdst)]
          split
          · rw [he d hdst]; exact hv _ _ _ _ r
          · exact relV_mono sp' (I.env t)
      · cases hdst : o.dst <;> simp [Act.put, I.size]
      · cases hdst : o.dst <;> simp [Act.put, I.defers]
    by_cases hE : cls E.S o = .eff
    · have hh := heapL_at tx co ef I.closed ho hl hedges hE
      have hs := tx.step j o ho
      rw [hh] at T GT
      obtain ⟨v, h', he, _, hgo⟩ := step_core (Q := Q) (st := sts j) SO ho (hh ▸ I.sim) I.glob T GT hs
      have e1 : heapL E.S ops sts (listL (listed.setIfInBounds j true)) ops.size = h' := by
        rw [heapL_add_eff ho hE hL'j]
        · rw [he]; cases o.dst <;> rfl
        · intro i p hji hp hcp
          rw [hL']
          have : (i == j) = false := by simp; omega
          rw [this, Bool.or_false]
          cases hLi : listL listed i with
          | false => rfl
          | true => exact absurd hE (later_new co ef I.closed ho hl i p hji hp hcp hLi).2
      have e2 : ∀ d, o.dst = some d → (sts (j + 1)).env d = v := fun d hdd => by rw [he, hdd]; simp [St.put, upd]
      have hb := behind v v h' e1 e2 (fun _ _ _ _ r => r)
      rw [hh] at hb
      exact hgo _ hb
    · have hx := heapL_ext tx co ef I.closed ho hl hedges hE
      obtain ⟨v, v', he, hs', hv⟩ := quiet_ext hE hx (env := (sts j).env) (show stepOp E ops o ⟨(sts j).env, (sts j).h⟩ = some (sts (j + 1)) from tx.step j o ho)
      obtain ⟨v2, h2, he2, hq2, hgo⟩ := step_core (Q := Q) (st := ⟨(sts j).env, heapL E.S ops sts (listL listed) ops.size⟩) SO ho I.sim I.glob T GT hs'
      have hh2 := hq2 hE
      simp only at hh2
      subst hh2
      have hvv : ∀ d, o.dst = some d → v2 = v' := by
        intro d hdd
        have := congrArg (fun s : St => s.env d) he2
        simp only [hdd, St.put, upd_same] at this
        exact this.symm
      refine hgo _ ?_
      cases hdst : o.dst with
      | none =>
        rw [← hdst]
        exact behind v2 v2 _ (heapL_add_quiet ho hE hL' _) (fun d hdd => by rw [hdst] at hdd; cases hdd) (fun _ _ _ _ r => r)
      | some d0 =>
        have e2 := hvv d0 hdst
        subst e2
        rw [← hdst]
        exact behind v2 v _ (heapL_add_quiet ho hE hL' _) (fun d hdd => by rw [he, hdd]; simp [St.put, upd]) hv

end
end Go.Tith
