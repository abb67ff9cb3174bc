/- Trees, memory maps, the interpreter of the code over trees. A part of the proof: no condition of mine beyond what each theorem states. -/
import Derived.Calls
import Derived.Orders
import Derived.WalkKit
import Derived.Deep.MidRow
import Derived.Deep.AppendSrc
import Derived.Laws.StructEq
import Derived.ChangeKeysEq
import Derived.WalkSpells
import Derived.WalkLawsBesides

namespace Go.Tith

/-- Pure data: a slice is the list of its elements (of type e), a struct or an array the list of its parts (t: the underlying type's number); an interface's value that nobody looks into (any). -/
inductive DV where
  | int (k : IntKind) (n : Int)
  | bool (b : Bool)
  | str (s : ByteArray)
  | agg (t : TypeId) (fs : List DV)
  | list (e : TypeId) (xs : List DV)
  | nil
  | any (v : Value)
  deriving Inhabited

/-- What becomes of a block of memory: its cells are fixed; it is a variable's; it is a list's with room behind (cells from f on); its first f cells are fixed, and nobody looks at the rest; or nobody looks. -/
inductive Blk where
  | fz
  | box (id : Nat)
  | app (τ f : Nat)
  | part (f : Nat)
  | other

structure Con where
  K : Nat → Blk
  φ : Nat → Nat

def Blk.fixed (o : Nat) : Blk → Prop
  | .fz => True
  | .app _ f => o < f
  | .part f => o < f
  | _ => False

def Con.fixed (C : Con) (b o : Nat) : Prop := (C.K b).fixed o

/-- A type whose variables are one cell. -/
def oneB (P : Program) (t : TypeId) (g : TypeDesc → Bool) : Bool :=
  (match P.underlying t with | some d => g d | none => false) && P.cellsOf t == 1

def isInt (k : IntKind) : TypeDesc → Bool | .int k' => k == k' | _ => false
def isBool : TypeDesc → Bool | .bool => true | _ => false
def isStr : TypeDesc → Bool | .string => true | _ => false
def isSl (e : TypeId) : TypeDesc → Bool | .slice e' => e == e' | _ => false
def isAnySl : TypeDesc → Bool | .slice _ => true | _ => false
def isPtr : TypeDesc → Bool | .pointer _ => true | _ => false
def isIface : TypeDesc → Bool | .interface _ => true | _ => false
def isFn : TypeDesc → Bool | .func _ _ _ => true | _ => false

def ifV : Value → Bool | .nilIface => true | .iface _ _ => true | _ => false

def isRowT (P : Program) (t : TypeId) : Bool := match P.underlying t with | some d => d.isRow | none => false

def fitsD (P : Program) (t : TypeId) : DV → Bool
  | .int k _ => oneB P t (isInt k)
  | .bool _ => oneB P t isBool
  | .str _ => oneB P t isStr
  | .agg u _ => P.underlyingId t == u && P.cellsOf t == P.cellsOf u && isRowT P t
  | .list e _ => oneB P t (isSl e)
  | .nil => oneB P t isPtr
  | .any _ => oneB P t isIface

def layL (P : Program) : List Field → Nat → Option Nat
  | [], o => some o
  | f :: fs, o => if f.offset = o then layL P fs (o + P.cellsOf f.type) else none

/-- The parts of a struct or an array: their types. -/
def tys (P : Program) (t : TypeId) : List TypeId :=
  match P.underlying t with
  | some (.struct fs) => if layL P fs.toList 0 = some (P.cellsOf t) then fs.toList.map (·.type) else []
  | some (.array n e) => if P.cellsOf t = n * P.cellsOf e then List.replicate n e else []
  | _ => []

def DV.isAgg : DV → Bool | .agg _ _ => true | _ => false

mutual
/-- The cells c are the tree d, its slices' cells all fixed. -/
def relD (P : Program) (C : Con) (w : World) : DV → List Value → Prop
  | .int k n, c => c = [.int k n]
  | .bool b, c => c = [.bool b]
  | .str s, c => c = [.string s]
  | .nil, c => c = [.pointer none]
  | .any v, c => c = [v] ∧ ifV v = true
  | .agg t fs, c => c.length = P.cellsOf t ∧ relDs P C w fs (tys P t) c
  | .list e xs, c => ∃ a len cap, c = [.slice a len cap] ∧ len = xs.length ∧ len ≤ cap ∧ cap ≤ maxLen ∧ (a = none → cap = 0) ∧
      (xs ≠ [] → ∃ b o, a = some ⟨b, o, none⟩ ∧ relRow P C w e xs b o)
/-- The cells c, one behind the other, are the trees, of the types. -/
def relDs (P : Program) (C : Con) (w : World) : List DV → List TypeId → List Value → Prop
  | [], ts, c => ts = [] ∧ c = []
  | d :: ds, ts, c => ∃ t ts' c1 c2, ts = t :: ts' ∧ c = c1 ++ c2 ∧ fitsD P t d = true ∧ c1.length = P.cellsOf t ∧ relD P C w d c1 ∧ relDs P C w ds ts' c2
/-- From cell o of block b on lie the trees, of type e. -/
def relRow (P : Program) (C : Con) (w : World) (e : TypeId) : List DV → Nat → Nat → Prop
  | [], _, _ => True
  | d :: ds, b, o => (∃ c, relD P C w d c ∧ fitsD P e d = true ∧ c.length = P.cellsOf e ∧
      ∀ j v, c[j]? = some v → C.fixed b (o + j) ∧ w.cell? ⟨b, o + j, none⟩ = some v) ∧ relRow P C w e ds b (o + P.cellsOf e)
end

/-- What was fixed is, and is avs it was. -/
def Keeps (C : Con) (w : World) (C' : Con) (w' : World) : Prop :=
  ∀ b o v, C.fixed b o → w.cell? ⟨b, o, none⟩ = some v → C'.fixed b o ∧ w'.cell? ⟨b, o, none⟩ = some v

theorem Keeps.refl (C : Con) (w : World) : Keeps C w C w := fun _ _ _ h h' => ⟨h, h'⟩
theorem Keeps.trans {C C' C'' : Con} {w w' w'' : World} (h : Keeps C w C' w') (h' : Keeps C' w' C'' w'') : Keeps C w C'' w'' :=
  fun b o v a c => let ⟨x, y⟩ := h b o v a c; h' b o v x y

section
variable {P : Program} {C C' : Con} {w w' : World}
mutual
theorem relD_mono (k : Keeps C w C' w') : ∀ {d : DV} {c : List Value}, relD P C w d c → relD P C' w' d c
  | .int _ _, _, h => by simpa [relD] using h
  | .bool _, _, h => by simpa [relD] using h
  | .str _, _, h => by simpa [relD] using h
  | .nil, _, h => by simpa [relD] using h
  | .any _, _, h => by simpa [relD] using h
  | .agg t fs, c, h => by
    simp only [relD] at h ⊢
    exact ⟨h.1, relDs_mono k h.2⟩
  | .list e xs, c, h => by
    simp only [relD] at h ⊢
    obtain ⟨a, len, cap, h1, h2, h3, h4, h5, h6⟩ := h
    refine ⟨a, len, cap, h1, h2, h3, h4, h5, fun hx => ?_⟩
    obtain ⟨b, o, ha, hr⟩ := h6 hx
    exact ⟨b, o, ha, relRow_mono k hr⟩
theorem relDs_mono (k : Keeps C w C' w') : ∀ {ds : List DV} {ts : List TypeId} {c : List Value}, relDs P C w ds ts c → relDs P C' w' ds ts c
  | [], _, _, h => by simpa [relDs] using h
  | d :: ds, ts, c, h => by
    simp only [relDs] at h ⊢
    obtain ⟨t, ts', c1, c2, h1, h2, h3, h4, h5, h6⟩ := h
    exact ⟨t, ts', c1, c2, h1, h2, h3, h4, relD_mono k h5, relDs_mono k h6⟩
theorem relRow_mono (k : Keeps C w C' w') {e : TypeId} : ∀ {ds : List DV} {b o : Nat}, relRow P C w e ds b o → relRow P C' w' e ds b o
  | [], _, _, h => by simp [relRow]
  | d :: ds, b, o, h => by
    simp only [relRow] at h ⊢
    obtain ⟨⟨c, h1, h2, h3, h4⟩, h5⟩ := h
    exact ⟨⟨c, relD_mono k h1, h2, h3, fun j v hj => let ⟨x, y⟩ := h4 j v hj; k b (o + j) v x y⟩, relRow_mono k h5⟩
end
end

theorem oneB_size {P : Program} {t : TypeId} {g : TypeDesc → Bool} (h : oneB P t g = true) : P.cellsOf t = 1 := by
  simp [oneB] at h; exact h.2
theorem oneB_desc {P : Program} {t : TypeId} {g : TypeDesc → Bool} (h : oneB P t g = true) : ∃ d, P.underlying t = some d ∧ g d = true := by
  simp only [oneB, Bool.and_eq_true] at h
  cases hu : P.underlying t with
  | none => simp [hu] at h
  | some d => exact ⟨d, rfl, by simpa [hu] using h.1⟩

theorem relD_one {P : Program} {C : Con} {w : World} {d : DV} {c : List Value} (h : relD P C w d c) (ha : d.isAgg = false) : ∃ v, c = [v] := by
  cases d <;> simp only [relD, DV.isAgg] at h ha
  · exact ⟨_, h⟩
  · exact ⟨_, h⟩
  · exact ⟨_, h⟩
  · cases ha
  · obtain ⟨a, l, cp, h1, _⟩ := h; exact ⟨_, h1⟩
  · exact ⟨_, h⟩
  · exact ⟨_, h.1⟩

theorem relD_len {P : Program} {C : Con} {w : World} {d : DV} {c : List Value} {t : TypeId} (h : relD P C w d c) (hf : fitsD P t d = true) : c.length = P.cellsOf t := by
  cases d with
  | agg u fs => simp [fitsD] at hf; simp only [relD] at h; rw [h.1, hf.1.2]
  | int k n => obtain ⟨v, rfl⟩ := relD_one h rfl; simp [fitsD] at hf; simp [oneB_size hf]
  | bool b => obtain ⟨v, rfl⟩ := relD_one h rfl; simp [fitsD] at hf; simp [oneB_size hf]
  | str b => obtain ⟨v, rfl⟩ := relD_one h rfl; simp [fitsD] at hf; simp [oneB_size hf]
  | list e b => obtain ⟨v, rfl⟩ := relD_one h rfl; simp [fitsD] at hf; simp [oneB_size hf]
  | nil => obtain ⟨v, rfl⟩ := relD_one h rfl; simp [fitsD] at hf; simp [oneB_size hf]
  | any b => obtain ⟨v, rfl⟩ := relD_one h rfl; simp only [fitsD] at hf; simp [oneB_size hf]

/-- Where part i begins. -/
def offL (P : Program) (ts : List TypeId) (i : Nat) : Nat := ((ts.take i).map P.cellsOf).sum

theorem relDs_get {P : Program} {C : Con} {w : World} : ∀ {ds : List DV} {ts : List TypeId} {c : List Value} (i : Nat) {d : DV}, relDs P C w ds ts c → ds[i]? = some d →
    ∃ t c1, ts[i]? = some t ∧ fitsD P t d = true ∧ c1.length = P.cellsOf t ∧ relD P C w d c1 ∧ (c.drop (offL P ts i)).take (P.cellsOf t) = c1
  | [], _, _, _, _, _, h => by simp at h
  | x :: ds, ts, c, 0, d, h, hd => by
    simp only [relDs] at h
    obtain ⟨t, ts', c1, c2, rfl, rfl, h3, h4, h5, h6⟩ := h
    simp at hd; subst hd
    exact ⟨t, c1, rfl, h3, h4, h5, by simp [offL, ← h4]⟩
  | x :: ds, ts, c, i + 1, d, h, hd => by
    simp only [relDs] at h
    obtain ⟨t, ts', c1, c2, rfl, rfl, h3, h4, h5, h6⟩ := h
    obtain ⟨t', c', g1, g2, g3, g4, g5⟩ := relDs_get i h6 (by simpa using hd)
    refine ⟨t', c', by simpa using g1, g2, g3, g4, ?_⟩
    rw [← g5]
    simp only [offL, List.take_succ_cons, List.map_cons, List.sum_cons, ← h4, List.drop_append]
    rw [List.drop_of_length_le (by omega), List.nil_append]
    congr 2
    omega

theorem relDs_len {P : Program} {C : Con} {w : World} : ∀ {ds : List DV} {ts : List TypeId} {c : List Value}, relDs P C w ds ts c → ds.length = ts.length ∧ c.length = (ts.map P.cellsOf).sum
  | [], _, _, h => by simp [relDs] at h; simp [h]
  | x :: ds, ts, c, h => by
    simp only [relDs] at h
    obtain ⟨t, ts', c1, c2, rfl, rfl, h3, h4, h5, h6⟩ := h
    obtain ⟨a, b⟩ := relDs_len h6
    simp [a, b, h4]

theorem relRow_get {P : Program} {C : Con} {w : World} {e : TypeId} : ∀ {ds : List DV} {b o : Nat} (i : Nat) {d : DV}, relRow P C w e ds b o → ds[i]? = some d →
    ∃ c, relD P C w d c ∧ fitsD P e d = true ∧ c.length = P.cellsOf e ∧ ∀ j v, c[j]? = some v → C.fixed b (o + i * P.cellsOf e + j) ∧ w.cell? ⟨b, o + i * P.cellsOf e + j, none⟩ = some v
  | [], _, _, _, _, _, h => by simp at h
  | x :: ds, b, o, 0, d, h, hd => by
    simp only [relRow] at h
    simp at hd; subst hd
    simpa using h.1
  | x :: ds, b, o, i + 1, d, h, hd => by
    simp only [relRow] at h
    obtain ⟨c, g1, g2, g3, g4⟩ := relRow_get i h.2 (by simpa using hd)
    refine ⟨c, g1, g2, g3, fun j v hj => ?_⟩
    have := g4 j v hj
    rw [show o + (i + 1) * P.cellsOf e + j = o + P.cellsOf e + i * P.cellsOf e + j by rw [Nat.add_mul]; omega]
    exact this

theorem relRow_append {P : Program} {C : Con} {w : World} {e : TypeId} : ∀ {ds ds' : List DV} {b o : Nat}, relRow P C w e (ds ++ ds') b o ↔ relRow P C w e ds b o ∧ relRow P C w e ds' b (o + ds.length * P.cellsOf e)
  | [], _, _, _ => by simp [relRow]
  | x :: ds, ds', b, o => by
    simp only [List.cons_append, relRow, relRow_append (ds := ds), List.length_cons, and_assoc]
    rw [show o + P.cellsOf e + ds.length * P.cellsOf e = o + (ds.length + 1) * P.cellsOf e by rw [Nat.add_mul]; omega]

end Go.Tith

namespace Go.Tith

inductive AV where
  | d (x : DV)
  | lst (c : Option Nat) (e : TypeId) (xs : List DV)
  | agg (t : TypeId) (fs : List AV)
  | ptr (id : Nat) (path : List Nat)
  | sl (id : Nat) (path : List Nat) (off len : Nat)
  | ro (t : TypeId) (x : DV)
  | fn (f : FuncId) (caps : List AV)
  | tup (vs : List AV)
  | sel (b : Bool) (x : AV)
  | nils
  | emp (e : TypeId)
  | ifc (b : Bool)
  | bad
  deriving Inhabited

structure Heap where
  boxes : List (TypeId × AV)
  toks : List Nat

def fitsA (P : Program) (t : TypeId) : AV → Bool
  | .d x => fitsD P t x
  | .lst _ e _ => oneB P t (isSl e)
  | .agg u _ => P.underlyingId t == u && P.cellsOf t == P.cellsOf u && isRowT P t
  | .ptr _ _ => oneB P t isPtr
  | .ro _ _ => oneB P t isPtr
  | .sl _ _ _ _ => oneB P t isAnySl
  | .nils => oneB P t isAnySl
  | .emp e => oneB P t (isSl e)
  | .ifc _ => oneB P t isIface
  | .fn _ _ => oneB P t isFn
  | _ => false

/-- A path of parts: where it leads, and to what type. -/
def offP (P : Program) : List Nat → TypeId → Option (Nat × TypeId)
  | [], t => some (0, t)
  | i :: p, t => match (tys P (P.underlyingId t))[i]? with
    | some u => (offP P p u).map fun (o, v) => (offL P (tys P (P.underlyingId t)) i + o, v)
    | none => none

/-- What the mark of a list says of its room. -/
def tokOK (P : Program) (C : Con) (w : World) (h : Heap) (k : Option Nat) (e : TypeId) (n : Nat) (c : List Value) : Prop :=
  match k with
  | none => ∀ a l cap, c = [.slice a l cap] → cap = l
  | some τ => ∃ F, h.toks[τ]? = some F ∧ n ≤ F ∧ (n = F → ∀ a l cap, c = [.slice a l cap] → cap = 0 ∨
      ∃ b cs, a = some ⟨b, 0, none⟩ ∧ C.K b = .app τ (n * P.cellsOf e) ∧ w.heap[b]? = some (.cells cs e (0, 0)) ∧ cs.size = cap * P.cellsOf e)

mutual
def relC (P : Program) (C : Con) (w : World) (h : Heap) : AV → List Value → Prop
  | .d x, c => relD P C w x c
  | .lst k e xs, c => relD P C w (.list e xs) c ∧ tokOK P C w h k e xs.length c
  | .agg t fs, c => c.length = P.cellsOf t ∧ relCs P C w h fs (tys P t) c
  | .ptr id path, c => ∃ bt bc off t, h.boxes[id]? = some (bt, bc) ∧ offP P path bt = some (off, t) ∧ c = [.pointer (some ⟨C.φ id, off, none⟩)]
  | .sl id path off len, c => ∃ bt bc o t n e cap, h.boxes[id]? = some (bt, bc) ∧ offP P path bt = some (o, t) ∧ P.underlying t = some (.array n e) ∧
      off + cap ≤ n ∧ len ≤ cap ∧ cap ≤ maxLen ∧ c = [.slice (some ⟨C.φ id, o + off * P.cellsOf e, none⟩) len cap]
  | .ro t x, c => ∃ b o cs, c = [.pointer (some ⟨b, o, none⟩)] ∧ relD P C w x cs ∧ fitsD P t x = true ∧ cs.length = P.cellsOf t ∧
      ∀ j v, cs[j]? = some v → C.fixed b (o + j) ∧ w.cell? ⟨b, o + j, none⟩ = some v
  | .fn f caps, c => ∃ vs, c = [.func (.func f) #[] vs.toArray] ∧ relOnes P C w h caps vs
  | .tup _, _ => False
  | .sel _ _, _ => False
  | .nils, c => c = [.slice none 0 0]
  | .emp _, c => ∃ a cap, c = [.slice (some a) 0 cap] ∧ cap ≤ maxLen
  | .ifc b, c => (b = false → c = [.nilIface]) ∧ (b = true → ∃ t x, c = [.iface t x])
  | .bad, _ => True
def relCs (P : Program) (C : Con) (w : World) (h : Heap) : List AV → List TypeId → List Value → Prop
  | [], ts, c => ts = [] ∧ c = []
  | d :: ds, ts, c => ∃ t ts' c1 c2, ts = t :: ts' ∧ c = c1 ++ c2 ∧ fitsA P t d = true ∧ c1.length = P.cellsOf t ∧ relC P C w h d c1 ∧ relCs P C w h ds ts' c2
def relOnes (P : Program) (C : Con) (w : World) (h : Heap) : List AV → List Value → Prop
  | [], vs => vs = []
  | d :: ds, vs => ∃ v vs', vs = v :: vs' ∧ relC P C w h d [v] ∧ relOnes P C w h ds vs'
end

/-- A value that is no tuple. -/
def relV1 (P : Program) (C : Con) (w : World) (h : Heap) : AV → Value → Prop
  | .sel b x, v => (b = true → relV1 P C w h x v) ∧ (b = false → v = undef)
  | .bad, _ => True
  | .tup _, _ => False
  | .agg t fs, v => ∃ c, v = .agg c.toArray ∧ relC P C w h (.agg t fs) c
  | .d x, v => if x.isAgg = true then ∃ c, v = .agg c.toArray ∧ relD P C w x c else relD P C w x [v]
  | .lst k e xs, v => relC P C w h (.lst k e xs) [v]
  | .ptr id p, v => relC P C w h (.ptr id p) [v]
  | .sl id p o l, v => relC P C w h (.sl id p o l) [v]
  | .ro t x, v => relC P C w h (.ro t x) [v]
  | .fn f cs, v => relC P C w h (.fn f cs) [v]
  | .nils, v => v = .slice none 0 0
  | .emp _, v => ∃ a cap, v = .slice (some a) 0 cap ∧ cap ≤ maxLen
  | .ifc b, v => (b = false → v = .nilIface) ∧ (b = true → ∃ t x, v = .iface t x)

def relVs (P : Program) (C : Con) (w : World) (h : Heap) : List AV → List Value → Prop
  | [], vs => vs = []
  | d :: ds, vs => ∃ v vs', vs = v :: vs' ∧ relV1 P C w h d v ∧ relVs P C w h ds vs'

def relV (P : Program) (C : Con) (w : World) (h : Heap) : AV → Value → Prop
  | .tup vs, v => ∃ ws, v = .tuple ws.toArray ∧ relVs P C w h vs ws
  | x, v => relV1 P C w h x v

/-- Each list with room has its mark. -/
def Con.tk (C : Con) (h : Heap) : Prop := ∀ b τ f, C.K b = .app τ f → ∃ F : Nat, h.toks[τ]? = some F

/-- The world holds what the heap tells. -/
structure Sim (P : Program) (C : Con) (h : Heap) (w : World) : Prop where
  box : ∀ id bt bc, h.boxes[id]? = some (bt, bc) → C.K (C.φ id) = .box id ∧ fitsA P bt bc = true ∧
    ∃ cs e, w.heap[C.φ id]? = some (.cells cs e (0, 0)) ∧ (cs.size = P.cellsOf bt ∧ e = bt) ∧ relC P C w h bc cs.toList
  lt : ∀ b, C.K b ≠ .other → b < w.heap.size
  tk : C.tk h

/-- What a step leaves of each block that was there. -/
def keptB (C : Con) (w : World) (h : Heap) (C' : Con) (w' : World) (h' : Heap) (b : Nat) : Prop :=
  match C.K b with
  | .box id => C'.K b = .box id
  | .app τ f => (C'.K b = .app τ f ∧ w'.heap[b]? = w.heap[b]?) ∨
      (∃ f' F F', f ≤ f' ∧ C'.K b = .app τ f' ∧ h.toks[τ]? = some F ∧ h'.toks[τ]? = some F' ∧ F < F' ∧ ∀ o v, o < f → w.cell? ⟨b, o, none⟩ = some v → w'.cell? ⟨b, o, none⟩ = some v)
  | x => C'.K b = x ∧ w'.heap[b]? = w.heap[b]?

structure Step (C : Con) (w : World) (h : Heap) (C' : Con) (w' : World) (h' : Heap) : Prop where
  os : w'.os = w.os
  tape : w'.tape = w.tape
  output : w'.output = w.output
  size : w.heap.size ≤ w'.heap.size
  blk : ∀ b, b < w.heap.size → keptB C w h C' w' h' b
  phi : ∀ id, id < h.boxes.length → C'.φ id = C.φ id
  box : ∀ (id : Nat) (bt : TypeId) (bc : AV), h.boxes[id]? = some (bt, bc) → ∃ bc', h'.boxes[id]? = some (bt, bc')
  tok : ∀ (τ F : Nat), h.toks[τ]? = some F → ∃ F' : Nat, h'.toks[τ]? = some F' ∧ F ≤ F'

section
variable {P : Program} {C C' C'' : Con} {w w' w'' : World} {h h' h'' : Heap}

theorem keptB.refl (b : Nat) : keptB C w h C w h b := by
  unfold keptB
  split
  · assumption
  · rename_i hb; exact .inl ⟨hb, rfl⟩
  · exact ⟨rfl, rfl⟩

theorem Step.refl : Step C w h C w h := ⟨rfl, rfl, rfl, Nat.le_refl _, fun b _ => keptB.refl b, fun _ _ => rfl, fun _ _ bc h => ⟨bc, h⟩, fun _ F h => ⟨F, h, Nat.le_refl _⟩⟩

theorem cell_of_heap {b o : Nat} (hh : w'.heap[b]? = w.heap[b]?) : w'.cell? ⟨b, o, none⟩ = w.cell? ⟨b, o, none⟩ := World.cell?_of_block (w := w) (w' := w') (a := ⟨b, o, none⟩) hh

theorem keptB.trans {b : Nat} (h1 : keptB C w h C' w' h' b) (h2 : keptB C' w' h' C'' w'' h'' b) (tk : C.tk h)
    (t1 : ∀ (τ F : Nat), h.toks[τ]? = some F → ∃ F' : Nat, h'.toks[τ]? = some F' ∧ F ≤ F') (t2 : ∀ (τ F : Nat), h'.toks[τ]? = some F → ∃ F' : Nat, h''.toks[τ]? = some F' ∧ F ≤ F') : keptB C w h C'' w'' h'' b := by
  unfold keptB at h1 ⊢
  cases hb : C.K b with
  | fz => simp only [hb] at h1 ⊢; simp only [keptB, h1.1] at h2; exact ⟨h2.1, h2.2.trans h1.2⟩
  | other => simp only [hb] at h1 ⊢; simp only [keptB, h1.1] at h2; exact ⟨h2.1, h2.2.trans h1.2⟩
  | part f => simp only [hb] at h1 ⊢; simp only [keptB, h1.1] at h2; exact ⟨h2.1, h2.2.trans h1.2⟩
  | box id => simp only [hb] at h1 ⊢; simp only [keptB, h1] at h2; exact h2
  | app τ f =>
    simp only [hb] at h1 ⊢
    rcases h1 with ⟨k1, e1⟩ | ⟨f', F, F', hf, k1, g1, g2, g3, g4⟩
    · simp only [keptB, k1] at h2
      rcases h2 with ⟨k2, e2⟩ | ⟨f2, F, F', hf, k2, g1, g2, g3, g4⟩
      · exact .inl ⟨k2, e2.trans e1⟩
      · obtain ⟨F0, ht⟩ := tk b τ f hb
        obtain ⟨F1, q1, q2⟩ := t1 τ F0 ht
        have : F1 = F := by rw [g1] at q1; exact (Option.some.inj q1).symm
        exact .inr ⟨f2, F0, F', hf, k2, ht, g2, by omega, fun o v ho hv => g4 o v ho (by rw [cell_of_heap e1]; exact hv)⟩
    · simp only [keptB, k1] at h2
      rcases h2 with ⟨k2, e2⟩ | ⟨f2, G, G', hf2, k2, g5, g6, g7, g8⟩
      · obtain ⟨F2, q1, q2⟩ := t2 τ F' g2
        exact .inr ⟨f', F, F2, hf, k2, g1, q1, by omega, fun o v ho hv => by rw [cell_of_heap e2]; exact g4 o v ho hv⟩
      · rw [g2] at g5; obtain rfl := Option.some.inj g5
        exact .inr ⟨f2, F, G', by omega, k2, g1, g6, by omega, fun o v ho hv => g8 o v (by omega) (g4 o v ho hv)⟩

theorem Step.trans (tk : C.tk h) (s1 : Step C w h C' w' h') (s2 : Step C' w' h' C'' w'' h'') : Step C w h C'' w'' h'' where
  os := s2.os.trans s1.os
  tape := s2.tape.trans s1.tape
  output := s2.output.trans s1.output
  size := Nat.le_trans s1.size s2.size
  blk b hb := (s1.blk b hb).trans (s2.blk b (Nat.lt_of_lt_of_le hb s1.size)) tk s1.tok s2.tok
  phi id hid := by
    rw [s2.phi id ?_, s1.phi id hid]
    have e : h.boxes[id]? = some (h.boxes[id].1, h.boxes[id].2) := by simp [hid]
    obtain ⟨bc', hb⟩ := s1.box id _ _ e
    exact (List.getElem?_eq_some_iff.1 hb).1
  box id bt bc hb := by
    obtain ⟨bc', h1⟩ := s1.box id bt bc hb
    exact s2.box id bt bc' h1
  tok τ F hF := by
    obtain ⟨F', h1, h2⟩ := s1.tok τ F hF
    obtain ⟨F'', h3, h4⟩ := s2.tok τ F' h1
    exact ⟨F'', h3, by omega⟩

theorem cell_lt {b o : Nat} {v : Value} (hv : w.cell? ⟨b, o, none⟩ = some v) : b < w.heap.size := World.block_lt_of_cell? w ⟨b, o, none⟩ hv

theorem Step.keeps (s : Step C w h C' w' h') : Keeps C w C' w' := by
  intro b o v hf hv
  have hk := s.blk b (cell_lt hv)
  unfold Con.fixed at hf ⊢
  unfold keptB at hk
  cases hb : C.K b with
  | fz => simp only [hb] at hk; rw [hk.1]; exact ⟨trivial, by rw [cell_of_heap hk.2]; exact hv⟩
  | other => rw [hb] at hf; exact hf.elim
  | box id => rw [hb] at hf; exact hf.elim
  | part f => simp only [hb] at hk hf; rw [hk.1]; exact ⟨hf, by rw [cell_of_heap hk.2]; exact hv⟩
  | app τ f =>
    simp only [hb] at hk hf
    rcases hk with ⟨k1, e1⟩ | ⟨f', F, F', hf', k1, g1, g2, g3, g4⟩
    · rw [k1]; exact ⟨hf, by rw [cell_of_heap e1]; exact hv⟩
    · rw [k1]; exact ⟨Nat.lt_of_lt_of_le hf hf', g4 o v hf hv⟩

theorem tokOK_mono (s : Step C w h C' w' h') {k : Option Nat} {e n : Nat} {c : List Value} (ht : tokOK P C w h k e n c) : tokOK P C' w' h' k e n c := by
  cases k with
  | none => exact ht
  | some τ =>
    obtain ⟨F, h1, h2, h3⟩ := ht
    obtain ⟨F', g1, g2⟩ := s.tok τ F h1
    refine ⟨F', g1, by omega, fun hn a l cap hc => ?_⟩
    have hF : F = F' := by omega
    rcases h3 (by omega) a l cap hc with h4 | ⟨b, cs, q1, q2, q3, q4⟩
    · exact .inl h4
    · have hb : b < w.heap.size := (Array.getElem?_eq_some_iff.1 q3).1
      have hk := s.blk b hb
      simp only [keptB, q2] at hk
      rcases hk with ⟨k1, e1⟩ | ⟨f', G, G', hf', k1, r1, r2, r3, r4⟩
      · exact .inr ⟨b, cs, q1, k1, by rw [e1]; exact q3, q4⟩
      · rw [h1] at r1; rw [g1] at r2
        have := Option.some.inj r1; have := Option.some.inj r2; omega

mutual
theorem relC_mono (s : Step C w h C' w' h') : ∀ {x : AV} {c : List Value}, relC P C w h x c → relC P C' w' h' x c
  | .d _, _, r => by simp only [relC] at r ⊢; exact relD_mono s.keeps r
  | .lst _ _ _, _, r => by simp only [relC] at r ⊢; exact ⟨relD_mono s.keeps r.1, tokOK_mono s r.2⟩
  | .agg _ _, _, r => by simp only [relC] at r ⊢; exact ⟨r.1, relCs_mono s r.2⟩
  | .ptr id _, _, r => by
    simp only [relC] at r ⊢
    obtain ⟨bt, bc, off, t, h1, h2, h3⟩ := r
    obtain ⟨bc', h4⟩ := s.box id bt bc h1
    exact ⟨bt, bc', off, t, h4, h2, by rw [s.phi id (List.getElem?_eq_some_iff.1 h1).1]; exact h3⟩
  | .sl id _ _ _, _, r => by
    simp only [relC] at r ⊢
    obtain ⟨bt, bc, o, t, n, e, cap, h1, h2, h3, h4, h5, h8, h6⟩ := r
    obtain ⟨bc', h7⟩ := s.box id bt bc h1
    exact ⟨bt, bc', o, t, n, e, cap, h7, h2, h3, h4, h5, h8, by rw [s.phi id (List.getElem?_eq_some_iff.1 h1).1]; exact h6⟩
  | .ro _ _, _, r => by
    simp only [relC] at r ⊢
    obtain ⟨b, o, cs, h1, h2, h3, h4, h5⟩ := r
    exact ⟨b, o, cs, h1, relD_mono s.keeps h2, h3, h4, fun j v hj => let ⟨x, y⟩ := h5 j v hj; s.keeps b _ v x y⟩
  | .fn _ _, _, r => by
    simp only [relC] at r ⊢
    obtain ⟨vs, h1, h2⟩ := r
    exact ⟨vs, h1, relOnes_mono s h2⟩
  | .tup _, _, r => by simp [relC] at r
  | .sel _ _, _, r => by simp [relC] at r
  | .nils, _, r => by simpa [relC] using r
  | .emp _, _, r => by simpa [relC] using r
  | .ifc _, _, r => by simp only [relC] at r ⊢; exact r
  | .bad, _, _ => by simp [relC]
theorem relCs_mono (s : Step C w h C' w' h') : ∀ {ds : List AV} {ts : List TypeId} {c : List Value}, relCs P C w h ds ts c → relCs P C' w' h' ds ts c
  | [], _, _, r => by simpa [relCs] using r
  | d :: ds, ts, c, r => by
    simp only [relCs] at r ⊢
    obtain ⟨t, ts', c1, c2, h1, h2, h3, h4, h5, h6⟩ := r
    exact ⟨t, ts', c1, c2, h1, h2, h3, h4, relC_mono s h5, relCs_mono s h6⟩
theorem relOnes_mono (s : Step C w h C' w' h') : ∀ {ds : List AV} {vs : List Value}, relOnes P C w h ds vs → relOnes P C' w' h' ds vs
  | [], _, r => by simpa [relOnes] using r
  | d :: ds, vs, r => by
    simp only [relOnes] at r ⊢
    obtain ⟨v, vs', h1, h2, h3⟩ := r
    exact ⟨v, vs', h1, relC_mono s h2, relOnes_mono s h3⟩
end

theorem relV1_mono (s : Step C w h C' w' h') : ∀ {x : AV} {v : Value}, relV1 P C w h x v → relV1 P C' w' h' x v
  | .d x, v, r => by
    simp only [relV1] at r ⊢
    split
    · rename_i hx; rw [if_pos hx] at r; obtain ⟨c, h1, h2⟩ := r; exact ⟨c, h1, relD_mono s.keeps h2⟩
    · rename_i hx; rw [if_neg hx] at r; exact relD_mono s.keeps r
  | .lst _ _ _, _, r => by simp only [relV1] at r ⊢; exact relC_mono s r
  | .agg _ _, _, r => by simp only [relV1] at r ⊢; obtain ⟨c, h1, h2⟩ := r; exact ⟨c, h1, relC_mono s h2⟩
  | .ptr _ _, _, r => by simp only [relV1] at r ⊢; exact relC_mono s r
  | .sl _ _ _ _, _, r => by simp only [relV1] at r ⊢; exact relC_mono s r
  | .ro _ _, _, r => by simp only [relV1] at r ⊢; exact relC_mono s r
  | .fn _ _, _, r => by simp only [relV1] at r ⊢; exact relC_mono s r
  | .tup _, _, r => by simp [relV1] at r
  | .sel b x, _, r => by simp only [relV1] at r ⊢; exact ⟨fun hb => relV1_mono s (r.1 hb), r.2⟩
  | .nils, _, r => by simpa [relV1] using r
  | .emp _, _, r => by simpa [relV1] using r
  | .ifc _, _, r => by simp only [relV1] at r ⊢; exact r
  | .bad, _, _ => by simp [relV1]

theorem relVs_mono (s : Step C w h C' w' h') : ∀ {ds : List AV} {vs : List Value}, relVs P C w h ds vs → relVs P C' w' h' ds vs
  | [], _, r => by simpa [relVs] using r
  | d :: ds, vs, r => by
    simp only [relVs] at r ⊢
    obtain ⟨v, vs', h1, h2, h3⟩ := r
    exact ⟨v, vs', h1, relV1_mono s h2, relVs_mono s h3⟩

theorem relV_mono (s : Step C w h C' w' h') {x : AV} {v : Value} (r : relV P C w h x v) : relV P C' w' h' x v := by
  cases x with
  | tup vs => obtain ⟨ws, h1, h2⟩ := r; exact ⟨ws, h1, relVs_mono s h2⟩
  | _ => exact relV1_mono s r

end
end Go.Tith

namespace Go.Tith

/-- What is known of a function: a law of trees alone; or one of values and the heap. -/
inductive Spec where
  | pure (s : List DV → Option (List DV))
  | eff (s : List AV → Heap → Option (AV × Heap))
  | no

/-- K: what is kept at the head of a loop (by its first region): the temporaries, and those whose lists get a mark at its start. -/
structure Env where
  P : Program
  S : FuncId → Spec
  G : Nat → Option (TypeId × DV)
  K : Nat → Option (List Nat × List Nat)

structure St where
  env : Nat → AV
  h : Heap

def upd (env : Nat → AV) (t : Nat) (v : AV) : Nat → AV := fun u => if u = t then v else env u

theorem upd_same (env : Nat → AV) (t : Nat) (v : AV) : upd env t v t = v := by simp [upd]
theorem upd_ne (env : Nat → AV) {t u : Nat} (v : AV) (h : u ≠ t) : upd env t v u = env u := by simp [upd, h]

def St.put (st : St) (dst : Option Nat) (v : AV) : St :=
  match dst with
  | some t => { st with env := upd st.env t v }
  | none => st

def constA : Value → AV
  | .int k n => .d (.int k n)
  | .bool b => .d (.bool b)
  | .string s => .d (.str s)
  | .slice none 0 0 => .nils
  | .pointer none => .d .nil
  | .nilIface => .ifc false
  | _ => .bad

def evalO (E : Env) (env : Nat → AV) : Operand → AV
  | .tmp t => env t
  | .const v => constA v
  | .global g => match E.G g with | some (t, x) => .ro t x | none => .bad
  | .func f => .fn f []

def coe (P : Program) (t : TypeId) : AV → AV
  | .nils => match P.underlying t with | some (.slice e) => .lst none e [] | _ => .nils
  | x => x

/-- A mark around a condition: it keeps it in one piece. -/
@[irreducible] def gd (b : Bool) : Bool := b
theorem gd_eq (b : Bool) : gd b = b := by unfold gd; rfl
def gdA : AV → AV
  | .d (.bool b) => .d (.bool (gd b))
  | x => x
theorem gdA_eq (x : AV) : gdA x = x := by
  unfold gdA
  split
  · rw [gd_eq]
  · rfl

/-- What a value is where g holds. -/
def strip (g : Bool) : AV → AV
  | .sel c x => if (!g || c) = true then strip g x else .bad
  | x => x

def notTup : AV → Bool
  | .tup _ => false
  | _ => true

def AV.parts : AV → Option (TypeId × List AV)
  | .agg t fs => some (t, fs)
  | .d (.agg t fs) => some (t, fs.map .d)
  | _ => none

def getP (P : Program) : List Nat → AV → TypeId → Option (AV × TypeId)
  | [], v, t => some (v, t)
  | i :: p, v, _ => match v.parts with
    | some (u, fs) => match fs[i]?, (tys P u)[i]? with
      | some x, some t => getP P p x t
      | _, _ => none
    | none => none

/-- The type at a path. -/
def pathT (P : Program) : List Nat → TypeId → Option TypeId
  | [], t => some t
  | i :: p, t => match (tys P (P.underlyingId t))[i]? with
    | some u => pathT P p u
    | none => none

def Heap.typeAt (P : Program) (h : Heap) (id : Nat) (path : List Nat) : Option TypeId :=
  match h.boxes[id]? with
  | some (bt, _) => pathT P path bt
  | none => none

def setP : List Nat → AV → AV → Option AV
  | [], _, v => some v
  | i :: p, .agg t fs, v => match fs[i]? with
    | some x => (setP p x v).map fun y => .agg t (fs.set i y)
    | none => none
  | i :: p, .d (.agg t fs), v => match fs[i]? with
    | some x => match setP p (.d x) v with
      | some (.d y) => some (.d (.agg t (fs.set i y)))
      | some y => some (.agg t ((fs.map .d).set i y))
      | none => none
    | none => none
  | _, _, _ => none

mutual
/-- The tree that a value is. -/
def plainD : AV → Option DV
  | .d x => some x
  | .lst _ e xs => some (.list e xs)
  | .emp e => some (.list e [])
  | .agg t fs => (plainDs fs).map (.agg t)
  | _ => none
def plainDs : List AV → Option (List DV)
  | [] => some []
  | x :: xs => match plainD x, plainDs xs with
    | some y, some ys => some (y :: ys)
    | _, _ => none
end

/-- The tree that a value is, seen through the heap. -/
def viewD (P : Program) (h : Heap) : AV → Option DV
  | .sl id path off len => match h.boxes[id]? with
    | some (bt, bc) => match getP P path bc bt with
      | some (.d (.agg _ fs), t) => match P.underlying t with
        | some (.array _ e) => if off + len ≤ fs.length then some (.list e ((fs.drop off).take len)) else none
        | _ => none
      | _ => none
    | none => none
  | x => plainD x

/-- Is a value no slice into a box? -/
def noSlA : AV → Bool
  | .sl _ _ _ _ => false
  | _ => true

mutual
def noLst : DV → Bool
  | .list _ _ => false
  | .agg _ fs => noLsts fs
  | _ => true
def noLsts : List DV → Bool
  | [] => true
  | x :: xs => noLst x && noLsts xs
end

mutual
def eqD : DV → DV → Bool
  | .int _ a, .int _ b => a == b
  | .bool a, .bool b => a == b
  | .str a, .str b => a.toList == b.toList
  | .agg _ xs, .agg _ ys => eqDs xs ys
  | _, _ => false
def eqDs : List DV → List DV → Bool
  | [], [] => true
  | x :: xs, y :: ys => eqD x y && eqDs xs ys
  | _, _ => false
end

/-- May variables of a type be compared part by part? -/
def eqOK (P : Program) : Nat → TypeId → Bool
  | 0, _ => false
  | n + 1, t => match P.underlying t with
    | some .bool => true
    | some (.int _) => true
    | some .string => true
    | some (.struct fs) => !P.stoodInHeld t && (tys P (P.underlyingId t)).length == fs.toList.length && fs.toList.all fun f => f.name != "_" && eqOK P n f.type
    | some (.array m e) => (tys P (P.underlyingId t)).length == m && eqOK P n e
    | _ => false

def eqT (P : Program) (t : TypeId) : Bool := eqOK P 20 t && !P.eqGuardType P.depth t

def cmpInt (op : BinOp) (a b : Int) : Option Bool :=
  match op with
  | .eql => some (a == b)
  | .neq => some (a != b)
  | .lss => some (decide (a < b))
  | .leq => some (decide (a ≤ b))
  | .gtr => some (decide (a > b))
  | .geq => some (decide (a ≥ b))
  | _ => none

def bitsInt (op : BinOp) (k : IntKind) (x y : Int) : Option Int :=
  match op with
  | .and => some (k.wrap (BitVec.ofInt k.bits x &&& BitVec.ofInt k.bits y).toNat)
  | .or => some (k.wrap (BitVec.ofInt k.bits x ||| BitVec.ofInt k.bits y).toNat)
  | .xor => some (k.wrap (BitVec.ofInt k.bits x ^^^ BitVec.ofInt k.bits y).toNat)
  | .andNot => some (k.wrap (BitVec.ofInt k.bits x &&& ~~~BitVec.ofInt k.bits y).toNat)
  | _ => none

def binInt (op : BinOp) (k : IntKind) (a b : Int) : Option DV :=
  match op with
  | .add => some (.int k (k.wrap (a + b)))
  | .sub => some (.int k (k.wrap (a - b)))
  | .mul => some (.int k (k.wrap (a * b)))
  | .quo => if b = 0 then none else some (.int k (k.wrap (a.tdiv b)))
  | .rem => if b = 0 then none else some (.int k (a.tmod b))
  | .and => (bitsInt .and k a b).map (.int k)
  | .or => (bitsInt .or k a b).map (.int k)
  | .xor => (bitsInt .xor k a b).map (.int k)
  | .andNot => (bitsInt .andNot k a b).map (.int k)
  | op => (cmpInt op a b).map .bool

def shiftInt (op : BinOp) (k : IntKind) (a b : Int) : Option DV :=
  if b < 0 then none else
  match op with
  | .shl => some (.int k (k.wrap (a * 2 ^ min b.toNat k.bits)))
  | .shr => some (.int k (a.fdiv (2 ^ min b.toNat k.bits)))
  | _ => none

def binStr (op : BinOp) (x y : ByteArray) : Option DV :=
  match op with
  | .add => if x.size + y.size ≤ 4294967296 then some (.str (x ++ y)) else none
  | .eql => some (.bool (x.toList == y.toList))
  | .neq => some (.bool !(x.toList == y.toList))
  | .lss => some (.bool (Op.bytesLess x.toList y.toList))
  | .leq => some (.bool (Op.bytesLess x.toList y.toList || x.toList == y.toList))
  | .gtr => some (.bool !(Op.bytesLess x.toList y.toList || x.toList == y.toList))
  | .geq => some (.bool !Op.bytesLess x.toList y.toList)
  | _ => none

/-- The list that a slice's value is. -/
def viewL (P : Program) (h : Heap) (v : AV) : Option (TypeId × List DV) :=
  match viewD P h v with
  | some (.list e xs) => some (e, xs)
  | _ => none

def AV.isBox : AV → Bool
  | .ptr _ _ => true
  | _ => false

def AV.isPtr : AV → Bool
  | .ptr _ _ => true
  | .ro _ _ => true
  | .fn _ _ => true
  | _ => false

def eqR (op : BinOp) (b : Bool) : Option DV :=
  match op with
  | .eql => some (.bool b)
  | .neq => some (.bool !b)
  | _ => none

def binA (E : Env) (op : BinOp) (t : TypeId) (x y : AV) : Option DV :=
  match x, y with
  | .d (.int k a), .d (.int k' b) => match op with
    | .shl => shiftInt .shl k a b
    | .shr => shiftInt .shr k a b
    | op => if k = k' then binInt op k a b else none
  | .d (.str a), .d (.str b) => binStr op a b
  | .d (.bool a), .d (.bool b) => if oneB E.P t isBool = true then eqR op (a == b) else none
  | .d .nil, .d .nil => if oneB E.P t isPtr = true then eqR op true else none
  | .ptr _ _, .d .nil => if oneB E.P t isPtr = true then eqR op false else none
  | .emp e, .nils => if oneB E.P t (isSl e) = true then eqR op false else none
  | .nils, .nils => if oneB E.P t isAnySl = true then eqR op true else none
  | .d (.list e (_ :: _)), .nils => if oneB E.P t (isSl e) = true then eqR op false else none
  | x, y => match plainD x, plainD y with
    | some (.agg u a), some (.agg u' b) => if E.P.underlyingId t = u ∧ u = u' ∧ eqT E.P t = true ∧ isRowT E.P t = true ∧ E.P.cellsOf t = E.P.cellsOf u then eqR op (eqDs a b) else none
    | _, _ => none

def unA (op : UnOp) (x : AV) : Option DV :=
  match op, x with
  | .not, .d (.bool b) => some (.bool !b)
  | .neg, .d (.int k n) => some (.int k (k.wrap (0 - n)))
  | .xor, .d (.int k n) => some (.int k (k.wrap (BitVec.ofInt k.bits (if k.signed then -1 else k.max) ^^^ BitVec.ofInt k.bits n).toNat))
  | _, _ => none

def bytesOf : List DV → Option (List UInt8)
  | [] => some []
  | .int .u8 n :: xs => (bytesOf xs).map fun l => UInt8.ofNat n.toNat :: l
  | _ => none

def ofBytes (l : List UInt8) : List DV := l.map fun b => .int .u8 (b.toNat : Int)

def convA (P : Program) (src dst : TypeId) (x : AV) : Option DV :=
  match x with
  | .d (.int _ n) => match P.underlying src, P.underlying dst with
    | some (.int _), some (.int k) => some (.int k (k.wrap n))
    | _, _ => none
  | .d (.str s) => match P.underlying src, P.underlying dst with
    | some .string, some .string => some (.str s)
    | some .string, some (.slice e) => if oneB P e (isInt .u8) = true ∧ s.size ≤ 4294967296 then some (.list e (ofBytes s.data.toList)) else none
    | _, _ => none
  | x => match plainD x with
    | some (.list e' xs) => match P.underlying src, P.underlying dst with
      | some (.slice e), some .string => if oneB P e (isInt .u8) = true ∧ e' = e then (bytesOf xs).map fun l => .str ⟨l.toArray⟩ else none
      | _, _ => none
    | _ => none

/-- Zero values. -/
def zeroD (P : Program) : Nat → TypeId → Option DV
  | 0, _ => none
  | n + 1, t => match P.underlying t with
    | some (.int k) => some (.int k 0)
    | some .bool => some (.bool false)
    | some .string => some (.str .empty)
    | some (.pointer _) => some .nil
    | some (.struct fs) => (fs.toList.mapM fun f => zeroD P n f.type).map (.agg (P.underlyingId t))
    | some (.array k e) => (zeroD P n e).map fun z => .agg (P.underlyingId t) (List.replicate k z)
    | _ => none

def zeroF (P : Program) : Nat → TypeId → Option AV
  | 0, _ => none
  | n + 1, t => match zeroD P 20 t with
    | some z => some (.d z)
    | none => match P.underlying t with
      | some (.slice e) => some (.lst none e [])
      | some (.struct fs) => (fs.toList.mapM fun f => zeroF P n f.type).map (.agg (P.underlyingId t))
      | some (.array k e) => (zeroF P n e).map fun z => .agg (P.underlyingId t) (List.replicate k z)
      | _ => none

mutual
/-- Are these cells the tree? (No slice with elements.) -/
def chkD (P : Program) : DV → List Value → Bool
  | .int k n, [.int k' n'] => k == k' && n == n'
  | .bool b, [.bool b'] => b == b'
  | .str s, [.string s'] => s.size == 0 && s'.size == 0
  | .nil, [.pointer none] => true
  | .list _ [], [.slice none 0 0] => true
  | .agg t fs, c => c.length == P.cellsOf t && chkDs P fs (tys P t) c
  | _, _ => false
def chkDs (P : Program) : List DV → List TypeId → List Value → Bool
  | [], [], [] => true
  | x :: xs, t :: ts, c => fitsD P t x && (c.take (P.cellsOf t)).length == P.cellsOf t && chkD P x (c.take (P.cellsOf t)) && chkDs P xs ts (c.drop (P.cellsOf t))
  | _, _, _ => false
end

mutual
def chkA (P : Program) : AV → List Value → Bool
  | .d x, c => chkD P x c
  | .lst none _ [], [.slice none 0 0] => true
  | .agg t fs, c => c.length == P.cellsOf t && chkAs P fs (tys P t) c
  | _, _ => false
def chkAs (P : Program) : List AV → List TypeId → List Value → Bool
  | [], [], [] => true
  | x :: xs, t :: ts, c => fitsA P t x && (c.take (P.cellsOf t)).length == P.cellsOf t && chkA P x (c.take (P.cellsOf t)) && chkAs P xs ts (c.drop (P.cellsOf t))
  | _, _, _ => false
end

def aggA : AV → Bool
  | .agg _ _ => true
  | .d (.agg _ _) => true
  | _ => false
def aggV : Value → Bool
  | .agg _ => true
  | _ => false

/-- The zero value of a type, held against the table's own. -/
def zeroA (P : Program) (t : TypeId) : Option AV :=
  match zeroF P 20 t, (P.info? t).bind (·.zero) with
  | some z, some v => if aggA z = aggV v ∧ chkA P z v.cells.toList = true ∧ fitsA P t z = true then some z else none
  | _, _ => none

def pickA (g c : Bool) (a b : AV) : Option AV :=
  match strip (gd (g && c)) a, strip (gd (g && !c)) b with
  | .d (.bool x), .d (.bool y) => some (.d (.bool (bif c then x else y)))
  | .d (.bool x), _ => if c = true then some (.d (.bool x)) else none
  | _, .d (.bool y) => if c = true then none else some (.d (.bool y))
  | _, _ => none

def optI (ev : Operand → AV) : Option Operand → Option (Option Int)
  | none => some none
  | some x => match ev x with | .d (.int _ n) => some (some n) | _ => none

def sliceA (E : Env) (h : Heap) (t : TypeId) (x : AV) (lo hi mx : Option Int) : Option AV :=
  match mx with
  | some _ => none
  | none =>
  match x with
  | .d (.str s) =>
    let l := lo.getD 0
    let u := hi.getD s.size
    if 0 ≤ l ∧ l ≤ u ∧ u ≤ s.size ∧ oneB E.P t isStr = true then some (.d (.str (s.extract l.toNat u.toNat))) else none
  | .lst _ e xs =>
    let l := lo.getD 0
    let u := hi.getD xs.length
    if 0 ≤ l ∧ l ≤ u ∧ u ≤ xs.length ∧ oneB E.P t (isSl e) = true ∧ E.P.cellsOf e ≠ 0 then some (.d (.list e ((xs.drop l.toNat).take (u.toNat - l.toNat)))) else none
  | .d (.list e xs) =>
    let l := lo.getD 0
    let u := hi.getD xs.length
    if 0 ≤ l ∧ l ≤ u ∧ u ≤ xs.length ∧ oneB E.P t (isSl e) = true ∧ E.P.cellsOf e ≠ 0 then some (.d (.list e ((xs.drop l.toNat).take (u.toNat - l.toNat)))) else none
  | .ptr id path => if h.typeAt E.P id path = some t then match E.P.underlying t with
      | some (.array n e) =>
        let l := lo.getD 0
        let u := hi.getD n
        if 0 ≤ l ∧ l < n ∧ l ≤ u ∧ u ≤ n ∧ n ≤ 1048576 ∧ E.P.cellsOf e ≠ 0 then some (.sl id path l.toNat (u.toNat - l.toNat)) else none
      | _ => none
    else none
  | _ => none

def idx (xs : List DV) (i : Int) : Option DV := if 0 ≤ i then xs[i.toNat]? else none

def indexAddrA (E : Env) (h : Heap) (t : TypeId) (x : AV) (i : Int) : Option AV :=
  match x with
  | .lst _ e xs => if oneB E.P t (isSl e) = true then (idx xs i).map (.ro e) else none
  | .d (.list e xs) => if oneB E.P t (isSl e) = true then (idx xs i).map (.ro e) else none
  | .sl id path off len => match h.typeAt E.P id path with
    | some t' => match E.P.underlying t' with
      | some (.array _ e) => if 0 ≤ i ∧ i < len ∧ oneB E.P t (isSl e) = true ∧ (tys E.P (E.P.underlyingId t')).isEmpty = false ∧ E.P.cellsOf e ≠ 0 then some (.ptr id (path ++ [off + i.toNat])) else none
      | _ => none
    | none => none
  | .ptr id path => match E.P.underlying t with
    | some (.array n e) => if 0 ≤ i ∧ i < n ∧ h.typeAt E.P id path = some t ∧ (tys E.P (E.P.underlyingId t)).isEmpty = false ∧ E.P.cellsOf e ≠ 0 then some (.ptr id (path ++ [i.toNat])) else none
    | _ => none
  | .ro t' (.agg _ xs) => match E.P.underlying t with
    | some (.array n e) => if t' = t ∧ 0 ≤ i ∧ i < n then (idx xs i).map (.ro e) else none
    | _ => none
  | _ => none

def resA : List DV → AV
  | [x] => .d x
  | xs => .tup (xs.map .d)

/-- An operation that makes no box and writes nothing. -/
def pop (E : Env) (g : Bool) (h : Heap) (ev : Operand → AV) (o : Oper) : Option AV :=
  match o.op with
  | .move x => some (gdA (ev x))
  | .assign x => some (coe E.P o.type (ev x))
  | .pick c a b => match strip g (ev c) with
    | .d (.bool t) => pickA g t (ev a) (ev b)
    | _ => none
  | .binOp op t x y _ => match y, ev x with
    | .const .nilIface, .ifc a => if oneB E.P t isIface = true then (eqR op (!a)).map .d else none
    | _, _ => (binA E op t (ev x) (ev y)).map .d
  | .unOp op _ x => (unA op (ev x)).map .d
  | .convert s t x => (convA E.P s t (ev x)).map .d
  | .nilCheck x => if (ev x).isPtr then some (ev x) else none
  | .field t x f => match E.P.underlying t with
    | some (.struct _) => match (ev x).parts with
      | some (u, fs) => if E.P.underlyingId t = u then fs[f]? else none
      | none => none
    | _ => none
  | .extract x i => match ev x with
    | .tup vs => vs[i]?
    | _ => none
  | .index t x i => match ev x, ev i with
    | .d (.str s), .d (.int _ n) => if 0 ≤ n ∧ oneB E.P t isStr = true then (s[n.toNat]?).map fun b => .d (.int .u8 b.toNat) else none
    | .d (.agg u xs), .d (.int _ n) => match E.P.underlying t with
      | some (.array k _) => if u = E.P.underlyingId t ∧ 0 ≤ n ∧ n < k then (idx xs n).map .d else none
      | _ => none
    | _, _ => none
  | .indexAddr t x i => match ev i with
    | .d (.int _ n) => indexAddrA E h t (ev x) n
    | _ => none
  | .fieldAddr t x f => match E.P.underlying t with
    | some (.struct fs) => match fs[f]? with
      | some fd => if E.P.cellsOf fd.type = 0 then none else match ev x with
        | .ptr id path => if h.typeAt E.P id path = some t ∧ (tys E.P (E.P.underlyingId t)).isEmpty = false then some (.ptr id (path ++ [f])) else none
        | .ro t' (.agg _ xs) => if t' = t then (xs[f]?).map (.ro fd.type) else none
        | _ => none
      | none => none
    | _ => none
  | .load t a => match ev a with
    | .ptr id path => match h.boxes[id]? with
      | some (bt, bc) => match getP E.P path bc bt with
        | some (v, t') => if t' = t then some v else none
        | none => none
      | none => none
    | .ro t' x => if t' = t then some (.d x) else none
    | _ => none
  | .slice t x lo hi mx => match optI ev lo, optI ev hi, optI ev mx with
    | some l, some u, some m => sliceA E h t (ev x) l u m
    | _, _, _ => none
  | .build t ps => buildA E t (ps.toList.map fun p => (p.1, ev p.2))
  | .buildSlice t n ps => match E.P.underlying t with
    | some (.slice e) => match (ps.toList.map fun p => coe E.P e (ev p.2)).mapM plainD, zeroA E.P e with
      | some xs, some _ => if ps.toList.map (·.1) = List.range n ∧ n ≤ 4096 ∧ (ps.toList.all fun p => fitsA E.P e (coe E.P e (ev p.2))) = true ∧ n * E.P.cellsOf e ≤ 16777216 then some (.lst none e xs) else none
      | _, _ => none
    | _ => none
  | .makeFunc (.func f) first captured => if first.size = 0 ∧ (captured.toList.all fun x => (ev x).isBox) = true then some (.fn f (captured.toList.map ev)) else none
  | .call c => match c.callee, c.args.toList, c.argTypes.toList with
    | .builtin .len, [x], [t] => match ev x with
      | .d (.str s) => if oneB E.P t isStr = true then some (.d (.int .i64 s.size)) else none
      | .lst _ _ xs => if oneB E.P t isAnySl = true then some (.d (.int .i64 xs.length)) else none
      | .d (.list _ xs) => if oneB E.P t isAnySl = true then some (.d (.int .i64 xs.length)) else none
      | .sl _ _ _ n => if oneB E.P t isAnySl = true then some (.d (.int .i64 n)) else none
      | .nils => if oneB E.P t isAnySl = true then some (.d (.int .i64 0)) else none
      | _ => none
    | .builtin .min, [x, y], _ => match ev x, ev y with
      | .d (.int k a), .d (.int _ b) => some (.d (.int k (if b < a then b else a)))
      | _, _ => none
    | .builtin .max, [x, y], _ => match ev x, ev y with
      | .d (.int k a), .d (.int _ b) => some (.d (.int k (if b > a then b else a)))
      | _, _ => none
    | .value f, avs, ts => match ev f with
      | .fn g [] => match E.S g with
        | .pure s => match (List.zipWith (fun t a => coe E.P t (ev a)) ts avs).mapM (viewD E.P h) with
          | some ds => match s ds with
            | some r => if ts.length = avs.length ∧ ((avs.all fun a => noSlA (ev a)) = true ∨ noLsts r = true) then some (resA r) else none
            | none => none
          | none => none
        | _ => none
      | _ => none
    | _, _, _ => none
  | _ => none
where
  buildA (E : Env) (t : TypeId) (ps : List (Nat × AV)) : Option AV :=
    match zeroA E.P t with
    | some z => match z.parts with
      | some (u, fs) => if ((tys E.P u).all fun t => E.P.cellsOf t != 0) = true ∧ (tys E.P u).isEmpty = false then
          if ps.isEmpty = true then some z else (fillA E.P (tys E.P u) fs ps).map (.agg u)
        else none
      | none => none
    | none => none
  fillA (P : Program) (ts : List TypeId) : List AV → List (Nat × AV) → Option (List AV)
    | fs, [] => some fs
    | fs, (i, v) :: ps => match ts[i]? with
      | some t => if fitsA P t (coe P t v) = true ∧ i < fs.length then fillA P ts (fs.set i (coe P t v)) ps else none
      | none => none

/-- The kind of what is appended. -/
def AV.srcD : AV → TypeDesc → Bool
  | .d (.str _) => isStr
  | _ => isAnySl

/-- What is appended: a list, a string's bytes. -/
def addedA (P : Program) (h : Heap) (e : TypeId) (y : AV) : Option (List DV) :=
  match y with
  | .nils => some []
  | .d (.str s) => if oneB P e (isInt .u8) = true then some (ofBytes s.data.toList) else none
  | y => match viewL P h y with
    | some (e', ys) => if e' = e then some ys else none
    | none => none

def appendA (P : Program) (h : Heap) (e : TypeId) (x : AV) (y : AV) : Option (AV × Heap) :=
  match x with
  | .lst k e' xs => if e' ≠ e then none else match addedA P h e y with
    | some ys =>
      if xs.length + ys.length ≤ 4294967296 ∧ P.bytesOf e ≤ 32768 ∧ P.cellsOf e ≠ 0 ∧ (zeroA P e).isSome = true then
        match k with
        | none => some (.lst (if ys.isEmpty && !xs.isEmpty then none else some h.toks.length) e (xs ++ ys), { h with toks := h.toks ++ [xs.length + ys.length] })
        | some τ => if h.toks[τ]? = some xs.length then some (.lst (some τ) e (xs ++ ys), { h with toks := h.toks.set τ (xs.length + ys.length) }) else none
      else none
    | none => none
  | _ => none

def storeA (E : Env) (h : Heap) (t : TypeId) (a v : AV) : Option Heap :=
  match a with
  | .ptr id path => match h.boxes[id]? with
    | some (bt, bc) => match getP E.P path bc bt with
      | some (_, t') => if t' = t ∧ fitsA E.P t (coe E.P t v) = true then
          match setP path bc (coe E.P t v) with
          | some bc' => some { h with boxes := h.boxes.set id (bt, bc') }
          | none => none
        else none
      | none => none
    | none => none
  | _ => none

/-- An operation that makes a box, or a list with room, or writes. -/
def eop (E : Env) (h : Heap) (ev : Operand → AV) (o : Oper) : Option (AV × Heap) :=
  match o.op with
  | .alloc t => match zeroA E.P t with
    | some z => some (.ptr h.boxes.length [], { h with boxes := h.boxes ++ [(t, z)] })
    | none => none
  | .box t x => if fitsA E.P t (coe E.P t (ev x)) = true then some (.ptr h.boxes.length [], { h with boxes := h.boxes ++ [(t, coe E.P t (ev x))] }) else none
  | .store t a x => (storeA E h t (ev a) (ev x)).map fun h' => (.sel false .bad, h')
  | .makeSlice t l c => match E.P.underlying t, ev l, ev c with
    | some (.slice e), .d (.int .i64 n), .d (.int .i64 m) => match zeroA E.P e with
      | some (.d z) => if 0 ≤ n ∧ n ≤ m ∧ m ≤ 4294967296 ∧ E.P.bytesOf e ≤ 32768 ∧ E.P.cellsOf e ≠ 0 then
          some (.lst (some h.toks.length) e (List.replicate n.toNat z), { h with toks := h.toks ++ [n.toNat] }) else none
      | _ => none
    | _, _, _ => none
  | .call c => match c.callee, c.args.toList, c.argTypes.toList with
    | .builtin .append, [x, y], [t, t'] => match E.P.underlying t with
      | some (.slice e) => if oneB E.P t' (ev y).srcD = true then appendA E.P h e (coe E.P t (ev x)) (ev y) else none
      | _ => none
    | .value f, avs, ts => match ev f with
      | .fn g caps => match E.S g with
        | .eff s => if ts.length = avs.length ∧ (avs.all fun x => notTup (ev x)) = true ∧ (caps.all fun x => !aggA x) = true then s (List.zipWith (fun t a => coe E.P t (ev a)) ts avs ++ caps) h else none
        | _ => none
      | _ => none
    | _, _, _ => none
  | _ => none

/-- The class of an operation: total and pure; pure; it has effects. -/
inductive Cls where | tot | par | eff
  deriving DecidableEq

def cls (S : FuncId → Spec) (o : Oper) : Cls :=
  match o.op with
  | .alloc _ => .eff
  | .box _ _ => .eff
  | .store _ _ _ => .eff
  | .makeSlice _ _ _ => .eff
  | .index _ _ _ => .tot
  | .indexAddr _ _ _ => .tot
  | .slice _ _ _ _ _ => .tot
  | .binOp op _ _ _ _ => .tot
  | .call c => match c.callee with
    | .builtin .append => .eff
    | .builtin .copy => .eff
    | .builtin _ => .tot
    | .value (.func g) => match S g with | .pure _ => .tot | _ => .eff
    | _ => .eff
  | _ => .tot

/-- Whether an operation is wanted. -/
def wantA (ops : Array Oper) (env : Nat → AV) (o : Oper) : Option Bool :=
  match o.guard with
  | none => some true
  | some (j, want) => match (ops[j]?).bind (·.dst) with
    | some d => match env d with
      | .d (.bool b) => some (gd (b == want))
      | .sel c (.d (.bool b)) => some (gd (c && (b == want)))
      | .sel false _ => some false
      | _ => none
    | none => none

def isPick (o : Oper) : Bool :=
  match o.op with
  | .pick _ _ _ => true
  | _ => false

/-- What an operation's operands are where g holds. -/
def evG (E : Env) (env : Nat → AV) (o : Oper) (g : Bool) (x : Operand) : AV := if isPick o = true then evalO E env x else strip g (evalO E env x)

def undefA : AV := .sel false .bad

def stepOp (E : Env) (ops : Array Oper) (o : Oper) (st : St) : Option St :=
  match o.guard with
  | none => match cls E.S o with
    | .eff => match eop E st.h (fun x => strip true (evalO E st.env x)) o with
      | some (v, h') => some ({ st with h := h' }.put o.dst v)
      | none => none
    | _ => match pop E true st.h (evG E st.env o true) o with
      | some v => some (st.put o.dst v)
      | none => none
  | some _ => match wantA ops st.env o with
    | none => none
    | some g => match cls E.S o with
      | .tot => match pop E g st.h (evG E st.env o g) o with
        | some v => if notTup v = true then some (st.put o.dst (.sel g v)) else if g = true then none else some (st.put o.dst undefA)
        | none => if g = true then none else some (st.put o.dst undefA)
      | .par => if g = true then (match pop E true st.h (evG E st.env o true) o with
          | some v => if notTup v = true then some (st.put o.dst (.sel true v)) else none
          | none => none) else some (st.put o.dst undefA)
      | .eff => if g = true then (match eop E st.h (fun x => strip true (evalO E st.env x)) o with
          | some (v, h') => some ({ st with h := h' }.put o.dst v)
          | none => none) else some (st.put o.dst undefA)

def runOps (E : Env) (ops : Array Oper) : List Oper → St → Option St
  | [], st => some st
  | o :: l, st => match stepOp E ops o st with
    | some st' => runOps E ops l st'
    | none => none


/-- What is ahead of each operation, avs bits. -/
def befS (acc : List Nat) (o : Oper) : Nat := o.after.toList.foldl (fun s e => if Region.binds .any e = true then s ||| 2 ^ e.on ||| acc.getD e.on 0 else s) 0
def befL : List Oper → List Nat → List Nat
  | [], acc => acc
  | o :: l, acc => befL l (acc ++ [befS acc o])

/-- Do two operations name one temporary, one of them writing it? -/
def clash (ops : Array Oper) (p o : Oper) : Bool :=
  (match p.dst with | some d => (o.dst == some d) || (o.looksAt ops).contains d | none => false) ||
  (match o.dst with | some d => (p.looksAt ops).contains d | none => false)

/-- Two operations that clash are ordered. -/
def comm (ops : Array Oper) : Bool :=
  ops.toList.zipIdx.all fun q => (q.1.after.toList.all fun e => !Region.binds .any e || decide (e.on < q.2)) &&
    ops.toList.zipIdx.all fun p => !decide (p.2 < q.2) || !clash ops p.1 q.1 || ((befL ops.toList []).getD q.2 0).testBit p.2

/-- Does an operation make boxes alone? -/
def isNew (o : Oper) : Bool :=
  match o.op with
  | .alloc _ => true
  | .box _ _ => true
  | _ => false

/-- What has effects comes ahead of all that is behind it in the text; and behind all that is ahead of it, or it makes a box alone. -/
def effOK (S : FuncId → Spec) (ops : Array Oper) : Bool :=
  ops.toList.zipIdx.all fun q => cls S q.1 != .eff ||
    ops.toList.zipIdx.all fun p => (!decide (q.2 < p.2) || ((befL ops.toList []).getD p.2 0).testBit q.2) &&
      (!decide (p.2 < q.2) || ((befL ops.toList []).getD q.2 0).testBit p.2 || (isNew q.1 && cls S p.1 != .eff))

mutual
def below (m : Nat) : AV → Bool
  | .ptr id _ => decide (id < m)
  | .sl id _ _ _ => decide (id < m)
  | .agg _ fs => belows m fs
  | .fn _ fs => belows m fs
  | .tup fs => belows m fs
  | .sel _ x => below m x
  | _ => true
def belows (m : Nat) : List AV → Bool
  | [] => true
  | x :: xs => below m x && belows m xs
end

/-- The boxes from m on are forgotten. -/
def St.forget (m : Nat) (st : St) : Option St :=
  if st.h.boxes.length = m then some st
  else if (st.h.boxes.take m).all (fun p => below m p.2) = true then
    some { env := fun t => if below m (st.env t) = true then st.env t else .bad, h := { st.h with boxes := st.h.boxes.take m } }
  else none

inductive Ex where
  | normal
  | exit (id : Nat)
  | ret
  deriving DecidableEq

def lookK (u : Nat) : List (Nat × AV) → AV
  | [] => .bad
  | (t, v) :: l => if u = t then v else lookK u l
def envK (l : List (Nat × AV)) (u : Nat) : AV := lookK u l
theorem envK_nil (u : Nat) : envK [] u = .bad := rfl
theorem envK_cons (t : Nat) (v : AV) (l : List (Nat × AV)) (u : Nat) : envK ((t, v) :: l) u = if u = t then v else envK l u := rfl

/-- The temporaries of K are kept. -/
def St.keep (K : Option (List Nat × List Nat)) (st : St) : St :=
  match K with
  | some k => { st with env := envK (k.1.map fun t => (t, st.env t)) }
  | none => st

mutual
/-- Lists without a mark get one. -/
def mark : AV → List Nat → AV × List Nat
  | .lst none e [], ts => (.lst (some ts.length) e [], ts ++ [0])
  | .agg t fs, ts => (.agg t (marks fs ts).1, (marks fs ts).2)
  | x, ts => (x, ts)
def marks : List AV → List Nat → List AV × List Nat
  | [], ts => ([], ts)
  | x :: xs, ts => ((mark x ts).1 :: (marks xs (mark x ts).2).1, (marks xs (mark x ts).2).2)
end

def St.mark1 (st : St) (t : Nat) : St :=
  match st.env t with
  | .ptr id [] => match st.h.boxes[id]? with
    | some (bt, bc) => { st with h := { boxes := st.h.boxes.set id (bt, (mark bc st.h.toks).1), toks := (mark bc st.h.toks).2 } }
    | none => st
  | x => { env := upd st.env t (mark x st.h.toks).1, h := { st.h with toks := (mark x st.h.toks).2 } }

def St.start (K : Option (List Nat × List Nat)) (st : St) : St :=
  match K with
  | some k => (k.2.foldl St.mark1 st).keep (some k)
  | none => st

/-- Behind a return, what no kept temporary names is forgotten. -/
def St.tidy (K : Option (List Nat × List Nat)) (m : Nat) (st : St) : St :=
  match K with
  | some k => if (k.1.all fun t => below m (st.env t)) = true then (st.forget m).getD st else st
  | none => st

def loopN (f : St → Option (Ex × St)) (K : Option (List Nat × List Nat)) (m : Nat) : Nat → St → Option (Ex × St)
  | 0, _ => none
  | n + 1, st => match f st with
    | some (.normal, st') => match st'.forget m with
      | some st'' => loopN f K m n (st''.keep K)
      | none => none
    | some (.exit i, st') => (st'.forget m).map fun s => (.exit i, s.keep K)
    | some (.ret, st') => some (.ret, (st'.tidy K m).keep K)
    | none => none

/-- A piece's first region. -/
def keyC : Code → Nat
  | .region id _ _ => id
  | .seq a _ => keyC a
  | .cond _ a _ => keyC a
  | .block _ b => keyC b
  | .loop b => keyC b
  | .scope b => keyC b
  | _ => 0

def exec (E : Env) (n : Nat) : Code → St → Option (Ex × St)
  | .skip, st => some (.normal, st)
  | .region _ ops _, st => match runOps E ops ops.toList st with
    | some st' => some (.normal, st')
    | none => none
  | .seq a b, st => match exec E n a st with
    | some (.normal, st') => exec E n b st'
    | r => r
  | .cond c a b, st => match strip true (evalO E st.env c) with
    | .d (.bool t) => if t = true then exec E n a st else exec E n b st
    | _ => none
  | .block id b, st => match exec E n b st with
    | some (.exit i, st') => if i = id then some (.normal, st') else some (.exit i, st')
    | r => r
  | .loop b, st => loopN (exec E n b) (E.K (keyC b)) st.h.boxes.length n (st.start (E.K (keyC b)))
  | .exit id, st => some (.exit id, st)
  | .ret, st => some (.ret, st)
  | _, _ => none

/-- A function's results. -/
def resultsA (E : Env) (st : St) : List ResultVar → Option (List AV)
  | [] => some []
  | .tmp t :: rs => (resultsA E st rs).map (st.env t :: ·)
  | .cell a t :: rs => match st.env a with
    | .ptr id path => match st.h.boxes[id]? with
      | some (bt, bc) => match getP E.P path bc bt with
        | some (v, t') => if t' = t then (resultsA E st rs).map (v :: ·) else none
        | none => none
      | none => none
    | _ => none

end Go.Tith

namespace Go.Tith

section
variable {P : Program} {C : Con} {w : World} {h : Heap}

/-! ### parts -/
theorem splice {α : Type} (c cx : List α) (a n b m : Nat) (h1 : b + m ≤ n) :
    c.take a ++ (((c.drop a).take n).take b ++ cx ++ ((c.drop a).take n).drop (b + m)) ++ c.drop (a + n) = c.take (a + b) ++ cx ++ c.drop (a + b + m) := by
  have e1 : ((c.drop a).take n).take b = (c.drop a).take b := by rw [List.take_take, Nat.min_eq_left (by omega)]
  have e2 : ((c.drop a).take n).drop (b + m) ++ c.drop (a + n) = c.drop (a + b + m) := by
    rw [List.drop_take, List.drop_drop, show a + n = (a + (b + m)) + (n - (b + m)) by omega]
    conv => lhs; rhs; rw [← List.drop_drop]
    rw [List.take_append_drop, Nat.add_assoc]
  rw [e1, List.take_add]
  simp only [List.append_assoc]
  rw [e2]

theorem relDs_relCs : ∀ {ds : List DV} {ts : List TypeId} {c : List Value}, relDs P C w ds ts c → relCs P C w h (ds.map .d) ts c
  | [], _, _, r => by simpa [relDs, relCs] using r
  | d :: ds, ts, c, r => by
    simp only [relDs] at r
    obtain ⟨t, ts', c1, c2, h1, h2, h3, h4, h5, h6⟩ := r
    simp only [List.map_cons, relCs]
    exact ⟨t, ts', c1, c2, h1, h2, h3, h4, by simpa [relC] using h5, relDs_relCs h6⟩

theorem relCs_get : ∀ {ds : List AV} {ts : List TypeId} {c : List Value} (i : Nat) {d : AV}, relCs P C w h ds ts c → ds[i]? = some d →
    ∃ t, ts[i]? = some t ∧ fitsA P t d = true ∧ offL P ts i + P.cellsOf t ≤ c.length ∧ relC P C w h d ((c.drop (offL P ts i)).take (P.cellsOf t))
  | [], _, _, _, _, _, h => by simp at h
  | x :: ds, ts, c, 0, d, h, hd => by
    simp only [relCs] at h
    obtain ⟨t, ts', c1, c2, rfl, rfl, h3, h4, h5, h6⟩ := h
    simp at hd; subst hd
    exact ⟨t, rfl, h3, by simp [offL, h4], by simpa [offL, ← h4] using h5⟩
  | x :: ds, ts, c, i + 1, d, h, hd => by
    simp only [relCs] at h
    obtain ⟨t, ts', c1, c2, rfl, rfl, h3, h4, h5, h6⟩ := h
    obtain ⟨t', g1, g2, g3, g4⟩ := relCs_get i h6 (by simpa using hd)
    have e : offL P (t :: ts') (i + 1) = c1.length + offL P ts' i := by simp [offL, ← h4]
    refine ⟨t', by simpa using g1, g2, by rw [e]; simp; omega, ?_⟩
    rw [e, List.drop_append, List.drop_of_length_le (by omega), List.nil_append, show c1.length + offL P ts' i - c1.length = offL P ts' i by omega]
    exact g4

theorem relCs_set : ∀ {ds : List AV} {ts : List TypeId} {c : List Value} (i : Nat) {d : AV} {t : TypeId} {c' : List Value}, relCs P C w h ds ts c → ts[i]? = some t → i < ds.length →
    fitsA P t d = true → c'.length = P.cellsOf t → relC P C w h d c' → relCs P C w h (ds.set i d) ts (c.take (offL P ts i) ++ c' ++ c.drop (offL P ts i + P.cellsOf t))
  | [], _, _, _, _, _, _, _, _, h, _, _, _ => by simp at h
  | x :: ds, ts, c, 0, d, t, c', h, ht, _, hf, hl, hr => by
    simp only [relCs] at h
    obtain ⟨t0, ts', c1, c2, rfl, rfl, h3, h4, h5, h6⟩ := h
    simp at ht; subst ht
    simp only [List.set_cons_zero, relCs]
    exact ⟨t0, ts', c', c2, rfl, by simp [offL, ← h4], hf, hl, hr, h6⟩
  | x :: ds, ts, c, i + 1, d, t, c', h, ht, hi, hf, hl, hr => by
    simp only [relCs] at h
    obtain ⟨t0, ts', c1, c2, rfl, rfl, h3, h4, h5, h6⟩ := h
    have g := relCs_set i h6 (by simpa using ht) (by simpa using hi) hf hl hr
    have e : offL P (t0 :: ts') (i + 1) = c1.length + offL P ts' i := by simp [offL, ← h4]
    simp only [List.set_cons_succ, relCs]
    refine ⟨t0, ts', c1, _, rfl, ?_, h3, h4, h5, g⟩
    rw [e, List.take_append, List.take_of_length_le (by omega), List.drop_append, List.drop_of_length_le (by omega)]
    rw [show c1.length + offL P ts' i - c1.length = offL P ts' i by omega, show c1.length + offL P ts' i + P.cellsOf t - c1.length = offL P ts' i + P.cellsOf t by omega]
    simp [List.append_assoc]

theorem relCs_len : ∀ {ds : List AV} {ts : List TypeId} {c : List Value}, relCs P C w h ds ts c → ds.length = ts.length
  | [], _, _, h => by simp [relCs] at h; simp [h]
  | x :: ds, ts, c, h => by
    simp only [relCs] at h
    obtain ⟨t, ts', c1, c2, rfl, rfl, h3, h4, h5, h6⟩ := h
    simp [relCs_len h6]

theorem parts_rel {v : AV} {u : TypeId} {fs : List AV} {c : List Value} (hp : v.parts = some (u, fs)) (hr : relC P C w h v c) : c.length = P.cellsOf u ∧ relCs P C w h fs (tys P u) c := by
  cases v with
  | agg t gs => simp [AV.parts] at hp; obtain ⟨rfl, rfl⟩ := hp; simpa [relC] using hr
  | d x => cases x with
    | agg t gs => simp [AV.parts] at hp; obtain ⟨rfl, rfl⟩ := hp; simp only [relC, relD] at hr; exact ⟨hr.1, relDs_relCs hr.2⟩
    | _ => simp [AV.parts] at hp
  | _ => simp [AV.parts] at hp

theorem parts_fits {v : AV} {u t : TypeId} {fs : List AV} (hp : v.parts = some (u, fs)) (hf : fitsA P t v = true) : P.underlyingId t = u ∧ P.cellsOf t = P.cellsOf u := by
  cases v with
  | agg t gs => simp [AV.parts] at hp; obtain ⟨rfl, rfl⟩ := hp; simp [fitsA] at hf; exact hf.1
  | d x => cases x with
    | agg t gs => simp [AV.parts] at hp; obtain ⟨rfl, rfl⟩ := hp; simp [fitsA, fitsD] at hf; exact hf.1
    | _ => simp [AV.parts] at hp
  | _ => simp [AV.parts] at hp

theorem getP_sound : ∀ (p : List Nat) {v v' : AV} {t t' : TypeId} {c : List Value}, getP P p v t = some (v', t') → relC P C w h v c → fitsA P t v = true → c.length = P.cellsOf t →
    ∃ off, offP P p t = some (off, t') ∧ fitsA P t' v' = true ∧ off + P.cellsOf t' ≤ c.length ∧ relC P C w h v' ((c.drop off).take (P.cellsOf t'))
  | [], v, v', t, t', c, hg, hr, hf, hl => by
    simp [getP] at hg; obtain ⟨rfl, rfl⟩ := hg
    exact ⟨0, rfl, hf, by omega, by simpa [← hl] using hr⟩
  | i :: p, v, v', t, t', c, hg, hr, hf, hl => by
    simp only [getP] at hg
    cases hp : v.parts with
    | none => simp [hp] at hg
    | some q =>
      obtain ⟨u, fs⟩ := q
      simp only [hp] at hg
      cases hx : fs[i]? with
      | none => simp [hx] at hg
      | some x => cases ht : (tys P u)[i]? with
        | none => simp [hx, ht] at hg
        | some ti =>
          simp only [hx, ht] at hg
          obtain ⟨h1, h2⟩ := parts_rel hp hr
          obtain ⟨h3, h4⟩ := parts_fits hp hf
          obtain ⟨t2, g1, g2, g3, g4⟩ := relCs_get i h2 hx
          rw [ht] at g1; obtain rfl := Option.some.inj g1
          obtain ⟨off, k1, k2, k3, k4⟩ := getP_sound p hg g4 g2 (by simp; omega)
          refine ⟨offL P (tys P u) i + off, by simp [offP, h3, ht, k1], k2, by simp at k3; omega, ?_⟩
          simp at k3
          rw [List.drop_take, List.drop_drop, List.take_take] at k4
          rw [Nat.min_eq_left (by omega)] at k4
          exact k4


theorem relCs_relDs : ∀ {ds : List DV} {ts : List TypeId} {c : List Value}, relCs P C w h (ds.map .d) ts c → relDs P C w ds ts c
  | [], _, _, r => by simpa [relDs, relCs] using r
  | d :: ds, ts, c, r => by
    simp only [List.map_cons, relCs] at r
    obtain ⟨t, ts', c1, c2, h1, h2, h3, h4, h5, h6⟩ := r
    simp only [relDs]
    exact ⟨t, ts', c1, c2, h1, h2, h3, h4, by simpa [relC] using h5, relCs_relDs h6⟩

theorem setP_sound : ∀ (p : List Nat) {v v' x old : AV} {t t' : TypeId} {c cx : List Value}, setP p v x = some v' → getP P p v t = some (old, t') → relC P C w h v c → fitsA P t v = true → c.length = P.cellsOf t →
    fitsA P t' x = true → relC P C w h x cx → cx.length = P.cellsOf t' →
    ∃ off, offP P p t = some (off, t') ∧ off + P.cellsOf t' ≤ c.length ∧ fitsA P t v' = true ∧ relC P C w h v' (c.take off ++ cx ++ c.drop (off + P.cellsOf t'))
  | [], v, v', x, old, t, t', c, cx, hs, hg, hr, hf, hl, hfx, hrx, hlx => by
    simp [getP] at hg; obtain ⟨rfl, rfl⟩ := hg
    simp [setP] at hs; subst hs
    exact ⟨0, rfl, by omega, hfx, by simpa [← hl] using hrx⟩
  | i :: p, v, v', x, old, t, t', c, cx, hs, hg, hr, hf, hl, hfx, hrx, hlx => by
    have key : ∀ (u : TypeId) (fs : List AV) (x0 y : AV), v.parts = some (u, fs) → fs[i]? = some x0 → setP p x0 x = some y →
        ∃ off, offP P (i :: p) t = some (off, t') ∧ off + P.cellsOf t' ≤ c.length ∧ P.underlyingId t = u ∧ P.cellsOf t = P.cellsOf u ∧
          (c.take off ++ cx ++ c.drop (off + P.cellsOf t')).length = P.cellsOf u ∧ relCs P C w h (fs.set i y) (tys P u) (c.take off ++ cx ++ c.drop (off + P.cellsOf t')) := by
      intro u fs x0 y hp hx hy
      simp only [getP, hp, hx] at hg
      cases ht : (tys P u)[i]? with
      | none => simp [ht] at hg
      | some ti =>
        simp only [ht] at hg
        obtain ⟨h1, h2⟩ := parts_rel hp hr
        obtain ⟨h3, h4⟩ := parts_fits hp hf
        obtain ⟨t2, g1, g2, g3, g4⟩ := relCs_get i h2 hx
        rw [ht] at g1; obtain rfl := Option.some.inj g1
        obtain ⟨off, k1, k2, k3, k4⟩ := setP_sound p hy hg g4 g2 (by simp; omega) hfx hrx hlx
        have hi : i < fs.length := (List.getElem?_eq_some_iff.1 hx).1
        simp at k2
        have hlen : (List.take off (List.take (P.cellsOf ti) (List.drop (offL P (tys P u) i) c)) ++ cx ++ List.drop (off + P.cellsOf t') (List.take (P.cellsOf ti) (List.drop (offL P (tys P u) i) c))).length = P.cellsOf ti := by
          simp; omega
        have g := relCs_set i h2 ht hi k3 hlen k4
        refine ⟨offL P (tys P u) i + off, by simp [offP, h3, ht, k1], by omega, h3, h4, by simp; omega, ?_⟩
        rw [splice c cx (offL P (tys P u) i) (P.cellsOf ti) off (P.cellsOf t') (by omega)] at g
        exact g
    cases v with
    | agg u fs =>
      simp only [setP] at hs
      cases hx : fs[i]? with
      | none => simp [hx] at hs
      | some x0 =>
        simp only [hx, Option.map_eq_some_iff] at hs
        obtain ⟨y, hy, rfl⟩ := hs
        obtain ⟨off, k1, k2, k3, k4, k5, k6⟩ := key u fs x0 y rfl hx hy
        refine ⟨off, k1, k2, ?_, ?_⟩
        · simp only [fitsA] at hf ⊢; exact hf
        · simp only [relC]; exact ⟨k5, k6⟩
    | d q => cases q with
      | agg u fs =>
        simp only [setP] at hs
        cases hx : fs[i]? with
        | none => simp [hx] at hs
        | some x0 =>
          simp only [hx] at hs
          cases hy : setP p (.d x0) x with
          | none => simp [hy] at hs
          | some y =>
            obtain ⟨off, k1, k2, k3, k4, k5, k6⟩ := key u (fs.map .d) (.d x0) y rfl (by simp [hx]) hy
            refine ⟨off, k1, k2, ?_⟩
            have hfa : P.underlyingId t = u ∧ P.cellsOf t = P.cellsOf u ∧ isRowT P t = true := by simp [fitsA, fitsD] at hf; exact ⟨hf.1.1, hf.1.2, hf.2⟩
            cases y with
            | d y' =>
              simp only [hy, Option.some.injEq] at hs; subst hs
              refine ⟨by simp [fitsA, fitsD, hfa], ?_⟩
              simp only [relC, relD]
              refine ⟨k5, relCs_relDs (h := h) ?_⟩
              rw [List.map_set]; exact k6
            | _ =>
              simp only [hy, Option.some.injEq] at hs; subst hs
              exact ⟨by simp [fitsA, hfa], by simp only [relC]; exact ⟨k5, k6⟩⟩
      | _ => simp [setP] at hs
    | _ => simp [setP] at hs

end
end Go.Tith

namespace Go.Tith

def hNil : Heap := ⟨[], []⟩

/-- The package-level variables that are known. -/
def GOK (P : Program) (G : Nat → Option (TypeId × DV)) (C : Con) (w : World) : Prop :=
  ∀ g t x, G g = some (t, x) → C.K g = .fz ∧ ∃ cs e f, w.heap[g]? = some (.cells cs e f) ∧ cs.size = P.cellsOf t ∧ relD P C w x cs.toList ∧ fitsD P t x = true

/-- Blocks are fixed, fixed in part, or nobody's. -/
def Con.bare (C : Con) : Prop := ∀ b, C.K b = .fz ∨ C.K b = .other ∨ ∃ f, C.K b = .part f

def PureMeets (P : Program) (G : Nat → Option (TypeId × DV)) (f : FuncId) (s : List DV → Option (List DV)) : Prop :=
  ∀ C w ds vs r, C.bare → (∀ b, C.K b ≠ .other → b < w.heap.size) → GOK P G C w → relVs P C w hNil (ds.map .d) vs → s ds = some r →
    Calls P f vs.toArray w fun e w' => ∃ C' v, e = .returned v ∧ relV P C' w' hNil (resA r) v ∧ Step C w hNil C' w' hNil ∧ (∀ b, C'.K b ≠ .other → b < w'.heap.size)

def EffMeets (P : Program) (G : Nat → Option (TypeId × DV)) (f : FuncId) (s : List AV → Heap → Option (AV × Heap)) : Prop :=
  ∀ C w h avs vs r h', Sim P C h w → GOK P G C w → relVs P C w h avs vs → s avs h = some (r, h') →
    Calls P f vs.toArray w fun e w' => ∃ C' v, e = .returned v ∧ relV P C' w' h' r v ∧ Step C w h C' w' h' ∧ Sim P C' h' w'

/-- A function with a body of its own. -/
def Enterable (P : Program) (f : FuncId) : Prop := ∃ fn, P.funcs[f]? = some fn ∧ fn.body.isNone = false ∧ (fn.name == "runtime.NumGoroutine") = false

def SOK (E : Env) : Prop := ∀ f, match E.S f with
  | .pure s => Enterable E.P f ∧ PureMeets E.P E.G f s
  | .eff s => Enterable E.P f ∧ EffMeets E.P E.G f s
  | .no => True

section
variable {P : Program} {C C' : Con} {w w' : World} {h h' : Heap}

theorem GOK.mono {G : Nat → Option (TypeId × DV)} (g : GOK P G C w) (k : Keeps C w C' w') (kz : ∀ b, C.K b = .fz → b < w.heap.size → C'.K b = .fz ∧ w'.heap[b]? = w.heap[b]?) : GOK P G C' w' := fun a t x hx =>
  let ⟨h0, cs, e, f, h1, h2, h3, h4⟩ := g a t x hx
  let ⟨z1, z2⟩ := kz a h0 (Array.getElem?_eq_some_iff.1 h1).1
  ⟨z1, cs, e, f, z2.trans h1, h2, relD_mono k h3, h4⟩

theorem GOK.step {G : Nat → Option (TypeId × DV)} (g : GOK P G C w) (s : Step C w h C' w' h') : GOK P G C' w' :=
  g.mono s.keeps fun b hz hb => by
    have := s.blk b hb
    simpa only [keptB, hz] using this

theorem GOK.cells {G : Nat → Option (TypeId × DV)} (g : GOK P G C w) {a : Nat} {t : TypeId} {x : DV} (hx : G a = some (t, x)) :
    ∃ cs, relD P C w x cs ∧ fitsD P t x = true ∧ cs.length = P.cellsOf t ∧ ∀ (j : Nat) v, cs[j]? = some v → C.fixed a j ∧ w.cell? ⟨a, j, none⟩ = some v := by
  obtain ⟨h0, cs, e, f, h1, h2, h3, h4⟩ := g a t x hx
  refine ⟨cs.toList, h3, h4, by simpa using h2, fun j v hj => ⟨by simp [Con.fixed, h0, Blk.fixed], ?_⟩⟩
  simp only [World.cell?, h1]
  simpa using hj

/-! ### what a callee sees of the caller's memory -/
def Con.view (C : Con) (fixBoxes : Bool) : Con :=
  { K := fun b => match C.K b with | .box _ => if fixBoxes = true then .fz else .other | .app _ f => .part f | x => x, φ := C.φ }

/-- The caller's memory behind the call. -/
def Con.back (C : Con) (n : Nat) (C' : Con) : Con :=
  { K := fun b => if b < n then C.K b else match C'.K b with | .fz => .fz | .part f => .part f | .app _ f => .part f | _ => .other, φ := C.φ }

theorem view_bare (f : Bool) : (C.view f).bare := by
  intro b
  simp only [Con.view]
  cases C.K b with
  | fz => exact .inl rfl
  | other => exact .inr (.inl rfl)
  | part f => exact .inr (.inr ⟨f, rfl⟩)
  | app τ f => exact .inr (.inr ⟨f, rfl⟩)
  | box id => cases f <;> simp

theorem view_lt (f : Bool) (hl : ∀ b, C.K b ≠ .other → b < w.heap.size) : ∀ b, (C.view f).K b ≠ .other → b < w.heap.size := by
  intro b hb
  refine hl b fun e => hb ?_
  simp [Con.view, e]

theorem view_keeps (f : Bool) : Keeps C w (C.view f) w := by
  intro b o v hf hv
  refine ⟨?_, hv⟩
  simp only [Con.fixed, Con.view] at hf ⊢
  cases hb : C.K b <;> simp_all [Blk.fixed]

/-- Behind a callee that saw only what is fixed, all old blocks are avs they were. -/
theorem bare_step_heap (hb : C.bare) (s : Step C w hNil C' w' hNil) {b : Nat} (hlt : b < w.heap.size) : w'.heap[b]? = w.heap[b]? ∧ C'.K b = C.K b := by
  have := s.blk b hlt
  simp only [keptB] at this
  rcases hb b with e | e | ⟨f, e⟩ <;> simp only [e] at this ⊢ <;> exact ⟨this.2, this.1⟩

theorem back_step {f : Bool} (s : Step (C.view f) w hNil C' w' hNil) (tk : C.tk h) : Step C w h (C.back w.heap.size C') w' h where
  os := s.os
  tape := s.tape
  output := s.output
  size := s.size
  blk b hb := by
    have hh := (bare_step_heap (view_bare f) s hb).1
    simp only [keptB, Con.back, hb, if_true]
    cases C.K b <;> simp [hh]
  phi _ _ := rfl
  box _ _ bc hb := ⟨bc, hb⟩
  tok _ F hF := ⟨F, hF, Nat.le_refl _⟩

theorem back_sim {f : Bool} (s : Step (C.view f) w hNil C' w' hNil) (hl : ∀ b, C'.K b ≠ .other → b < w'.heap.size) (S : Sim P C h w) : Sim P (C.back w.heap.size C') h w' := by
  have st := back_step (h := h) s S.tk
  have hlt := S.lt
  refine ⟨fun id bt bc hb => ?_, fun b hb => ?_, fun b τ F hb => ?_⟩
  · obtain ⟨h1, h2, cs, e, h3, h4, h5⟩ := S.box id bt bc hb
    have hb' : C.φ id < w.heap.size := hlt _ (by rw [h1]; simp)
    refine ⟨by simp only [Con.back, hb', if_true]; exact h1, h2, cs, e, ?_, h4, relC_mono st h5⟩
    show w'.heap[C.φ id]? = _
    rw [(bare_step_heap (view_bare f) s hb').1]; exact h3
  · simp only [Con.back] at hb
    split at hb
    · rename_i hq; exact Nat.lt_of_lt_of_le hq s.size
    · refine hl b fun e => ?_
      simp [e] at hb
  · simp only [Con.back] at hb
    split at hb
    · exact S.tk b τ F hb
    · cases e : C'.K b <;> simp [e] at hb

theorem back_fixed (s : Step (C.view false) w hNil C' w' hNil) : ∀ b o, C'.fixed b o → (C.back w.heap.size C').fixed b o := by
  intro b o hf
  simp only [Con.fixed, Con.back] at hf ⊢
  by_cases hb : b < w.heap.size
  · simp only [hb, if_true]
    rw [(bare_step_heap (view_bare false) s hb).2] at hf
    simp only [Con.view] at hf
    cases hk : C.K b <;> simp_all [Blk.fixed]
  · simp only [hb, if_false]
    cases hk : C'.K b <;> simp_all [Blk.fixed]

mutual
theorem relD_noLst : ∀ {d : DV} {c : List Value}, noLst d = true → relD P C w d c → relD P C' w' d c
  | .int _ _, _, _, r => by simpa [relD] using r
  | .bool _, _, _, r => by simpa [relD] using r
  | .str _, _, _, r => by simpa [relD] using r
  | .nil, _, _, r => by simpa [relD] using r
  | .any _, _, _, r => by simpa [relD] using r
  | .list _ _, _, hn, _ => by simp [noLst] at hn
  | .agg t fs, c, hn, r => by
    simp only [noLst] at hn
    simp only [relD] at r ⊢
    exact ⟨r.1, relDs_noLst hn r.2⟩
theorem relDs_noLst : ∀ {ds : List DV} {ts : List TypeId} {c : List Value}, noLsts ds = true → relDs P C w ds ts c → relDs P C' w' ds ts c
  | [], _, _, _, r => by simpa [relDs] using r
  | d :: ds, ts, c, hn, r => by
    simp only [noLsts, Bool.and_eq_true] at hn
    simp only [relDs] at r ⊢
    obtain ⟨t, ts', c1, c2, h1, h2, h3, h4, h5, h6⟩ := r
    exact ⟨t, ts', c1, c2, h1, h2, h3, h4, relD_noLst hn.1 h5, relDs_noLst hn.2 h6⟩
end

theorem keeps_fixed (hf : ∀ b o, C.fixed b o → C'.fixed b o) : Keeps C w C' w := fun b o _ a c => ⟨hf b o a, c⟩

theorem relVd_of (hh : ∀ {c}, ∀ {x : DV}, relD P C w x c → x ∈ ([] : List DV) ∨ relD P C' w' x c) {x : DV} {v : Value} (r : relV1 P C w h (.d x) v) : relV1 P C' w' h' (.d x) v := by
  simp only [relV1] at r ⊢
  split
  · rename_i hx; rw [if_pos hx] at r; obtain ⟨c, h1, h2⟩ := r; exact ⟨c, h1, (hh h2).resolve_left (by simp)⟩
  · rename_i hx; rw [if_neg hx] at r; exact (hh r).resolve_left (by simp)

theorem relVds_of {p : DV → Prop} (hh : ∀ {c}, ∀ {x : DV}, p x → relD P C w x c → relD P C' w' x c) : ∀ {ds : List DV} {vs : List Value}, (∀ x ∈ ds, p x) → relVs P C w h (ds.map .d) vs → relVs P C' w' h' (ds.map .d) vs
  | [], _, _, r => by simpa [relVs] using r
  | d :: ds, vs, hp, r => by
    simp only [List.map_cons, relVs] at r ⊢
    obtain ⟨v, vs', h1, h2, h3⟩ := r
    refine ⟨v, vs', h1, ?_, relVds_of hh (fun x hx => hp x (by simp [hx])) h3⟩
    simp only [relV1] at h2 ⊢
    split
    · rename_i hx; rw [if_pos hx] at h2; obtain ⟨c, k1, k2⟩ := h2; exact ⟨c, k1, hh (hp d (by simp)) k2⟩
    · rename_i hx; rw [if_neg hx] at h2; exact hh (hp d (by simp)) h2

theorem relRes_of {p : DV → Prop} (hh : ∀ {c}, ∀ {x : DV}, p x → relD P C w x c → relD P C' w' x c) {r : List DV} {v : Value} (hp : ∀ x ∈ r, p x) (hr : relV P C w h (resA r) v) : relV P C' w' h' (resA r) v := by
  match r, hp, hr with
  | [], _, hr => obtain ⟨ws, h1, h2⟩ := hr; exact ⟨ws, h1, by simpa [relVs] using h2⟩
  | [x], hp, hr =>
    have : relVs P C w h ([x].map .d) [v] := by simp only [List.map_cons, List.map_nil, relVs]; exact ⟨v, [], rfl, hr, rfl⟩
    have := relVds_of (h' := h') hh hp this
    simp only [List.map_cons, List.map_nil, relVs] at this
    obtain ⟨v', vs', h1, h2, h3⟩ := this
    simp at h1; obtain ⟨rfl, rfl⟩ := h1
    exact h2
  | x :: y :: l, hp, hr =>
    obtain ⟨ws, h1, h2⟩ := hr
    exact ⟨ws, h1, relVds_of (h' := h') hh hp h2⟩

theorem noLsts_mem {l : List DV} (hn : noLsts l = true) : ∀ x ∈ l, noLst x = true := by
  induction l with
  | nil => simp
  | cons a l ih =>
    simp only [noLsts, Bool.and_eq_true] at hn
    intro x hx
    rcases List.mem_cons.1 hx with rfl | hx
    · exact hn.1
    · exact ih hn.2 x hx

/-- A call of a function of trees: what the caller has behind it. -/
theorem call_pure {G : Nat → Option (TypeId × DV)} {f : FuncId} {s : List DV → Option (List DV)} (m : PureMeets P G f s) (S : Sim P C h w) (g : GOK P G C w) (fb : Bool)
    {ds : List DV} {vs : List Value} {r : List DV} (ha : relVs P (C.view fb) w hNil (ds.map .d) vs) (hs : s ds = some r) (hfb : fb = false ∨ noLsts r = true) :
    Calls P f vs.toArray w fun e w' => ∃ C' v, e = .returned v ∧ relV P C' w' h (resA r) v ∧ Step C w h C' w' h ∧ Sim P C' h w' := by
  refine (m (C.view fb) w ds vs r (view_bare fb) (view_lt fb S.lt) (g.mono (view_keeps fb) (fun b hz _ => ⟨by simp [Con.view, hz], rfl⟩)) ha hs).mono ?_
  rintro e w' ⟨C', v, rfl, hr, st, hl⟩
  refine ⟨C.back w.heap.size C', v, rfl, ?_, back_step st S.tk, back_sim st hl S⟩
  rcases hfb with rfl | hn
  · exact relRes_of (p := fun _ => True) (fun _ k => relD_mono (keeps_fixed (back_fixed st)) k) (fun _ _ => trivial) hr
  · exact relRes_of (p := fun x => noLst x = true) (fun hx k => relD_noLst hx k) (noLsts_mem hn) hr

end
end Go.Tith

namespace Go.Tith

section
variable {P : Program} {C C' : Con} {w w' : World} {h h' : Heap}

/-! ### trees out of values -/
mutual
theorem plainD_relC : ∀ {x : AV} {y : DV} {c : List Value}, plainD x = some y → relC P C w h x c → relD P C w y c
  | .d x, y, c, hp, r => by simp [plainD] at hp; subst hp; simpa [relC] using r
  | .lst k e xs, y, c, hp, r => by simp [plainD] at hp; subst hp; simp only [relC] at r; exact r.1
  | .emp e, y, c, hp, r => by
    simp [plainD] at hp; subst hp
    simp only [relC] at r
    obtain ⟨a, cap, rfl, h2⟩ := r
    simp only [relD]
    exact ⟨some a, 0, cap, rfl, rfl, Nat.zero_le _, h2, by simp, by simp⟩
  | .agg t fs, y, c, hp, r => by
    simp only [plainD, Option.map_eq_some_iff] at hp
    obtain ⟨ys, h1, rfl⟩ := hp
    simp only [relC] at r
    simp only [relD]
    exact ⟨r.1, plainDs_relCs h1 r.2⟩
  | .ptr _ _, _, _, hp, _ => by simp [plainD] at hp
  | .sl _ _ _ _, _, _, hp, _ => by simp [plainD] at hp
  | .ro _ _, _, _, hp, _ => by simp [plainD] at hp
  | .fn _ _, _, _, hp, _ => by simp [plainD] at hp
  | .tup _, _, _, hp, _ => by simp [plainD] at hp
  | .sel _ _, _, _, hp, _ => by simp [plainD] at hp
  | .nils, _, _, hp, _ => by simp [plainD] at hp
  | .bad, _, _, hp, _ => by simp [plainD] at hp
theorem plainDs_relCs : ∀ {xs : List AV} {ys : List DV} {ts : List TypeId} {c : List Value}, plainDs xs = some ys → relCs P C w h xs ts c → relDs P C w ys ts c
  | [], ys, ts, c, hp, r => by simp [plainDs] at hp; subst hp; simpa [relCs, relDs] using r
  | x :: xs, ys, ts, c, hp, r => by
    simp only [plainDs] at hp
    cases h1 : plainD x with
    | none => simp [h1] at hp
    | some y => cases h2 : plainDs xs with
      | none => simp [h1, h2] at hp
      | some ys' =>
        simp [h1, h2] at hp; subst hp
        simp only [relCs] at r
        obtain ⟨t, ts', c1, c2, k1, k2, k3, k4, k5, k6⟩ := r
        simp only [relDs]
        exact ⟨t, ts', c1, c2, k1, k2, plainD_fits h1 k3, k4, plainD_relC h1 k5, plainDs_relCs h2 k6⟩
theorem plainD_fits : ∀ {x : AV} {y : DV} {t : TypeId}, plainD x = some y → fitsA P t x = true → fitsD P t y = true
  | .d x, y, t, hp, r => by simp [plainD] at hp; subst hp; simpa [fitsA] using r
  | .lst k e xs, y, t, hp, r => by simp [plainD] at hp; subst hp; simpa [fitsA, fitsD] using r
  | .emp e, y, t, hp, r => by simp [plainD] at hp; subst hp; simpa [fitsA, fitsD] using r
  | .agg u fs, y, t, hp, r => by
    simp only [plainD, Option.map_eq_some_iff] at hp
    obtain ⟨ys, h1, rfl⟩ := hp
    simpa [fitsA, fitsD] using r
  | .ptr _ _, _, _, hp, _ => by simp [plainD] at hp
  | .sl _ _ _ _, _, _, hp, _ => by simp [plainD] at hp
  | .ro _ _, _, _, hp, _ => by simp [plainD] at hp
  | .fn _ _, _, _, hp, _ => by simp [plainD] at hp
  | .tup _, _, _, hp, _ => by simp [plainD] at hp
  | .sel _ _, _, _, hp, _ => by simp [plainD] at hp
  | .nils, _, _, hp, _ => by simp [plainD] at hp
  | .bad, _, _, hp, _ => by simp [plainD] at hp
end

theorem plainD_relV {x : AV} {y : DV} {v : Value} (hp : plainD x = some y) (r : relV P C w h x v) : relV1 P C w h' (.d y) v := by
  cases x with
  | d x => simp [plainD] at hp; subst hp; simpa [relV, relV1] using r
  | lst k e xs =>
    have hp' := hp
    simp [plainD] at hp; subst hp
    simp only [relV, relV1] at r
    simp only [relV1, DV.isAgg]
    exact plainD_relC hp' r
  | emp e =>
    have hp' := hp
    simp [plainD] at hp; subst hp
    simp only [relV, relV1] at r
    simp only [relV1, DV.isAgg]
    obtain ⟨a, cap, rfl, h2⟩ := r
    exact plainD_relC (x := .emp e) (h := h) hp' (by simp only [relC]; exact ⟨a, cap, rfl, h2⟩)
  | agg t fs =>
    have hp' := hp
    simp only [plainD, Option.map_eq_some_iff] at hp
    obtain ⟨ys, h1, rfl⟩ := hp
    simp only [relV, relV1] at r
    obtain ⟨c, h2, h3⟩ := r
    simp only [relV1, DV.isAgg, if_true]
    exact ⟨c, h2, plainD_relC hp' h3⟩
  | _ => simp [plainD] at hp

/-- The parts of an array that lies in memory, avs a row. -/
theorem relDs_row {e : TypeId} {b : Nat} : ∀ {ds : List DV} {n : Nat} {c : List Value} {o : Nat}, relDs P C w ds (List.replicate n e) c →
    (∀ (j : Nat) v, c[j]? = some v → C.fixed b (o + j) ∧ w.cell? ⟨b, o + j, none⟩ = some v) → relRow P C w e ds b o
  | [], _, _, _, _, _ => by simp [relRow]
  | d :: ds, n, c, o, r, hc => by
    simp only [relDs] at r
    obtain ⟨t, ts', c1, c2, h1, rfl, h3, h4, h5, h6⟩ := r
    cases n with
    | zero => simp at h1
    | succ n =>
      rw [List.replicate_succ] at h1
      simp only [List.cons.injEq] at h1
      obtain ⟨rfl, rfl⟩ := h1
      simp only [relRow]
      refine ⟨⟨c1, h5, h3, h4, fun j v hj => hc j v ?_⟩, relDs_row h6 fun j v hj => ?_⟩
      · rw [List.getElem?_append_left (List.getElem?_eq_some_iff.1 hj).1]; exact hj
      · have := hc (c1.length + j) v (by rw [List.getElem?_append_right (by omega)]; simpa using hj)
        rw [← h4, Nat.add_assoc]; exact this

theorem underlying_id {t : TypeId} {d : TypeDesc} (hu : P.underlying t = some d) (hd : d.isRow = true) : P.underlying (P.underlyingId t) = some d := by
  have key : ∀ (u : TypeId) (i : TypeInfo), P.info? u = some i → i.desc = d → P.underlying u = some d := by
    intro u i hi he
    unfold Program.underlying
    obtain ⟨desc, str, size, bytes, hp, al, fa, z, cmp, ms⟩ := i
    simp only at he; subst he
    cases desc <;> simp_all
  have hu' := hu
  unfold Program.underlying at hu'
  unfold Program.underlyingId
  cases hi : P.info? t with
  | none => simp [hi] at hu'
  | some i =>
    simp only [hi] at hu' ⊢
    obtain ⟨desc, str, size, bytes, hp, al, fa, z, cmp, ms⟩ := i
    cases desc with
    | named n u =>
      simp only at hu' ⊢
      cases hj : P.info? u with
      | none => simp [hj] at hu'
      | some j => exact key u j hj (by simpa [hj] using hu')
    | _ => exact hu

theorem tys_array {t e : TypeId} {n : Nat} (hu : P.underlying t = some (.array n e)) : tys P (P.underlyingId t) = List.replicate n e ∨ tys P (P.underlyingId t) = [] := by
  unfold tys
  rw [underlying_id hu rfl]
  simp only
  split
  · exact .inl rfl
  · exact .inr rfl

theorem array_row {e t u : TypeId} {n : Nat} {fs : List DV} {c : List Value} {b o : Nat} (hu : P.underlying t = some (.array n e)) (hid : P.underlyingId t = u) (hr : relD P C w (.agg u fs) c)
    (hc : ∀ (j : Nat) v, c[j]? = some v → C.fixed b (o + j) ∧ w.cell? ⟨b, o + j, none⟩ = some v) : relRow P C w e fs b o := by
  simp only [relD] at hr
  subst hid
  rcases tys_array hu with e1 | e1
  · rw [e1] at hr; exact relDs_row hr.2 hc
  · have := (relDs_len hr.2).1
    rw [e1] at this
    have : fs = [] := List.eq_nil_of_length_eq_zero (by simpa using this)
    subst this
    simp [relRow]

theorem relRow_sub {e : TypeId} {fs : List DV} {b o : Nat} (off len : Nat) (r : relRow P C w e fs b o) (hl : off ≤ fs.length) : relRow P C w e ((fs.drop off).take len) b (o + off * P.cellsOf e) := by
  rw [← List.take_append_drop off fs] at r
  have r2 := (relRow_append.1 r).2
  rw [List.length_take, Nat.min_eq_left hl] at r2
  rw [← List.take_append_drop len (fs.drop off)] at r2
  exact (relRow_append.1 r2).1

/-- A box's cells. -/
theorem Sim.cells (S : Sim P C h w) {id : Nat} {bt : TypeId} {bc : AV} (hb : h.boxes[id]? = some (bt, bc)) :
    C.K (C.φ id) = .box id ∧ fitsA P bt bc = true ∧ ∃ (cs : Array Value) (e : TypeId), w.heap[C.φ id]? = some (.cells cs e (0, 0)) ∧ cs.toList.length = P.cellsOf bt ∧ relC P C w h bc cs.toList := by
  obtain ⟨h1, h2, cs, e, h3, h4, h5⟩ := S.box id bt bc hb
  exact ⟨h1, h2, cs, e, h3, by simpa using h4.1, h5⟩

theorem cell_in {b : Nat} {cs : Array Value} {e : TypeId} {fr : Nat × Nat} (hb : w.heap[b]? = some (.cells cs e fr)) (o : Nat) : w.cell? ⟨b, o, none⟩ = cs.toList[o]? := by
  simp [World.cell?, hb]

/-- What is seen of a box at a path. -/
theorem Sim.at (S : Sim P C h w) {id : Nat} {bt : TypeId} {bc : AV} (hb : h.boxes[id]? = some (bt, bc)) {p : List Nat} {v : AV} {t : TypeId} (hg : getP P p bc bt = some (v, t)) :
    ∃ off cs, offP P p bt = some (off, t) ∧ fitsA P t v = true ∧ cs.length = P.cellsOf t ∧ relC P C w h v cs ∧ ∀ (j : Nat) x, cs[j]? = some x → w.cell? ⟨C.φ id, off + j, none⟩ = some x := by
  obtain ⟨h1, h2, cs, e, h3, h4, h5⟩ := S.cells hb
  obtain ⟨off, k1, k2, k3, k4⟩ := getP_sound p hg h5 h2 h4
  refine ⟨off, _, k1, k2, by simp at k3 ⊢; omega, k4, fun j x hj => ?_⟩
  rw [cell_in h3]
  rw [List.getElem?_take] at hj
  split at hj
  · simpa using hj
  · cases hj

theorem view_fixed_box {id : Nat} {b : Nat} (hb : C.K b = .box id) (o : Nat) : (C.view true).fixed b o := by simp [Con.fixed, Con.view, hb, Blk.fixed]

theorem viewD_relV (S : Sim P C h w) {x : AV} {y : DV} {v : Value} (hv : viewD P h x = some y) (r : relV P C w h x v) : relV1 P (C.view (!noSlA x)) w hNil (.d y) v := by
  have gen : ∀ {x : AV}, noSlA x = true → plainD x = some y → relV P C w h x v → relV1 P (C.view (!noSlA x)) w hNil (.d y) v := by
    intro x hn hp r
    have := plainD_relV (h' := hNil) hp r
    simp only [relV1] at this ⊢
    split
    · rename_i hx; rw [if_pos hx] at this; obtain ⟨c, h1, h2⟩ := this; exact ⟨c, h1, relD_mono (view_keeps _) h2⟩
    · rename_i hx; rw [if_neg hx] at this; exact relD_mono (view_keeps _) this
  cases x with
  | sl id path off len =>
    simp only [viewD] at hv
    cases hb : h.boxes[id]? with
    | none => simp [hb] at hv
    | some q =>
      obtain ⟨bt, bc⟩ := q
      simp only [hb] at hv
      cases hg : getP P path bc bt with
      | none => simp [hg] at hv
      | some q =>
        obtain ⟨q1, t⟩ := q
        simp only [hg] at hv
        cases q1 with
        | d q1 => cases q1 with
          | agg u fs =>
            simp only at hv
            cases hu : P.underlying t with
            | none => simp [hu] at hv
            | some dd => cases dd with
              | array n e =>
                simp only [hu] at hv
                split at hv
                · rename_i hlen
                  simp at hv; subst hv
                  obtain ⟨o, cs, k1, k2, k3, k4, k5⟩ := S.at hb hg
                  simp only [relV, relV1, relC] at r
                  obtain ⟨bt', bc', o', t', n', e', cap, g1, g2, g3, g4, g5, g7, g6⟩ := r
                  rw [hb] at g1; simp at g1; obtain ⟨rfl, rfl⟩ := g1
                  rw [k1] at g2; simp at g2; obtain ⟨rfl, rfl⟩ := g2
                  rw [hu] at g3; simp at g3; obtain ⟨rfl, rfl⟩ := g3
                  simp at g6; subst g6
                  have hfix := (S.cells hb).1
                  simp only [relV1, DV.isAgg, Bool.false_eq_true, if_false, relD]
                  refine ⟨_, len, cap, rfl, by simp; omega, g5, g7, by simp, fun _ => ⟨C.φ id, o + off * P.cellsOf e, rfl, ?_⟩⟩
                  · simp [fitsA, fitsD] at k2
                    refine relRow_sub off len (array_row hu k2.1.1 (relD_mono (view_keeps _) (by simpa [relC] using k4)) fun j x hj => ⟨view_fixed_box hfix _, k5 j x hj⟩) (by omega)
                · simp at hv
              | _ => simp [hu] at hv
          | _ => simp at hv
        | _ => simp at hv
  | d x => exact gen rfl hv r
  | lst k e xs => exact gen rfl hv r
  | emp e => exact gen rfl hv r
  | agg t fs => exact gen rfl hv r
  | _ => simp [viewD, plainD] at hv

end
end Go.Tith

namespace Go.Tith

section
variable {P : Program} {C C' : Con} {w w' : World} {h h' : Heap}

theorem oneB_isAgg {t : TypeId} {g : TypeDesc → Bool} (ho : oneB P t g = true) (hg : ∀ d, g d = true → d.isRow = false) : (isAgg t).run P w = .ok false w := by
  obtain ⟨d, h1, h2⟩ := oneB_desc ho
  have := hg d h2
  unfold isAgg
  rw [Sem.run_bind, run_underlying h1 w]
  cases d <;> simp_all

theorem rowT_isAgg {t : TypeId} (ho : isRowT P t = true) : (isAgg t).run P w = .ok true w := by
  unfold isRowT at ho
  cases hu : P.underlying t with
  | none => simp [hu] at ho
  | some d =>
    rw [hu] at ho
    unfold isAgg
    rw [Sem.run_bind, run_underlying hu w]
    cases d <;> simp_all

theorem rowT_info {t : TypeId} (ho : isRowT P t = true) : ∃ i, P.info? t = some i := by
  unfold isRowT at ho
  cases hu : P.underlying t with
  | none => simp [hu] at ho
  | some d => exact info_of_underlying hu
theorem oneB_info {t : TypeId} {g : TypeDesc → Bool} (ho : oneB P t g = true) : ∃ i, P.info? t = some i := by
  obtain ⟨d, h1, _⟩ := oneB_desc ho
  exact info_of_underlying h1

theorem run_part_row {t : TypeId} (ho : isRowT P t = true) (xs : Array Value) (off : Nat) : (part t xs off).run P w = .ok (.agg (xs.extract off (off + P.cellsOf t))) w := by
  obtain ⟨i, hi⟩ := rowT_info ho
  simp [part, rowT_isAgg ho, run_sizeOf w hi]

theorem run_part_one {t : TypeId} {g : TypeDesc → Bool} (ho : oneB P t g = true) (hg : ∀ d, g d = true → d.isRow = false) {xs : Array Value} {off : Nat} {v : Value} (hx : xs[off]? = some v) : (part t xs off).run P w = .ok v w := by
  simp [part, oneB_isAgg ho hg, hx]

theorem isInt_row {k : IntKind} : ∀ d, isInt k d = true → d.isRow = false := by intro d; cases d <;> simp [isInt]
theorem isBool_row : ∀ d, isBool d = true → d.isRow = false := by intro d; cases d <;> simp [isBool]
theorem isStr_row : ∀ d, isStr d = true → d.isRow = false := by intro d; cases d <;> simp [isStr]
theorem isSl_row {e : TypeId} : ∀ d, isSl e d = true → d.isRow = false := by intro d; cases d <;> simp [isSl]
theorem isAnySl_row : ∀ d, isAnySl d = true → d.isRow = false := by intro d; cases d <;> simp [isAnySl]
theorem isPtr_row : ∀ d, isPtr d = true → d.isRow = false := by intro d; cases d <;> simp [isPtr]
theorem isFn_row : ∀ d, isFn d = true → d.isRow = false := by intro d; cases d <;> simp [isFn]
theorem isIface_row : ∀ d, isIface d = true → d.isRow = false := by intro d; cases d <;> simp [isIface]

/-- A type is a row's, or has one cell. -/
theorem fitsA_kind {t : TypeId} {x : AV} (hf : fitsA P t x = true) : isRowT P t = true ∨ (∃ g, oneB P t g = true ∧ ∀ d, g d = true → d.isRow = false) := by
  cases x with
  | agg u fs => simp [fitsA] at hf; exact .inl hf.2
  | d y => cases y with
    | agg u fs => simp [fitsA, fitsD] at hf; exact .inl hf.2
    | int k n => exact .inr ⟨_, by simpa [fitsA, fitsD] using hf, isInt_row⟩
    | bool b => exact .inr ⟨_, by simpa [fitsA, fitsD] using hf, isBool_row⟩
    | str b => exact .inr ⟨_, by simpa [fitsA, fitsD] using hf, isStr_row⟩
    | list e b => exact .inr ⟨_, by simpa [fitsA, fitsD] using hf, isSl_row⟩
    | nil => exact .inr ⟨_, by simpa [fitsA, fitsD] using hf, isPtr_row⟩
    | any _ => exact .inr ⟨_, by simpa [fitsA, fitsD] using hf, isIface_row⟩
  | lst k e xs => exact .inr ⟨_, by simpa [fitsA] using hf, isSl_row⟩
  | emp e => exact .inr ⟨_, by simpa [fitsA] using hf, isSl_row⟩
  | ptr _ _ => exact .inr ⟨_, by simpa [fitsA] using hf, isPtr_row⟩
  | ro _ _ => exact .inr ⟨_, by simpa [fitsA] using hf, isPtr_row⟩
  | sl _ _ _ _ => exact .inr ⟨_, by simpa [fitsA] using hf, isAnySl_row⟩
  | nils => exact .inr ⟨_, by simpa [fitsA] using hf, isAnySl_row⟩
  | fn _ _ => exact .inr ⟨_, by simpa [fitsA] using hf, isFn_row⟩
  | ifc _ => exact .inr ⟨_, by simpa [fitsA] using hf, isIface_row⟩
  | _ => simp [fitsA] at hf

/-- Is a value told by the list of its cells? -/
def AV.isAgg : AV → Bool
  | .agg _ _ => true
  | .d x => x.isAgg
  | _ => false

theorem fitsA_row {t : TypeId} {x : AV} (hf : fitsA P t x = true) (ha : x.isAgg = true) : isRowT P t = true := by
  cases x with
  | agg u fs => simp [fitsA] at hf; exact hf.2
  | d y => cases y with
    | agg u fs => simp [fitsA, fitsD] at hf; exact hf.2
    | _ => simp [AV.isAgg, DV.isAgg] at ha
  | _ => simp [AV.isAgg] at ha

theorem fitsA_one {t : TypeId} {x : AV} (hf : fitsA P t x = true) (ha : x.isAgg = false) : ∃ g, oneB P t g = true ∧ ∀ d, g d = true → d.isRow = false := by
  cases x with
  | agg u fs => simp [AV.isAgg] at ha
  | d y => cases y with
    | agg u fs => simp [AV.isAgg, DV.isAgg] at ha
    | int k n => exact ⟨_, by simpa [fitsA, fitsD] using hf, isInt_row⟩
    | bool b => exact ⟨_, by simpa [fitsA, fitsD] using hf, isBool_row⟩
    | str b => exact ⟨_, by simpa [fitsA, fitsD] using hf, isStr_row⟩
    | list e b => exact ⟨_, by simpa [fitsA, fitsD] using hf, isSl_row⟩
    | nil => exact ⟨_, by simpa [fitsA, fitsD] using hf, isPtr_row⟩
    | any _ => exact ⟨_, by simpa [fitsA, fitsD] using hf, isIface_row⟩
  | lst k e xs => exact ⟨_, by simpa [fitsA] using hf, isSl_row⟩
  | emp e => exact ⟨_, by simpa [fitsA] using hf, isSl_row⟩
  | ptr _ _ => exact ⟨_, by simpa [fitsA] using hf, isPtr_row⟩
  | ro _ _ => exact ⟨_, by simpa [fitsA] using hf, isPtr_row⟩
  | sl _ _ _ _ => exact ⟨_, by simpa [fitsA] using hf, isAnySl_row⟩
  | nils => exact ⟨_, by simpa [fitsA] using hf, isAnySl_row⟩
  | fn _ _ => exact ⟨_, by simpa [fitsA] using hf, isFn_row⟩
  | ifc _ => exact ⟨_, by simpa [fitsA] using hf, isIface_row⟩
  | _ => simp [fitsA] at hf

theorem relC_relV {x : AV} {v : Value} (r : relC P C w h x [v]) (ha : x.isAgg = false) : relV1 P C w h x v := by
  cases x with
  | agg _ _ => simp [AV.isAgg] at ha
  | d y =>
    simp only [AV.isAgg] at ha
    simp only [relV1, ha, Bool.false_eq_true, if_false]
    simpa [relC] using r
  | tup _ => simp [relC] at r
  | sel _ _ => simp [relC] at r
  | nils => simpa [relC, relV1] using r
  | emp e => simpa [relC, relV1] using r
  | ifc b => simpa [relC, relV1] using r
  | bad => simp [relV1]
  | _ => simpa only [relV1] using r

theorem relC_relV_agg {x : AV} {c : List Value} (r : relC P C w h x c) (ha : x.isAgg = true) : relV1 P C w h x (.agg c.toArray) := by
  cases x with
  | agg _ _ => simp only [relV1]; exact ⟨c, rfl, r⟩
  | d y =>
    simp only [AV.isAgg] at ha
    simp only [relV1, ha, if_true]
    exact ⟨c, rfl, by simpa [relC] using r⟩
  | _ => simp [AV.isAgg] at ha

/-- The cells of a value. -/
theorem relV_cells {x : AV} {v : Value} {t : TypeId} (hf : fitsA P t x = true) (r : relV P C w h x v) : ∃ c, relC P C w h x c ∧ v.cells.toList = c ∧ (x.isAgg = true → v = .agg c.toArray) ∧ (x.isAgg = false → c = [v]) := by
  cases x with
  | agg _ _ => simp only [relV, relV1] at r; obtain ⟨c, rfl, h2⟩ := r; exact ⟨c, h2, by simp [Value.cells], fun _ => rfl, by simp [AV.isAgg]⟩
  | d y =>
    simp only [relV, relV1] at r
    by_cases ha : y.isAgg = true
    · rw [if_pos ha] at r; obtain ⟨c, rfl, h2⟩ := r; exact ⟨c, by simpa [relC] using h2, by simp [Value.cells], fun _ => rfl, by simp [AV.isAgg, ha]⟩
    · rw [if_neg ha] at r
      refine ⟨[v], by simpa [relC] using r, ?_, by simp [AV.isAgg, ha], fun _ => rfl⟩
      cases y <;> simp only [relD, DV.isAgg] at r ha
      · simp at r; subst r; rfl
      · simp at r; subst r; rfl
      · simp at r; subst r; rfl
      · simp at ha
      · obtain ⟨a, l, cp, h1, _⟩ := r; simp at h1; subst h1; rfl
      · simp at r; subst r; rfl
      · obtain ⟨h1, h2⟩ := r; simp at h1; subst h1; cases v <;> simp [ifV] at h2 <;> rfl
  | lst k e xs =>
    simp only [relV, relV1] at r
    refine ⟨[v], r, ?_, by simp [AV.isAgg], fun _ => rfl⟩
    simp only [relC, relD] at r
    obtain ⟨⟨a, l, cp, h1, _⟩, _⟩ := r; simp at h1; subst h1; rfl
  | emp e =>
    simp only [relV, relV1] at r
    obtain ⟨a, cap, rfl, h1⟩ := r
    exact ⟨_, by simp only [relC]; exact ⟨a, cap, rfl, h1⟩, rfl, by simp [AV.isAgg], fun _ => rfl⟩
  | nils => simp only [relV, relV1] at r; subst r; exact ⟨[.slice none 0 0], by simp only [relC], rfl, by simp [AV.isAgg], fun _ => rfl⟩
  | ptr _ _ =>
    simp only [relV, relV1] at r
    refine ⟨[v], r, ?_, by simp [AV.isAgg], fun _ => rfl⟩
    simp only [relC] at r
    obtain ⟨_, _, _, _, _, _, h1⟩ := r; simp at h1; subst h1; rfl
  | ro _ _ =>
    simp only [relV, relV1] at r
    refine ⟨[v], r, ?_, by simp [AV.isAgg], fun _ => rfl⟩
    simp only [relC] at r
    obtain ⟨_, _, _, h1, _⟩ := r; simp at h1; subst h1; rfl
  | sl _ _ _ _ =>
    simp only [relV, relV1] at r
    refine ⟨[v], r, ?_, by simp [AV.isAgg], fun _ => rfl⟩
    simp only [relC] at r
    obtain ⟨_, _, _, _, _, _, _, _, _, _, _, _, _, h1⟩ := r; simp at h1; subst h1; rfl
  | fn _ _ =>
    simp only [relV, relV1] at r
    refine ⟨[v], r, ?_, by simp [AV.isAgg], fun _ => rfl⟩
    simp only [relC] at r
    obtain ⟨_, h1, _⟩ := r; simp at h1; subst h1; rfl
  | ifc b =>
    simp only [relV, relV1] at r
    refine ⟨[v], by simpa [relC] using r, ?_, by simp [AV.isAgg], fun _ => rfl⟩
    cases b with
    | false => rw [r.1 rfl]; rfl
    | true => obtain ⟨_, _, e⟩ := r.2 rfl; rw [e]; rfl
  | _ => simp [fitsA] at hf

theorem extract_eq {α : Type} (c : List α) (off n : Nat) : c.toArray.extract off (off + n) = ((c.drop off).take n).toArray := by
  apply Array.ext'
  simp [List.extract]

/-- A part that is read out of cells. -/
theorem run_part {x : AV} {t : TypeId} {c : List Value} {off : Nat} (hf : fitsA P t x = true) (hl : off + P.cellsOf t ≤ c.length) (r : relC P C w h x ((c.drop off).take (P.cellsOf t))) :
    ∃ v, (part t c.toArray off).run P w = .ok v w ∧ relV1 P C w h x v ∧ v.cells.toList = (c.drop off).take (P.cellsOf t) := by
  by_cases ha : x.isAgg = true
  · refine ⟨_, run_part_row (fitsA_row hf ha) _ _, ?_, ?_⟩
    · have := relC_relV_agg r ha
      rw [extract_eq]; exact this
    · rw [extract_eq]; simp [Value.cells]
  · have ha' : x.isAgg = false := by simpa using ha
    obtain ⟨g, hg, hg'⟩ := fitsA_one hf ha'
    have h1 := oneB_size hg
    rw [h1] at r hl
    have hx : off < c.length := by omega
    have e : (c.drop off).take 1 = [c[off]] := by
      rw [List.drop_eq_getElem_cons hx]; rfl
    rw [e] at r
    refine ⟨c[off], run_part_one hg hg' (by simp [hx]), relC_relV r ha', ?_⟩
    rw [h1, e]
    obtain ⟨c', k1, k2, _, k4⟩ := relV_cells hf (show relV P C w h x c[off] by
      have := relC_relV r ha'
      cases x <;> first | exact this | simp [fitsA] at hf)
    rw [k2, k4 ha']

end
end Go.Tith

namespace Go.Tith

section
variable {P : Program} {C C' : Con} {w w' : World} {h h' : Heap}

theorem layL_off : ∀ {fs : List Field} {o tot : Nat}, layL P fs o = some tot → ∀ (i : Nat) f, fs[i]? = some f → f.offset = o + offL P (fs.map (·.type)) i
  | [], _, _, _, i, f, hf => by simp at hf
  | g :: fs, o, tot, hl, i, f, hf => by
    simp only [layL] at hl
    split at hl
    · rename_i ho
      cases i with
      | zero => simp at hf; subst hf; simp [offL, ho]
      | succ i =>
        have := layL_off hl i f (by simpa using hf)
        rw [this]; simp [offL]; omega
    · cases hl

theorem tys_struct {t : TypeId} {fs : Array Field} (hu : P.underlying t = some (.struct fs)) : tys P (P.underlyingId t) = [] ∨
    (tys P (P.underlyingId t) = fs.toList.map (·.type) ∧ ∀ (i : Nat) f, fs[i]? = some f → f.offset = offL P (fs.toList.map (·.type)) i) := by
  unfold tys
  rw [underlying_id hu rfl]
  simp only
  split
  · rename_i hl
    refine .inr ⟨rfl, fun i f hf => ?_⟩
    have := layL_off hl i f (by simpa using hf)
    omega
  · exact .inl rfl

theorem offL_replicate (e : TypeId) : ∀ (n i : Nat), i ≤ n → offL P (List.replicate n e) i = i * P.cellsOf e
  | _, 0, _ => by simp [offL]
  | 0, i + 1, h => by omega
  | n + 1, i + 1, h => by
    have := offL_replicate e n i (by omega)
    simp only [offL, List.replicate_succ, List.take_succ_cons, List.map_cons, List.sum_cons] at this ⊢
    rw [this, Nat.add_mul]; omega

def EqGood (P : Program) (dd : Nat) (t : TypeId) : Prop := ∀ (w : World) (C C' : Con) (x y : DV) (vx vy : Value), fitsD P t x = true → fitsD P t y = true →
  relV1 P C w hNil (.d x) vx → relV1 P C' w hNil (.d y) vy → (Op.equalIn dd t vx vy).run P w = .ok (eqD x y) w

theorem relDs_part {ds : List DV} {ts : List TypeId} {c : List Value} {i : Nat} {d : DV} {t : TypeId} (r : relDs P C w ds ts c) (hd : ds[i]? = some d) (ht : ts[i]? = some t) :
    fitsD P t d = true ∧ ∃ v, (part t c.toArray (offL P ts i)).run P w = .ok v w ∧ relV1 P C w hNil (.d d) v := by
  obtain ⟨t', h1, h2, h3, h4⟩ := relCs_get (h := hNil) i (relDs_relCs r) (d := .d d) (by simp [hd])
  rw [ht] at h1; obtain rfl := Option.some.inj h1
  obtain ⟨v, k1, k2, _⟩ := run_part h2 h3 h4
  exact ⟨h2, v, k1, k2⟩

theorem eqFields_run {dd : Nat} : ∀ (fs : List Field) (i : Nat) (all : List Field) (xs ys : List DV) (cx cy : List Value), (∀ f ∈ fs, f.name ≠ "_" ∧ EqGood P dd f.type) → all.drop i = fs →
    (∀ (j : Nat) f, all[j]? = some f → f.offset = offL P (all.map (·.type)) j) →
    relDs P C w xs (all.map (·.type)) cx → relDs P C' w ys (all.map (·.type)) cy → (Op.eqFields dd cx.toArray cy.toArray fs).run P w = .ok (eqDs (xs.drop i) (ys.drop i)) w
  | [], i, all, xs, ys, cx, cy, _, hd, ho, rx, ry => by
    have hl : all.length ≤ i := by
      have := congrArg List.length hd
      simp at this; omega
    have h1 := (relDs_len rx).1; have h2 := (relDs_len ry).1
    simp at h1 h2
    rw [List.drop_of_length_le (by omega), List.drop_of_length_le (by omega)]
    simp [Op.eqFields, eqDs]
  | f :: fs, i, all, xs, ys, cx, cy, hall, hd, ho, rx, ry => by
    have h1 := (relDs_len rx).1; have h2 := (relDs_len ry).1
    simp at h1 h2
    have hi : i < all.length := by
      rcases Nat.lt_or_ge i all.length with q | q
      · exact q
      · rw [List.drop_of_length_le q] at hd; cases hd
    have hf : all[i]? = some f := by
      have h0 : (all.drop i)[0]? = some f := by rw [hd]; rfl
      rw [List.getElem?_drop] at h0
      simpa using h0
    have hx : xs[i]? = some xs[i] := by simp
    have hy : ys[i]? = some ys[i] := by simp
    obtain ⟨hn, he⟩ := hall f (by simp)
    obtain ⟨f1, v1, r1, q1⟩ := relDs_part rx hx (t := f.type) (by simp [hf])
    obtain ⟨f2, v2, r2, q2⟩ := relDs_part ry hy (t := f.type) (by simp [hf])
    have ih := eqFields_run fs (i + 1) all xs ys cx cy (fun g hg => hall g (by simp [hg])) (by rw [← List.drop_drop, hd]; rfl) ho rx ry
    have e := he w C C' _ _ v1 v2 f1 f2 q1 q2
    rw [List.drop_eq_getElem_cons (by omega : i < xs.length), List.drop_eq_getElem_cons (by omega : i < ys.length)]
    simp only [Op.eqFields, ne_eq, hn, not_false_eq_true, if_true, Sem.run_bind, ho i f hf, r1, r2, e, Result.andThen_ok, eqDs]
    cases eqD xs[i] ys[i]
    · simp
    · simpa using ih

theorem eqItems_run {dd : Nat} {e : TypeId} (he : EqGood P dd e) (n : Nat) : ∀ (k i : Nat) (xs ys : List DV) (cx cy : List Value), i + k = n →
    relDs P C w xs (List.replicate n e) cx → relDs P C' w ys (List.replicate n e) cy → (Op.eqItems dd e (P.cellsOf e) cx.toArray cy.toArray (List.range' i k)).run P w = .ok (eqDs (xs.drop i) (ys.drop i)) w
  | 0, i, xs, ys, cx, cy, hn, rx, ry => by
    have h1 := (relDs_len rx).1; have h2 := (relDs_len ry).1
    simp at h1 h2
    rw [List.drop_of_length_le (by omega), List.drop_of_length_le (by omega)]
    simp [Op.eqItems, eqDs]
  | k + 1, i, xs, ys, cx, cy, hn, rx, ry => by
    have h1 := (relDs_len rx).1; have h2 := (relDs_len ry).1
    simp at h1 h2
    have hx : xs[i]? = some xs[i] := by simp
    have hy : ys[i]? = some ys[i] := by simp
    have ht : (List.replicate n e)[i]? = some e := List.getElem?_replicate_of_lt (by omega)
    obtain ⟨f1, v1, r1, q1⟩ := relDs_part rx hx ht
    obtain ⟨f2, v2, r2, q2⟩ := relDs_part ry hy ht
    rw [offL_replicate e n i (by omega)] at r1 r2
    have ih := eqItems_run he n k (i + 1) xs ys cx cy (by omega) rx ry
    have e' := he w C C' _ _ v1 v2 f1 f2 q1 q2
    rw [List.drop_eq_getElem_cons (by omega : i < xs.length), List.drop_eq_getElem_cons (by omega : i < ys.length)]
    simp only [List.range'_succ, Op.eqItems, Sem.run_bind, r1, r2, e', Result.andThen_ok, eqDs]
    cases eqD xs[i] ys[i]
    · simp
    · simpa using ih

theorem fitsD_int {t : TypeId} {k : IntKind} {n : Int} (hf : fitsD P t (.int k n) = true) : P.underlying t = some (.int k) := by
  simp [fitsD] at hf
  obtain ⟨d, h1, h2⟩ := oneB_desc hf
  cases d <;> simp [isInt] at h2
  rw [h1, h2]
theorem fitsD_bool {t : TypeId} {n : Bool} (hf : fitsD P t (.bool n) = true) : P.underlying t = some .bool := by
  simp [fitsD] at hf
  obtain ⟨d, h1, h2⟩ := oneB_desc hf
  cases d <;> simp [isBool] at h2
  exact h1
theorem fitsD_str {t : TypeId} {n : ByteArray} (hf : fitsD P t (.str n) = true) : P.underlying t = some .string := by
  simp [fitsD] at hf
  obtain ⟨d, h1, h2⟩ := oneB_desc hf
  cases d <;> simp [isStr] at h2
  exact h1
theorem fitsD_list {t e : TypeId} {n : List DV} (hf : fitsD P t (.list e n) = true) : P.underlying t = some (.slice e) := by
  simp [fitsD] at hf
  obtain ⟨d, h1, h2⟩ := oneB_desc hf
  cases d <;> simp [isSl] at h2
  rw [h1, h2]

theorem fitsD_desc {t : TypeId} {x : DV} {d : TypeDesc} (hf : fitsD P t x = true) (hu : P.underlying t = some d) :
    match x with
    | .int k _ => d = .int k
    | .bool _ => d = .bool
    | .str _ => d = .string
    | .agg u _ => P.underlyingId t = u ∧ d.isRow = true
    | .list e _ => d = .slice e
    | .nil => isPtr d = true
    | .any _ => isIface d = true := by
  cases x with
  | int k n => have := fitsD_int hf; rw [hu] at this; exact Option.some.inj this
  | bool n => have := fitsD_bool hf; rw [hu] at this; exact Option.some.inj this
  | str n => have := fitsD_str hf; rw [hu] at this; exact Option.some.inj this
  | list e n => have := fitsD_list hf; rw [hu] at this; exact Option.some.inj this
  | agg u fs => simp [fitsD, isRowT, hu] at hf; exact ⟨hf.1.1, hf.2⟩
  | nil =>
    simp [fitsD] at hf
    obtain ⟨d', h1, h2⟩ := oneB_desc hf
    rw [hu] at h1; obtain rfl := Option.some.inj h1
    exact h2
  | any _ =>
    simp [fitsD] at hf
    obtain ⟨d', h1, h2⟩ := oneB_desc hf
    rw [hu] at h1; obtain rfl := Option.some.inj h1
    exact h2

theorem eqGood (d : Nat) : ∀ (n : Nat) (t : TypeId), eqOK P n t = true → EqGood P (d + n) t
  | 0, _, h => by simp [eqOK] at h
  | n + 1, t, hk => by
    intro w C C' x y vx vy fx fy rx ry
    unfold eqOK at hk
    cases hu : P.underlying t with
    | none => simp [hu] at hk
    | some dd =>
      have kx := fitsD_desc fx hu
      have ky := fitsD_desc fy hu
      simp only [hu] at hk
      rw [show d + (n + 1) = (d + n) + 1 by omega]
      cases dd with
      | bool =>
        cases x <;> simp [TypeDesc.isRow, isPtr, isIface] at kx
        cases y <;> simp [TypeDesc.isRow, isPtr, isIface] at ky
        simp [relV1, DV.isAgg, relD] at rx ry
        subst rx; subst ry
        rw [run_equalIn_bool' w _ t _ _ hu]; simp [eqD]
      | int k =>
        cases x <;> simp [TypeDesc.isRow, isPtr, isIface] at kx
        cases y <;> simp [TypeDesc.isRow, isPtr, isIface] at ky
        simp [relV1, DV.isAgg, relD] at rx ry
        subst rx; subst ry
        obtain rfl := kx; obtain rfl := ky
        rw [run_equalIn_int w _ t _ _ _ _ hu]; simp [eqD]
      | string =>
        cases x <;> simp [TypeDesc.isRow, isPtr, isIface] at kx
        cases y <;> simp [TypeDesc.isRow, isPtr, isIface] at ky
        simp [relV1, DV.isAgg, relD] at rx ry
        subst rx; subst ry
        rw [run_equalIn_string w _ t _ _ hu]; simp [eqD]
      | array m e =>
        cases x <;> simp [TypeDesc.isRow, isPtr, isIface] at kx
        cases y <;> simp [TypeDesc.isRow, isPtr, isIface] at ky
        rename_i u xs u' ys
        subst kx; subst ky
        simp only [relV1, DV.isAgg, if_true, relD] at rx ry
        obtain ⟨cx, rfl, lx, rx⟩ := rx
        obtain ⟨cy, rfl, ly, ry⟩ := ry
        simp only [Bool.and_eq_true, beq_iff_eq] at hk
        have ie : ∃ i, P.info? e = some i := by
          have hk := hk.2
          cases n with
          | zero => simp [eqOK] at hk
          | succ n =>
            unfold eqOK at hk
            cases he : P.underlying e with
            | none => simp [he] at hk
            | some _ => exact info_of_underlying he
        obtain ⟨i, hi⟩ := ie
        rw [run_equalIn_array w _ cx.toArray cy.toArray hu hi]
        simp only [eqD]
        rcases tys_array hu with e1 | e1
        · rw [e1] at rx ry
          have := eqItems_run (eqGood d n e hk.2) m m 0 xs ys cx cy (by omega) rx ry
          rw [List.range_eq_range']
          simpa using this
        · rw [e1] at rx ry
          have h1 := (relDs_len rx).1; have h2 := (relDs_len ry).1
          simp at h1 h2
          subst h1; subst h2
          have hm : m = 0 := by have := hk.1; rw [e1] at this; simp at this; exact this.symm
          subst hm
          simp [Op.eqItems, eqDs]
      | struct fs =>
        simp only [Bool.and_eq_true, Bool.not_eq_true', List.all_eq_true, beq_iff_eq] at hk
        cases x <;> simp [TypeDesc.isRow, isPtr, isIface] at kx
        cases y <;> simp [TypeDesc.isRow, isPtr, isIface] at ky
        rename_i u xs u' ys
        subst kx; subst ky
        simp only [relV1, DV.isAgg, if_true, relD] at rx ry
        obtain ⟨cx, rfl, lx, rx⟩ := rx
        obtain ⟨cy, rfl, ly, ry⟩ := ry
        have hfo : P.fieldsOf t = fs := by simp [Program.fieldsOf, hu]
        rw [run_equalIn_struct w _ t cx.toArray cy.toArray (by rw [hfo]; exact hu) hk.1.1, hfo]
        simp only [eqD]
        rcases tys_struct hu with e1 | ⟨e1, e2⟩
        · rw [e1] at rx ry
          have h1 := (relDs_len rx).1; have h2 := (relDs_len ry).1
          simp at h1 h2
          subst h1; subst h2
          have hm : fs.toList = [] := List.eq_nil_of_length_eq_zero (by have := hk.1.2; rw [e1] at this; simpa using this.symm)
          simp [hm, Op.eqFields, eqDs]
        · rw [e1] at rx ry
          have := eqFields_run fs.toList 0 fs.toList xs ys cx cy (fun f hf => by
            have := hk.2 f hf
            simp at this
            exact ⟨this.1, eqGood d n f.type this.2⟩) rfl (fun j f hj => e2 j f (by simpa using hj)) rx ry
          simpa using this
      | _ => simp at hk

end
end Go.Tith

namespace Go.Tith

section
variable {P : Program} {C C' : Con} {w w' : World} {h h' : Heap}

/-- A run that gives a value, and leaves the heap's boxes avs they were. -/
def Ran (P : Program) (C : Con) (w : World) (h : Heap) (s : Sem Next) (v : AV) : Prop :=
  ∃ C' w' val, s.run P w = .ok (.value val) w' ∧ Step C w h C' w' h ∧ Sim P C' h w' ∧ relV P C' w' h v val

theorem Ran.same {s : Sem Next} {v : AV} {val : Value} (S : Sim P C h w) (hr : s.run P w = .ok (.value val) w) (hv : relV P C w h v val) : Ran P C w h s v := ⟨C, w, val, hr, .refl, S, hv⟩

theorem relV_d {x : DV} {v : Value} : relV P C w h (.d x) v ↔ relV1 P C w h (.d x) v := Iff.rfl
theorem relV_int {k : IntKind} {n : Int} {v : Value} : relV P C w h (.d (.int k n)) v ↔ v = .int k n := by simp [relV, relV1, DV.isAgg, relD]
theorem relV_bool {n : Bool} {v : Value} : relV P C w h (.d (.bool n)) v ↔ v = .bool n := by simp [relV, relV1, DV.isAgg, relD]
theorem relV_str {n : ByteArray} {v : Value} : relV P C w h (.d (.str n)) v ↔ v = .string n := by simp [relV, relV1, DV.isAgg, relD]

theorem relD_nil (e : TypeId) : relD P C w (.list e []) [.slice none 0 0] := by
  simp only [relD]; exact ⟨none, 0, 0, rfl, rfl, Nat.le_refl _, Nat.zero_le _, fun _ => rfl, by simp⟩

theorem coe_rel {t : TypeId} {x : AV} {v : Value} (r : relV P C w h x v) : relV P C w h (coe P t x) v := by
  cases x with
  | nils =>
    simp only [relV, relV1] at r; subst r
    simp only [coe]
    split
    · rename_i e _
      simp only [relV, relV1, relC]
      exact ⟨relD_nil e, by intro a l c hc; simp at hc; omega⟩
    · simp [relV, relV1]
  | _ => exact r

theorem strip_rel : ∀ {x : AV} {v : Value}, relV P C w h x v → relV P C w h (strip true x) v
  | .sel c x, v, r => by
    simp only [strip, Bool.not_true, Bool.false_or]
    split
    · rename_i hc
      simp only [relV, relV1] at r
      refine strip_rel (x := x) ?_
      have := r.1 hc
      cases x <;> first | exact this | simp [relV1] at this
    · simp [relV, relV1]
  | .d _, _, r => r
  | .lst _ _ _, _, r => r
  | .agg _ _, _, r => r
  | .ptr _ _, _, r => r
  | .sl _ _ _ _, _, r => r
  | .ro _ _, _, r => r
  | .fn _ _, _, r => r
  | .tup _, _, r => r
  | .nils, _, r => r
  | .emp _, _, r => r
  | .ifc _, _, r => r
  | .bad, _, r => r

/-! ### integers, strings, bools -/
theorem binInt_run {op : BinOp} {k : IntKind} {a b : Int} {d : DV} {t : TypeId} (hb : binInt op k a b = some d) (hs : op ≠ .shl) (hs' : op ≠ .shr) :
    ∃ v, (binOp op t (.int k a) (.int k b)).run P w = .ok v w ∧ relV P C w h (.d d) v := by
  cases op <;> simp only [binInt] at hb
  case add => simp at hb; subst hb; exact ⟨_, by simp [binOp, Op.intArith], relV_int.2 rfl⟩
  case sub => simp at hb; subst hb; exact ⟨_, by simp [binOp, Op.intArith], relV_int.2 rfl⟩
  case mul => simp at hb; subst hb; exact ⟨_, by simp [binOp, Op.intArith], relV_int.2 rfl⟩
  case quo =>
    split at hb
    · cases hb
    · rename_i hz; simp at hb; subst hb; exact ⟨_, by simp [binOp, Op.intDiv, hz], relV_int.2 rfl⟩
  case rem =>
    split at hb
    · cases hb
    · rename_i hz; simp at hb; subst hb; exact ⟨_, by simp [binOp, Op.intDiv, hz], relV_int.2 rfl⟩
  case and => simp [bitsInt] at hb; subst hb; exact ⟨_, by simp [binOp, Op.intBits], relV_int.2 rfl⟩
  case or => simp [bitsInt] at hb; subst hb; exact ⟨_, by simp [binOp, Op.intBits], relV_int.2 rfl⟩
  case xor => simp [bitsInt] at hb; subst hb; exact ⟨_, by simp [binOp, Op.intBits], relV_int.2 rfl⟩
  case andNot => simp [bitsInt] at hb; subst hb; exact ⟨_, by simp [binOp, Op.intBits], relV_int.2 rfl⟩
  case shl => exact absurd rfl hs
  case shr => exact absurd rfl hs'
  all_goals (simp [cmpInt] at hb; try subst hb)
  all_goals exact ⟨_, by simp [binOp, Op.intCmp], relV_bool.2 rfl⟩

theorem shiftInt_run {op : BinOp} {k k' : IntKind} {a b : Int} {d : DV} {t : TypeId} (hb : shiftInt op k a b = some d) (hs : op = .shl ∨ op = .shr) :
    ∃ v, (binOp op t (.int k a) (.int k' b)).run P w = .ok v w ∧ relV P C w h (.d d) v := by
  unfold shiftInt at hb
  split at hb
  · cases hb
  · rename_i hz
    rcases hs with rfl | rfl
    · simp at hb; subst hb; exact ⟨_, by simp [binOp, Op.shift, hz], relV_int.2 rfl⟩
    · simp at hb; subst hb; exact ⟨_, by simp [binOp, Op.shift, hz], relV_int.2 rfl⟩

theorem binStr_run {op : BinOp} {a b : ByteArray} {d : DV} {t : TypeId} (hb : binStr op a b = some d) :
    ∃ v, (binOp op t (.string a) (.string b)).run P w = .ok v w ∧ relV P C w h (.d d) v := by
  cases op <;> simp only [binStr] at hb
  case add =>
    split at hb
    · rename_i hl; simp at hb; subst hb
      refine ⟨_, ?_, relV_str.2 rfl⟩
      have : ¬ (9223372036854775807 < ((a.size : Int) + (b.size : Int))) := by omega
      simp [binOp, Op.stringOp, IntKind.max, IntKind.signed, IntKind.bits, this]
    · cases hb
  all_goals (first | (cases hb; done) | (simp at hb; subst hb; exact ⟨_, by simp [binOp, Op.stringOp], relV_bool.2 rfl⟩))

theorem unA_run {op : UnOp} {x : AV} {vx : Value} {d : DV} (hu : unA op x = some d) (r : relV P C w h x vx) : ∃ v, (Op.unary op vx).run P w = .ok v w ∧ relV P C w h (.d d) v := by
  unfold unA at hu
  split at hu
  · rw [relV_bool] at r; subst r; simp at hu; subst hu; exact ⟨_, by simp [Op.unary], relV_bool.2 rfl⟩
  · rw [relV_int] at r; subst r; simp only [Option.some.injEq] at hu; subst hu; exact ⟨_, rfl, relV_int.2 rfl⟩
  · rw [relV_int] at r; subst r; simp at hu; subst hu; exact ⟨_, by simp [Op.unary, Op.intBits], relV_int.2 rfl⟩
  · cases hu

theorem eqT_run {t : TypeId} {x y : DV} {vx vy : Value} (ht : eqT P t = true) (fx : fitsD P t x = true) (fy : fitsD P t y = true) (rx : relV1 P C w hNil (.d x) vx) (ry : relV1 P C' w hNil (.d y) vy) :
    (Op.equal t vx vy).run P w = .ok (eqD x y) w := by
  simp only [eqT, Bool.and_eq_true] at ht
  exact eqGood 9980 20 t ht.1 w C C' x y vx vy fx fy rx ry


/-! ### the forms of values -/
theorem relV_ptr {id : Nat} {p : List Nat} {v : Value} (r : relV P C w h (.ptr id p) v) : ∃ bt bc off t, h.boxes[id]? = some (bt, bc) ∧ offP P p bt = some (off, t) ∧ v = .pointer (some ⟨C.φ id, off, none⟩) := by
  simp only [relV, relV1, relC] at r
  obtain ⟨bt, bc, off, t, h1, h2, h3⟩ := r
  simp at h3
  exact ⟨bt, bc, off, t, h1, h2, h3⟩

theorem relV_ro {t : TypeId} {x : DV} {v : Value} (r : relV P C w h (.ro t x) v) : ∃ b o cs, v = .pointer (some ⟨b, o, none⟩) ∧ relD P C w x cs ∧ fitsD P t x = true ∧ cs.length = P.cellsOf t ∧
    ∀ (j : Nat) u, cs[j]? = some u → C.fixed b (o + j) ∧ w.cell? ⟨b, o + j, none⟩ = some u := by
  simp only [relV, relV1, relC] at r
  obtain ⟨b, o, cs, h1, h2, h3, h4, h5⟩ := r
  simp at h1
  exact ⟨b, o, cs, h1, h2, h3, h4, h5⟩

theorem relV_list {e : TypeId} {xs : List DV} {v : Value} (r : relV P C w h (.d (.list e xs)) v) : ∃ a len cap, v = .slice a len cap ∧ len = xs.length ∧ len ≤ cap ∧ cap ≤ maxLen ∧ (a = none → cap = 0) ∧
    (xs ≠ [] → ∃ b o, a = some ⟨b, o, none⟩ ∧ relRow P C w e xs b o) := by
  simp only [relV, relV1, DV.isAgg, Bool.false_eq_true, if_false, relD] at r
  obtain ⟨a, len, cap, h1, h2⟩ := r
  simp at h1
  exact ⟨a, len, cap, h1, h2⟩

theorem lst_list {k : Option Nat} {e : TypeId} {xs : List DV} {v : Value} (r : relV P C w h (.lst k e xs) v) : relV P C w h (.d (.list e xs)) v := by
  simp only [relV, relV1, relC] at r
  simp only [relV, relV1, DV.isAgg, Bool.false_eq_true, if_false]
  exact r.1

theorem relV_null {v : Value} (r : relV P C w h (.d .nil) v) : v = .pointer none := by
  simpa [relV, relV1, DV.isAgg, relD] using r

/-- Pointers into a box lead to its cells. -/
theorem ptr_at (S : Sim P C h w) {id : Nat} {p : List Nat} {v : Value} (r : relV P C w h (.ptr id p) v) {bt : TypeId} {bc x : AV} {t : TypeId} (hb : h.boxes[id]? = some (bt, bc)) (hg : getP P p bc bt = some (x, t)) :
    ∃ off cs, v = .pointer (some ⟨C.φ id, off, none⟩) ∧ offP P p bt = some (off, t) ∧ fitsA P t x = true ∧ cs.length = P.cellsOf t ∧ relC P C w h x cs ∧ w.rangeAt (C.φ id) off cs := by
  obtain ⟨bt', bc', off, t', h1, h2, rfl⟩ := relV_ptr r
  rw [hb] at h1; simp at h1; obtain ⟨rfl, rfl⟩ := h1
  obtain ⟨off', cs, k1, k2, k3, k4, k5⟩ := S.at hb hg
  rw [k1] at h2; simp at h2; obtain ⟨rfl, rfl⟩ := h2
  exact ⟨off', cs, rfl, k1, k2, k3, k4, k5⟩

/-- A variable is read. -/
theorem run_loadAt {x : AV} {t : TypeId} {b off : Nat} {cs : List Value} (hf : fitsA P t x = true) (hl : cs.length = P.cellsOf t) (r : relC P C w h x cs) (hc : w.rangeAt b off cs) :
    ∃ v, (Instr.loadAt t (.pointer (some ⟨b, off, none⟩))).run P w = .ok v w ∧ relV P C w h x v := by
  have up : ∀ {v}, relV1 P C w h x v → relV P C w h x v := by
    intro v r1
    cases x <;> first | exact r1 | simp [fitsA] at hf
  by_cases ha : x.isAgg = true
  · have hrow := fitsA_row hf ha
    unfold isRowT at hrow
    cases hu : P.underlying t with
    | none => simp [hu] at hrow
    | some d =>
      simp only [hu] at hrow
      obtain ⟨i, hi⟩ := info_of_underlying hu
      refine ⟨_, run_loadAt_mid w b off t cs d hc hu hrow ?_, up (relC_relV_agg r ha)⟩
      simp [hi, hl, Program.cellsOf]
  · have ha' : x.isAgg = false := by simpa using ha
    obtain ⟨g, hg, hg'⟩ := fitsA_one hf ha'
    have h1 := oneB_size hg
    obtain ⟨v, rfl⟩ : ∃ v, cs = [v] := by
      match cs, hl with
      | [v], _ => exact ⟨v, rfl⟩
      | [], hl => simp [h1] at hl
      | _ :: _ :: _, hl => simp [h1] at hl
    refine ⟨v, ?_, up (relC_relV r ha')⟩
    have hc0 := hc 0 v (by simp)
    simp only [Nat.add_zero] at hc0
    simp [Instr.loadAt, Instr.sureAddr, loadVar, oneB_isAgg hg hg', hc0]

/-! ### a new block that nobody writes to -/
def Con.setK (C : Con) (b : Nat) (B : Blk) : Con := { C with K := fun k => if k = b then B else C.K k }

theorem setK_ne {b b' : Nat} {B : Blk} (hne : b' ≠ b) : (C.setK b B).K b' = C.K b' := by simp [Con.setK, hne]
theorem setK_same {b : Nat} {B : Blk} : (C.setK b B).K b = B := by simp [Con.setK]

theorem new_step (S : Sim P C h w) {B : Blk} (hos : w'.os = w.os) (ht : w'.tape = w.tape) (ho : w'.output = w.output) (hs : w'.heap.size = w.heap.size + 1)
    (hh : ∀ b, b < w.heap.size → w'.heap[b]? = w.heap[b]?) (h' : Heap) (hbx : h'.boxes = h.boxes) (htk : ∀ (τ F : Nat), h.toks[τ]? = some F → h'.toks[τ]? = some F) : Step C w h (C.setK w.heap.size B) w' h' where
  os := hos
  tape := ht
  output := ho
  size := by omega
  blk b hb := by
    have : (C.setK w.heap.size B).K b = C.K b := setK_ne (by omega)
    simp only [keptB, this]
    cases C.K b <;> simp [hh b hb]
  phi _ _ := rfl
  box _ _ bc hb := ⟨bc, by rw [hbx]; exact hb⟩
  tok τ F hF := ⟨F, htk τ F hF, Nat.le_refl _⟩

theorem new_sim (S : Sim P C h w) {B : Blk} (st : Step C w h (C.setK w.heap.size B) w' h') (hs : w'.heap.size = w.heap.size + 1) (hh : ∀ b, b < w.heap.size → w'.heap[b]? = w.heap[b]?)
    (hbx : h'.boxes = h.boxes) (hB : ∀ τ f, B = .app τ f → ∃ F : Nat, h'.toks[τ]? = some F) (htk : ∀ (τ F : Nat), h.toks[τ]? = some F → h'.toks[τ]? = some F) : Sim P (C.setK w.heap.size B) h' w' where
  box id bt bc hb := by
    rw [hbx] at hb
    obtain ⟨h1, h2, cs, e, h3, h4, h5⟩ := S.box id bt bc hb
    have hlt : C.φ id < w.heap.size := S.lt _ (by rw [h1]; simp)
    refine ⟨by show (C.setK w.heap.size B).K (C.φ id) = _; rw [setK_ne (by omega)]; exact h1, h2, cs, e, ?_, h4, relC_mono st h5⟩
    show w'.heap[C.φ id]? = _
    rw [hh _ hlt]; exact h3
  lt b hb := by
    by_cases e : b = w.heap.size
    · omega
    · rw [setK_ne e] at hb; have := S.lt b hb; omega
  tk b τ f hb := by
    by_cases e : b = w.heap.size
    · subst e; rw [setK_same] at hb; exact hB τ f hb
    · rw [setK_ne e] at hb
      obtain ⟨F, hF⟩ := S.tk b τ f hb
      exact ⟨F, htk τ F hF⟩

end
end Go.Tith
