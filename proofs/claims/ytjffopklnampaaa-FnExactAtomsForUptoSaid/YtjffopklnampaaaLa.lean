/- The core of the lifting, part 1 of 4: a compiler of Go functions to functions of data, and its soundness. -/
import Derived.Calls
import Derived.Laws.Tables
import Derived.Laws.Rows
import Derived.Laws.CopyRow
import Derived.Laws.OwnMore
import Derived.ArgAppend
import Derived.Laws.MakeOwn
import Derived.Tactics
set_option linter.unusedVariables false
set_option linter.unusedSimpArgs false
/- What a list of cells holds: data types, modes of ownership, labels of blocks, and the relation 'these cells read as this data'. -/
namespace Go.Lf

/-- The types of data that the lifted functions speak of. -/
inductive Ty where
  | int (k : IntKind) | bool | str | pair (a b : Ty) | slice (e : Ty)
  deriving DecidableEq, Inhabited

@[reducible] def Ty.T : Ty → Type
  | .int _ => Int
  | .bool => Bool
  | .str => ByteArray
  | .pair a b => a.T × b.T
  | .slice e => List e.T

/-- How many cells. -/
def Ty.n : Ty → Nat
  | .pair a b => a.n + b.n
  | _ => 1

theorem Ty.n_pos (τ : Ty) : 0 < τ.n := by
  induction τ <;> simp [Ty.n]
  omega

structure Dyn where
  τ : Ty
  v : τ.T

/-- The leaves of a datum: one for each cell. -/
def flat : (τ : Ty) → τ.T → List Dyn
  | .pair a b, x => flat a x.1 ++ flat b x.2
  | .int k, x => [⟨.int k, x⟩]
  | .bool, x => [⟨.bool, x⟩]
  | .str, x => [⟨.str, x⟩]
  | .slice e, x => [⟨.slice e, x⟩]

theorem flat_length (τ : Ty) (x : τ.T) : (flat τ x).length = τ.n := by
  induction τ with
  | pair a b iha ihb => simp [flat, Ty.n, iha, ihb]
  | _ => simp [flat, Ty.n]

/-- Modes: own (may be written; nobody else reads it), shr. -/
inductive Md where
  | own | shr
  deriving DecidableEq, Inhabited

inductive M where
  | sc
  | pair (a b : M)
  | sl (md : Md) (e : M)
  deriving DecidableEq, Inhabited

/-- The mode with everything shared. -/
def Ty.shr : Ty → M
  | .pair a b => .pair a.shr b.shr
  | .slice e => .sl .shr e.shr
  | _ => .sc

/-- The mode with everything owned. -/
def Ty.ownd : Ty → M
  | .pair a b => .pair a.ownd b.ownd
  | .slice e => .sl .own e.ownd
  | _ => .sc

inductive Lab where
  | imm
  | own (pos : List Nat)
  deriving Inhabited

/-- A block that may be read by whoever: nobody writes it any more. -/
def Lab.shared : Lab → Prop
  | .own _ => False
  | _ => True

def MdOk : Md → Lab → List Nat → Prop
  | .own, l, pos => l = .own pos
  | .shr, l, _ => l.shared

/-- The cells of an element. -/
def cut (c : Array Value) (off n : Nat) : List Value := (c.toList.drop off).take n

/-- The cells 'cs' read as 'x'; 'pos' is the place of this part among the owned things. -/
def Rd (H : Array Obj) (lab : Nat → Lab) : M → List Nat → List Value → (τ : Ty) → τ.T → Prop
  | .sc, _, cs, .int k, x => cs = [.int k x]
  | .sc, _, cs, .bool, x => cs = [.bool x]
  | .sc, _, cs, .str, x => cs = [.string x]
  | .pair ma mb, pos, cs, .pair a b, x =>
    Rd H lab ma (pos ++ [0]) (cs.take a.n) a x.1 ∧ Rd H lab mb (pos ++ [1]) (cs.drop a.n) b x.2
  | .sl md m, pos, cs, .slice e, xs =>
    ∃ ad cap, cs = [.slice ad xs.length cap] ∧
      match ad with
      | none => xs = [] ∧ cap = 0
      | some p => (xs = [] ∧ cap = 0) ∨ (p.spot = none ∧ MdOk md (lab p.block) pos ∧ xs.length ≤ cap ∧
        ∃ c ty fr, H[p.block]? = some (.cells c ty fr) ∧ p.off + cap * e.n ≤ c.size ∧ (md = .own → fr = (0, 0)) ∧
          ∀ i (h : i < xs.length), Rd H lab m (pos ++ [i]) (cut c (p.off + i * e.n) e.n) e xs[i])
  | _, _, _, _, _ => False

theorem cut_length {c : Array Value} {off n : Nat} (h : off + n ≤ c.size) : (cut c off n).length = n := by
  simp [cut]; omega

theorem Rd.length {H : Array Obj} {lab : Nat → Lab} : ∀ {m : M} {pos : List Nat} {cs : List Value} {τ : Ty} {x : τ.T},
    Rd H lab m pos cs τ x → cs.length = τ.n := by
  intro m
  induction m with
  | sc => intro pos cs τ x h; cases τ <;> simp [Rd] at h <;> subst h <;> simp [Ty.n]
  | sl md m ih => intro pos cs τ x h; cases τ <;> simp [Rd] at h; obtain ⟨ad, cap, rfl, _⟩ := h; simp [Ty.n]
  | pair ma mb iha ihb =>
    intro pos cs τ x h
    cases τ <;> simp [Rd] at h
    rename_i a b
    have h1 := iha h.1
    have h2 := ihb h.2
    simp at h1 h2
    have ha := a.n_pos
    have hb := b.n_pos
    simp [Ty.n]; omega

/-- What is needed to carry a reading from one memory, labelling and place to another. -/
structure Carry (H H' : Array Obj) (lab lab' : Nat → Lab) (p p' : List Nat) : Prop where
  own : ∀ b o s, H[b]? = some o → lab b = .own (p ++ s) → H'[b]? = some o ∧ lab' b = .own (p' ++ s)
  shr : ∀ b o, H[b]? = some o → (lab b).shared → H'[b]? = some o ∧ (lab' b).shared

theorem Carry.deeper {H H' : Array Obj} {lab lab' : Nat → Lab} {p p' : List Nat} (h : Carry H H' lab lab' p p') (q : List Nat) :
    Carry H H' lab lab' (p ++ q) (p' ++ q) where
  own b o s ho hl := by simpa using h.own b o (q ++ s) ho (by simpa using hl)
  shr := h.shr

theorem Rd.carry {H H' : Array Obj} {lab lab' : Nat → Lab} : ∀ {m : M} {p p' : List Nat} {cs : List Value} {τ : Ty} {x : τ.T},
    Carry H H' lab lab' p p' → Rd H lab m p cs τ x → Rd H' lab' m p' cs τ x := by
  intro m
  induction m with
  | sc => intro p p' cs τ x _ h; cases τ <;> simp [Rd] at h ⊢ <;> exact h
  | pair ma mb iha ihb =>
    intro p p' cs τ x hc h
    cases τ <;> simp [Rd] at h ⊢
    exact ⟨iha (hc.deeper _) h.1, ihb (hc.deeper _) h.2⟩
  | sl md m ih =>
    intro p p' cs τ x hc h
    cases τ <;> simp only [Rd] at h ⊢
    case slice e =>
      obtain ⟨ad, cap, rfl, h⟩ := h
      refine ⟨ad, cap, rfl, ?_⟩
      cases ad with
      | none => exact h
      | some q =>
        rcases h with h | h
        · exact .inl h
        refine .inr ?_
        obtain ⟨hs, hm, hl, c, ty, fr, hb, hsz, hfr, hel⟩ := h
        have key : H'[q.block]? = some (.cells c ty fr) ∧ MdOk md (lab' q.block) p' := by
          cases md with
          | own => simpa [MdOk] using hc.own _ _ [] hb (by simpa [MdOk] using hm)
          | shr => exact hc.shr _ _ hb hm
        exact ⟨hs, key.2, hl, c, ty, fr, key.1, hsz, hfr, fun i hi => ih (hc.deeper _) (hel i hi)⟩

/-- What is needed to read as shared what was owned. -/
structure Share (H H' : Array Obj) (lab lab' : Nat → Lab) (p : List Nat) : Prop where
  own : ∀ b o s, H[b]? = some o → lab b = .own (p ++ s) → H'[b]? = some o ∧ (lab' b).shared
  shr : ∀ b o, H[b]? = some o → (lab b).shared → H'[b]? = some o ∧ (lab' b).shared

theorem Share.deeper {H H' : Array Obj} {lab lab' : Nat → Lab} {p : List Nat} (h : Share H H' lab lab' p) (q : List Nat) : Share H H' lab lab' (p ++ q) where
  own b o s ho hl := h.own b o (q ++ s) ho (by simpa using hl)
  shr := h.shr

theorem Rd.share {H H' : Array Obj} {lab lab' : Nat → Lab} : ∀ {m : M} {p p' : List Nat} {cs : List Value} {τ : Ty} {x : τ.T},
    Share H H' lab lab' p → Rd H lab m p cs τ x → Rd H' lab' τ.shr p' cs τ x := by
  intro m
  induction m with
  | sc => intro p p' cs τ x _ h; cases τ <;> simp [Rd, Ty.shr] at h ⊢ <;> exact h
  | pair ma mb iha ihb =>
    intro p p' cs τ x hc h
    cases τ <;> simp [Rd, Ty.shr] at h ⊢
    exact ⟨iha (hc.deeper _) h.1, ihb (hc.deeper _) h.2⟩
  | sl md m ih =>
    intro p p' cs τ x hc h
    cases τ <;> simp only [Rd, Ty.shr] at h ⊢
    case slice e =>
      obtain ⟨ad, cap, rfl, h⟩ := h
      refine ⟨ad, cap, rfl, ?_⟩
      cases ad with
      | none => exact h
      | some q =>
        rcases h with h | h
        · exact .inl h
        refine .inr ?_
        obtain ⟨hs, hm, hl, c, ty, fr, hb, hsz, hfr, hel⟩ := h
        have key : H'[q.block]? = some (.cells c ty fr) ∧ (lab' q.block).shared := by
          cases md with
          | own => exact hc.own _ _ [] hb (by simpa [MdOk] using hm)
          | shr => exact hc.shr _ _ hb hm
        exact ⟨hs, key.2, hl, c, ty, fr, key.1, hsz, by simp, fun i hi => ih (hc.deeper _) (hel i hi)⟩

end Go.Lf

/- What is known of a function's slots while it runs: entries, claims, and how claims outlive a change. -/
namespace Go.Lf

def sk (s : Nat) : Nat := 16 * s + 15
def lk (s j : Nat) : Nat := 16 * s + j

inductive ES where
  | no
  -- of a leaf
  | va                                   -- its datum lies in env; shared or scalar
  | em                                   -- an empty slice without room
  | ro (m : M) (org : Option Nat)        -- a slice that the key owns; org: the parameter's leaf that it came as
  | rf (k kv : Nat)                      -- a copy of what lies at k, as long as k has the version kv
  | ef (k kv i iv off : Nat)             -- a copy of a cell of an element of the slice at k
  -- of a slot
  | pl (n : Nat) (agg : Bool)
  | bx (n : Nat)                         -- a pointer to a block of its own
  | al (s sv off : Nat)                  -- a pointer into the block of slot s
  | pa (n : Nat)                         -- a pointer to shared cells
  | ea (k kv i iv off : Nat)             -- a pointer to a cell of an element of the slice at k
  | cl (f : Nat) (caps : List (Nat × Nat))
  | cp (f : Nat) (ns : List Nat)
  | tu (parts : List (Nat × Bool))
  deriving DecidableEq, Inhabited

structure Ent where
  ver : Nat
  ch : List (Nat × Bool)
  st : ES
  deriving DecidableEq, Inhabited

abbrev GT := Nat → Ent
abbrev Env := Nat → Dyn

def Env.set (e : Env) (k : Nat) (d : Dyn) : Env := fun j => match Nat.beq j k with | true => d | false => e j

def GT.set (g : GT) (k : Nat) (d : Ent) : GT := fun j => match Nat.beq j k with | true => d | false => g j

theorem beq_ne {j k : Nat} (h : j ≠ k) : Nat.beq j k = false := by
  cases hb : Nat.beq j k with
  | false => rfl
  | true => exact absurd (Nat.eq_of_beq_eq_true hb) h

theorem Env.set_same (e : Env) (k : Nat) (d : Dyn) : e.set k d k = d := by simp [Env.set]
theorem Env.set_ne (e : Env) {k j : Nat} (d : Dyn) (h : j ≠ k) : e.set k d j = e j := by simp [Env.set, beq_ne h]
theorem GT.set_same (e : GT) (k : Nat) (d : Ent) : e.set k d k = d := by simp [GT.set]
theorem GT.set_ne (e : GT) {k j : Nat} (d : Ent) (h : j ≠ k) : e.set k d j = e j := by simp [GT.set, beq_ne h]

/-- Whether a chain of guards holds. -/
def holds1 : Dyn → Bool → Bool
  | ⟨.bool, x⟩, b => x == b
  | _, _ => false
def holds (env : Env) (ch : List (Nat × Bool)) : Bool := ch.all fun p => holds1 (env p.1) p.2

/-- A frame's state, concrete and pure side by side; org: the cells of the parameters at the start. -/
structure Fr where
  tmps : Array Value
  H : Array Obj
  lab : Nat → Lab
  env : Env
  G : GT
  org : Nat → Value

def Fr.val (F : Fr) (s : Nat) : Value := F.tmps.getD s (.tuple #[])

def mkVal (agg : Bool) (cs : List Value) : Value := if agg then .agg cs.toArray else cs.headD (.tuple #[])

/-- A block that nobody writes: shared, or somebody else's. -/
def Lab.still : Lab → Prop
  | .own (_ :: _) => False
  | _ => True

theorem Lab.still_iff {l : Lab} : l.still ↔ l.shared ∨ l = .own [] := by
  cases l with
  | imm => simp [Lab.still, Lab.shared]
  | own p => cases p <;> simp [Lab.still, Lab.shared]

/-- A pointer to n cells that nobody writes. -/
def PaOk (H : Array Obj) (lab : Nat → Lab) (V : Value) (n : Nat) (cs : List Value) : Prop :=
  ∃ b off c ty fr, V = .pointer (some ⟨b, off, none⟩) ∧ (lab b).still ∧ H[b]? = some (.cells c ty fr) ∧ off + n ≤ c.size ∧ cs = cut c off n

/-- Pointers, one after the other. -/
def PasOk (H : Array Obj) (lab : Nat → Lab) : List Value → List Nat → List Value → Prop
  | [], [], cs => cs = []
  | V :: Vs, n :: ns, cs => ∃ c1 c2, cs = c1 ++ c2 ∧ PaOk H lab V n c1 ∧ PasOk H lab Vs ns c2
  | _, _, _ => False

def PartsOk : List Value → List (Nat × Bool) → List Value → Prop
  | [], [], cs => cs = []
  | V :: Vs, (n, agg) :: ns, cs => ∃ c1 c2, cs = c1 ++ c2 ∧ c1.length = n ∧ (agg = false → n = 1) ∧ V = mkVal agg c1 ∧ PartsOk Vs ns c2
  | _, _, _ => False

/-- The cells that a slot of a kind has. -/
def Has (H : Array Obj) (lab : Nat → Lab) (s : Nat) : ES → Value → List Value → Prop
  | .pl n agg, V, cs => V = mkVal agg cs ∧ cs.length = n ∧ (agg = false → n = 1)
  | .bx n, V, cs => ∃ b c ty, V = .pointer (some ⟨b, 0, none⟩) ∧ lab b = .own [sk s] ∧ H[b]? = some (.cells c ty (0, 0)) ∧ cs = c.toList ∧ cs.length = n
  | .pa n, V, cs => PaOk H lab V n cs
  | .cp f ns, V, cs => ∃ ps : List Value, V = .func (.func f) #[] ps.toArray ∧ PasOk H lab ps ns cs
  | .tu parts, V, cs => ∃ vs : List Value, V = .tuple vs.toArray ∧ PartsOk vs parts cs
  | _, _, cs => cs = []

def Fr.has (F : Fr) (s : Nat) (cs : List Value) : Prop := Has F.H F.lab s (F.G (sk s)).st (F.val s) cs ∧ cs.length ≤ 15

/-- What lies at a leaf. -/
def Fr.cell (F : Fr) (k : Nat) (v : Value) : Prop := ∃ cs, F.has (k / 16) cs ∧ cs[k % 16]? = some v

/-- The number that lies at a key. -/
def Fr.num (F : Fr) (i : Nat) (n : Nat) : Prop := ∃ kd z, F.env i = ⟨.int kd, z⟩ ∧ z = (n : Int)

/-- The address of element n of the slice at a leaf; size is the element's. -/
def Fr.elemAt (F : Fr) (k : Nat) (n b off : Nat) (e : Ty) : Prop :=
  ∃ o len cap xs, F.cell k (.slice (some ⟨b, o, none⟩) len cap) ∧ F.env k = ⟨.slice e, xs⟩ ∧ n < len ∧ off = o + n * e.n

/-- The claim on a leaf with the cell v. -/
def LeafOk (F : Fr) (k : Nat) : ES → Value → Prop
  | .no, _ => True
  | .va, v => Rd F.H F.lab (F.env k).τ.shr [] [v] (F.env k).τ (F.env k).v
  | .em, v => ∃ a e, v = .slice a 0 0 ∧ F.env k = ⟨.slice e, []⟩
  | .ro m org, v => Rd F.H F.lab (.sl .own m) [k] [v] (F.env k).τ (F.env k).v ∧ ∀ p, org = some p → v = F.org p
  | .rf k2 kv, v => (F.G k2).ver = kv → F.cell k2 v ∧ F.env k = F.env k2
  | .ef k2 kv i iv off, v => (F.G k2).ver = kv → (F.G i).ver = iv →
      k2 % 16 ≠ 15 ∧ ∃ n b o e c ty, F.num i n ∧ F.elemAt k2 n b o e ∧ F.lab b = .own [k2] ∧ F.H[b]? = some (.cells c ty (0, 0)) ∧ c[o + off]? = some v ∧
        ∃ (xs : List e.T) (x : e.T), F.env k2 = ⟨.slice e, xs⟩ ∧ xs[n]? = some x ∧ (flat e x)[off]? = some (F.env k)
  | _, _ => False

/-- The claim on a slot. -/
def Claim (F : Fr) (s : Nat) : ES → Prop
  | .no => True
  | .al s2 sv off => (F.G (sk s2)).ver = sv → ∃ b, F.val s2 = .pointer (some ⟨b, 0, none⟩) ∧ F.val s = .pointer (some ⟨b, off, none⟩)
  | .ea k2 kv i iv off => (F.G k2).ver = kv → (F.G i).ver = iv →
      ∃ n b o e, F.num i n ∧ F.elemAt k2 n b o e ∧ F.val s = .pointer (some ⟨b, o + off, none⟩)
  | .cl f caps => ∃ ps : List Value, F.val s = .func (.func f) #[] ps.toArray ∧ ps.length = caps.length ∧
      ∀ (i : Nat) (c : Nat × Nat), caps[i]? = some c → (F.G (sk c.1)).ver = c.2 → ps[i]? = some (F.val c.1)
  | _ => ∃ cs, F.has s cs ∧ ∀ j v, cs[j]? = some v → LeafOk F (lk s j) (F.G (lk s j)).st v

def SlotOk (F : Fr) (s : Nat) : Prop :=
  if holds F.env (F.G (sk s)).ch then Claim F s (F.G (sk s)).st else F.val s = .tuple #[]

/-- The versions that were used. -/
abbrev Clk := Nat → Prop
def Clk.add (c : Clk) (v : Nat) : Clk := fun x => c x ∨ x = v

/-- References are older than the clock. -/
def ES.older (clk : Clk) : ES → Prop
  | .rf _ kv => clk kv
  | .ef _ kv _ iv _ => clk kv ∧ clk iv
  | .al _ sv _ => clk sv
  | .ea _ kv _ iv _ => clk kv ∧ clk iv
  | .cl _ caps => ∀ c ∈ caps, clk c.2
  | _ => True

structure St (F : Fr) (clk : Clk) : Prop where
  slots : ∀ s, SlotOk F s
  refs : ∀ k, (F.G k).st.older clk
  vers : ∀ k, clk (F.G k).ver
  labs : ∀ b, F.H.size ≤ b → F.lab b = .imm

/-- A change that touches the keys D alone. -/
structure Touch (F F' : Fr) (clk clk' : Clk) (D : Nat → Prop) : Prop where
  le : ∀ v, clk v → clk' v
  ent : ∀ k, ¬ D k → F'.G k = F.G k
  env : ∀ k, ¬ D k → F'.env k = F.env k
  org : F'.org = F.org
  slot : ∀ s cs, D (sk s) → F.has s cs → ∀ j, j < cs.length → D (lk s j)
  tmp : ∀ s, ¬ D (sk s) → F'.val s = F.val s
  ver : ∀ k, D k → ¬ clk (F'.G k).ver
  chn : ∀ s, ¬ D (sk s) → ∀ c ∈ (F.G (sk s)).ch, ¬ D c.1
  shr : ∀ b o, F.H[b]? = some o → (F.lab b).shared → F'.H[b]? = some o ∧ (F'.lab b).shared
  frn : ∀ b o, F.H[b]? = some o → F.lab b = .own [] → F'.H[b]? = some o ∧ F'.lab b = .own []
  own : ∀ b o k q, F.H[b]? = some o → F.lab b = .own (k :: q) → k % 16 ≠ 15 → ¬ D k → F'.H[b]? = some o ∧ F'.lab b = .own (k :: q)
  box : ∀ s b c ty, ¬ D (sk s) → F.val s = .pointer (some ⟨b, 0, none⟩) → F.lab b = .own [sk s] → F.H[b]? = some (.cells c ty (0, 0)) →
    ∃ c' : Array Value, F'.H[b]? = some (.cells c' ty (0, 0)) ∧ F'.lab b = .own [sk s] ∧ c'.size = c.size ∧ ∀ j, ¬ D (lk s j) → c'[j]? = c[j]?
  old : ∀ k, D k → (F'.G k).st.older clk' ∧ clk' (F'.G k).ver
  lab : ∀ b, F'.H.size ≤ b → F'.lab b = .imm

theorem ES.older_mono {clk clk' : Clk} (h : ∀ v, clk v → clk' v) : ∀ {e : ES}, e.older clk → e.older clk' := by
  intro e he
  cases e <;> simp only [ES.older] at he ⊢
  case cl => exact fun c hc => h _ (he c hc)
  case rf => exact h _ he
  case al => exact h _ he
  case ef => exact ⟨h _ he.1, h _ he.2⟩
  case ea => exact ⟨h _ he.1, h _ he.2⟩

theorem lk_div {s j : Nat} (h : j ≤ 15) : lk s j / 16 = s := by unfold lk; omega
theorem lk_mod {s j : Nat} (h : j ≤ 15) : lk s j % 16 = j := by unfold lk; omega
theorem lk_divmod (k : Nat) : lk (k / 16) (k % 16) = k := by unfold lk; omega

section
variable {F F' : Fr} {clk clk' : Clk} {D : Nat → Prop}

theorem PaOk.keep {H H' : Array Obj} {lab lab' : Nat → Lab} (hs : ∀ b o, H[b]? = some o → (lab b).still → H'[b]? = some o ∧ (lab' b).still)
    {V : Value} {n : Nat} {cs : List Value} (h : PaOk H lab V n cs) : PaOk H' lab' V n cs := by
  obtain ⟨b, off, c, ty, fr, hV, hl, hb, hz, rfl⟩ := h
  have := hs _ _ hb hl
  exact ⟨b, off, c, ty, fr, hV, this.2, this.1, hz, rfl⟩

theorem PasOk.keep {H H' : Array Obj} {lab lab' : Nat → Lab} (hs : ∀ b o, H[b]? = some o → (lab b).still → H'[b]? = some o ∧ (lab' b).still) :
    ∀ {Vs : List Value} {ns : List Nat} {cs : List Value}, PasOk H lab Vs ns cs → PasOk H' lab' Vs ns cs
  | [], [], _, h => h
  | V :: Vs, n :: ns, cs, h => by
    obtain ⟨c1, c2, rfl, h1, h2⟩ := h
    exact ⟨c1, c2, rfl, h1.keep hs, PasOk.keep hs h2⟩
  | [], _ :: _, _, h => h.elim
  | _ :: _, [], _, h => h.elim

theorem still_of {H H' : Array Obj} {lab lab' : Nat → Lab} (hs : ∀ b o, H[b]? = some o → (lab b).shared → H'[b]? = some o ∧ (lab' b).shared)
    (hf : ∀ b o, H[b]? = some o → lab b = .own [] → H'[b]? = some o ∧ lab' b = .own []) : ∀ b o, H[b]? = some o → (lab b).still → H'[b]? = some o ∧ (lab' b).still := by
  intro b o ho hl
  rcases Lab.still_iff.1 hl with h | h
  · exact ⟨(hs b o ho h).1, Lab.still_iff.2 (.inl (hs b o ho h).2)⟩
  · exact ⟨(hf b o ho h).1, Lab.still_iff.2 (.inr (hf b o ho h).2)⟩

theorem Touch.still (T : Touch F F' clk clk' D) : ∀ b o, F.H[b]? = some o → (F.lab b).still → F'.H[b]? = some o ∧ (F'.lab b).still := still_of T.shr T.frn

/-- The cells of a slot whose own key is not touched: the same, but for touched leaves. -/
theorem Touch.has (T : Touch F F' clk clk' D) {s : Nat} {cs : List Value} (hs : ¬ D (sk s)) (h : F.has s cs) :
    ∃ cs', F'.has s cs' ∧ cs'.length = cs.length ∧ ∀ j, ¬ D (lk s j) → cs'[j]? = cs[j]? := by
  have hG := T.ent _ hs
  have hV := T.tmp _ hs
  obtain ⟨h, hl⟩ := h
  unfold Fr.has
  rw [hG, hV]
  cases hst : (F.G (sk s)).st <;> rw [hst] at h <;> simp only [Has] at h ⊢
  case bx n =>
    obtain ⟨b, c, ty, hv, hlab, hb, rfl, hn⟩ := h
    obtain ⟨c', h1, h2, h3, h4⟩ := T.box s b c ty hs hv hlab hb
    refine ⟨c'.toList, ⟨⟨b, c', ty, hv, h2, h1, rfl, by simpa [h3] using hn⟩, by simpa [h3] using hl⟩, by simpa using h3, fun j hj => by simpa using h4 j hj⟩
  case pa n => exact ⟨cs, ⟨h.keep T.still, hl⟩, rfl, fun _ _ => rfl⟩
  case cp f ns =>
    obtain ⟨ps, hv, hp⟩ := h
    exact ⟨cs, ⟨⟨ps, hv, hp.keep T.still⟩, hl⟩, rfl, fun _ _ => rfl⟩
  all_goals exact ⟨cs, ⟨h, hl⟩, rfl, fun _ _ => rfl⟩

theorem Touch.cell (T : Touch F F' clk clk' D) {k : Nat} {v : Value} (hk : ¬ D k) (h : F.cell k v) : F'.cell k v := by
  obtain ⟨cs, hh, hv⟩ := h
  have hj : k % 16 < cs.length := (List.getElem?_eq_some_iff.1 hv).1
  have hs : ¬ D (sk (k / 16)) := fun hD => hk (by have := T.slot _ _ hD hh _ hj; rwa [lk_divmod] at this)
  obtain ⟨cs', h1, h2, h3⟩ := T.has hs hh
  exact ⟨cs', h1, by rw [h3 _ (by rwa [lk_divmod])]; exact hv⟩

theorem Touch.carry (T : Touch F F' clk clk' D) {k : Nat} (hk : ¬ D k) (h15 : k % 16 ≠ 15) : Carry F.H F'.H F.lab F'.lab [k] [k] where
  own b o s ho hl := T.own b o k s ho (by simpa using hl) h15 hk
  shr := T.shr

/-- What is shared is read as before. -/
theorem Rd.shared {H H' : Array Obj} {lab lab' : Nat → Lab} (hs : ∀ b o, H[b]? = some o → (lab b).shared → H'[b]? = some o ∧ (lab' b).shared) :
    ∀ {τ : Ty} {p p' : List Nat} {cs : List Value} {x : τ.T}, Rd H lab τ.shr p cs τ x → Rd H' lab' τ.shr p' cs τ x := by
  intro τ
  induction τ with
  | pair a b iha ihb => intro p p' cs x h; simp only [Ty.shr, Rd] at h ⊢; exact ⟨iha h.1, ihb h.2⟩
  | slice e ih =>
    intro p p' cs x h
    simp only [Ty.shr, Rd] at h ⊢
    obtain ⟨ad, cap, rfl, h⟩ := h
    refine ⟨ad, cap, rfl, ?_⟩
    cases ad with
    | none => exact h
    | some q =>
      rcases h with h | h
      · exact .inl h
      refine .inr ?_
      obtain ⟨h1, hm, hl, c, ty, fr, hb, hsz, hfr, hel⟩ := h
      have key := hs _ _ hb hm
      exact ⟨h1, key.2, hl, c, ty, fr, key.1, hsz, by simp, fun i hi => ih (hel i hi)⟩
  | _ => intro p p' cs x h; simpa [Ty.shr, Rd] using h

theorem Touch.num (T : Touch F F' clk clk' D) {i : Nat} {n : Nat} (hi : ¬ D i) (h : F.num i n) : F'.num i n := by
  obtain ⟨kd, z, h1, h2⟩ := h
  exact ⟨kd, z, by rw [T.env _ hi]; exact h1, h2⟩

theorem Touch.elemAt (T : Touch F F' clk clk' D) {k : Nat} {n b off : Nat} {e : Ty} (hk : ¬ D k) (h : F.elemAt k n b off e) : F'.elemAt k n b off e := by
  obtain ⟨o, len, cap, xs, h1, h2, h3, h4⟩ := h
  exact ⟨o, len, cap, xs, T.cell hk h1, by rw [T.env _ hk]; exact h2, h3, h4⟩

/-- A reference with the right version leads to something untouched. -/
theorem Touch.fresh (T : Touch F F' clk clk' D) {k kv : Nat} (hlt : clk kv) (hv : (F'.G k).ver = kv) : ¬ D k ∧ (F.G k).ver = kv := by
  have : ¬ D k := fun hD => T.ver k hD (by rw [hv]; exact hlt)
  exact ⟨this, by rw [← T.ent k this]; exact hv⟩

/-- The block of what a key owns. -/
theorem Rd.block {H : Array Obj} {lab : Nat → Lab} {m : M} {pos : List Nat} {a : Option Addr} {len cap : Nat} {e : Ty} {xs : List e.T}
    (h : Rd H lab (.sl .own m) pos [.slice a len cap] (.slice e) xs) :
    len = xs.length ∧ ((xs = [] ∧ cap = 0) ∨ (len ≤ cap ∧ ∃ b o c ty, a = some ⟨b, o, none⟩ ∧ lab b = .own pos ∧ H[b]? = some (.cells c ty (0, 0)) ∧ o + cap * e.n ≤ c.size ∧
      ∀ i (h : i < xs.length), Rd H lab m (pos ++ [i]) (cut c (o + i * e.n) e.n) e xs[i])) := by
  simp only [Rd] at h
  obtain ⟨ad, cap', he, h⟩ := h
  simp at he
  obtain ⟨rfl, rfl, rfl⟩ := he
  refine ⟨rfl, ?_⟩
  cases a with
  | none => exact .inl h
  | some p =>
    rcases h with h | ⟨hs, hm, hl, c, ty, fr, hb, hsz, hfr, hel⟩
    · exact .inl h
    · have := hfr trivial
      subst this
      obtain ⟨b, o, s⟩ := p
      simp only at hs
      subst hs
      exact .inr ⟨hl, b, o, c, ty, rfl, hm, hb, hsz, hel⟩

theorem Touch.leaf (T : Touch F F' clk clk' D) (hold : ∀ k, (F.G k).st.older clk) (hS : ∀ s, SlotOk F s) {k : Nat} {v : Value} (hk : ¬ D k) (h15 : k % 16 ≠ 15)
    (h : LeafOk F k (F.G k).st v) : LeafOk F' k (F'.G k).st v := by
  rw [T.ent k hk]
  have ho := hold k
  cases hst : (F.G k).st <;> rw [hst] at h ho <;> simp only [LeafOk] at h ⊢
  case va => rw [T.env k hk]; exact h.shared T.shr
  case em => rw [T.env k hk]; exact h
  case ro m org => rw [T.env k hk, T.org]; exact ⟨h.1.carry (T.carry hk h15), h.2⟩
  case rf k2 kv =>
    intro hv
    obtain ⟨h2, hv2⟩ := T.fresh ho hv
    obtain ⟨h3, h4⟩ := h hv2
    exact ⟨T.cell h2 h3, by rw [T.env k hk, T.env k2 h2]; exact h4⟩
  case ef k2 kv i iv off =>
    intro hv hi
    obtain ⟨h2, hv2⟩ := T.fresh ho.1 hv
    obtain ⟨h3, hi2⟩ := T.fresh ho.2 hi
    obtain ⟨h15', n, b, o, e, c, ty, hn, he, hlab, hH, hc, xs, x, hx, hg, hf⟩ := h hv2 hi2
    have hb := T.own b _ k2 [] hH hlab h15' h2
    exact ⟨h15', n, b, o, e, c, ty, T.num h3 hn, T.elemAt h2 he, hb.2, hb.1, hc, xs, x, by rw [T.env k2 h2]; exact hx, hg, by rw [T.env k hk]; exact hf⟩

theorem Touch.holds (T : Touch F F' clk clk' D) {ch : List (Nat × Bool)} (h : ∀ c ∈ ch, ¬ D c.1) : holds F'.env ch = holds F.env ch := by
  unfold Lf.holds
  induction ch with
  | nil => rfl
  | cons c ch ih =>
    simp only [List.all_cons]
    rw [T.env _ (h c (by simp)), ih (fun c hc => h c (by simp [hc]))]

/-- The claim on a slot that is touched nowhere. -/
theorem Touch.claim (T : Touch F F' clk clk' D) (hold : ∀ k, (F.G k).st.older clk) (hS : ∀ s, SlotOk F s) {s : Nat} (hs : ¬ D (sk s)) (hl : ∀ j, j < 15 → ¬ D (lk s j))
    (h : Claim F s (F.G (sk s)).st) : Claim F' s (F'.G (sk s)).st := by
  rw [T.ent _ hs]
  have ho := hold (sk s)
  have hV := T.tmp s hs
  have hcells : ∀ cs, F.has s cs → (∀ j v, cs[j]? = some v → LeafOk F (lk s j) (F.G (lk s j)).st v) →
      ∃ cs, F'.has s cs ∧ ∀ j v, cs[j]? = some v → LeafOk F' (lk s j) (F'.G (lk s j)).st v := by
    intro cs hh hlf
    obtain ⟨cs', h1, h2, h3⟩ := T.has hs hh
    refine ⟨cs', h1, fun j v hv => ?_⟩
    have hj : j < cs'.length := (List.getElem?_eq_some_iff.1 hv).1
    have hj15 : j < 15 := by have := h1.2; have := hh.2; rcases Nat.lt_or_ge j 15 with h | h; exact h; omega
    exact T.leaf hold hS (hl j hj15) (by rw [lk_mod (by omega)]; omega) (hlf j v (by rw [← h3 j (hl j hj15)]; exact hv))
  cases hst : (F.G (sk s)).st <;> rw [hst] at h ho <;> simp only [Claim] at h ⊢
  case al s2 sv off =>
    intro hv
    obtain ⟨h2, hv2⟩ := T.fresh ho hv
    obtain ⟨b, h3, h4⟩ := h hv2
    exact ⟨b, by rw [T.tmp s2 h2]; exact h3, by rw [hV]; exact h4⟩
  case ea k2 kv i iv off =>
    intro hv hi
    obtain ⟨h2, hv2⟩ := T.fresh ho.1 hv
    obtain ⟨h3, hi2⟩ := T.fresh ho.2 hi
    obtain ⟨n, b, o, e, hn, he, hx⟩ := h hv2 hi2
    exact ⟨n, b, o, e, T.num h3 hn, T.elemAt h2 he, by rw [hV]; exact hx⟩
  case cl f caps =>
    obtain ⟨ps, h1, h2, h3⟩ := h
    refine ⟨ps, by rw [hV]; exact h1, h2, fun i c hc hv => ?_⟩
    have hlt := ho c (List.mem_of_getElem? hc)
    obtain ⟨h4, hv2⟩ := T.fresh hlt hv
    rw [T.tmp _ h4]; exact h3 i c hc hv2
  all_goals (obtain ⟨cs, hh, hlf⟩ := h; exact hcells cs hh hlf)

theorem St.touch (h : St F clk) (T : Touch F F' clk clk' D)
    (new : ∀ s, (D (sk s) ∨ ∃ j, j < 15 ∧ D (lk s j)) → SlotOk F' s) : St F' clk' where
  slots s := by
    by_cases hD : D (sk s) ∨ ∃ j, j < 15 ∧ D (lk s j)
    · exact new s hD
    · have hs : ¬ D (sk s) := fun h => hD (.inl h)
      have hl : ∀ j, j < 15 → ¬ D (lk s j) := fun j hj h => hD (.inr ⟨j, hj, h⟩)
      have := h.slots s
      unfold SlotOk at this ⊢
      rw [T.ent _ hs, T.holds (T.chn s hs), T.tmp s hs]
      split
      · rename_i hh; rw [if_pos hh] at this; have := T.claim h.refs h.slots hs hl this; rwa [T.ent _ hs] at this
      · rename_i hh; rw [if_neg hh] at this; exact this
  refs k := by
    by_cases hk : D k
    · exact (T.old k hk).1
    · rw [T.ent k hk]; exact ES.older_mono T.le (h.refs k)
  vers k := by
    by_cases hk : D k
    · exact (T.old k hk).2
    · rw [T.ent k hk]; exact T.le _ (h.vers k)
  labs := T.lab

/-- A slot whose own key is not touched, though some of its leaves are. -/
theorem Touch.slotLeaf (T : Touch F F' clk clk' D) (h : St F clk) {s : Nat} (hs : ¬ D (sk s))
    (new : ∀ cs' j v, F'.has s cs' → cs'[j]? = some v → D (lk s j) → LeafOk F' (lk s j) (F'.G (lk s j)).st v) : SlotOk F' s := by
  by_cases hl : ∀ j, j < 15 → ¬ D (lk s j)
  · have := h.slots s
    unfold SlotOk at this ⊢
    rw [T.ent _ hs, T.holds (T.chn s hs), T.tmp s hs]
    split
    · rename_i hh; rw [if_pos hh] at this; have := T.claim h.refs h.slots hs hl this; rwa [T.ent _ hs] at this
    · rename_i hh; rw [if_neg hh] at this; exact this
  · have h0 := h.slots s
    unfold SlotOk at h0 ⊢
    rw [T.ent _ hs, T.holds (T.chn s hs), T.tmp s hs]
    split
    · rename_i hh
      rw [if_pos hh] at h0
      have ho := h.refs (sk s)
      have hV := T.tmp s hs
      have hcells : ∀ cs, F.has s cs → (∀ j v, cs[j]? = some v → LeafOk F (lk s j) (F.G (lk s j)).st v) →
          ∃ cs, F'.has s cs ∧ ∀ j v, cs[j]? = some v → LeafOk F' (lk s j) (F'.G (lk s j)).st v := by
        intro cs hh hlf
        obtain ⟨cs', h1, h2, h3⟩ := T.has hs hh
        refine ⟨cs', h1, fun j v hv => ?_⟩
        have hj : j < cs'.length := (List.getElem?_eq_some_iff.1 hv).1
        have hj15 : j < 15 := by have := h1.2; have := hh.2; rcases Nat.lt_or_ge j 15 with h | h; exact h; omega
        by_cases hD : D (lk s j)
        · exact new cs' j v h1 hv hD
        · exact T.leaf h.refs h.slots hD (by rw [lk_mod (by omega)]; omega) (hlf j v (by rw [← h3 j hD]; exact hv))
      cases hst : (F.G (sk s)).st <;> rw [hst] at h0 ho <;> simp only [Claim] at h0 ⊢
      case al s2 sv off =>
        intro hv
        obtain ⟨h2, hv2⟩ := T.fresh ho hv
        obtain ⟨b, h3, h4⟩ := h0 hv2
        exact ⟨b, by rw [T.tmp s2 h2]; exact h3, by rw [hV]; exact h4⟩
      case ea k2 kv i iv off =>
        intro hv hi
        obtain ⟨h2, hv2⟩ := T.fresh ho.1 hv
        obtain ⟨h3, hi2⟩ := T.fresh ho.2 hi
        obtain ⟨n, b, o, e, hn, he, hx⟩ := h0 hv2 hi2
        exact ⟨n, b, o, e, T.num h3 hn, T.elemAt h2 he, by rw [hV]; exact hx⟩
      case cl f caps =>
        obtain ⟨ps, h1, h2, h3⟩ := h0
        refine ⟨ps, by rw [hV]; exact h1, h2, fun i c hc hv => ?_⟩
        have hlt := ho c (List.mem_of_getElem? hc)
        obtain ⟨h4, hv2⟩ := T.fresh hlt hv
        rw [T.tmp _ h4]; exact h3 i c hc hv2
      all_goals (obtain ⟨cs, hh, hlf⟩ := h0; exact hcells cs hh hlf)
    · rename_i hh; rw [if_neg hh] at h0; exact h0

theorem PasOk.len {H : Array Obj} {lab : Nat → Lab} : ∀ {Vs : List Value} {ns : List Nat} {cs : List Value}, PasOk H lab Vs ns cs → cs.length = ns.foldl (· + ·) 0 := by
  have key : ∀ (ns : List Nat) (Vs : List Value) (cs : List Value) (a : Nat), PasOk H lab Vs ns cs → a + cs.length = ns.foldl (· + ·) a := by
    intro ns
    induction ns with
    | nil => intro Vs cs a h; cases Vs <;> simp [PasOk] at h; subst h; simp
    | cons n ns ih =>
      intro Vs cs a h
      cases Vs with
      | nil => exact h.elim
      | cons V Vs =>
        obtain ⟨c1, c2, rfl, h1, h2⟩ := h
        obtain ⟨b, off, c, ty, fr, _, _, _, hz, rfl⟩ := h1
        simp only [List.foldl_cons, List.length_append, cut_length hz]
        rw [← ih Vs c2 (a + n) h2]; omega
  intro Vs ns cs h
  have := key ns Vs cs 0 h
  omega

theorem PartsOk.len : ∀ {Vs : List Value} {ps : List (Nat × Bool)} {cs : List Value}, PartsOk Vs ps cs → cs.length = ps.foldl (fun a p => a + p.1) 0 := by
  have key : ∀ (ps : List (Nat × Bool)) (Vs : List Value) (cs : List Value) (a : Nat), PartsOk Vs ps cs → a + cs.length = ps.foldl (fun a p => a + p.1) a := by
    intro ps
    induction ps with
    | nil => intro Vs cs a h; cases Vs <;> simp [PartsOk] at h; subst h; simp
    | cons p ps ih =>
      intro Vs cs a h
      obtain ⟨n, agg⟩ := p
      cases Vs with
      | nil => exact h.elim
      | cons V Vs =>
        obtain ⟨c1, c2, rfl, h1, _, _, h2⟩ := h
        simp only [List.foldl_cons, List.length_append, h1]
        rw [← ih Vs c2 (a + n) h2]; omega
  intro Vs ns cs h
  have := key ns Vs cs 0 h
  omega


end
end Go.Lf

/- The small pure language that a function's code is compiled to, and what it computes. -/
namespace Go.Lf

inductive Cst where
  | int (k : IntKind) (n : Int) | bool (b : Bool) | str (s : ByteArray) | nil (e : Ty)
  deriving DecidableEq, Inhabited

def Cst.dyn : Cst → Dyn
  | .int k n => ⟨.int k, n⟩
  | .bool b => ⟨.bool, b⟩
  | .str s => ⟨.str, s⟩
  | .nil e => ⟨.slice e, []⟩

def Cst.val : Cst → Value
  | .int k n => .int k n
  | .bool b => .bool b
  | .str s => .string s
  | .nil _ => .slice none 0 0

/-- An operand: a key or a constant. -/
inductive Od where
  | k (n : Nat) | c (v : Cst)
  deriving DecidableEq, Inhabited

def Od.rd (env : Env) : Od → Dyn
  | .k n => env n
  | .c v => v.dyn

def Od.keys : Od → List Nat
  | .k n => [n]
  | .c _ => []

/-- Slices that are built stay below this length. -/
def room : Nat := 68719476736   -- 2 ^ 36

inductive I where
  | cp (d : Nat) (x : Od)
  | bin (op : BinOp) (d : Nat) (x y : Od)
  | beq (neg : Bool) (d : Nat) (x y : Od)
  | not (d : Nat) (x : Od)
  | neg (d : Nat) (x : Od)
  | conv (k : IntKind) (d : Nat) (x : Od)
  | pick (d : Nat) (c a b : Od)
  | mnx (big : Bool) (d : Nat) (x y : Od)
  | len (str : Bool) (d : Nat) (x : Od)
  | idx (e : Option Ty) (ds : List Nat) (off : Nat) (c : Od) (i : Od)
  | chk (e : Ty) (c i : Od)
  | app (e : Ty) (d : Nat) (x y : Od)
  | lst (d : Nat) (e : Ty) (rows : List (List Od))
  | mk (d : Nat) (e : Ty) (n : Od)
  | sub (e : Ty) (d : Nat) (x : Od) (lo hi : Option Od)
  | setE (d : Nat) (i : Od) (off : Nat) (ts : List Ty) (src : List Od)
  | call (f : Nat) (args : List (Ty × List Od)) (outs : List (List Nat))
  deriving DecidableEq, Inhabited

def binD (op : BinOp) : Dyn → Dyn → Option Dyn
  | ⟨.int k, x⟩, ⟨.int k', y⟩ =>
    match op with
    | .shl => if k' = .i64 ∧ 0 ≤ y then some ⟨.int k, k.wrap (x * 2 ^ (min y.toNat k.bits))⟩ else none
    | .shr => if k' = .i64 ∧ 0 ≤ y then some ⟨.int k, x.fdiv (2 ^ (min y.toNat k.bits))⟩ else none
    | _ =>
    if k = k' then
      match op with
      | .add => some ⟨.int k, k.wrap (x + y)⟩
      | .sub => some ⟨.int k, k.wrap (x - y)⟩
      | .mul => some ⟨.int k, k.wrap (x * y)⟩
      | .quo => if y = 0 then none else some ⟨.int k, k.wrap (x.tdiv y)⟩
      | .rem => if y = 0 then none else some ⟨.int k, x.tmod y⟩
      | .and => some ⟨.int k, k.wrap (BitVec.ofInt k.bits x &&& BitVec.ofInt k.bits y).toNat⟩
      | .or => some ⟨.int k, k.wrap (BitVec.ofInt k.bits x ||| BitVec.ofInt k.bits y).toNat⟩
      | .xor => some ⟨.int k, k.wrap (BitVec.ofInt k.bits x ^^^ BitVec.ofInt k.bits y).toNat⟩
      | .eql => some ⟨.bool, x == y⟩
      | .neq => some ⟨.bool, x != y⟩
      | .lss => some ⟨.bool, decide (x < y)⟩
      | .leq => some ⟨.bool, decide (x ≤ y)⟩
      | .gtr => some ⟨.bool, decide (x > y)⟩
      | .geq => some ⟨.bool, decide (x ≥ y)⟩
      | _ => none
    else none
  | ⟨.str, x⟩, ⟨.str, y⟩ =>
    match op with
    | .add => if x.size + y.size < room then some ⟨.str, x ++ y⟩ else none
    | .eql => some ⟨.bool, x.toList == y.toList⟩
    | .neq => some ⟨.bool, !(x.toList == y.toList)⟩
    | _ => none
  | _, _ => none

def beqD (neg : Bool) : Dyn → Dyn → Option Dyn
  | ⟨.bool, x⟩, ⟨.bool, y⟩ => some ⟨.bool, match neg with | true => !(x == y) | false => x == y⟩
  | _, _ => none

def notD : Dyn → Option Dyn
  | ⟨.bool, x⟩ => some ⟨.bool, !x⟩
  | _ => none

def negD : Dyn → Option Dyn
  | ⟨.int k, x⟩ => some ⟨.int k, k.wrap (0 - x)⟩
  | _ => none

def convD (k : IntKind) : Dyn → Option Dyn
  | ⟨.int _, x⟩ => some ⟨.int k, k.wrap x⟩
  | _ => none

def pickD : Dyn → Dyn → Dyn → Option Dyn
  | ⟨.bool, c⟩, a, b => some (match c with | true => a | false => b)
  | _, _, _ => none

def mnxD (big : Bool) : Dyn → Dyn → Option Dyn
  | ⟨.int k, x⟩, ⟨.int k', y⟩ => if k = k' then some ⟨.int k, if big then (if x < y then y else x) else (if y < x then y else x)⟩ else none
  | _, _ => none

def lenD (str : Bool) : Dyn → Option Dyn
  | ⟨.slice _, l⟩ => match str with | false => some ⟨.int .i64, (l.length : Int)⟩ | true => none
  | ⟨.str, s⟩ => match str with | true => some ⟨.int .i64, (s.size : Int)⟩ | false => none
  | _ => none

/-- The element at an index. -/
def atD (t : Option Ty) : Dyn → Dyn → Option Dyn
  | ⟨.slice e, l⟩, ⟨.int _, i⟩ =>
    if t = none ∨ t = some e then
      if 0 ≤ i then
        match l[i.toNat]? with
        | some x => some ⟨e, x⟩
        | none => none
      else none
    else none
  | _, _ => none

def appD (t : Ty) : Dyn → Dyn → Option Dyn
  | ⟨.slice e, x⟩, ⟨.slice e', y⟩ => if h : e = t then (if h' : e' = t then (if x.length + y.length < room then some ⟨.slice t, (h ▸ x : List t.T) ++ (h' ▸ y : List t.T)⟩ else none) else none) else none
  | _, _ => none

/-- A datum out of its leaves. -/
def unflat : (τ : Ty) → List Dyn → Option (τ.T × List Dyn)
  | .pair a b, l =>
    match unflat a l with
    | some (x, l1) =>
      match unflat b l1 with
      | some (y, l2) => some ((x, y), l2)
      | none => none
    | none => none
  | .int k, d :: l => if h : d.τ = .int k then some (h ▸ d.v, l) else none
  | .bool, d :: l => if h : d.τ = .bool then some (h ▸ d.v, l) else none
  | .str, d :: l => if h : d.τ = .str then some (h ▸ d.v, l) else none
  | .slice e, d :: l => if h : d.τ = .slice e then some (h ▸ d.v, l) else none
  | _, [] => none

def build (τ : Ty) (l : List Dyn) : Option τ.T :=
  match unflat τ l with
  | some (x, []) => some x
  | _ => none

def rowsD (e : Ty) (env : Env) : List (List Od) → Option (List e.T)
  | [] => some []
  | r :: rs =>
    match build e (r.map (Od.rd env)) with
    | some x =>
      match rowsD e env rs with
      | some xs => some (x :: xs)
      | none => none
    | none => none

/-- The zero datum of a type. -/
def Ty.zero : (τ : Ty) → τ.T
  | .int _ => (0 : Int)
  | .bool => false
  | .str => ByteArray.empty
  | .pair a b => (a.zero, b.zero)
  | .slice _ => []

def mkD (e : Ty) : Dyn → Option Dyn
  | ⟨.int _, n⟩ => if 0 ≤ n ∧ n < (room : Int) then some ⟨.slice e, List.replicate n.toNat e.zero⟩ else none
  | _ => none

def subD (t : Ty) (lo hi : Option Dyn) : Dyn → Option Dyn
  | ⟨.slice e, l⟩ =>
    if e = t then
    let h : Option Nat := match hi with
      | none => some l.length
      | some ⟨.int _, z⟩ => if 0 ≤ z ∧ z ≤ (l.length : Int) then some z.toNat else none
      | _ => none
    match h with
    | none => none
    | some h =>
      match lo with
      | none => some ⟨.slice e, l.take h⟩
      | some ⟨.int _, z⟩ => if 0 ≤ z ∧ z ≤ (h : Int) then some ⟨.slice e, (l.take h).drop z.toNat⟩ else none
      | _ => none
    else none
  | _ => none

/-- A datum with some of its leaves replaced. -/
def patch (off : Nat) (new : List Dyn) (l : List Dyn) : List Dyn := l.take off ++ new ++ l.drop (off + new.length)

def setD (off : Nat) (ts : List Ty) (new : List Dyn) : Dyn → Dyn → Option Dyn
  | ⟨.slice e, l⟩, ⟨.int _, i⟩ =>
    if 0 ≤ i ∧ new.map Dyn.τ = ts then
      match l[i.toNat]? with
      | some x =>
        match build e (patch off new (flat e x)) with
        | some y => some ⟨.slice e, l.set i.toNat y⟩
        | none => none
      | none => none
    else none
  | _, _ => none

def argsD (env : Env) : List (Ty × List Od) → Option (List Dyn)
  | [] => some []
  | (τ, ks) :: r =>
    match build τ (ks.map (Od.rd env)) with
    | some x =>
      match argsD env r with
      | some xs => some (⟨τ, x⟩ :: xs)
      | none => none
    | none => none

/-- Leaves into keys; none where the numbers differ. -/
def Env.puts (env : Env) : List Nat → List Dyn → Option Env
  | [], [] => some env
  | k :: ks, d :: ds => (env.set k d).puts ks ds
  | _, _ => none

def Env.outs (env : Env) : List (List Nat) → List Dyn → Option Env
  | [], [] => some env
  | ks :: r, d :: ds =>
    match env.puts ks (flat d.τ d.v) with
    | some e => e.outs r ds
    | none => none
  | _, _ => none

def set1 (env : Env) (d : Nat) : Option Dyn → Option Env
  | some x => some (env.set d x)
  | none => none

/-- One instruction; D: what the functions that may be called compute. -/
def I.den (D : Nat → List Dyn → Option (List Dyn)) (env : Env) : I → Option Env
  | .cp d x => some (env.set d (x.rd env))
  | .bin op d x y => set1 env d (binD op (x.rd env) (y.rd env))
  | .beq ng d x y => set1 env d (beqD ng (x.rd env) (y.rd env))
  | .not d x => set1 env d (notD (x.rd env))
  | .neg d x => set1 env d (negD (x.rd env))
  | .conv k d x => set1 env d (convD k (x.rd env))
  | .pick d c a b => set1 env d (pickD (c.rd env) (a.rd env) (b.rd env))
  | .mnx big d x y => set1 env d (mnxD big (x.rd env) (y.rd env))
  | .len s d x => set1 env d (lenD s (x.rd env))
  | .idx e ds off c i =>
    match atD e (c.rd env) (i.rd env) with
    | some x => env.puts ds (((flat x.τ x.v).drop off).take ds.length)
    | none => none
  | .chk e c i =>
    match atD (some e) (c.rd env) (i.rd env) with
    | some _ => some env
    | none => none
  | .app e d x y => set1 env d (appD e (x.rd env) (y.rd env))
  | .lst d e rows =>
    match rowsD e env rows with
    | some l => some (env.set d ⟨.slice e, l⟩)
    | none => none
  | .mk d e n => set1 env d (mkD e (n.rd env))
  | .sub e d x lo hi => set1 env d (subD e (lo.map (Od.rd env)) (hi.map (Od.rd env)) (x.rd env))
  | .setE d i off ts src => set1 env d (setD off ts (src.map (Od.rd env)) (env d) (i.rd env))
  | .call f args outs =>
    match argsD env args with
    | some l =>
      match D f l with
      | some r => env.outs outs r
      | none => none
    | none => none

def I.dens (D : Nat → List Dyn → Option (List Dyn)) (env : Env) : List I → Option Env
  | [] => some env
  | i :: is =>
    match i.den D env with
    | some e => I.dens D e is
    | none => none

def I.reads : I → List Nat
  | .cp _ x | .not _ x | .neg _ x | .conv _ _ x | .len _ _ x | .mk _ _ x => x.keys
  | .bin _ _ x y | .beq _ _ x y | .mnx _ _ x y | .chk _ x y | .app _ _ x y => x.keys ++ y.keys
  | .idx _ _ _ x y => x.keys ++ y.keys
  | .pick _ c a b => c.keys ++ a.keys ++ b.keys
  | .lst _ _ rows => rows.flatMap (·.flatMap Od.keys)
  | .sub _ _ x lo hi => x.keys ++ (lo.map Od.keys).getD [] ++ (hi.map Od.keys).getD []
  | .setE d i _ _ src => d :: i.keys ++ src.flatMap Od.keys
  | .call _ args _ => args.flatMap fun a => a.2.flatMap Od.keys

def I.writes : I → List Nat
  | .cp d _ | .not d _ | .neg d _ | .conv _ d _ | .len _ d _ | .mk d _ _ | .bin _ d _ _ | .beq _ d _ _ | .mnx _ d _ _ | .app _ d _ _ | .pick d _ _ _ | .lst d _ _ | .sub _ d _ _ _ | .setE d _ _ _ _ => [d]
  | .idx _ ds _ _ _ => ds
  | .chk _ _ _ => []
  | .call _ _ outs => outs.flatten

theorem Od.rd_congr {env env' : Env} {x : Od} (h : ∀ k ∈ x.keys, env k = env' k) : x.rd env = x.rd env' := by
  cases x with
  | k n => exact h n (by simp [Od.keys])
  | c v => rfl

theorem map_rd_congr {env env' : Env} {l : List Od} (h : ∀ k ∈ l.flatMap Od.keys, env k = env' k) : l.map (Od.rd env) = l.map (Od.rd env') := by
  induction l with
  | nil => rfl
  | cons x l ih =>
    simp only [List.map_cons]
    rw [Od.rd_congr (x := x) (fun k hk => h k (by simp [hk])), ih (fun k hk => h k (by simp only [List.flatMap_cons, List.mem_append]; exact .inr hk))]

/-- Two environments that agree on l. -/
def Env.eqOn (env env' : Env) (l : List Nat) : Prop := ∀ k ∈ l, env k = env' k

/-- What an instruction gives: the same values into the same keys. -/
def Eff (ws : List Nat) (env env' : Env) (r r' : Option Env) : Prop :=
  match r, r' with
  | some e, some e' => (∀ k, k ∉ ws → e k = env k) ∧ (∀ k, k ∉ ws → e' k = env' k) ∧ ∀ k ∈ ws, e k = e' k
  | none, none => True
  | _, _ => False

theorem Eff.set1 {env env' : Env} {d : Nat} {x x' : Option Dyn} (h : x = x') : Eff [d] env env' (Lf.set1 env d x) (Lf.set1 env' d x') := by
  subst h
  cases x with
  | none => trivial
  | some x =>
    refine ⟨fun k hk => Env.set_ne _ _ (by simpa using hk), fun k hk => Env.set_ne _ _ (by simpa using hk), fun k hk => ?_⟩
    obtain rfl : k = d := by simpa using hk
    simp [Env.set_same]

theorem Eff.puts : ∀ (ks : List Nat) (ds : List Dyn) (env env' : Env), Eff ks env env' (env.puts ks ds) (env'.puts ks ds) := by
  intro ks
  induction ks with
  | nil => intro ds env env'; cases ds <;> simp [Env.puts, Eff]
  | cons k ks ih =>
    intro ds env env'
    cases ds with
    | nil => simp [Env.puts, Eff]
    | cons d ds =>
      simp only [Env.puts]
      have := ih ds (env.set k d) (env'.set k d)
      revert this
      cases (env.set k d).puts ks ds <;> cases (env'.set k d).puts ks ds <;> simp only [Eff] <;> intro h
      · trivial
      · exact h
      · exact h
      · obtain ⟨h1, h2, h3⟩ := h
        refine ⟨fun j hj => ?_, fun j hj => ?_, fun j hj => ?_⟩
        · simp at hj; rw [h1 j hj.2, Env.set_ne _ _ hj.1]
        · simp at hj; rw [h2 j hj.2, Env.set_ne _ _ hj.1]
        · by_cases hk : j ∈ ks
          · exact h3 j hk
          · obtain rfl : j = k := by simpa [hk] using hj
            rw [h1 j hk, h2 j hk, Env.set_same, Env.set_same]

theorem Eff.outs : ∀ (ks : List (List Nat)) (ds : List Dyn) (env env' : Env), Eff ks.flatten env env' (env.outs ks ds) (env'.outs ks ds) := by
  intro ks
  induction ks with
  | nil => intro ds env env'; cases ds <;> simp [Env.outs, Eff]
  | cons k ks ih =>
    intro ds env env'
    cases ds with
    | nil => simp [Env.outs, Eff]
    | cons d ds =>
      simp only [Env.outs]
      have h0 := Eff.puts k (flat d.τ d.v) env env'
      revert h0
      cases env.puts k (flat d.τ d.v) with
      | none => cases env'.puts k (flat d.τ d.v) <;> simp [Eff]
      | some e =>
        cases env'.puts k (flat d.τ d.v) with
        | none => simp [Eff]
        | some e' =>
          intro h0
          obtain ⟨a1, a2, a3⟩ := h0
          have := ih ds e e'
          revert this
          simp only []
          cases e.outs ks ds <;> cases e'.outs ks ds <;> simp only [Eff] <;> intro h
          · trivial
          · exact h
          · exact h
          · obtain ⟨h1, h2, h3⟩ := h
            refine ⟨fun j hj => ?_, fun j hj => ?_, fun j hj => ?_⟩
            · simp only [List.flatten_cons, List.mem_append, not_or] at hj; rw [h1 j hj.2, a1 j hj.1]
            · simp only [List.flatten_cons, List.mem_append, not_or] at hj; rw [h2 j hj.2, a2 j hj.1]
            · by_cases hk : j ∈ ks.flatten
              · exact h3 j hk
              · have : j ∈ k := by simp only [List.flatten_cons, List.mem_append] at hj; exact hj.resolve_right hk
                rw [h1 j hk, h2 j hk, a3 j this]

theorem rowsD_congr {e : Ty} {env env' : Env} {rows : List (List Od)} (h : ∀ k ∈ rows.flatMap (·.flatMap Od.keys), env k = env' k) : rowsD e env rows = rowsD e env' rows := by
  induction rows with
  | nil => rfl
  | cons r rs ih =>
    simp only [rowsD]
    rw [map_rd_congr (l := r) (fun k hk => h k (by simp only [List.flatMap_cons, List.mem_append]; exact .inl hk)),
      ih (fun k hk => h k (by simp only [List.flatMap_cons, List.mem_append]; exact .inr hk))]

theorem argsD_congr {env env' : Env} {l : List (Ty × List Od)} (h : ∀ k ∈ l.flatMap (fun a => a.2.flatMap Od.keys), env k = env' k) : argsD env l = argsD env' l := by
  induction l with
  | nil => rfl
  | cons r rs ih =>
    simp only [argsD]
    rw [map_rd_congr (l := r.2) (fun k hk => h k (by simp only [List.flatMap_cons, List.mem_append]; exact .inl hk)),
      ih (fun k hk => h k (by simp only [List.flatMap_cons, List.mem_append]; exact .inr hk))]

/-- An instruction looks at what it reads, and changes what it writes. -/
theorem I.local (D : Nat → List Dyn → Option (List Dyn)) (i : I) {env env' : Env} (h : ∀ k ∈ i.reads, env k = env' k) :
    Eff i.writes env env' (i.den D env) (i.den D env') := by
  cases i <;> simp only [I.reads, I.writes, I.den, List.mem_append, List.mem_cons] at h ⊢
  case cp d x => exact Eff.set1 (x := some (x.rd env)) (x' := some (x.rd env')) (by rw [Od.rd_congr h])
  case bin op d x y => exact Eff.set1 (by rw [Od.rd_congr (x := x) fun k hk => h k (.inl hk), Od.rd_congr (x := y) fun k hk => h k (.inr hk)])
  case beq ng d x y => exact Eff.set1 (by rw [Od.rd_congr (x := x) fun k hk => h k (.inl hk), Od.rd_congr (x := y) fun k hk => h k (.inr hk)])
  case not d x => exact Eff.set1 (by rw [Od.rd_congr h])
  case neg d x => exact Eff.set1 (by rw [Od.rd_congr h])
  case conv k d x => exact Eff.set1 (by rw [Od.rd_congr h])
  case pick d c a b => exact Eff.set1 (by rw [Od.rd_congr (x := c) fun k hk => h k (.inl (.inl hk)), Od.rd_congr (x := a) fun k hk => h k (.inl (.inr hk)), Od.rd_congr (x := b) fun k hk => h k (.inr hk)])
  case mnx big d x y => exact Eff.set1 (by rw [Od.rd_congr (x := x) fun k hk => h k (.inl hk), Od.rd_congr (x := y) fun k hk => h k (.inr hk)])
  case len s d x => exact Eff.set1 (by rw [Od.rd_congr h])
  case idx e ds off c i =>
    rw [Od.rd_congr (x := c) fun k hk => h k (.inl hk), Od.rd_congr (x := i) fun k hk => h k (.inr hk)]
    split
    · exact Eff.puts _ _ _ _
    · trivial
  case chk e c i =>
    rw [Od.rd_congr (x := c) fun k hk => h k (.inl hk), Od.rd_congr (x := i) fun k hk => h k (.inr hk)]
    split
    · exact ⟨fun _ _ => rfl, fun _ _ => rfl, fun _ hk => by simp at hk⟩
    · trivial
  case app e d x y => exact Eff.set1 (by rw [Od.rd_congr (x := x) fun k hk => h k (.inl hk), Od.rd_congr (x := y) fun k hk => h k (.inr hk)])
  case lst d e rows =>
    rw [rowsD_congr h]
    cases rowsD e env' rows with
    | none => trivial
    | some l => exact Eff.set1 (x := some _) rfl
  case mk d e n => exact Eff.set1 (by rw [Od.rd_congr h])
  case sub e d x lo hi =>
    refine Eff.set1 ?_
    have h1 := Od.rd_congr (x := x) fun k hk => h k (.inl (.inl hk))
    have h2 : lo.map (Od.rd env) = lo.map (Od.rd env') := by
      cases lo with
      | none => rfl
      | some l => simp only [Option.map_some, Option.some.injEq]; exact Od.rd_congr fun k hk => h k (.inl (.inr (by simpa using hk)))
    have h3 : hi.map (Od.rd env) = hi.map (Od.rd env') := by
      cases hi with
      | none => rfl
      | some l => simp only [Option.map_some, Option.some.injEq]; exact Od.rd_congr fun k hk => h k (.inr (by simpa using hk))
    rw [h1, h2, h3]
  case setE d i off ts src =>
    refine Eff.set1 ?_
    rw [map_rd_congr (l := src) fun k hk => h k (.inr hk), Od.rd_congr (x := i) fun k hk => h k (.inl (.inr hk)), h d (.inl (.inl rfl))]
  case call f args outs =>
    rw [argsD_congr h]
    cases argsD env' args with
    | none => trivial
    | some l =>
      simp only []
      cases D f l with
      | none => trivial
      | some r => exact Eff.outs _ _ _ _

end Go.Lf

/- Compiling one operation: what becomes of the entries, and which instructions compute the data. -/
namespace Go.Lf

/-- A computation that looks entries up. -/
inductive Q (α : Type) where
  | ret (a : α)
  | fail
  | look (k : Nat) (f : Ent → Q α)

namespace Q
def bind {α β : Type} : Q α → (α → Q β) → Q β
  | .ret a, g => g a
  | .fail, _ => .fail
  | .look k f, g => .look k fun e => (f e).bind g
instance : Monad Q where
  pure := Q.ret
  bind := Q.bind
def run {α : Type} : Q α → GT → Option α
  | .ret a, _ => some a
  | .fail, _ => none
  | .look k f, g => (f (g k)).run g
def log {α : Type} : Q α → GT → List Nat
  | .ret _, _ => []
  | .fail, _ => []
  | .look k f, g => k :: (f (g k)).log g
def ent (k : Nat) : Q Ent := .look k .ret
def guard (b : Bool) : Q Unit := if b then .ret () else .fail
def ofOption {α : Type} : Option α → Q α
  | some a => .ret a
  | none => .fail

theorem run_congr {α : Type} (p : Q α) {g g' : GT} (h : ∀ k ∈ p.log g, g k = g' k) : p.run g = p.run g' ∧ p.log g = p.log g' := by
  induction p with
  | ret a => exact ⟨rfl, rfl⟩
  | fail => exact ⟨rfl, rfl⟩
  | look k f ih =>
    have hk := h k (by simp [log])
    simp only [run, log, ← hk]
    have := ih (g k) (fun j hj => h j (by simp [log, hj]))
    exact ⟨this.1, by rw [this.2]⟩

theorem run_bind {α β : Type} (p : Q α) (f : α → Q β) (g : GT) : (p.bind f).run g = (p.run g).bind fun a => (f a).run g := by
  induction p with
  | ret a => rfl
  | fail => rfl
  | look k c ih => exact ih (g k)
theorem run_bind' {α β : Type} (p : Q α) (f : α → Q β) (g : GT) : (p >>= f).run g = (p.run g).bind fun a => (f a).run g := run_bind p f g
theorem run_pure {α : Type} (a : α) (g : GT) : (pure a : Q α).run g = some a := rfl
theorem run_fail {α : Type} (g : GT) : (Q.fail : Q α).run g = none := rfl
theorem run_ent (k : Nat) (g : GT) : (Q.ent k).run g = some (g k) := rfl
theorem run_guard (b : Bool) (g : GT) : (Q.guard b).run g = if b then some () else none := by cases b <;> rfl
theorem run_ofOption {α : Type} (o : Option α) (g : GT) : (Q.ofOption o).run g = o := by cases o <;> rfl
end Q

/- ---- types ---- -/

def Ty.isPair : Ty → Bool
  | .pair _ _ => true
  | _ => false

/-- A cell of a zero value. -/
def zeroCell : Ty → Value → Bool
  | .int k, .int k' n => k == k' && n == 0
  | .bool, .bool b => !b
  | .str, .string s => s.size == 0
  | .slice _, .slice a l c => a.isNone && l == 0 && c == 0
  | _, _ => false

def Ty.leaves : Ty → List Ty
  | .pair a b => a.leaves ++ b.leaves
  | τ => [τ]

def allZero : List Ty → List Value → Bool
  | [], [] => true
  | t :: ts, v :: vs => zeroCell t v && allZero ts vs
  | _, _ => false

def zeroVal (τ : Ty) : Value → Bool
  | .agg cs => τ.isPair && allZero τ.leaves cs.toList
  | v => !τ.isPair && allZero τ.leaves [v]

def pairUp : List Ty → Option Ty
  | [] => none
  | [a] => some a
  | a :: r => (pairUp r).map (.pair a ·)

/-- The fields lie one behind the other. -/
def fieldsFit (P : Program) : Nat → List Field → List Ty → Bool
  | _, [], [] => true
  | off, f :: fs, t :: ts => f.offset == off && P.cellsOf f.type == t.n && fieldsFit P (off + t.n) fs ts
  | _, _, _ => false

def mapOpt {α β : Type} (f : α → Option β) : List α → Option (List β)
  | [] => some []
  | a :: l =>
    match f a with
    | some b =>
      match mapOpt f l with
      | some bs => some (b :: bs)
      | none => none
    | none => none

/-- The data type of a Go type, if its row in the table is as it should be. -/
def tyOf (P : Program) : Nat → TypeId → Option Ty
  | 0, _ => none
  | fuel + 1, t =>
    let τ? : Option Ty := match P.underlying t with
      | some (.int k) => some (.int k)
      | some .bool => some .bool
      | some .string => some .str
      | some (.slice e) => (tyOf P fuel e).map .slice
      | some (.struct fs) =>
        match mapOpt (fun f => tyOf P fuel f.type) fs.toList with
        | some ts => if 2 ≤ ts.length ∧ fieldsFit P 0 fs.toList ts then pairUp ts else none
        | none => none
      | _ => none
    match τ?, P.info? t with
    | some τ, some i => if i.size = τ.n ∧ i.bytes ≤ 256 ∧ (i.zero.any fun z => zeroVal τ z) then some τ else none
    | _, _ => none

def deep : Nat := 8

/- ---- signatures ---- -/

inductive PK where
  | v (τ : Ty)
  | p (τ : Ty)
  | m (τ : Ty) (ms : List (Option M))
  | io (τ : Ty) (ms : List (Option M))
  | q (τ : Ty) (ms : List (Option M))
  | c (f : Nat) (caps : List Ty)
  deriving Inhabited

structure Sig where
  f : Nat
  ps : List PK
  rs : List (Ty × List (Option M))
  deriving Inhabited

/- ---- one operation ---- -/

/-- Where a leaf comes from. -/
inductive Src where
  | cpy (k : Nat) (em : Bool)                       -- a shared leaf, copied; em: an empty slice
  | als (k kv : Nat) (from_ : Nat)                  -- what k owns, seen through; the datum lies at from_
  | tak (k : Nat) (m : M) (org : Option Nat)        -- what k owns, taken
  | lek (k : Nat)                                   -- what k owns, given up: shared from now on
  | new (c : Cst)
  deriving Inhabited

def Src.st : Src → ES
  | .cpy _ em => if em then .em else .va
  | .als k kv _ => .rf k kv
  | .tak _ m org => .ro m org
  | .lek _ => .va
  | .new (.nil _) => .em
  | .new _ => .va

def Src.od : Src → Od
  | .cpy k _ => .k k
  | .als _ _ k => .k k
  | .tak k _ _ => .k k
  | .lek k => .k k
  | .new c => .c c

/-- The entries that a source changes. -/
def Src.ents (ver : Nat) : Src → List (Nat × Ent)
  | .tak k _ _ => [(k, ⟨ver, [], .no⟩)]
  | .lek k => [(k, ⟨ver, [], .va⟩)]
  | _ => []

def Src.quiet : Src → Bool
  | .tak _ _ _ | .lek _ => false
  | _ => true

inductive How where
  | ref | take | leak
  deriving DecidableEq, Inhabited

/-- The kind of a slot, if it may be looked at under the guards ch. -/
def slotK (ch : List (Nat × Bool)) (s : Nat) : Q Ent := do
  let e ← Q.ent (sk s)
  Q.guard (e.ch.isPrefixOf ch)
  .ret e

/-- The key whose slice a leaf shows: itself, or what it refers to; with its mode. -/
def owner (ch : List (Nat × Bool)) (k : Nat) (e : Ent) : Q (Nat × M × Option Nat) :=
  match e.st with
  | .ro m org => .ret (k, m, org)
  | .rf k2 kv => do
    let _ ← slotK ch (k2 / 16)
    let e2 ← Q.ent k2
    Q.guard (e2.ver == kv)
    match e2.st with
    | .ro m org => .ret (k2, m, org)
    | _ => .fail
  | _ => .fail

/-- A leaf as the source of another one. -/
def srcOf (ch : List (Nat × Bool)) (how : How) (k : Nat) : Q Src := do
  let e ← Q.ent k
  match e.st with
  | .va => .ret (.cpy k false)
  | .em => .ret (.cpy k true)
  | _ =>
    let (k2, m, org) ← owner ch k e
    match how with
    | .ref => do
      let e2 ← Q.ent k2
      .ret (.als k2 e2.ver k)
    | .take => .ret (.tak k2 m org)
    | .leak => .ret (.lek k2)

def srcsOf (ch : List (Nat × Bool)) (how : How) (s : Nat) : Nat → Nat → Q (List Src)
  | _, 0 => .ret []
  | j, n + 1 => do
    let x ← srcOf ch how (lk s j)
    let r ← srcsOf ch how s (j + 1) n
    .ret (x :: r)

def leafCst : Ty → Value → Option Cst
  | .int k, .int k' n => if k = k' then some (.int k n) else none
  | .bool, .bool b => some (.bool b)
  | .str, .string s => some (.str s)
  | .slice e, .slice none 0 0 => some (.nil e)
  | _, _ => none

def leafCsts : List Ty → List Value → Option (List Cst)
  | [], [] => some []
  | t :: ts, v :: vs =>
    match leafCst t v with
    | some c =>
      match leafCsts ts vs with
      | some cs => some (c :: cs)
      | none => none
    | none => none
  | _, _ => none

/-- A constant value's leaves. -/
def cstLeaves (τ : Ty) : Value → Option (List Cst)
  | .agg cs => if τ.isPair then leafCsts τ.leaves cs.toList else none
  | v => if τ.isPair then none else leafCsts τ.leaves [v]

def zeroCst : Ty → Cst
  | .int k => .int k 0
  | .bool => .bool false
  | .str => .str ByteArray.empty
  | .slice e => .nil e
  | .pair _ _ => .bool false

structure Cfg where
  P : Program
  sigs : Nat → Option Sig
  ver : Nat
  ch : List (Nat × Bool)
  nt : Nat

/-- A value's leaves as sources, and whether it is an aggregate. -/
def valSrcs (C : Cfg) (how : How) (t : TypeId) : Operand → Q (List Src × Bool)
  | .const v => do
    let τ ← Q.ofOption (tyOf C.P deep t)
    let cs ← Q.ofOption (cstLeaves τ v)
    .ret (cs.map .new, τ.isPair)
  | .tmp s => do
    let e ← slotK C.ch s
    match e.st with
    | .pl n agg => do
      let l ← srcsOf C.ch how s 0 n
      .ret (l, agg)
    | _ => .fail
  | _ => .fail

/-- How many cells a slot has. -/
def ES.cells : ES → Nat
  | .pl n _ | .bx n | .pa n => n
  | .cp _ ns => ns.foldl (· + ·) 0
  | .tu ps => ps.foldl (fun a p => a + p.1) 0
  | _ => 0

def blanks (ver d : Nat) : Nat → Nat → List (Nat × Ent)
  | _, 0 => []
  | j, n + 1 => (lk d j, ⟨ver, [], .no⟩) :: blanks ver d (j + 1) n

def leafEnts (ver d : Nat) : Nat → List ES → List (Nat × Ent)
  | _, [] => []
  | j, e :: l => (lk d j, ⟨ver, [], e⟩) :: leafEnts ver d (j + 1) l

/-- The entries of a slot anew: what it had is blotted out first. -/
def slotEnts (C : Cfg) (d : Nat) (st : ES) (leaves : List ES) : Q (List (Nat × Ent)) := do
  let old ← Q.ent (sk d)
  Q.guard (leaves.length ≤ 14 && old.st.cells ≤ 15 && d < C.nt)
  .ret (blanks C.ver d 0 old.st.cells ++ (sk d, ⟨C.ver, C.ch, st⟩) :: leafEnts C.ver d 0 leaves)

abbrev Out := List (Nat × Ent) × List I

def cps (d : Nat) : Nat → List Od → List I
  | _, [] => []
  | j, x :: l => .cp (lk d j) x :: cps d (j + 1) l

def takenKeys : List Src → List Nat
  | [] => []
  | .tak k _ _ :: l | .lek k :: l => k :: takenKeys l
  | _ :: l => takenKeys l

def nodupB : List Nat → Bool
  | [] => true
  | k :: l => !l.contains k && nodupB l

/-- Slot d made out of leaves. -/
def putLeaves (C : Cfg) (d : Nat) (st : ES) (l : List Src) : Q Out := do
  let tk := takenKeys l
  Q.guard (nodupB tk && tk.all (fun k => k / 16 != d) && (C.ch.isEmpty || tk.isEmpty) && l.all (fun s => s.od.keys.all fun k => k / 16 != d))
  let es ← slotEnts C d st (l.map Src.st)
  .ret (l.flatMap (Src.ents C.ver) ++ es, cps d 0 (l.map Src.od))


/-- What an operation is told besides its text: how it takes what it is given, and which signature it calls by. -/
structure Ann where
  how : How
  spec : Nat
  weak : List (Nat × Bool)      -- keys whose slices are shared from now on: what lies inside (false), or the slice itself (true)
  deriving Inhabited

/-- A scalar operand. -/
def scalar (ch : List (Nat × Bool)) : Operand → Q Od
  | .const v =>
    match v with
    | .int k n => .ret (.c (.int k n))
    | .bool b => .ret (.c (.bool b))
    | .string s => .ret (.c (.str s))
    | _ => .fail
  | .tmp s => do
    let e ← slotK ch s
    Q.guard (e.st == .pl 1 false)
    let l ← Q.ent (lk s 0)
    Q.guard (l.st == .va)
    .ret (.k (lk s 0))
  | _ => .fail

/-- A slice (or string) operand that is looked at: its leaf. -/
def seen (ch : List (Nat × Bool)) : Operand → Q (Nat × Ent)
  | .tmp s => do
    let e ← slotK ch s
    Q.guard (e.st == .pl 1 false)
    let l ← Q.ent (lk s 0)
    .ret (lk s 0, l)
  | _ => .fail

/-- The leaf may be read: it is shared, or what it shows is still there; the key that owns it. -/
def readable (ch : List (Nat × Bool)) (k : Nat) (l : Ent) : Q (Option Nat) :=
  match l.st with
  | .va | .em => .ret none
  | .ef k2 kv i iv _ => do
    let _ ← slotK ch (k2 / 16)
    let e ← Q.ent k2
    let f ← Q.ent i
    Q.guard (e.ver == kv && f.ver == iv)
    match e.st with
    | .ro _ _ => .ret (some k2)
    | _ => .fail
  | _ => do
    let (k2, _, _) ← owner ch k l
    .ret (some k2)

/-- Slot d with one leaf, and the instructions that make its datum. -/
def put1 (C : Cfg) (d : Nat) (st : ES) (is : List I) : Q Out := do
  let es ← slotEnts C d (.pl 1 false) [st]
  .ret (es, is)

/-- A slot of a kind without leaves. -/
def put0 (C : Cfg) (d : Nat) (st : ES) : Q Out := do
  let es ← slotEnts C d st []
  .ret (es, [])

def allCpy : List Src → Bool
  | [] => true
  | .cpy _ false :: l => allCpy l
  | _ => false

def M.flat : M → List M
  | .pair a b => a.flat ++ b.flat
  | m => [m]

def M.isShr : M → Bool
  | .sc => true
  | .pair a b => a.isShr && b.isShr
  | .sl md e => md == .shr && e.isShr

/-- No slices inside that are owned. -/
def M.noOwn : M → Bool
  | .sc => true
  | .pair a b => a.noOwn && b.noOwn
  | .sl md e => md == .shr && e.noOwn

/-- The mode that a leaf brings into a slice's element. -/
def Src.mode (τ : Ty) : Src → Option M
  | .cpy _ false => some τ.shr
  | .cpy _ true => some τ.ownd
  | .lek _ => some τ.shr
  | .tak _ m _ => some (.sl .own m)
  | .new (.nil _) => some τ.ownd
  | .new _ => some .sc
  | .als _ _ _ => none

def modesOf : List Ty → List Src → Option (List M)
  | [], [] => some []
  | t :: ts, s :: ss =>
    match s.mode t with
    | some m =>
      match modesOf ts ss with
      | some ms => some (m :: ms)
      | none => none
    | none => none
  | _, _ => none

/-- Modes along a type: the rest is handed back. -/
def mUnflat : Ty → List M → Option (M × List M)
  | .pair a b, l =>
    match mUnflat a l with
    | some (x, l1) =>
      match mUnflat b l1 with
      | some (y, l2) => some (.pair x y, l2)
      | none => none
    | none => none
  | _, m :: l => some (m, l)
  | _, [] => none

def mBuild (τ : Ty) (l : List M) : Option M :=
  match mUnflat τ l with
  | some (m, []) => some m
  | _ => none

def elemTy (P : Program) (t : TypeId) : Option Ty :=
  match tyOf P deep t with
  | some (.slice e) => some e
  | _ => none

def fieldOf (P : Program) (t : TypeId) (f : Nat) : Option (Nat × Nat) :=
  match P.underlying t with
  | some (.struct fs) =>
    match fs[f]? with
    | some fd => if P.cellsOf fd.type = 0 then none else some (fd.offset, P.cellsOf fd.type)
    | none => none
  | _ => none

/-- An address: leaves of a box, shared cells, or a part of an element. -/
inductive Adr where
  | box (s : Nat) (sv : Nat) (off : Nat) (n : Nat)   -- n: the box's cells
  | shr (s n : Nat)
  | elt (k kv i iv off : Nat)

def adrOf (ch : List (Nat × Bool)) : Operand → Q Adr
  | .tmp s => do
    let e ← slotK ch s
    match e.st with
    | .bx n => .ret (.box s e.ver 0 n)
    | .al s2 sv off => do
      let e2 ← slotK ch s2
      Q.guard (e2.ver == sv)
      match e2.st with
      | .bx n => .ret (.box s2 sv off n)
      | _ => .fail
    | .pa n => .ret (.shr s n)
    | .ea k kv i iv off => do
      let _ ← slotK ch (k / 16)
      let e2 ← Q.ent k
      let e3 ← Q.ent i
      Q.guard (e2.ver == kv && e3.ver == iv)
      .ret (.elt k kv i iv off)
    | _ => .fail
  | _ => .fail

/-- Leaves of an element as they are read into slot d. -/
def eltLeaves (k kv i iv : Nat) : Nat → List M → Option (List ES)
  | _, [] => some []
  | off, m :: ms =>
    let st? : Option ES := if m.isShr then some .va else match m with
      | .sl .own _ => some (.ef k kv i iv off)
      | _ => none
    match st? with
    | some st =>
      match eltLeaves k kv i iv (off + 1) ms with
      | some l => some (st :: l)
      | none => none
    | none => none

def ks (d : Nat) (j : Nat) : Nat → List Nat
  | 0 => []
  | n + 1 => lk d j :: ks d (j + 1) n

/-- What a leaf of an element may be given. -/
def fitsMode (t : Ty) : Src → M → Bool
  | .cpy _ false, m => m == t.shr
  | .cpy _ true, .sl _ _ => true
  | .lek _, m => m == t.shr
  | .tak _ m _, .sl .own m' => m == m'
  | .new (.nil _), .sl _ _ => true
  | .new (.nil _), _ => false
  | .new _, .sc => true
  | _, _ => false

def fitsModes : List Ty → List Src → List M → Bool
  | [], [], [] => true
  | t :: ts, s :: ss, m :: ms => fitsMode t s m && fitsModes ts ss ms
  | _, _, _ => false

/-- Rows of a slice literal. -/
def rowsOf (C : Cfg) (how : How) (et : TypeId) : Nat → List (Nat × Operand) → Q (List (List Src))
  | _, [] => .ret []
  | i, (j, x) :: r => do
    Q.guard (i == j)
    let (l, _) ← valSrcs C how et x
    let rest ← rowsOf C how et (i + 1) r
    .ret (l :: rest)

def rowsMode (e : Ty) : List (List Src) → Option M
  | [] => none
  | [r] => (modesOf e.leaves r).bind (mBuild e)
  | r :: rs =>
    match (modesOf e.leaves r).bind (mBuild e), rowsMode e rs with
    | some m, some m' => if m = m' then some m else none
    | _, _ => none

/-- The sources of a struct literal's leaves: at each offset a part's leaf, or zero. -/
def placeSrcs : List Src → Nat → List Src → List Src
  | zs, off, l => zs.take off ++ l ++ zs.drop (off + l.length)

def partsOf (C : Cfg) (how : How) (t : TypeId) (fs : Array Field) : List (Nat × Operand) → List Src → Q (List Src)
  | [], acc => .ret acc
  | (i, x) :: r, acc => do
    let fd ← Q.ofOption fs[i]?
    let (l, _) ← valSrcs C how fd.type x
    Q.guard (l.length == C.P.cellsOf fd.type && fd.offset + l.length ≤ acc.length)
    partsOf C how t fs r (placeSrcs acc fd.offset l)

/-- How a leaf is handed over: looked at (with the key that owns it), an empty slice, what a key owns, a part of an element of what a key owns. -/
inductive LA where
  | rd (o : Option Nat)
  | em
  | tk (k : Nat) (m : M)
  | te (k i off : Nat) (m : M)
  deriving Inhabited

def LA.taken : LA → List Nat
  | .tk k _ => [k]
  | .te k _ _ _ => [k]
  | _ => []

def LA.seen : LA → List Nat
  | .rd (some k) => [k]
  | _ => []

/-- One argument: its data, its leaves, boxes that are looked at, the box that is lent; where lent data go, entries of lent things behind the call, lent parts of elements put back. -/
structure Arg where
  data : List (Ty × List Od)
  las : List LA
  seen : List Nat
  box : Option Nat
  outs : List (List Nat)
  ents : List (Nat × Ent)
  post : List I
  deriving Inhabited

def Arg.taken (A : Arg) : List Nat := (A.box.map sk).toList ++ A.las.flatMap LA.taken
def Arg.looked (A : Arg) : List Nat := A.las.flatMap LA.seen

/-- Leaves that are read. -/
def readAll (ch : List (Nat × Bool)) (s : Nat) : Nat → Nat → Q (List Od × List LA)
  | _, 0 => .ret ([], [])
  | j, n + 1 => do
    let e ← Q.ent (lk s j)
    let o ← readable ch (lk s j) e
    let (r, l) ← readAll ch s (j + 1) n
    .ret (.k (lk s j) :: r, .rd o :: l)

/-- Leaves that are handed over where the mode asks for it. -/
def takeAll (ch : List (Nat × Bool)) (s : Nat) : Nat → List (Option M) → Q (List Od × List LA)
  | _, [] => .ret ([], [])
  | j, none :: ms => do
    let e ← Q.ent (lk s j)
    Q.guard (e.st == .va)
    let (a, b) ← takeAll ch s (j + 1) ms
    .ret (.k (lk s j) :: a, .rd none :: b)
  | j, some _ :: ms => do
    let e ← Q.ent (lk s j)
    let (a, b) ← takeAll ch s (j + 1) ms
    if e.st == .em then .ret (.k (lk s j) :: a, .em :: b)
    else do
      let (k, m', _) ← owner ch (lk s j) e
      .ret (.k (lk s j) :: a, .tk k m' :: b)

structure Lent where
  ods : List Od
  las : List LA
  outs : List Nat
  ents : List (Nat × Ent)
  post : List I
  deriving Inhabited

/-- Leaves that are lent. -/
def lendAll (ch : List (Nat × Bool)) (ver d0 : Nat) (s : Nat) : Nat → List (Ty × Option M) → Q Lent
  | _, [] => .ret ⟨[], [], [], [], []⟩
  | j, (_, none) :: ms => do
    let e ← Q.ent (lk s j)
    Q.guard (e.st == .va)
    let r ← lendAll ch ver d0 s (j + 1) ms
    .ret ⟨.k (lk s j) :: r.ods, .rd none :: r.las, lk d0 13 :: r.outs, r.ents, r.post⟩
  | j, (t, some m) :: ms => do
    let e ← Q.ent (lk s j)
    let r ← lendAll ch ver d0 s (j + 1) ms
    match e.st with
    | .ef k kv i iv off => do
      let _ ← slotK ch (k / 16)
      let e2 ← Q.ent k
      let e3 ← Q.ent i
      Q.guard (e2.ver == kv && e3.ver == iv && r.post.isEmpty)
      match e2.st with
      | .ro mk org => do
        Q.guard (mk.flat[off]? == some (.sl .own m))
        .ret ⟨.k (lk s j) :: r.ods, .te k i off m :: r.las, lk d0 12 :: r.outs, (k, ⟨ver, [], .ro mk org⟩) :: r.ents, [.setE k (.k i) off [t] [.k (lk d0 12)]]⟩
      | _ => .fail
    | _ => do
      let (k, m', org) ← owner ch (lk s j) e
      .ret ⟨.k (lk s j) :: r.ods, .tk k m' :: r.las, k :: r.outs, (k, ⟨ver, [], .ro m' org⟩) :: r.ents, r.post⟩

/-- The leaves of a box that is lent. -/
def lendBox (ver : Nat) (s : Nat) : Nat → List (Option M) → Q Lent
  | _, [] => .ret ⟨[], [], [], [], []⟩
  | j, none :: ms => do
    let e ← Q.ent (lk s j)
    Q.guard (e.st == .va)
    let r ← lendBox ver s (j + 1) ms
    .ret ⟨.k (lk s j) :: r.ods, .rd none :: r.las, lk s j :: r.outs, (lk s j, ⟨ver, [], .va⟩) :: r.ents, []⟩
  | j, some m :: ms => do
    let e ← Q.ent (lk s j)
    let r ← lendBox ver s (j + 1) ms
    Q.guard (e.st == .em || e.st == .ro m none)
    .ret ⟨.k (lk s j) :: r.ods, .tk (lk s j) m :: r.las, lk s j :: r.outs, (lk s j, ⟨ver, [], .ro m none⟩) :: r.ents, []⟩

/-- A captured variable: a pointer that is looked at. -/
def capOf (ch : List (Nat × Bool)) (τ : Ty) (s sv : Nat) : Q Arg := do
  let e ← slotK ch s
  Q.guard (e.ver == sv)
  match e.st with
  | .bx n => do
    Q.guard (n == τ.n)
    let (ods, l) ← readAll ch s 0 n
    .ret ⟨[(τ, ods)], l, [sk s], none, [], [], []⟩
  | .pa n => do
    Q.guard (n == τ.n)
    let (ods, l) ← readAll ch s 0 n
    .ret ⟨[(τ, ods)], l, [], none, [], [], []⟩
  | _ => .fail

def capsOf (ch : List (Nat × Bool)) : List Ty → List (Nat × Nat) → Q (List Arg)
  | [], [] => .ret []
  | τ :: τs, (s, sv) :: cs => do
    let a ← capOf ch τ s sv
    let r ← capsOf ch τs cs
    .ret (a :: r)
  | _, _ => .fail

/-- The captured data of a function value that came in. -/
def cpOf (ch : List (Nat × Bool)) (s : Nat) : Nat → List Ty → Q (List Arg)
  | _, [] => .ret []
  | j, τ :: τs => do
    let (ods, l) ← readAll ch s j τ.n
    let r ← cpOf ch s (j + τ.n) τs
    .ret (⟨[(τ, ods)], l, [], none, [], [], []⟩ :: r)

/-- What a function value has captured. -/
def closOf (C : Cfg) (f : Nat) (caps : List Ty) : Operand → Q (List Arg)
  | .func g => do
    Q.guard (g == f && caps.isEmpty)
    .ret []
  | .tmp s => do
    let e ← slotK C.ch s
    match e.st with
    | .cl g cs => do
      Q.guard (g == f)
      capsOf C.ch caps cs
    | .cp g ns => do
      Q.guard (g == f && ns == caps.map Ty.n)
      cpOf C.ch s 0 caps
    | _ => .fail
  | _ => .fail

def Arg.join (l : List Arg) : Arg := ⟨l.flatMap (·.data), l.flatMap (·.las), l.flatMap (·.seen), none, [], [], []⟩

def cstLA : Cst → LA
  | .nil _ => .em
  | _ => .rd none

def cstArg (τ : Ty) (cs : List Cst) : Arg := ⟨[(τ, cs.map .c)], cs.map cstLA, [], none, [], [], []⟩

def argOf (C : Cfg) (d : Nat) (pk : PK) (x : Operand) : Q Arg :=
  match pk with
  | .v τ =>
    match x with
    | .const v => do
      let cs ← Q.ofOption (cstLeaves τ v)
      .ret (cstArg τ cs)
    | .tmp s => do
      let e ← slotK C.ch s
      Q.guard (e.st == .pl τ.n τ.isPair)
      let (ods, l) ← readAll C.ch s 0 τ.n
      .ret ⟨[(τ, ods)], l, [], none, [], [], []⟩
    | _ => .fail
  | .p τ => do
    match ← adrOf C.ch x with
    | .box s _ 0 n => do
      Q.guard (n == τ.n)
      let (ods, l) ← readAll C.ch s 0 n
      .ret ⟨[(τ, ods)], l, [sk s], none, [], [], []⟩
    | .shr s n => do
      Q.guard (n == τ.n)
      let (ods, l) ← readAll C.ch s 0 n
      .ret ⟨[(τ, ods)], l, [], none, [], [], []⟩
    | _ => .fail
  | .m τ ms =>
    match x with
    | .tmp s => do
      let e ← slotK C.ch s
      Q.guard (e.st == .pl τ.n τ.isPair && ms.length == τ.n)
      let (ods, l) ← takeAll C.ch s 0 ms
      .ret ⟨[(τ, ods)], l, [], none, [], [], []⟩
    | .const v => do
      let cs ← Q.ofOption (cstLeaves τ v)
      .ret (cstArg τ cs)
    | _ => .fail
  | .io τ ms =>
    match x with
    | .tmp s => do
      let e ← slotK C.ch s
      Q.guard (e.st == .pl τ.n τ.isPair && ms.length == τ.n)
      let r ← lendAll C.ch C.ver d s 0 (τ.leaves.zip ms)
      .ret ⟨[(τ, r.ods)], r.las, [], none, [r.outs], r.ents, r.post⟩
    | _ => .fail
  | .q τ ms => do
    match ← adrOf C.ch x with
    | .box s _ 0 n => do
      Q.guard (n == τ.n && ms.length == τ.n)
      let r ← lendBox C.ver s 0 ms
      .ret ⟨[(τ, r.ods)], r.las, [], some s, [r.outs], r.ents, []⟩
    | _ => .fail
  | .c f caps => do
    let l ← closOf C f caps x
    .ret (Arg.join l)

def argsOf (C : Cfg) (d : Nat) : List PK → List Operand → Q (List Arg)
  | [], [] => .ret []
  | pk :: ps, x :: xs => do
    let a ← argOf C d pk x
    let b ← argsOf C d ps xs
    .ret (a :: b)
  | _, _ => .fail

def resLeaf : Option M → ES
  | none => .va
  | some m => .ro m none

def resLeaves (rs : List (Ty × List (Option M))) : List ES := rs.flatMap fun r => r.2.map resLeaf

def resKind : List (Ty × List (Option M)) → ES
  | [r] => .pl r.1.n r.1.isPair
  | rs => .tu (rs.map fun r => (r.1.n, r.1.isPair))

def resKeys (d : Nat) : Nat → List (Ty × List (Option M)) → List (List Nat)
  | _, [] => []
  | j, r :: rs => ks d j r.1.n :: resKeys d (j + r.1.n) rs

/-- Everything inside is owned. -/
def M.isOwn : M → Bool
  | .sc => true
  | .pair a b => a.isOwn && b.isOwn
  | .sl md e => md == .own && e.isOwn

def leafOwn : List Ty → List (Option M) → Bool
  | [], [] => true
  | .slice _ :: ts, some m :: ms => m.isOwn && leafOwn ts ms
  | .slice _ :: _, none :: _ => false
  | _ :: ts, none :: ms => leafOwn ts ms
  | _, _ => false

/-- No part of what is handed back may be somebody else's. -/
def Sig.deep (s : Sig) : Bool := (s.rs.all fun r => leafOwn r.1.leaves r.2) && s.ps.all fun p => match p with
  | .io τ ms | .q τ ms => leafOwn τ.leaves ms
  | _ => true

/-- A pointer that is looked at. -/
def PK.ptr : PK → Option Ty
  | .p τ => some τ
  | _ => none

/-- What a function value is called with behind the arguments. -/
def extraOf (C : Cfg) (f : Nat) (rest : List PK) : Option Operand → Q (List Arg)
  | none => do
    Q.guard rest.isEmpty
    .ret []
  | some x => do
    let caps ← Q.ofOption (mapOpt PK.ptr rest)
    closOf C f caps x

/-- The kind of a parameter's slot at the start. -/
def PK.kind : PK → ES
  | .v τ | .m τ _ | .io τ _ => .pl τ.n τ.isPair
  | .p τ => .pa τ.n
  | .q τ _ => .bx τ.n
  | .c f caps => .cp f (caps.map Ty.n)

/-- The leaves of a parameter at the start. -/
def PK.sts (i : Nat) : PK → List ES
  | .v τ | .p τ => List.replicate τ.n .va
  | .m _ ms | .q _ ms => ms.map resLeaf
  | .io _ ms => ms.zipIdx.map fun m => match m.1 with | none => .va | some x => .ro x (some (lk i m.2))
  | .c _ caps => List.replicate (caps.foldl (fun a τ => a + τ.n) 0) .va

def fitsLA : ES → LA → Bool
  | .va, .rd _ => true
  | .va, .em => true
  | .ro _ _, .em => true
  | .ro m _, .tk _ m' => m == m'
  | .ro m (some _), .te _ _ _ m' => m == m'
  | _, _ => false

def fitsLAs : List ES → List LA → Bool
  | [], [] => true
  | e :: es, l :: ls => fitsLA e l && fitsLAs es ls
  | _, _ => false

def fitsArgs : Nat → List PK → List Arg → Bool
  | _, [], [] => true
  | i, p :: ps, A :: As => fitsLAs (p.sts i) A.las && A.las.length ≤ 14 && fitsArgs (i + 1) ps As
  | _, _, _ => false

/-- Lent things go to different keys; an element put back is told apart from the rest; no owner lies in a box that is lent. -/
def lentOk (d : Nat) (As : List Arg) (post : List I) : Bool :=
  nodupB ((As.flatMap (·.outs)).flatten.filter fun k => k != lk d 13) &&
  (post.all fun p => match p with
    | .setE k (.k i) _ _ _ => k / 16 != d && i / 16 != d && !(As.flatMap (·.outs)).flatten.contains k && !(As.flatMap (·.outs)).flatten.contains i
    | _ => false) &&
  (As.all fun A => A.las.all fun la => la.taken.all fun k => As.all fun B => B.box != some (k / 16) || A.box == some (k / 16))

def callOp (C : Cfg) (d : Nat) (ann : Ann) (f : Nat) (args : List Operand) (extra : Option Operand) : Q Out := do
  let s ← Q.ofOption (C.sigs ann.spec)
  Q.guard (s.f == f)
  let A1 ← argsOf C d (s.ps.take args.length) args
  let A2 ← extraOf C f (s.ps.drop args.length) extra
  let As := A1 ++ A2
  let taken := As.flatMap Arg.taken
  let looked := As.flatMap Arg.looked
  let ents := As.flatMap (·.ents)
  let post := As.flatMap (·.post)
  Q.guard (fitsArgs 0 s.ps As && nodupB taken && taken.all (fun k => k / 16 != d) && (C.ch.isEmpty || taken.isEmpty))
  Q.guard ((looked ++ As.flatMap (·.seen)).all (fun k => !taken.contains k) && (looked.isEmpty || s.deep) && post.length ≤ 1)
  Q.guard ((resLeaves s.rs).length ≤ 12 || (As.flatMap (·.outs)).isEmpty)
  Q.guard (s.ps.length ≤ 1000 && lentOk d As post)
  let es ← slotEnts C d (resKind s.rs) (resLeaves s.rs)
  let gone := taken.filterMap fun k => if ents.any (fun e => e.1 == k) || k % 16 == 15 then none else some (k, (⟨C.ver, [], .no⟩ : Ent))
  .ret (gone ++ ents ++ [(lk d 12, ⟨C.ver, [], .no⟩), (lk d 13, ⟨C.ver, [], .no⟩)] ++ es, .call ann.spec (As.flatMap (·.data)) (resKeys d 0 s.rs ++ As.flatMap (·.outs)) :: post)

def compMove (C : Cfg) (how : How) (d : Nat) (t : TypeId) (x : Operand) : Q Out :=
  match x with
  | .func f => put0 C d (.cl f [])
  | .tmp s => do
    let e ← slotK C.ch s
    match e.st with
    | .pl n agg => do
      let l ← srcsOf C.ch how s 0 n
      putLeaves C d (.pl n agg) l
    | .tu ps => do
      let l ← srcsOf C.ch how s 0 (ps.foldl (fun a p => a + p.1) 0)
      putLeaves C d (.tu ps) l
    | .bx _ => put0 C d (.al s e.ver 0)
    | .al s2 sv off => put0 C d (.al s2 sv off)
    | .ea k kv i iv off => put0 C d (.ea k kv i iv off)
    | .cl f caps => put0 C d (.cl f caps)
    | .pa n => do
      let l ← srcsOf C.ch .ref s 0 n
      Q.guard (allCpy l)
      putLeaves C d (.pa n) l
    | .cp f ns => do
      let l ← srcsOf C.ch .ref s 0 (ns.foldl (· + ·) 0)
      Q.guard (allCpy l)
      putLeaves C d (.cp f ns) l
    | _ => .fail
  | x => do
    let (l, agg) ← valSrcs C how t x
    putLeaves C d (.pl l.length agg) l

/-- An equation between two bools: whether it is denied. -/
def boolEq (P : Program) (op : BinOp) (t : TypeId) : Option Bool :=
  match op, P.underlying t with
  | .eql, some .bool => some false
  | .neq, some .bool => some true
  | _, _ => none

def compBin (C : Cfg) (d : Nat) (op : BinOp) (t : TypeId) (x y : Operand) : Q Out := do
  let a ← scalar C.ch x
  let b ← scalar C.ch y
  match boolEq C.P op t with
  | some neg => put1 C d .va [.beq neg (lk d 0) a b]
  | none => put1 C d .va [.bin op (lk d 0) a b]

def compUn (C : Cfg) (d : Nat) (op : UnOp) (x : Operand) : Q Out := do
  let a ← scalar C.ch x
  match op with
  | .not => put1 C d .va [.not (lk d 0) a]
  | .neg => put1 C d .va [.neg (lk d 0) a]
  | _ => .fail

def compConv (C : Cfg) (d : Nat) (src t : TypeId) (x : Operand) : Q Out := do
  Q.guard (C.P.underlying src).isSome
  let a ← scalar C.ch x
  match C.P.underlying t with
  | some (.int k) => put1 C d .va [.conv k (lk d 0) a]
  | _ => .fail

def compPick (C : Cfg) (d : Nat) (c x y : Operand) : Q Out := do
  let c' ← scalar C.ch c
  match c' with
  | .k kc => do
    let a ← scalar (C.ch ++ [(kc, true)]) x
    let b ← scalar (C.ch ++ [(kc, false)]) y
    put1 C d .va [.pick (lk d 0) c' a b]
  | _ => .fail

def compAlloc (C : Cfg) (d : Nat) (t : TypeId) : Q Out := do
  let τ ← Q.ofOption (tyOf C.P deep t)
  putLeaves C d (.bx τ.n) (τ.leaves.map fun t => .new (zeroCst t))

def compBox (C : Cfg) (how : How) (d : Nat) (t : TypeId) (x : Operand) : Q Out := do
  let τ ← Q.ofOption (tyOf C.P deep t)
  let (l, _) ← valSrcs C how t x
  Q.guard (l.length == τ.n)
  putLeaves C d (.bx τ.n) l

def compFieldAddr (C : Cfg) (d : Nat) (t : TypeId) (x : Operand) (f : Nat) : Q Out := do
  let (off, n) ← Q.ofOption (fieldOf C.P t f)
  match ← adrOf C.ch x with
  | .box s sv o _ => put0 C d (.al s sv (o + off))
  | .shr s m => do
    Q.guard (off + n ≤ m)
    let l ← srcsOf C.ch .ref s off n
    Q.guard (allCpy l)
    putLeaves C d (.pa n) l
  | .elt k kv i iv o => put0 C d (.ea k kv i iv (o + off))

def compIndexAddr (C : Cfg) (d : Nat) (t : TypeId) (x i : Operand) : Q Out := do
  let e ← Q.ofOption (elemTy C.P t)
  let (k, l) ← seen C.ch x
  let i' ← scalar C.ch i
  match l.st with
  | .va => do
    let es ← slotEnts C d (.pa e.n) (List.replicate e.n .va)
    Q.guard (k / 16 != d && i'.keys.all fun j => j / 16 != d)
    .ret (es, [.idx (some e) (ks d 0 e.n) 0 (.k k) i'])
  | .em => .fail
  | _ => do
    let (k2, _, _) ← owner C.ch k l
    let e2 ← Q.ent k2
    Q.guard (k2 / 16 != d && k / 16 != d)
    match i' with
    | .k ki => do
      let e3 ← Q.ent ki
      Q.guard (ki / 16 != d)
      let es ← slotEnts C d (.ea k2 e2.ver ki e3.ver 0) []
      .ret (es, [.chk e (.k k2) i'])
    | .c c => do
      let es ← slotEnts C d (.ea k2 e2.ver (lk d 14) C.ver 0) []
      .ret ((lk d 14, ⟨C.ver, [], .no⟩) :: es, [.cp (lk d 14) (.c c), .chk e (.k k2) (.k (lk d 14))])

def compLoad (C : Cfg) (d : Nat) (t : TypeId) (a : Operand) : Q Out := do
  let τ ← Q.ofOption (tyOf C.P deep t)
  match ← adrOf C.ch a with
  | .box s _ off n => do
    Q.guard (off + τ.n ≤ n)
    let l ← srcsOf C.ch .ref s off τ.n
    putLeaves C d (.pl τ.n τ.isPair) l
  | .shr s n => do
    Q.guard (τ.n ≤ n)
    let l ← srcsOf C.ch .ref s 0 τ.n
    Q.guard (allCpy l)
    putLeaves C d (.pl τ.n τ.isPair) l
  | .elt k kv i iv off => do
    let e ← Q.ent k
    match e.st with
    | .ro m _ => do
      let ls ← Q.ofOption (eltLeaves k kv i iv off ((m.flat.drop off).take τ.n))
      Q.guard (ls.length == τ.n && k / 16 != d && i / 16 != d)
      let es ← slotEnts C d (.pl τ.n τ.isPair) ls
      .ret (es, [.idx none (ks d 0 τ.n) off (.k k) (.k i)])
    | _ => .fail

def compStore (C : Cfg) (how : How) (t : TypeId) (a x : Operand) : Q Out := do
  Q.guard C.ch.isEmpty
  let τ ← Q.ofOption (tyOf C.P deep t)
  let (l, _) ← valSrcs C how t x
  Q.guard (l.length == τ.n)
  let tk := takenKeys l
  Q.guard (nodupB tk)
  match ← adrOf C.ch a with
  | .box s _ off n => do
    Q.guard (off + τ.n ≤ n && n ≤ 14 && tk.all (fun k => k / 16 != s) && l.all (fun x => x.od.keys.all fun k => k / 16 != s))
    .ret (l.flatMap (Src.ents C.ver) ++ leafEnts C.ver s off (l.map Src.st), cps s off (l.map Src.od))
  | .elt k _ i _ off => do
    let e ← Q.ent k
    match e.st with
    | .ro m org => do
      Q.guard (off + τ.n ≤ m.flat.length && fitsModes τ.leaves l ((m.flat.drop off).take τ.n) && tk.all (· != k))
      .ret (l.flatMap (Src.ents C.ver) ++ [(k, ⟨C.ver, [], .ro m org⟩)], [.setE k (.k i) off τ.leaves (l.map Src.od)])
    | _ => .fail
  | _ => .fail

def compBuild (C : Cfg) (how : How) (d : Nat) (t : TypeId) (ps : Array (Nat × Operand)) : Q Out := do
  let τ ← Q.ofOption (tyOf C.P deep t)
  match C.P.underlying t with
  | some (.struct fs) => do
    let l ← partsOf C how t fs ps.toList (τ.leaves.map fun t => .new (zeroCst t))
    Q.guard (l.length == τ.n)
    putLeaves C d (.pl τ.n τ.isPair) l
  | _ => .fail

def compBuildSlice (C : Cfg) (how : How) (d : Nat) (t : TypeId) (n : Nat) (ps : Array (Nat × Operand)) : Q Out := do
  let e ← Q.ofOption (elemTy C.P t)
  match C.P.underlying t with
  | some (.slice et) =>
    if n = 0 then do
      Q.guard ps.isEmpty
      put1 C d .em [.cp (lk d 0) (.c (.nil e))]
    else do
      Q.guard (C.ch.isEmpty && ps.size == n && n * e.n ≤ 16777216)
      let rows ← rowsOf C how et 0 ps.toList
      let m ← Q.ofOption (rowsMode e rows)
      let tk := rows.flatMap takenKeys
      Q.guard (nodupB tk && tk.all (fun k => k / 16 != d))
      let es ← slotEnts C d (.pl 1 false) [.ro m none]
      .ret (rows.flatMap (·.flatMap (Src.ents C.ver)) ++ es, [.lst (lk d 0) e (rows.map (·.map Src.od))])
  | _ => .fail

def compMake (C : Cfg) (d : Nat) (t : TypeId) (n c : Operand) : Q Out := do
  let e ← Q.ofOption (elemTy C.P t)
  Q.guard C.ch.isEmpty
  let a ← scalar C.ch n
  let b ← scalar C.ch c
  match a, b with
  | .k i, .k j => do
    Q.guard (i == j)
    put1 C d (.ro e.ownd none) [.mk (lk d 0) e a]
  | _, _ => .fail

def optScalar (ch : List (Nat × Bool)) : Option Operand → Q (Option Od)
  | none => .ret none
  | some y => do
    let z ← scalar ch y
    .ret (some z)

def compSlice (C : Cfg) (d : Nat) (t : TypeId) (x : Operand) (lo hi mx : Option Operand) : Q Out := do
  Q.guard mx.isNone
  let e ← Q.ofOption (elemTy C.P t)
  let (k, l) ← seen C.ch x
  Q.guard (l.st == .va)
  let lo' ← optScalar C.ch lo
  let hi' ← optScalar C.ch hi
  put1 C d .va [.sub e (lk d 0) (.k k) lo' hi']

def compField (C : Cfg) (how : How) (d : Nat) (t : TypeId) (x : Operand) (f : Nat) : Q Out := do
  let (off, n) ← Q.ofOption (fieldOf C.P t f)
  match x with
  | .tmp s => do
    let e ← slotK C.ch s
    match e.st with
    | .pl m true => do
      Q.guard (off + n ≤ m)
      let l ← srcsOf C.ch how s off n
      match C.P.underlying t with
      | some (.struct fs) => do
        let fd ← Q.ofOption fs[f]?
        let τ ← Q.ofOption (tyOf C.P deep fd.type)
        Q.guard (τ.n == n)
        putLeaves C d (.pl n τ.isPair) l
      | _ => .fail
    | _ => .fail
  | _ => .fail

def compExtract (C : Cfg) (how : How) (d : Nat) (x : Operand) (j : Nat) : Q Out :=
  match x with
  | .tmp s => do
    let e ← slotK C.ch s
    match e.st with
    | .tu ps => do
      let p ← Q.ofOption ps[j]?
      let l ← srcsOf C.ch how s ((ps.take j).foldl (fun a p => a + p.1) 0) p.1
      putLeaves C d (.pl p.1 p.2) l
    | _ => .fail
  | _ => .fail

def capSlots (C : Cfg) : List Operand → Q (List (Nat × Nat))
  | [] => .ret []
  | .tmp s :: r => do
    let e ← slotK C.ch s
    let rest ← capSlots C r
    match e.st with
    | .bx _ | .pa _ => .ret ((s, e.ver) :: rest)
    | _ => .fail
  | _ :: _ => .fail

def compMakeFunc (C : Cfg) (d : Nat) (fn : Fn) (first caps : Array Operand) : Q Out :=
  match fn with
  | .func f => do
    Q.guard first.isEmpty
    let cs ← capSlots C caps.toList
    put0 C d (.cl f cs)
  | _ => .fail

def compNilCheck (C : Cfg) (d : Nat) (x : Operand) : Q Out := do
  match ← adrOf C.ch x with
  | .box s sv off _ => put0 C d (.al s sv off)
  | .shr s n => do
    let l ← srcsOf C.ch .ref s 0 n
    Q.guard (allCpy l)
    putLeaves C d (.pa n) l
  | _ => .fail

def compLen (C : Cfg) (d : Nat) (t : TypeId) (x : Operand) : Q Out := do
  let (k, l) ← seen C.ch x
  let _ ← readable C.ch k l
  match C.P.underlying t with
  | some (.slice _) => put1 C d .va [.len false (lk d 0) (.k k)]
  | some .string => put1 C d .va [.len true (lk d 0) (.k k)]
  | _ => .fail

def compMnx (C : Cfg) (big : Bool) (d : Nat) (x y : Operand) : Q Out := do
  let a ← scalar C.ch x
  let b ← scalar C.ch y
  put1 C d .va [.mnx big (lk d 0) a b]

/-- The slice that grows: its owner, if it has one, and its datum. -/
def growing (C : Cfg) (e : Ty) : Operand → Q (Option (Nat × M) × Od)
  | .const (.slice none 0 0) => .ret (none, .c (.nil e))
  | x => do
    let (k, l) ← seen C.ch x
    match l.st with
    | .em => .ret (none, .k k)
    | _ => do
      let (k2, m, _) ← owner C.ch k l
      .ret (some (k2, m), .k k)

/-- What is put behind it: the mode of its elements, its key, and whether it is used up. -/
def behind (C : Cfg) (e : Ty) (y : Operand) : Q (Option M × Nat × Option Nat) := do
  let (k, l) ← seen C.ch y
  match l.st with
  | .va => .ret (some e.shr, k, none)
  | .em => .ret (none, k, none)
  | _ => do
    let (k2, m, _) ← owner C.ch k l
    if m.noOwn then .ret (some m, k, none) else .ret (some m, k, some k2)

def appMode : Option (Nat × M) → Option M → Option M
  | some (_, m), none => some m
  | some (_, m), some m' => if m = m' then some m else none
  | none, some m' => some m'
  | none, none => none

def compAppend (C : Cfg) (d : Nat) (t : TypeId) (x y : Operand) : Q Out := do
  Q.guard C.ch.isEmpty
  let e ← Q.ofOption (elemTy C.P t)
  let (own, sod) ← growing C e x
  let (ym, k, yk) ← behind C e y
  let m ← Q.ofOption (appMode own ym)
  let tk := (own.map (·.1)).toList ++ yk.toList
  Q.guard (nodupB tk && tk.all (fun k => k / 16 != d))
  let es ← slotEnts C d (.pl 1 false) [.ro m none]
  .ret (tk.map (fun k => (k, (⟨C.ver, [], .no⟩ : Ent))) ++ es, [.app e (lk d 0) sod (.k k)])

def compCall (C : Cfg) (ann : Ann) (d : Nat) (c : Call) : Q Out :=
  match c.callee with
  | .value (.func f) => callOp C d ann f c.args.toList none
  | .value (.tmp s) => do
    let e ← slotK C.ch s
    match e.st with
    | .cl f _ => callOp C d ann f c.args.toList (some (.tmp s))
    | .cp f _ => callOp C d ann f c.args.toList (some (.tmp s))
    | _ => .fail
  | .builtin .len =>
    match c.args.toList, c.argTypes.toList with
    | [x], t :: _ => compLen C d t x
    | _, _ => .fail
  | .builtin .max =>
    match c.args.toList with
    | [x, y] => compMnx C true d x y
    | _ => .fail
  | .builtin .min =>
    match c.args.toList with
    | [x, y] => compMnx C false d x y
    | _ => .fail
  | .builtin .append =>
    match c.args.toList, c.argTypes.toList with
    | [x, y], [t, t2] => if t2 = t then compAppend C d t x y else .fail
    | _, _ => .fail
  | _ => .fail

/-- An operation: the entries that it changes, and its instructions. -/
def compOp (C : Cfg) (ann : Ann) (o : Oper) : Q Out :=
  match o.dst, o.op with
  | some d, .move x => compMove C ann.how d o.type x
  | some d, .assign x => compMove C ann.how d o.type x
  | some d, .binOp op t x y _ => compBin C d op t x y
  | some d, .unOp op _ x => compUn C d op x
  | some d, .convert src t x => compConv C d src t x
  | some d, .pick c x y => compPick C d c x y
  | some d, .alloc t => compAlloc C d t
  | some d, .box t x => compBox C ann.how d t x
  | some d, .fieldAddr t x f => compFieldAddr C d t x f
  | some d, .indexAddr t x i => compIndexAddr C d t x i
  | some d, .load t a => compLoad C d t a
  | none, .store t a x => compStore C ann.how t a x
  | some d, .build t ps => compBuild C ann.how d t ps
  | some d, .buildSlice t n ps => compBuildSlice C ann.how d t n ps
  | some d, .makeSlice t n c => compMake C d t n c
  | some d, .slice t x lo hi mx => compSlice C d t x lo hi mx
  | some d, .field t x f => compField C ann.how d t x f
  | some d, .extract x j => compExtract C ann.how d x j
  | some d, .makeFunc fn first caps => compMakeFunc C d fn first caps
  | some d, .nilCheck x => compNilCheck C d x
  | some d, .call c => compCall C ann d c
  | _, _ => .fail

/-- All slices shared. -/
def M.wk : M → M
  | .sc => .sc
  | .pair a b => .pair a.wk b.wk
  | .sl _ e => .sl .shr e.wk

def weakES (all : Bool) : ES → ES
  | .ro m org => if all then .va else .ro m.wk org
  | e => e

def lastOf : List (Nat × Ent) → Nat → Option Ent
  | [], _ => none
  | (a, e) :: l, k =>
    match lastOf l k with
    | some x => some x
    | none => if a = k then some e else none

/-- Slices that are shared from now on. -/
def wkEnts (ver : Nat) (es : List (Nat × Ent)) : List (Nat × Bool) → Option (List (Nat × Ent))
  | [] => some []
  | (k, all) :: l =>
    match lastOf es k with
    | some e =>
      match e.st, wkEnts ver es l with
      | .ro m org, some r => some ((k, ⟨ver, [], weakES all (.ro m org)⟩) :: r)
      | _, _ => none
    | none => none

/-- An operation, and what is shared from now on. -/
def compStep (C : Cfg) (ann : Ann) (o : Oper) : Q Out := do
  let (es, is) ← compOp C ann o
  Q.guard (es.all fun x => x.2.ch.isEmpty || x.2.ch == C.ch)
  match ann.weak with
  | [] => .ret (es, is)
  | w => do
    Q.guard (nodupB (w.map (·.1)) && w.all fun x => Nat.blt (x.1 % 16) 15)
    let wes ← Q.ofOption (wkEnts (C.ver + 1) es w)
    .ret (es ++ wes, is)

end Go.Lf

/- Soundness, first part: entries set one after the other, relabelling, a slot made out of leaves. -/
namespace Go.Lf

def GT.sets (g : GT) : List (Nat × Ent) → GT
  | [] => g
  | (k, e) :: l => (g.set k e).sets l

def keysOf (es : List (Nat × Ent)) : List Nat := es.map (·.1)

theorem lastOf_none {es : List (Nat × Ent)} {k : Nat} : lastOf es k = none ↔ k ∉ keysOf es := by
  induction es with
  | nil => simp [lastOf, keysOf]
  | cons a l ih =>
    obtain ⟨j, e⟩ := a
    simp only [lastOf, keysOf, List.map_cons, List.mem_cons, not_or]
    cases h : lastOf l k with
    | some x =>
      simp only [reduceCtorEq, false_iff, not_and]
      intro _ hn
      have := ih.2 hn
      rw [h] at this; cases this
    | none =>
      have := ih.1 h
      simp only [keysOf] at this
      constructor
      · intro hh
        refine ⟨fun he => ?_, this⟩
        subst he; simp at hh
      · intro hh; rw [if_neg (fun he => hh.1 he.symm)]

theorem GT.sets_eq (g : GT) (es : List (Nat × Ent)) (k : Nat) : g.sets es k = (lastOf es k).getD (g k) := by
  induction es generalizing g with
  | nil => rfl
  | cons a l ih =>
    obtain ⟨j, e⟩ := a
    simp only [GT.sets, lastOf, ih]
    cases lastOf l k with
    | some x => rfl
    | none =>
      by_cases h : j = k
      · subst h; simp [GT.set_same]
      · simp [h, GT.set_ne _ _ (Ne.symm h)]

theorem GT.sets_ne (g : GT) {es : List (Nat × Ent)} {k : Nat} (h : k ∉ keysOf es) : g.sets es k = g k := by
  rw [GT.sets_eq, lastOf_none.2 h]; rfl

theorem lastOf_append (a b : List (Nat × Ent)) (k : Nat) : lastOf (a ++ b) k = (lastOf b k).or (lastOf a k) := by
  induction a with
  | nil => simp [lastOf]
  | cons x l ih =>
    obtain ⟨j, e⟩ := x
    simp only [List.cons_append, lastOf, ih]
    cases lastOf b k <;> simp

theorem lastOf_all {p : Ent → Prop} {es : List (Nat × Ent)} (h : ∀ a ∈ es, p a.2) {k : Nat} {e : Ent} (he : lastOf es k = some e) : p e := by
  induction es with
  | nil => simp [lastOf] at he
  | cons x l ih =>
    obtain ⟨j, e'⟩ := x
    simp only [lastOf] at he
    cases hl : lastOf l k with
    | some y => rw [hl] at he; simp at he; subst he; exact ih (fun a ha => h a (by simp [ha])) hl
    | none =>
      rw [hl] at he
      simp only at he
      split at he
      · simp at he; subst he; exact h (j, e') (by simp)
      · cases he

theorem lk_inj {s s' j j' : Nat} (hj : j ≤ 15) (hj' : j' ≤ 15) : lk s j = lk s' j' ↔ s = s' ∧ j = j' := by unfold lk; omega
theorem lk_sk {s s' j : Nat} (hj : j < 15) : lk s j ≠ sk s' := by unfold lk sk; omega
theorem sk_lk15 (s : Nat) : sk s = lk s 15 := rfl
theorem sk_div (s : Nat) : sk s / 16 = s := by unfold sk; omega
theorem sk_inj {s s' : Nat} : sk s = sk s' ↔ s = s' := by unfold sk; omega

theorem lastOf_blanks_in (ver d : Nat) : ∀ (n j k : Nat), (∃ i, j ≤ i ∧ i < j + n ∧ k = lk d i) → lastOf (blanks ver d j n) k = some ⟨ver, [], .no⟩ := by
  intro n
  induction n with
  | zero => rintro j k ⟨i, h1, h2, _⟩; omega
  | succ n ih =>
    rintro j k ⟨i, h1, h2, h3⟩
    simp only [blanks, lastOf]
    by_cases hi : i = j
    · subst hi
      cases hl : lastOf (blanks ver d (i + 1) n) k with
      | none => simp [h3]
      | some x => exact congrArg some (lastOf_all (p := fun e => e = ⟨ver, [], .no⟩) (by
          intro a ha
          have : ∀ (n j : Nat), ∀ a ∈ blanks ver d j n, a.2 = (⟨ver, [], .no⟩ : Ent) := by
            intro n
            induction n with
            | zero => intro j a ha; simp [blanks] at ha
            | succ n ih => intro j a ha; simp only [blanks, List.mem_cons] at ha; rcases ha with rfl | ha; rfl; exact ih _ _ ha
          exact this _ _ a ha) hl)
    · rw [ih (j + 1) k ⟨i, by omega, by omega, h3⟩]

theorem lastOf_leafEnts_in (ver d : Nat) : ∀ (l : List ES) (j i : Nat) (h : i < l.length), lastOf (leafEnts ver d j l) (lk d (j + i)) = some ⟨ver, [], l[i]⟩ := by
  intro l
  induction l with
  | nil => intro j i h; simp at h
  | cons e l ih =>
    intro j i h
    simp only [leafEnts, lastOf]
    cases i with
    | zero =>
      have : lastOf (leafEnts ver d (j + 1) l) (lk d (j + 0)) = none := by
        rw [lastOf_none]
        intro hm
        have : ∀ (l : List ES) (j k : Nat), k ∈ keysOf (leafEnts ver d j l) → lk d j ≤ k := by
          intro l
          induction l with
          | nil => intro j k hk; simp [leafEnts, keysOf] at hk
          | cons e l ih =>
            intro j k hk
            simp only [leafEnts, keysOf, List.map_cons, List.mem_cons] at hk
            rcases hk with rfl | hk
            · exact Nat.le_refl _
            · have := ih (j + 1) k hk; unfold lk at this ⊢; omega
        have := this _ _ _ hm
        unfold lk at this; omega
      rw [this]; simp
    | succ i =>
      have := ih (j + 1) i (by simpa using h)
      rw [show j + (i + 1) = j + 1 + i by omega, this]; rfl

theorem keysOf_append (a b : List (Nat × Ent)) : keysOf (a ++ b) = keysOf a ++ keysOf b := by simp [keysOf]

theorem mem_keys_blanks {ver d : Nat} : ∀ {n j k : Nat}, k ∈ keysOf (blanks ver d j n) ↔ ∃ i, j ≤ i ∧ i < j + n ∧ k = lk d i := by
  intro n
  induction n with
  | zero => intro j k; simp only [blanks, keysOf, List.map_nil, List.not_mem_nil, false_iff]; rintro ⟨i, h1, h2, _⟩; omega
  | succ n ih =>
    intro j k
    simp only [blanks, keysOf, List.map_cons, List.mem_cons] at ih ⊢
    rw [ih]
    constructor
    · rintro (h | ⟨i, h1, h2, h3⟩)
      · exact ⟨j, by omega, by omega, h⟩
      · exact ⟨i, by omega, by omega, h3⟩
    · rintro ⟨i, h1, h2, h3⟩
      by_cases hi : i = j
      · subst hi; exact .inl h3
      · exact .inr ⟨i, by omega, by omega, h3⟩

theorem mem_keys_leafEnts {ver d j k : Nat} {l : List ES} : k ∈ keysOf (leafEnts ver d j l) ↔ ∃ i, i < l.length ∧ k = lk d (j + i) := by
  induction l generalizing j with
  | nil => simp [leafEnts, keysOf]
  | cons e l ih =>
    simp only [leafEnts, keysOf, List.map_cons, List.mem_cons] at ih ⊢
    rw [ih]
    constructor
    · rintro (h | ⟨i, h1, h2⟩)
      · exact ⟨0, by simp, by simpa using h⟩
      · exact ⟨i + 1, by simpa using h1, by rw [h2]; unfold lk; omega⟩
    · rintro ⟨i, h1, h2⟩
      cases i with
      | zero => exact .inl (by simpa using h2)
      | succ i => exact .inr ⟨i, by simpa using h1, by rw [h2]; unfold lk; omega⟩

/-- The labels with things moved: what k owns goes to another key, or becomes shared. -/
def relab (mv : List (Nat × Option Nat)) (lab : Nat → Lab) (b : Nat) : Lab :=
  match lab b with
  | .own (k :: q) =>
    match mv.lookup k with
    | some (some d) => .own (d :: q)
    | some none => .imm
    | none => .own (k :: q)
  | l => l

theorem relab_imm {mv : List (Nat × Option Nat)} {lab : Nat → Lab} {b : Nat} (h : lab b = .imm) : relab mv lab b = .imm := by simp [relab, h]

theorem relab_shared {mv : List (Nat × Option Nat)} {lab : Nat → Lab} {b : Nat} (h : (lab b).shared) : (relab mv lab b).shared := by
  unfold relab
  cases hl : lab b with
  | imm => trivial
  | own p => rw [hl] at h; exact h.elim

theorem relab_still {mv : List (Nat × Option Nat)} {lab : Nat → Lab} {b : Nat} (h : (lab b).still) : (relab mv lab b).still := by
  rcases Lab.still_iff.1 h with h | h
  · exact Lab.still_iff.2 (.inl (relab_shared h))
  · exact Lab.still_iff.2 (.inr (by simp [relab, h]))

theorem relab_frn {mv : List (Nat × Option Nat)} {lab : Nat → Lab} {b : Nat} (h : lab b = .own []) : relab mv lab b = .own [] := by simp [relab, h]

theorem relab_own {mv : List (Nat × Option Nat)} {lab : Nat → Lab} {b k : Nat} {q : List Nat} (h : lab b = .own (k :: q)) (hk : mv.lookup k = none) :
    relab mv lab b = .own (k :: q) := by simp [relab, h, hk]

/-- A move carries what is read along. -/
theorem relab_carry {mv : List (Nat × Option Nat)} {H H' : Array Obj} {lab : Nat → Lab} {k d : Nat} (hk : mv.lookup k = some (some d))
    (hH : ∀ (b : Nat) (o : Obj), H[b]? = some o → (lab b).shared ∨ (∃ q, lab b = .own (k :: q)) → H'[b]? = some o) {lab' : Nat → Lab} (hl : ∀ b, b < H.size → lab' b = relab mv lab b) :
    Carry H H' lab lab' [k] [d] where
  own b o s ho h := by
    have hb : b < H.size := by obtain ⟨h, _⟩ := Array.getElem?_eq_some_iff.1 ho; exact h
    have h' : lab b = .own (k :: s) := by simpa using h
    exact ⟨hH b o ho (.inr ⟨s, h'⟩), by rw [hl b hb]; simp [relab, h', hk]⟩
  shr b o ho h := by
    have hb : b < H.size := by obtain ⟨h, _⟩ := Array.getElem?_eq_some_iff.1 ho; exact h
    exact ⟨hH b o ho (.inl h), by rw [hl b hb]; exact relab_shared h⟩

/-- What is given up is read as shared. -/
theorem relab_share {mv : List (Nat × Option Nat)} {H H' : Array Obj} {lab : Nat → Lab} {k : Nat} (hk : mv.lookup k = some none)
    (hH : ∀ (b : Nat) (o : Obj), H[b]? = some o → (lab b).shared ∨ (∃ q, lab b = .own (k :: q)) → H'[b]? = some o) {lab' : Nat → Lab} (hl : ∀ b, b < H.size → lab' b = relab mv lab b) :
    Share H H' lab lab' [k] where
  own b o s ho h := by
    have hb : b < H.size := by obtain ⟨h, _⟩ := Array.getElem?_eq_some_iff.1 ho; exact h
    have h' : lab b = .own (k :: s) := by simpa using h
    exact ⟨hH b o ho (.inr ⟨s, h'⟩), by rw [hl b hb]; simp [relab, h', hk, Lab.shared]⟩
  shr b o ho h := by
    have hb : b < H.size := by obtain ⟨h, _⟩ := Array.getElem?_eq_some_iff.1 ho; exact h
    exact ⟨hH b o ho (.inl h), by rw [hl b hb]; exact relab_shared h⟩

theorem I.dens_append {D : Nat → List Dyn → Option (List Dyn)} {env : Env} {a b : List I} : I.dens D env (a ++ b) = (I.dens D env a).bind fun e => I.dens D e b := by
  induction a generalizing env with
  | nil => rfl
  | cons i a ih =>
    simp only [List.cons_append, I.dens]
    cases i.den D env with
    | none => rfl
    | some e => exact ih

/-- Leaves copied into a slot. -/
theorem dens_cps {D : Nat → List Dyn → Option (List Dyn)} (d : Nat) : ∀ (ods : List Od) (j : Nat) (env : Env), (∀ x ∈ ods, ∀ k ∈ x.keys, k / 16 ≠ d) → j + ods.length ≤ 16 →
    ∃ e, I.dens D env (cps d j ods) = some e ∧ (∀ k, (∀ i, i < ods.length → k ≠ lk d (j + i)) → e k = env k) ∧
      ∀ i (h : i < ods.length), e (lk d (j + i)) = ods[i].rd env := by
  intro ods
  induction ods with
  | nil => intro j env _ _; exact ⟨env, rfl, fun _ _ => rfl, fun i h => by simp at h⟩
  | cons x ods ih =>
    intro j env hk hl
    simp only [List.length_cons] at hl
    obtain ⟨e, h1, h2, h3⟩ := ih (j + 1) (env.set (lk d j) (x.rd env)) (fun y hy => hk y (by simp [hy])) (by omega)
    refine ⟨e, by simp only [cps, I.dens, I.den]; exact h1, fun k hn => ?_, fun i hi => ?_⟩
    · rw [h2 k (fun i hi => by have := hn (i + 1) (by simpa using hi); rwa [show j + (i + 1) = j + 1 + i by omega] at this), Env.set_ne _ _ (by have := hn 0 (by simp); simpa using this)]
    · cases i with
      | zero =>
        simp only [Nat.add_zero, List.getElem_cons_zero]
        rw [h2 _ (fun i hi => by unfold lk; omega), Env.set_same]
      | succ i =>
        rw [show j + (i + 1) = j + 1 + i by omega, h3 i (by simpa using hi)]
        simp only [List.getElem_cons_succ]
        have : ∀ k ∈ (ods[i]'(by simpa using hi)).keys, k / 16 ≠ d := hk _ (by simp)
        cases hx : ods[i]'(by simpa using hi) with
        | k n =>
          rw [hx] at this
          have hn := this n (by simp [Od.keys])
          simp only [Od.rd]
          rw [Env.set_ne _ _ (by intro he; apply hn; rw [he, lk_div (by omega)])]
        | c v => rfl

end Go.Lf

/- Soundness, second part: a slot made out of leaves. -/
namespace Go.Lf

theorem mkVal_inj {agg : Bool} {c1 c2 : List Value} (hl : c1.length = c2.length) (ha : agg = false → c1.length = 1) (h : mkVal agg c1 = mkVal agg c2) : c1 = c2 := by
  cases agg with
  | true => simpa [mkVal] using h
  | false =>
    have h1 := ha rfl
    match c1, c2, h1, hl, h with
    | [a], [b], _, _, h => simpa [mkVal] using h

theorem PaOk.fun {H : Array Obj} {lab : Nat → Lab} {V : Value} {n : Nat} {c1 c2 : List Value} (h1 : PaOk H lab V n c1) (h2 : PaOk H lab V n c2) : c1 = c2 := by
  obtain ⟨b, off, c, ty, fr, rfl, _, hb, _, rfl⟩ := h1
  obtain ⟨b', off', c', ty', fr', hv, _, hb', _, rfl⟩ := h2
  simp at hv
  obtain ⟨rfl, rfl⟩ := hv
  rw [hb] at hb'
  simp at hb'
  rw [hb'.1]

theorem PasOk.fun {H : Array Obj} {lab : Nat → Lab} : ∀ {Vs : List Value} {ns : List Nat} {c1 c2 : List Value}, PasOk H lab Vs ns c1 → PasOk H lab Vs ns c2 → c1 = c2
  | [], [], _, _, h1, h2 => by simp [PasOk] at h1 h2; rw [h1, h2]
  | V :: Vs, n :: ns, _, _, h1, h2 => by
    obtain ⟨a1, a2, rfl, x1, y1⟩ := h1
    obtain ⟨b1, b2, rfl, x2, y2⟩ := h2
    rw [x1.fun x2, PasOk.fun y1 y2]
  | [], _ :: _, _, _, h, _ => h.elim
  | _ :: _, [], _, _, h, _ => h.elim

theorem PartsOk.fun : ∀ {Vs : List Value} {ns : List (Nat × Bool)} {c1 c2 : List Value}, PartsOk Vs ns c1 → PartsOk Vs ns c2 → c1 = c2
  | [], [], _, _, h1, h2 => by simp [PartsOk] at h1 h2; rw [h1, h2]
  | V :: Vs, (n, agg) :: ns, _, _, h1, h2 => by
    obtain ⟨a1, a2, rfl, l1, g1, v1, y1⟩ := h1
    obtain ⟨b1, b2, rfl, l2, g2, v2, y2⟩ := h2
    rw [PartsOk.fun y1 y2, mkVal_inj (by rw [l1, l2]) (fun h => by rw [l1, g1 h]) (v1.symm.trans v2)]
  | [], _ :: _, _, _, h, _ => h.elim
  | _ :: _, [], _, _, h, _ => h.elim

theorem Has.fun {H : Array Obj} {lab : Nat → Lab} {s : Nat} {st : ES} {V : Value} {c1 c2 : List Value} (h1 : Has H lab s st V c1) (h2 : Has H lab s st V c2) : c1 = c2 := by
  cases st <;> simp only [Has] at h1 h2
  case pl n agg => exact mkVal_inj (by rw [h1.2.1, h2.2.1]) (fun h => by rw [h1.2.1, h1.2.2 h]) (h1.1.symm.trans h2.1)
  case bx n =>
    obtain ⟨b, c, ty, rfl, _, hb, rfl, _⟩ := h1
    obtain ⟨b', c', ty', hv, _, hb', rfl, _⟩ := h2
    simp at hv
    subst hv
    rw [hb] at hb'
    simp at hb'
    rw [hb'.1]
  case pa n => exact h1.fun h2
  case cp f ns =>
    obtain ⟨ps, rfl, h1⟩ := h1
    obtain ⟨ps', hv, h2⟩ := h2
    simp at hv
    subst hv
    exact h1.fun h2
  case tu ps =>
    obtain ⟨vs, rfl, h1⟩ := h1
    obtain ⟨vs', hv, h2⟩ := h2
    simp at hv
    subst hv
    exact h1.fun h2
  all_goals rw [h1, h2]

theorem Fr.has_fun {F : Fr} {s : Nat} {c1 c2 : List Value} (h1 : F.has s c1) (h2 : F.has s c2) : c1 = c2 := h1.1.fun h2.1

theorem Fr.has_cells {F : Fr} {s : Nat} {cs : List Value} (h : F.has s cs) : cs.length = (F.G (sk s)).st.cells := by
  obtain ⟨h, _⟩ := h
  cases hst : (F.G (sk s)).st <;> rw [hst] at h <;> simp only [Has, ES.cells] at h ⊢
  case pl n agg => exact h.2.1
  case bx n => obtain ⟨b, c, ty, _, _, _, _, hn⟩ := h; exact hn
  case pa n => obtain ⟨b, off, c, ty, fr, _, _, _, hz, rfl⟩ := h; exact cut_length hz
  case cp f ns => obtain ⟨ps, _, h⟩ := h; exact h.len
  case tu ps => obtain ⟨vs, _, h⟩ := h; exact h.len
  all_goals simp [h]

theorem Fr.cell_fun {F : Fr} {k : Nat} {v v' : Value} (h1 : F.cell k v) (h2 : F.cell k v') : v = v' := by
  obtain ⟨c1, a1, b1⟩ := h1
  obtain ⟨c2, a2, b2⟩ := h2
  rw [Fr.has_fun a1 a2, b2] at b1
  exact (Option.some.inj b1).symm

theorem Fr.cell.lt {F : Fr} {k : Nat} {v : Value} (h : F.cell k v) : k % 16 < 15 := by
  obtain ⟨cs, hh, hv⟩ := h
  have := (List.getElem?_eq_some_iff.1 hv).1
  have := hh.2
  omega

/-- Where nothing that was there changes, a slot keeps its cells. -/
theorem Fr.has_same {F F' : Fr} {s : Nat} {cs : List Value} (hG : F'.G (sk s) = F.G (sk s)) (hV : F'.val s = F.val s)
    (hH : ∀ (b : Nat) (o : Obj), F.H[b]? = some o → (F.lab b).shared ∨ F.lab b = .own [sk s] → F'.H[b]? = some o)
    (hS : ∀ (b : Nat) (o : Obj), F.H[b]? = some o → (F.lab b).shared → (F'.lab b).shared) (hN : ∀ (b : Nat) (o : Obj), F.H[b]? = some o → F.lab b = .own [] → F'.H[b]? = some o ∧ F'.lab b = .own []) (hB : ∀ (b : Nat) (o : Obj), F.H[b]? = some o → F.lab b = .own [sk s] → F'.lab b = .own [sk s])
    (h : F.has s cs) : F'.has s cs := by
  obtain ⟨h, hl⟩ := h
  refine ⟨?_, hl⟩
  rw [hG, hV]
  have hs := still_of (fun b o ho hl => ⟨hH b o ho (.inl hl), hS b o ho hl⟩ : ∀ b o, F.H[b]? = some o → (F.lab b).shared → F'.H[b]? = some o ∧ (F'.lab b).shared) hN
  cases hst : (F.G (sk s)).st <;> rw [hst] at h <;> simp only [Has] at h ⊢
  case bx n =>
    obtain ⟨b, c, ty, hv, hlab, hb, rfl, hn⟩ := h
    exact ⟨b, c, ty, hv, hB b _ hb hlab, hH b _ hb (.inr hlab), rfl, hn⟩
  case pa n => exact h.keep hs
  case cp f ns => obtain ⟨ps, hv, hp⟩ := h; exact ⟨ps, hv, hp.keep hs⟩
  all_goals exact h

/-- The cells of data are cells of one value each. -/
theorem Rd.one {H : Array Obj} {lab : Nat → Lab} {m : M} {pos : List Nat} {v : Value} {τ : Ty} {x : τ.T} (h : Rd H lab m pos [v] τ x) : v.oneCell' = true := by
  cases m <;> cases τ <;> simp only [Rd] at h
  case sc.int => simp at h; subst h; rfl
  case sc.bool => simp at h; subst h; rfl
  case sc.str => simp at h; subst h; rfl
  case sl.slice =>
    obtain ⟨ad, cap, h, _⟩ := h
    simp at h; subst h; rfl
  case pair.pair ma mb a b =>
    have h1 := h.1.length
    have h2 := h.2.length
    have := a.n_pos
    have := b.n_pos
    simp at h1 h2; omega

/-- What a source is worth in a state: the cell that it gives. -/
def SrcOk (F : Fr) : Src → Value → Prop
  | .cpy k em, v => (F.G k).st = (if em then .em else .va) ∧ LeafOk F k (if em then .em else .va) v
  | .als k kv k0, v => (F.G k).ver = kv ∧ F.cell k v ∧ F.env k0 = F.env k ∧ v.oneCell' = true
  | .tak k m org, v => (F.G k).st = .ro m org ∧ F.cell k v ∧ LeafOk F k (.ro m org) v
  | .lek k, v => ∃ m org, (F.G k).st = .ro m org ∧ F.cell k v ∧ LeafOk F k (.ro m org) v
  | .new c, v => v = c.val

def mvOf (d : Nat) : Nat → List Src → List (Nat × Option Nat)
  | _, [] => []
  | j, .tak k _ _ :: l => (k, some (lk d j)) :: mvOf d (j + 1) l
  | j, .lek k :: l => (k, none) :: mvOf d (j + 1) l
  | j, .cpy _ _ :: l => mvOf d (j + 1) l
  | j, .als _ _ _ :: l => mvOf d (j + 1) l
  | j, .new _ :: l => mvOf d (j + 1) l

theorem mvOf_none {d : Nat} : ∀ {l : List Src} {j k : Nat}, k ∉ takenKeys l → (mvOf d j l).lookup k = none := by
  intro l
  induction l with
  | nil => intro j k _; rfl
  | cons s l ih =>
    intro j k hk
    cases s <;> simp only [takenKeys, mvOf, List.mem_cons, not_or] at hk ⊢
    case tak k' m org => rw [List.lookup_cons]; have : (k == k') = false := by simpa using hk.1
                         rw [this]; exact ih hk.2
    case lek k' => rw [List.lookup_cons]; have : (k == k') = false := by simpa using hk.1
                   rw [this]; exact ih hk.2
    all_goals exact ih hk

theorem nodupB_cons {k : Nat} {l : List Nat} (h : nodupB (k :: l) = true) : k ∉ l ∧ nodupB l = true := by
  simpa [nodupB] using h

theorem takenKeys_mem {l : List Src} {i k : Nat} (hi : i < l.length) (h : (∃ m org, l[i] = .tak k m org) ∨ l[i] = .lek k) : k ∈ takenKeys l := by
  induction l generalizing i with
  | nil => simp at hi
  | cons s l ih =>
    cases i with
    | zero => simp at h; rcases h with ⟨m, org, rfl⟩ | rfl <;> simp [takenKeys]
    | succ i =>
      have := ih (i := i) (by simpa using hi) (by simpa using h)
      cases s <;> simp [takenKeys, this]

theorem mem_takenKeys {l : List Src} {k : Nat} (h : k ∈ takenKeys l) : ∃ i, ∃ hi : i < l.length, (∃ m org, l[i] = .tak k m org) ∨ l[i] = .lek k := by
  induction l with
  | nil => simp [takenKeys] at h
  | cons s l ih =>
    cases s <;> simp only [takenKeys, List.mem_cons] at h
    case tak k' m org =>
      rcases h with rfl | h
      · exact ⟨0, by simp, .inl ⟨m, org, rfl⟩⟩
      · obtain ⟨i, hi, x⟩ := ih h; exact ⟨i + 1, by simpa using hi, by simpa using x⟩
    case lek k' =>
      rcases h with rfl | h
      · exact ⟨0, by simp, .inr rfl⟩
      · obtain ⟨i, hi, x⟩ := ih h; exact ⟨i + 1, by simpa using hi, by simpa using x⟩
    all_goals (obtain ⟨i, hi, x⟩ := ih h; exact ⟨i + 1, by simpa using hi, by simpa using x⟩)

theorem mvOf_some {d : Nat} : ∀ {l : List Src} {j i : Nat} (hi : i < l.length), nodupB (takenKeys l) = true →
    (∀ k m org, l[i] = .tak k m org → (mvOf d j l).lookup k = some (some (lk d (j + i)))) ∧ (∀ k, l[i] = .lek k → (mvOf d j l).lookup k = some none) := by
  intro l
  induction l with
  | nil => intro j i hi; simp at hi
  | cons s l ih =>
    intro j i hi hn
    cases i with
    | zero =>
      constructor
      · intro k m org h; simp at h; subst h; simp [mvOf]
      · intro k h; simp at h; subst h; simp [mvOf]
    | succ i =>
      have hi' : i < l.length := by simpa using hi
      have step : ∀ (mv : List (Nat × Option Nat)) (k' : Nat) (x : Option Nat) (k : Nat), k ≠ k' → ((k', x) :: mv).lookup k = mv.lookup k := by
        intro mv k' x k hk
        rw [List.lookup_cons]
        have : (k == k') = false := by simpa using hk
        rw [this]
      have hn' : nodupB (takenKeys l) = true := by cases s <;> simp only [takenKeys] at hn <;> first | exact hn | exact (nodupB_cons hn).2
      have hd : ∀ k, ((∃ m org, l[i] = .tak k m org) ∨ l[i] = .lek k) → ∀ k', (s = .lek k' ∨ ∃ m org, s = .tak k' m org) → k ≠ k' := by
        intro k hk k' hs he
        subst he
        have := takenKeys_mem hi' hk
        rcases hs with rfl | ⟨m, org, rfl⟩ <;> simp only [takenKeys] at hn <;> exact (nodupB_cons hn).1 this
      obtain ⟨h1, h2⟩ := ih (j := j + 1) hi' hn'
      constructor
      · intro k m org h
        have hk : l[i] = .tak k m org := by simpa using h
        have := h1 k m org hk
        rw [show j + 1 + i = j + (i + 1) by omega] at this
        cases s <;> simp only [mvOf]
        case tak k' m' org' => rw [step _ _ _ _ (hd k (.inl ⟨m, org, hk⟩) k' (.inr ⟨m', org', rfl⟩))]; exact this
        case lek k' => rw [step _ _ _ _ (hd k (.inl ⟨m, org, hk⟩) k' (.inl rfl))]; exact this
        all_goals exact this
      · intro k h
        have hk : l[i] = .lek k := by simpa using h
        have := h2 k hk
        cases s <;> simp only [mvOf]
        case tak k' m' org' => rw [step _ _ _ _ (hd k (.inr hk) k' (.inr ⟨m', org', rfl⟩))]; exact this
        case lek k' => rw [step _ _ _ _ (hd k (.inr hk) k' (.inl rfl))]; exact this
        all_goals exact this

/-- The kinds whose slots have leaves. -/
def ES.leafy : ES → Bool
  | .pl _ _ | .bx _ | .pa _ | .cp _ _ | .tu _ => true
  | _ => false

theorem claim_leafy {F : Fr} {s : Nat} {st : ES} (h : st.leafy = true) :
    Claim F s st ↔ ∃ cs, F.has s cs ∧ ∀ j v, cs[j]? = some v → LeafOk F (lk s j) (F.G (lk s j)).st v := by
  cases st <;> simp [ES.leafy] at h <;> simp only [Claim]

theorem Cst.ok (F : Fr) (k : Nat) (c : Cst) (h : F.env k = c.dyn) : LeafOk F k (Src.new c).st c.val := by
  cases c <;> simp only [Src.st, LeafOk] <;> rw [h] <;> simp [Cst.dyn, Cst.val, Ty.shr, Rd]

theorem Src.leaf {F F' : Fr} {clk clk' : Clk} {D : Nat → Prop} (h : St F clk) (T : Touch F F' clk clk' D) {mv : List (Nat × Option Nat)} {dk : Nat}
    (hH : ∀ (b : Nat) (o : Obj), F.H[b]? = some o → (F.lab b).shared ∨ (∃ k q, F.lab b = .own (k :: q) ∧ k % 16 ≠ 15) → F'.H[b]? = some o)
    (hlab : ∀ b, b < F.H.size → F'.lab b = relab mv F.lab b) {s : Src} {v : Value} (hs : SrcOk F s v)
    (ht : ∀ k m org, s = .tak k m org → mv.lookup k = some (some dk)) (hk : ∀ k, s = .lek k → mv.lookup k = some none)
    (henv : F'.env dk = s.od.rd F.env) : LeafOk F' dk s.st v := by
  have hsh : ∀ b o, F.H[b]? = some o → (F.lab b).shared → F'.H[b]? = some o ∧ (F'.lab b).shared := T.shr
  cases s with
  | cpy k em =>
    simp only [Src.od, Od.rd] at henv
    cases em with
    | true => simp [SrcOk, LeafOk, Src.st, henv] at hs ⊢; exact hs.2
    | false =>
      simp only [SrcOk, LeafOk, Src.st, Bool.false_eq_true, if_false] at hs ⊢
      rw [henv]
      exact hs.2.shared hsh
  | als k kv k0 =>
    simp only [Src.od, Od.rd] at henv
    obtain ⟨h1, h2, h3, _⟩ := hs
    simp only [Src.st, LeafOk]
    intro hv
    obtain ⟨hk, _⟩ := T.fresh (by rw [← h1]; exact h.vers k) hv
    exact ⟨T.cell hk h2, by rw [henv, h3, T.env k hk]⟩
  | tak k m org =>
    simp only [Src.od, Od.rd] at henv
    obtain ⟨h1, h2, h3⟩ := hs
    have h15 := h2.lt
    simp only [Src.st, LeafOk] at h3 ⊢
    rw [henv, T.org]
    exact ⟨h3.1.carry (relab_carry (ht k m org rfl) (fun b o ho hx => hH b o ho (hx.imp id fun ⟨q, hq⟩ => ⟨k, q, hq, by omega⟩)) hlab), h3.2⟩
  | lek k =>
    simp only [Src.od, Od.rd] at henv
    obtain ⟨m, org, h1, h2, h3⟩ := hs
    have h15 := h2.lt
    simp only [Src.st, LeafOk] at h3 ⊢
    rw [henv]
    exact h3.1.share (relab_share (hk k rfl) (fun b o ho hx => hH b o ho (hx.imp id fun ⟨q, hq⟩ => ⟨k, q, hq, by omega⟩)) hlab)
  | new c =>
    simp only [Src.od, Od.rd] at henv
    simp only [SrcOk] at hs
    subst hs
    exact Cst.ok F' dk c henv

end Go.Lf

/- Soundness, third part: the state behind an operation that makes a slot out of leaves. -/
namespace Go.Lf

/-- What putLeaves gives. -/
structure PutOut (F : Fr) (C : Cfg) (d : Nat) (st : ES) (l : List Src) (es : List (Nat × Ent)) (is : List I) : Prop where
  nodup : nodupB (takenKeys l) = true
  apart : ∀ k ∈ takenKeys l, k / 16 ≠ d
  calm : C.ch = [] ∨ takenKeys l = []
  ods : ∀ x ∈ l.map Src.od, ∀ k ∈ x.keys, k / 16 ≠ d
  len : l.length ≤ 14
  old : (F.G (sk d)).st.cells ≤ 15
  nt : d < C.nt
  es_eq : es = l.flatMap (Src.ents C.ver) ++ (blanks C.ver d 0 (F.G (sk d)).st.cells ++ (sk d, ⟨C.ver, C.ch, st⟩) :: leafEnts C.ver d 0 (l.map Src.st))
  is_eq : is = cps d 0 (l.map Src.od)

theorem slotEnts_run {F : Fr} {C : Cfg} {d : Nat} {st : ES} {l : List ES} {es : List (Nat × Ent)} (h : (slotEnts C d st l).run F.G = some es) :
    l.length ≤ 14 ∧ (F.G (sk d)).st.cells ≤ 15 ∧ d < C.nt ∧ es = blanks C.ver d 0 (F.G (sk d)).st.cells ++ (sk d, ⟨C.ver, C.ch, st⟩) :: leafEnts C.ver d 0 l := by
  simp only [slotEnts, Q.run_bind', Q.run_ent, Option.bind_some, Q.run_guard] at h
  split at h
  · rename_i hl
    simp only [Option.bind_some, Q.run, Option.some.injEq] at h
    simp only [Bool.and_eq_true, decide_eq_true_eq] at hl
    exact ⟨hl.1.1, hl.1.2, hl.2, h.symm⟩
  · simp at h

theorem putLeaves_run {F : Fr} {C : Cfg} {d : Nat} {st : ES} {l : List Src} {es : List (Nat × Ent)} {is : List I}
    (h : (putLeaves C d st l).run F.G = some (es, is)) : PutOut F C d st l es is := by
  simp only [putLeaves, Q.run_bind', Q.run_guard] at h
  split at h
  · rename_i hg
    simp only [Option.bind_some] at h
    cases hs : (slotEnts C d st (l.map Src.st)).run F.G with
    | none => rw [hs] at h; simp at h
    | some e =>
      rw [hs] at h
      simp only [Option.bind_some, Q.run, Option.some.injEq, Prod.mk.injEq] at h
      obtain ⟨h1, h1', h1'', h2⟩ := slotEnts_run hs
      simp only [Bool.and_eq_true, List.all_eq_true, bne_iff_ne, ne_eq, Bool.or_eq_true, List.isEmpty_iff] at hg
      obtain ⟨⟨⟨g1, g2⟩, g3⟩, g4⟩ := hg
      refine ⟨g1, g2, g3, ?_, by simpa using h1, h1', h1'', by rw [← h.1, h2], h.2.symm⟩
      intro x hx k hk
      obtain ⟨s, hs, rfl⟩ := List.mem_map.1 hx
      exact g4 s hs k hk
  · simp at h

/-- The entries of what is taken. -/
theorem mem_srcEnts {l : List Src} {ver k : Nat} : k ∈ keysOf (l.flatMap (Src.ents ver)) ↔ k ∈ takenKeys l := by
  induction l with
  | nil => simp [keysOf, takenKeys]
  | cons s l ih =>
    simp only [List.flatMap_cons, keysOf_append, List.mem_append, ih]
    cases s <;> simp [Src.ents, keysOf, takenKeys]

theorem srcEnts_last {l : List Src} {ver k : Nat} {e : Ent} (h : lastOf (l.flatMap (Src.ents ver)) k = some e) : e = ⟨ver, [], .no⟩ ∨ (e = ⟨ver, [], .va⟩ ∧ ∃ i, ∃ hi : i < l.length, l[i] = .lek k) := by
  induction l with
  | nil => simp [lastOf] at h
  | cons s l ih =>
    simp only [List.flatMap_cons, lastOf_append] at h
    cases hl : lastOf (l.flatMap (Src.ents ver)) k with
    | some x =>
      rw [hl] at h
      simp at h
      subst h
      rcases ih hl with h | ⟨h, i, hi, hx⟩
      · exact .inl h
      · exact .inr ⟨h, i + 1, by simpa using hi, by simpa using hx⟩
    | none =>
      rw [hl] at h
      simp at h
      cases s <;> simp [Src.ents, lastOf] at h
      case tak k' m org => exact .inl h.2.symm
      case lek k' => exact .inr ⟨h.2.symm, 0, by simp, by simp [h.1]⟩

section
variable {F : Fr} {C : Cfg} {d : Nat} {st : ES} {l : List Src} {es : List (Nat × Ent)} {is : List I}

theorem PutOut.keys (p : PutOut F C d st l es is) (k : Nat) :
    k ∈ keysOf es ↔ k ∈ takenKeys l ∨ (∃ i, i < (F.G (sk d)).st.cells ∧ k = lk d i) ∨ k = sk d ∨ ∃ i, i < l.length ∧ k = lk d i := by
  rw [p.es_eq, keysOf_append, List.mem_append, mem_srcEnts, keysOf_append, List.mem_append, mem_keys_blanks]
  simp only [keysOf, List.map_cons, List.mem_cons]
  rw [show k ∈ List.map (fun x => x.fst) (leafEnts C.ver d 0 (List.map Src.st l)) ↔ k ∈ keysOf (leafEnts C.ver d 0 (List.map Src.st l)) from Iff.rfl, mem_keys_leafEnts]
  simp

theorem PutOut.ent_sk (p : PutOut F C d st l es is) : F.G.sets es (sk d) = ⟨C.ver, C.ch, st⟩ := by
  rw [GT.sets_eq, p.es_eq, lastOf_append, lastOf_append]
  have : lastOf (leafEnts C.ver d 0 (l.map Src.st)) (sk d) = none := by
    rw [lastOf_none, mem_keys_leafEnts]
    rintro ⟨i, hi, he⟩
    have := p.len
    simp at hi
    exact lk_sk (by omega) he.symm
  simp [lastOf, this]

theorem PutOut.ent_lk (p : PutOut F C d st l es is) {j : Nat} (hj : j < l.length) : F.G.sets es (lk d j) = ⟨C.ver, [], l[j].st⟩ := by
  rw [GT.sets_eq, p.es_eq, lastOf_append, lastOf_append]
  have := lastOf_leafEnts_in C.ver d (l.map Src.st) 0 j (by simpa using hj)
  simp only [Nat.zero_add, List.getElem_map] at this
  simp [lastOf, this]

theorem PutOut.ent_taken (p : PutOut F C d st l es is) {k : Nat} (hk : k ∈ takenKeys l) :
    F.G.sets es k = ⟨C.ver, [], .no⟩ ∨ (F.G.sets es k = ⟨C.ver, [], .va⟩ ∧ ∃ i, ∃ hi : i < l.length, l[i] = .lek k) := by
  rw [GT.sets_eq, p.es_eq, lastOf_append]
  have hd := p.apart k hk
  have hn : lastOf (blanks C.ver d 0 (F.G (sk d)).st.cells ++ (sk d, ⟨C.ver, C.ch, st⟩) :: leafEnts C.ver d 0 (l.map Src.st)) k = none := by
    rw [lastOf_none, keysOf_append, List.mem_append, mem_keys_blanks]
    simp only [keysOf, List.map_cons, List.mem_cons]
    rw [show k ∈ List.map (fun x => x.fst) (leafEnts C.ver d 0 (List.map Src.st l)) ↔ k ∈ keysOf (leafEnts C.ver d 0 (List.map Src.st l)) from Iff.rfl, mem_keys_leafEnts]
    rintro (⟨i, _, hi, rfl⟩ | rfl | ⟨i, hi, rfl⟩)
    · have := p.old; exact hd (lk_div (by omega))
    · exact hd (sk_div d)
    · have := p.len; simp at hi; exact hd (lk_div (by omega))
  rw [hn]
  cases hl : lastOf (l.flatMap (Src.ents C.ver)) k with
  | none => exact absurd (mem_srcEnts.2 hk) (lastOf_none.1 hl)
  | some e => simpa using srcEnts_last hl

/-- Every entry has the new version; old ones have none of their references made newer. -/
theorem PutOut.ver (p : PutOut F C d st l es is) {k : Nat} (hk : k ∈ keysOf es) : (F.G.sets es k).ver = C.ver := by
  rw [GT.sets_eq]
  cases hl : lastOf es k with
  | none => exact absurd hk (lastOf_none.1 hl)
  | some e =>
    refine lastOf_all (p := fun e => e.ver = C.ver) (fun a ha => ?_) hl
    rw [p.es_eq, List.mem_append, List.mem_append] at ha
    have hbl : ∀ (n j : Nat), ∀ a ∈ blanks C.ver d j n, a.2.ver = C.ver := by
      intro n
      induction n with
      | zero => intro j a ha; simp [blanks] at ha
      | succ n ih => intro j a ha; simp only [blanks, List.mem_cons] at ha; rcases ha with rfl | ha; rfl; exact ih _ _ ha
    have hle : ∀ (m : List ES) (j : Nat), ∀ a ∈ leafEnts C.ver d j m, a.2.ver = C.ver := by
      intro m
      induction m with
      | nil => intro j a ha; simp [leafEnts] at ha
      | cons e m ih => intro j a ha; simp only [leafEnts, List.mem_cons] at ha; rcases ha with rfl | ha; rfl; exact ih _ _ ha
    rcases ha with ha | ha | ha
    · obtain ⟨s, _, hs⟩ := List.mem_flatMap.1 ha
      cases s <;> simp [Src.ents] at hs <;> subst hs <;> rfl
    · exact hbl _ _ a ha
    · rcases List.mem_cons.1 ha with rfl | ha
      · rfl
      · exact hle _ _ a ha

/-- THE STATE BEHIND IT: slot d has the cells vs, made out of the sources. -/
theorem PutOut.state (p : PutOut F C d st l es is) {clk : Clk} (h : St F clk) (hv : ¬ clk C.ver)
    (hch : holds F.env C.ch = true) (hchD : ∀ s, sk s ∉ keysOf es → ∀ c ∈ (F.G (sk s)).ch, c.1 ∉ keysOf es) (hchC : ∀ c ∈ C.ch, c.1 ∉ keysOf es)
    {vs : List Value} (hlen : l.length = vs.length) (hsrc : ∀ i (h1 : i < l.length) (h2 : i < vs.length), SrcOk F l[i] vs[i])
    {F' : Fr} (hG : F'.G = F.G.sets es) {D : Nat → List Dyn → Option (List Dyn)} (henv : I.dens D F.env is = some F'.env) (horg : F'.org = F.org)
    (htmp : ∀ s, s ≠ d → F'.val s = F.val s) (hH : ∀ (b : Nat) (o : Obj), F.H[b]? = some o → F'.H[b]? = some o)
    (hlab : ∀ b, b < F.H.size → F'.lab b = relab (mvOf d 0 l) F.lab b) (hnew : ∀ b, F'.H.size ≤ b → F'.lab b = .imm)
    (hold : st.older (clk.add C.ver)) (hcl : Touch F F' clk (clk.add C.ver) (· ∈ keysOf es) → (∀ j v, vs[j]? = some v → LeafOk F' (lk d j) (F'.G (lk d j)).st v) → Claim F' d st) :
    St F' (clk.add C.ver) := by
  have hbl : ∀ (b : Nat) (o : Obj), F.H[b]? = some o → b < F.H.size := fun b o ho => by obtain ⟨h, _⟩ := Array.getElem?_eq_some_iff.1 ho; exact h
  have h15 : ∀ k ∈ takenKeys l, k % 16 < 15 := by
    intro k hk
    obtain ⟨i, hi, hx⟩ := mem_takenKeys hk
    have := hsrc i hi (by omega)
    rcases hx with ⟨m, org, hx⟩ | hx <;> rw [hx] at this
    · exact this.2.1.lt
    · obtain ⟨_, _, _, h2, _⟩ := this; exact h2.lt
  have hskt : ∀ s, s ≠ d → sk s ∉ keysOf es := by
    intro s hs hk
    rw [p.keys] at hk
    rcases hk with hk | ⟨i, hi, he⟩ | hk | ⟨i, hi, he⟩
    · have := h15 _ hk; unfold sk at this; omega
    · have := p.old; by_cases hi15 : i = 15
      · omega
      · exact lk_sk (by omega) he.symm
    · exact hs (sk_inj.1 hk)
    · have := p.len; exact lk_sk (by omega) he.symm
  obtain ⟨e, he1, he2, he3⟩ := dens_cps (D := D) d (l.map Src.od) 0 F.env p.ods (by have := p.len; simp; omega)
  rw [p.is_eq, he1] at henv
  obtain rfl : e = F'.env := Option.some.inj henv
  have henv0 : ∀ k, k ∉ keysOf es → F'.env k = F.env k := by
    intro k hk
    refine he2 k fun i hi hki => hk ?_
    rw [p.keys]
    exact .inr (.inr (.inr ⟨i, by simpa using hi, by simpa using hki⟩))
  have henvL : ∀ j (hj : j < l.length), F'.env (lk d j) = l[j].od.rd F.env := by
    intro j hj
    have := he3 j (by simpa using hj)
    simpa using this
  have hmv : ∀ k, k ∉ keysOf es → (mvOf d 0 l).lookup k = none := fun k hk => mvOf_none fun ht => hk ((p.keys k).2 (.inl ht))
  have T : Touch F F' clk (clk.add C.ver) (· ∈ keysOf es) := {
    le := fun _ h => .inl h
    ent := fun k hk => by rw [hG, GT.sets_ne _ hk]
    env := henv0
    org := horg
    slot := fun s cs hs hh j hj => by
      by_cases hsd : s = d
      · subst hsd
        rw [p.keys]
        exact .inr (.inl ⟨j, by rw [← Fr.has_cells hh]; exact hj, rfl⟩)
      · exact absurd hs (hskt s hsd)
    tmp := fun s hs => htmp s fun he => hs (by rw [he, p.keys]; exact .inr (.inr (.inl rfl)))
    ver := fun k hk => by rw [hG, p.ver hk]; exact hv
    chn := hchD
    shr := fun b o ho hl => ⟨hH b o ho, by rw [hlab b (hbl b o ho)]; exact relab_shared hl⟩
    frn := fun b o ho hl => ⟨hH b o ho, by rw [hlab b (hbl b o ho)]; exact relab_frn hl⟩
    own := fun b o k q ho hl _ hk => ⟨hH b o ho, by rw [hlab b (hbl b o ho)]; exact relab_own hl (hmv k hk)⟩
    box := fun s b c ty hs _ hl hb => ⟨c, hH b _ hb, by rw [hlab b (hbl b _ hb)]; exact relab_own hl (hmv _ hs), rfl, fun _ _ => rfl⟩
    old := fun k hk => by
      refine ⟨?_, by rw [hG, p.ver hk]; exact .inr rfl⟩
      rw [hG]
      rw [p.keys] at hk
      by_cases hkt : k ∈ takenKeys l
      · rcases p.ent_taken hkt with h1 | ⟨h1, _⟩ <;> rw [h1] <;> trivial
      · by_cases hks : k = sk d
        · subst hks
          rw [p.ent_sk]
          exact hold
        · by_cases hkl : ∃ i, i < l.length ∧ k = lk d i
          · obtain ⟨i, hi, rfl⟩ := hkl
            rw [p.ent_lk hi]
            have := hsrc i hi (by omega)
            cases hli : l[i] with
            | als k2 kv k0 => rw [hli] at this; simp only [Src.st, ES.older]; rw [← this.1]; exact Or.inl (h.vers k2)
            | cpy k2 em => cases em <;> trivial
            | new c => cases c <;> trivial
            | _ => trivial
          · -- a blotted leaf
            have hn : F.G.sets es k = ⟨C.ver, [], .no⟩ := by
              rw [GT.sets_eq, p.es_eq, lastOf_append, lastOf_append]
              have h1 : lastOf ((sk d, ⟨C.ver, C.ch, st⟩) :: leafEnts C.ver d 0 (l.map Src.st)) k = none := by
                rw [lastOf_none]
                simp only [keysOf, List.map_cons, List.mem_cons, not_or]
                refine ⟨hks, ?_⟩
                rw [show k ∈ List.map (fun x => x.fst) (leafEnts C.ver d 0 (List.map Src.st l)) ↔ k ∈ keysOf (leafEnts C.ver d 0 (List.map Src.st l)) from Iff.rfl, mem_keys_leafEnts]
                rintro ⟨i, hi, hx⟩
                exact hkl ⟨i, by simpa using hi, by simpa using hx⟩
              rw [h1]
              rcases hk with hk | ⟨i, hi, hx⟩ | hk | hk
              · exact absurd hk hkt
              · rw [lastOf_blanks_in _ _ _ _ _ ⟨i, Nat.zero_le _, by omega, hx⟩]; rfl
              · exact absurd hk hks
              · exact absurd hk hkl
            rw [hn]; trivial
    lab := hnew }
  refine h.touch T ?_
  intro s hs
  by_cases hsd : s = d
  · subst hsd
    unfold SlotOk
    rw [hG, p.ent_sk]
    have hh : holds F'.env C.ch = true := by rw [T.holds hchC]; exact hch
    simp only [hh, if_true]
    refine hcl T fun j v hj => ?_
    have hj' : j < vs.length := (List.getElem?_eq_some_iff.1 hj).1
    have hjl : j < l.length := by omega
    have hjv : vs[j] = v := (List.getElem?_eq_some_iff.1 hj).2
    rw [hG, p.ent_lk hjl, ← hjv]
    have hmvj := mvOf_some (d := s) (j := 0) hjl p.nodup
    refine Src.leaf h T (fun b o ho _ => hH b o ho) hlab (hsrc j hjl hj') (fun k m org hx => ?_) (fun k hx => ?_) (henvL j hjl)
    · simpa using hmvj.1 k m org hx
    · exact hmvj.2 k hx
  · have hss := hskt s hsd
    refine T.slotLeaf h hss fun cs' j v hcs hj hD => ?_
    rw [hG]
    rw [p.keys] at hD
    have hj15 : j < 15 := by
      have := (List.getElem?_eq_some_iff.1 hj).1; have := hcs.2
      rcases Nat.lt_or_ge j 15 with h | h
      · exact h
      · omega
    have hkt : lk s j ∈ takenKeys l := by
      rcases hD with hk | ⟨i, hi, he⟩ | hk | ⟨i, hi, he⟩
      · exact hk
      · have := p.old; exact absurd ((lk_inj (by omega) (by omega)).1 he).1 hsd
      · exact absurd hk (lk_sk hj15)
      · have := p.len; exact absurd ((lk_inj (by omega) (by omega)).1 he).1 hsd
    rcases p.ent_taken hkt with h1 | ⟨h1, i, hi, hx⟩
    · rw [h1]; trivial
    · rw [h1]
      have hs' := hsrc i hi (by omega)
      rw [hx] at hs'
      obtain ⟨m, org, g1, g2, g3⟩ := hs'
      -- the cell is the one that was there
      obtain ⟨cs, hh, hcv⟩ := g2
      rw [lk_div (by omega), lk_mod (by omega)] at *
      have hsame : F'.has s cs := Fr.has_same (T.ent _ hss) (htmp s hsd) (fun b o ho _ => hH b o ho) (fun b o ho hl => (T.shr b o ho hl).2) T.frn
        (fun b o ho hl => by rw [hlab b (hbl b o ho)]; exact relab_own hl (hmv _ hss)) hh
      rw [Fr.has_fun hcs hsame, hcv] at hj
      obtain rfl : _ = v := Option.some.inj hj
      simp only [LeafOk] at g3 ⊢
      have hE : F'.env (lk s j) = F.env (lk s j) := by
        refine he2 _ fun i hi hki => ?_
        have := p.len
        simp at hi hki
        exact hsd ((lk_inj (by omega) (by omega)).1 hki).1
      rw [hE]
      exact g3.1.share (relab_share ((mvOf_some (d := d) (j := 0) hi p.nodup).2 _ hx) (fun b o ho _ => hH b o ho) hlab)

end

end Go.Lf

/- Soundness, fourth part: what the look-ups of an operation tell about the state. -/
namespace Go.Lf

theorem holds_prefix {env : Env} {p ch : List (Nat × Bool)} (h : holds env ch = true) (hp : p.isPrefixOf ch = true) : holds env p = true := by
  obtain ⟨t, rfl⟩ := List.isPrefixOf_iff_prefix.1 hp
  unfold holds at *
  rw [List.all_append, Bool.and_eq_true] at h
  exact h.1

theorem slotK_run {ch : List (Nat × Bool)} {s : Nat} {G : GT} {e : Ent} (h : (slotK ch s).run G = some e) : e = G (sk s) ∧ e.ch.isPrefixOf ch = true := by
  simp only [slotK, Q.run_bind', Q.run_ent, Option.bind_some, Q.run_guard] at h
  split at h
  · rename_i hg
    simp only [Option.bind_some, Q.run, Option.some.injEq] at h
    subst h
    exact ⟨rfl, hg⟩
  · simp at h

theorem St.claim {F : Fr} {clk : Clk} (h : St F clk) {s : Nat} (hh : holds F.env (F.G (sk s)).ch = true) : Claim F s (F.G (sk s)).st := by
  have := h.slots s
  unfold SlotOk at this
  rwa [if_pos hh] at this

theorem St.slot {F : Fr} {clk : Clk} (h : St F clk) {ch : List (Nat × Bool)} (hch : holds F.env ch = true) {s : Nat} {e : Ent} (hk : (slotK ch s).run F.G = some e) :
    e = F.G (sk s) ∧ Claim F s e.st := by
  obtain ⟨rfl, hp⟩ := slotK_run hk
  exact ⟨rfl, h.claim (holds_prefix hch hp)⟩

/-- What lies at a leaf of a slot that may be looked at fits its entry. -/
theorem St.leafOk {F : Fr} {clk : Clk} (h : St F clk) {ch : List (Nat × Bool)} (hch : holds F.env ch = true) {k : Nat} {e : Ent} (hk : (slotK ch (k / 16)).run F.G = some e)
    {v : Value} (hc : F.cell k v) : LeafOk F k (F.G k).st v := by
  obtain ⟨he, hcl⟩ := h.slot hch hk
  obtain ⟨cs, hh, hv⟩ := hc
  subst he
  have hne : cs ≠ [] := by intro hn; subst hn; simp at hv
  have hl : (F.G (sk (k / 16))).st.leafy = true := by
    obtain ⟨h1, _⟩ := hh
    cases hst : (F.G (sk (k / 16))).st <;> rw [hst] at h1 <;> simp only [Has] at h1 <;> first | rfl | exact absurd h1 hne
  rw [claim_leafy hl] at hcl
  obtain ⟨cs', hh', hlf⟩ := hcl
  rw [Fr.has_fun hh hh'] at hv
  have := hlf _ _ hv
  rwa [lk_divmod] at this

theorem owner_run {F : Fr} {clk : Clk} (h : St F clk) {ch : List (Nat × Bool)} (hch : holds F.env ch = true) {k k2 : Nat} {m : M} {org : Option Nat} {v : Value}
    (hr : (owner ch k (F.G k)).run F.G = some (k2, m, org)) (hc : F.cell k v) (hl : LeafOk F k (F.G k).st v) :
    (F.G k2).st = .ro m org ∧ F.cell k2 v ∧ LeafOk F k2 (.ro m org) v ∧ F.env k = F.env k2 := by
  unfold owner at hr
  cases hst : (F.G k).st <;> rw [hst] at hr hl <;> simp only [Q.run, Q.run_bind', reduceCtorEq] at hr
  case ro m' org' =>
    simp only [Option.some.injEq, Prod.mk.injEq] at hr
    obtain ⟨rfl, rfl, rfl⟩ := hr
    exact ⟨hst, hc, hl, rfl⟩
  case rf k3 kv =>
    cases hs : (slotK ch (k3 / 16)).run F.G with
    | none => rw [hs] at hr; simp at hr
    | some e0 =>
      rw [hs] at hr
      simp only [Option.bind_some, Q.run_ent, Q.run_guard] at hr
      split at hr
      · rename_i hg
        simp only [Option.bind_some] at hr
        have hv : (F.G k3).ver = kv := by simpa using hg
        cases hst3 : (F.G k3).st <;> rw [hst3] at hr <;> simp only [Q.run, reduceCtorEq] at hr
        simp only [Option.some.injEq, Prod.mk.injEq] at hr
        obtain ⟨rfl, rfl, rfl⟩ := hr
        obtain ⟨h1, h2⟩ := hl hv
        have := h.leafOk hch hs h1
        rw [hst3] at this
        exact ⟨hst3, h1, this, h2⟩
      · simp at hr

theorem srcOf_run {F : Fr} {clk : Clk} (h : St F clk) {ch : List (Nat × Bool)} (hch : holds F.env ch = true) {how : How} {k : Nat} {v : Value} {s : Src}
    (hr : (srcOf ch how k).run F.G = some s) (hc : F.cell k v) (hl : LeafOk F k (F.G k).st v) : SrcOk F s v := by
  unfold srcOf at hr
  simp only [Q.run_bind', Q.run_ent, Option.bind_some] at hr
  have gen : ((owner ch k (F.G k)).bind fun x => match how with
      | .ref => Q.bind (Q.ent x.1) fun e2 => Q.ret (Src.als x.1 e2.ver k)
      | .take => Q.ret (.tak x.1 x.2.1 x.2.2)
      | .leak => Q.ret (.lek x.1)).run F.G = some s → SrcOk F s v := by
    intro hr
    rw [Q.run_bind] at hr
    cases ho : (owner ch k (F.G k)).run F.G with
    | none => rw [ho] at hr; simp at hr
    | some x =>
      obtain ⟨k2, m, org⟩ := x
      rw [ho] at hr
      simp only [Option.bind_some] at hr
      obtain ⟨h1, h2, h3, h4⟩ := owner_run h hch ho hc hl
      cases how with
      | ref =>
        simp only [Q.run_bind, Q.run_ent, Option.bind_some, Q.run, Option.some.injEq] at hr
        subst hr
        exact ⟨rfl, h2, h4, Rd.one h3.1⟩
      | take =>
        simp only [Q.run, Option.some.injEq] at hr
        subst hr
        exact ⟨h1, h2, h3⟩
      | leak =>
        simp only [Q.run, Option.some.injEq] at hr
        subst hr
        exact ⟨m, org, h1, h2, h3⟩
  cases hst : (F.G k).st <;> rw [hst] at hr hl
  case va =>
    simp only [Q.run, Option.some.injEq] at hr
    subst hr
    exact ⟨by simpa using hst, by simpa using hl⟩
  case em =>
    simp only [Q.run, Option.some.injEq] at hr
    subst hr
    exact ⟨by simpa using hst, by simpa using hl⟩
  all_goals exact gen hr

theorem srcsOf_run {F : Fr} {clk : Clk} (h : St F clk) {ch : List (Nat × Bool)} (hch : holds F.env ch = true) {how : How} {s : Nat} {cs : List Value} (hh : F.has s cs)
    (hl : ∀ j v, cs[j]? = some v → LeafOk F (lk s j) (F.G (lk s j)).st v) : ∀ {n j : Nat} {l : List Src},
    (srcsOf ch how s j n).run F.G = some l → j + n ≤ cs.length → l.length = n ∧ ∀ i (h1 : i < l.length) (h2 : j + i < cs.length), SrcOk F l[i] cs[j + i] := by
  intro n
  induction n with
  | zero =>
    intro j l hr _
    simp only [srcsOf, Q.run, Option.some.injEq] at hr
    subst hr
    exact ⟨rfl, fun i h => by simp at h⟩
  | succ n ih =>
    intro j l hr hj
    simp only [srcsOf, Q.run_bind'] at hr
    cases h1 : (srcOf ch how (lk s j)).run F.G with
    | none => rw [h1] at hr; simp at hr
    | some x =>
      rw [h1] at hr
      simp only [Option.bind_some] at hr
      cases h2 : (srcsOf ch how s (j + 1) n).run F.G with
      | none => rw [h2] at hr; simp at hr
      | some r =>
        rw [h2] at hr
        simp only [Option.bind_some, Q.run, Option.some.injEq] at hr
        subst hr
        obtain ⟨a1, a2⟩ := ih h2 (by omega)
        refine ⟨by simp [a1], fun i hi hji => ?_⟩
        cases i with
        | zero =>
          have hlt : j < cs.length := by omega
          have hv : cs[j]? = some cs[j] := List.getElem?_eq_getElem hlt
          have hle := hh.2
          simp only [List.getElem_cons_zero, Nat.add_zero]
          refine srcOf_run h hch h1 ⟨cs, ?_, ?_⟩ (hl j _ hv)
          · rw [lk_div (by omega)]; exact hh
          · rw [lk_mod (by omega)]; exact hv
        | succ i =>
          have := a2 i (by simpa using hi) (by omega)
          simp only [List.getElem_cons_succ]
          simpa [show j + (i + 1) = j + 1 + i by omega] using this

theorem leafCst_val {t : Ty} {v : Value} {c : Cst} (h : leafCst t v = some c) : v = c.val := by
  cases t <;> cases v <;> simp [leafCst] at h
  case int.int k k' n => obtain ⟨rfl, rfl⟩ := h; rfl
  case bool.bool b => subst h; rfl
  case str.string s => subst h; rfl
  case slice.slice e a l c =>
    cases a with
    | some a => simp at h
    | none =>
      cases l with
      | succ l => simp at h
      | zero =>
        cases c with
        | succ c => simp at h
        | zero => simp at h; subst h; rfl

theorem leafCsts_val : ∀ {ts : List Ty} {vs : List Value} {cs : List Cst}, leafCsts ts vs = some cs → vs = cs.map Cst.val
  | [], [], cs, h => by simp [leafCsts] at h; subst h; rfl
  | t :: ts, v :: vs, cs, h => by
    simp only [leafCsts] at h
    split at h
    · rename_i c hc
      split at h
      · rename_i cs' hcs
        simp at h
        subst h
        simp [leafCst_val hc, ← leafCsts_val hcs]
      · cases h
    · cases h
  | [], _ :: _, _, h => by simp [leafCsts] at h
  | _ :: _, [], _, h => by simp [leafCsts] at h

theorem leafCsts_len : ∀ {ts : List Ty} {vs : List Value} {cs : List Cst}, leafCsts ts vs = some cs → cs.length = ts.length
  | [], [], cs, h => by simp [leafCsts] at h; subst h; rfl
  | t :: ts, v :: vs, cs, h => by
    simp only [leafCsts] at h
    split at h
    · split at h
      · rename_i cs' hcs
        simp at h
        subst h
        simp [leafCsts_len hcs]
      · cases h
    · cases h
  | [], _ :: _, _, h => by simp [leafCsts] at h
  | _ :: _, [], _, h => by simp [leafCsts] at h

theorem Ty.leaves_len (τ : Ty) : τ.leaves.length = τ.n := by
  induction τ with
  | pair a b iha ihb => simp [Ty.leaves, Ty.n, iha, ihb]
  | _ => simp [Ty.leaves, Ty.n]

theorem Ty.n_one {τ : Ty} (h : τ.isPair = false) : τ.n = 1 := by cases τ <;> simp_all [Ty.isPair, Ty.n]

theorem cstLeaves_val {τ : Ty} {v : Value} {cs : List Cst} (h : cstLeaves τ v = some cs) : v = mkVal τ.isPair (cs.map Cst.val) ∧ cs.length = τ.n := by
  unfold cstLeaves at h
  split at h
  · rename_i c
    split at h
    · rename_i hp
      rw [hp]
      refine ⟨?_, by rw [leafCsts_len h, Ty.leaves_len]⟩
      have := leafCsts_val h
      simp [mkVal, ← this]
    · cases h
  · split at h
    · cases h
    · rename_i hp
      have hp' : τ.isPair = false := by simpa using hp
      refine ⟨?_, by rw [leafCsts_len h, Ty.leaves_len]⟩
      rw [hp']
      have := leafCsts_val h
      rw [← this]
      rfl

/-- The state and the machine's frame and world are the same. -/
structure Rel (F : Fr) (a : Act) (w : World) (nt : Nat) : Prop where
  tmps : F.tmps = a.tmps
  H : F.H = w.heap
  calm : a.defers = []
  size : F.tmps.size = nt

/-- What every operation leaves alone. -/
structure Ext (F : Fr) (w : World) (F' : Fr) (w' : World) : Prop where
  os : w'.os = w.os
  tape : w'.tape = w.tape
  output : w'.output = w.output
  size : F.H.size ≤ F'.H.size
  imm : ∀ (b : Nat) (o : Obj), F.H[b]? = some o → F.lab b = .imm → F'.H[b]? = some o ∧ F'.lab b = .imm
  frn : ∀ (b : Nat) (o : Obj), F.H[b]? = some o → F.lab b = .own [] → F'.H[b]? = some o ∧ F'.lab b = .own []
  org : F'.org = F.org

theorem Ext.refl (F : Fr) (w : World) : Ext F w F w := ⟨rfl, rfl, rfl, Nat.le_refl _, fun _ _ h l => ⟨h, l⟩, fun _ _ h l => ⟨h, l⟩, rfl⟩
theorem Ext.trans {F F1 F2 : Fr} {w w1 w2 : World} (h : Ext F w F1 w1) (k : Ext F1 w1 F2 w2) : Ext F w F2 w2 :=
  ⟨k.os.trans h.os, k.tape.trans h.tape, k.output.trans h.output, Nat.le_trans h.size k.size,
    fun b o ho hl => let ⟨a, c⟩ := h.imm b o ho hl; k.imm b o a c, fun b o ho hl => let ⟨a, c⟩ := h.frn b o ho hl; k.frn b o a c, k.org.trans h.org⟩

theorem Rel.val {F : Fr} {a : Act} {w : World} {nt : Nat} (h : Rel F a w nt) (s : Nat) : a.eval (.tmp s) = F.val s := by
  simp [Act.eval, Fr.val, h.tmps, undef]

theorem valSrcs_run {F : Fr} {clk : Clk} (h : St F clk) {C : Cfg} (hch : holds F.env C.ch = true) {how : How} {t : TypeId} {x : Operand} {l : List Src} {agg : Bool}
    (hr : (valSrcs C how t x).run F.G = some (l, agg)) {a : Act} {w : World} {nt : Nat} (hrel : Rel F a w nt) :
    ∃ vs : List Value, a.eval x = mkVal agg vs ∧ l.length = vs.length ∧ (agg = false → vs.length = 1) ∧ ∀ i (h1 : i < l.length) (h2 : i < vs.length), SrcOk F l[i] vs[i] := by
  unfold valSrcs at hr
  cases x with
  | const v =>
    simp only [Q.run_bind', Q.run_ofOption] at hr
    cases ht : tyOf C.P deep t with
    | none => rw [ht] at hr; simp at hr
    | some τ =>
      rw [ht] at hr
      simp only [Option.bind_some] at hr
      cases hc : cstLeaves τ v with
      | none => rw [hc] at hr; simp at hr
      | some cs =>
        rw [hc] at hr
        simp only [Option.bind_some, Q.run, Option.some.injEq, Prod.mk.injEq] at hr
        obtain ⟨rfl, rfl⟩ := hr
        obtain ⟨h1, h2⟩ := cstLeaves_val hc
        refine ⟨cs.map Cst.val, h1, by simp, fun hp => by simp [h2, Ty.n_one hp], fun i h1 h2 => by simp [SrcOk]⟩
  | tmp s =>
    simp only [Q.run_bind'] at hr
    cases hs : (slotK C.ch s).run F.G with
    | none => rw [hs] at hr; simp at hr
    | some e =>
      rw [hs] at hr
      simp only [Option.bind_some] at hr
      obtain ⟨rfl, hcl⟩ := h.slot hch hs
      cases hst : (F.G (sk s)).st <;> rw [hst] at hr <;> simp only [Q.run_fail, Q.run_bind', reduceCtorEq] at hr
      case pl n agg' =>
        cases hl : (srcsOf C.ch how s 0 n).run F.G with
        | none => rw [hl] at hr; simp at hr
        | some l' =>
          rw [hl] at hr
          simp only [Option.bind_some, Q.run, Option.some.injEq, Prod.mk.injEq] at hr
          obtain ⟨rfl, rfl⟩ := hr
          rw [hst] at hcl
          obtain ⟨cs, hh, hlf⟩ := hcl
          have hH := hh.1
          rw [hst] at hH
          obtain ⟨hv, hn, hagg⟩ := hH
          obtain ⟨a1, a2⟩ := srcsOf_run h hch hh hlf hl (by omega)
          refine ⟨cs, by rw [hrel.val]; exact hv, by omega, fun hp => by rw [hn]; exact hagg hp, fun i h1 h2 => by simpa using a2 i h1 (by omega)⟩
  | _ => simp [Q.run] at hr

end Go.Lf

/- Soundness, fifth part: operation by operation. -/
namespace Go.Lf

/-- What follows an operation is to hold in every state that it may lead to. -/
def OpPost (F : Fr) (clk : Clk) (C : Cfg) (es : List (Nat × Ent)) (env' : Env) (w : World) (K : Act → World → Prop) : Prop :=
  ∀ (F' : Fr) (a' : Act) (w' : World), Rel F' a' w' C.nt → F'.G = F.G.sets es → F'.env = env' → Ext F w F' w' → St F' (clk.add C.ver) → K a' w'

/-- The premises that every operation shares. -/
structure Here (F : Fr) (clk : Clk) (C : Cfg) (es : List (Nat × Ent)) (a : Act) (w : World) : Prop where
  st : St F clk
  ver : ¬ clk C.ver
  ch : holds F.env C.ch = true
  chD : ∀ s, sk s ∉ keysOf es → ∀ c ∈ (F.G (sk s)).ch, c.1 ∉ keysOf es
  chC : ∀ c ∈ C.ch, c.1 ∉ keysOf es
  rel : Rel F a w C.nt

theorem Rel.put {F : Fr} {a : Act} {w : World} {nt d : Nat} (h : Rel F a w nt) (hd : d < nt) (V : Value) (F' : Fr) (ht : F'.tmps = F.tmps.setIfInBounds d V) (hH : F'.H = F.H) :
    Rel F' (a.put (some d) V) w nt ∧ F'.val d = V ∧ ∀ s, s ≠ d → F'.val s = F.val s := by
  refine ⟨⟨by rw [ht, h.tmps]; rfl, by rw [hH, h.H], h.calm, by rw [ht]; simp [h.size]⟩, ?_, fun s hs => ?_⟩
  · simp [Fr.val, ht, Array.getElem?_setIfInBounds, h.size, hd]
  · simp [Fr.val, ht, Array.getElem?_setIfInBounds, Ne.symm hs]

section
variable {F : Fr} {clk : Clk} {C : Cfg} {d : Nat} {st : ES} {l : List Src} {es : List (Nat × Ent)} {is : List I} {a : Act} {w : World} {P : Program} {o : Oper}
  {K : Act → World → Prop} {Q : Exit → Act → World → Prop} {D : Nat → List Dyn → Option (List Dyn)} {env' : Env} {V : Value} {vs : List Value}

/-- An operation that yields a value and leaves the memory as it is. -/
theorem PutOut.sound (p : PutOut F C d st l es is) (h : Here F clk C es a w) (hlen : l.length = vs.length)
    (hsrc : ∀ i (h1 : i < l.length) (h2 : i < vs.length), SrcOk F l[i] vs[i]) (henv : I.dens D F.env is = some env')
    (hrun : (execOp a.eval o).run P w = .ok (.value V) w) (hdst : o.dst = some d) (hold : st.older (clk.add C.ver))
    (hcl : ∀ F' : Fr, F'.H = F.H → F'.G (sk d) = ⟨C.ver, C.ch, st⟩ → F'.val d = V → (∀ b, b < F.H.size → (F.lab b).still → (F'.lab b).still) →
      Touch F F' clk (clk.add C.ver) (· ∈ keysOf es) → (∀ j v, vs[j]? = some v → LeafOk F' (lk d j) (F'.G (lk d j)).st v) → Claim F' d st)
    (hK : OpPost F clk C es env' w K) : o.wp P a w K Q := by
  unfold Oper.wp
  rw [hrun]
  simp only [Oper.upon, hdst]
  let F' : Fr := { tmps := F.tmps.setIfInBounds d V, H := F.H, lab := relab (mvOf d 0 l) F.lab, env := env', G := F.G.sets es, org := F.org }
  obtain ⟨hrel, hvd, hvs⟩ := h.rel.put p.nt V F' rfl rfl
  have hlab : ∀ b, b < F.H.size → F'.lab b = relab (mvOf d 0 l) F.lab b := fun _ _ => rfl
  refine hK F' _ w hrel rfl rfl ⟨rfl, rfl, rfl, Nat.le_refl _, fun b o ho hl => ⟨ho, relab_imm hl⟩, fun b o ho hl => ⟨ho, relab_frn hl⟩, rfl⟩ ?_
  refine p.state h.st h.ver h.ch h.chD h.chC hlen hsrc rfl henv rfl hvs (fun b o ho => ho) hlab (fun b hb => relab_imm (h.st.labs b hb)) hold ?_
  intro T hlf
  exact hcl F' rfl (by show F.G.sets es (sk d) = _; exact p.ent_sk) hvd (fun b hb hs => relab_still hs) T hlf

/-- .. and whose value has leaves. -/
theorem PutOut.soundLeafy (p : PutOut F C d st l es is) (h : Here F clk C es a w) (hlen : l.length = vs.length)
    (hsrc : ∀ i (h1 : i < l.length) (h2 : i < vs.length), SrcOk F l[i] vs[i]) (henv : I.dens D F.env is = some env')
    (hrun : (execOp a.eval o).run P w = .ok (.value V) w) (hdst : o.dst = some d) (hst : st.leafy = true)
    (hhas : ∀ lab' : Nat → Lab, (∀ b, b < F.H.size → (F.lab b).still → (lab' b).still) → Has F.H lab' d st V vs)
    (hK : OpPost F clk C es env' w K) : o.wp P a w K Q := by
  refine p.sound h hlen hsrc henv hrun hdst (by cases st <;> simp [ES.leafy] at hst <;> trivial) ?_ hK
  intro F' hH hG hv hsh T hlf
  rw [claim_leafy hst]
  refine ⟨vs, ⟨?_, by have := p.len; omega⟩, hlf⟩
  rw [hG, hv, hH]
  exact hhas _ hsh

/-- A plain value. -/
theorem PutOut.soundPl {n : Nat} {agg : Bool} (p : PutOut F C d (.pl n agg) l es is) (h : Here F clk C es a w) (hlen : l.length = vs.length)
    (hsrc : ∀ i (h1 : i < l.length) (h2 : i < vs.length), SrcOk F l[i] vs[i]) (henv : I.dens D F.env is = some env')
    (hrun : (execOp a.eval o).run P w = .ok (.value (mkVal agg vs)) w) (hdst : o.dst = some d) (hn : vs.length = n) (hagg : agg = false → n = 1)
    (hK : OpPost F clk C es env' w K) : o.wp P a w K Q :=
  p.soundLeafy h hlen hsrc henv hrun hdst rfl (fun _ _ => ⟨rfl, hn, hagg⟩) hK

end

theorem allCpy_mem {l : List Src} (h : allCpy l = true) {i : Nat} (hi : i < l.length) : ∃ k, l[i] = .cpy k false := by
  induction l generalizing i with
  | nil => simp at hi
  | cons s l ih =>
    cases s with
    | cpy k em =>
      cases em <;> simp [allCpy] at h
      cases i with
      | zero => exact ⟨k, rfl⟩
      | succ i => simpa using ih h (by simpa using hi)
    | _ => simp [allCpy] at h


/-- Entries ahead of those of slot d. -/
structure GenOut (F : Fr) (C : Cfg) (d : Nat) (st : ES) (pre : List (Nat × Ent)) (sts : List ES) (es : List (Nat × Ent)) : Prop where
  len : sts.length ≤ 14
  old : (F.G (sk d)).st.cells ≤ 15
  nt : d < C.nt
  ver : ∀ x ∈ pre, x.2.ver = C.ver
  no15 : ∀ k ∈ keysOf pre, k % 16 < 15
  es_eq : es = pre ++ (blanks C.ver d 0 (F.G (sk d)).st.cells ++ (sk d, ⟨C.ver, C.ch, st⟩) :: leafEnts C.ver d 0 sts)

section
variable {F : Fr} {C : Cfg} {d : Nat} {st : ES} {pre : List (Nat × Ent)} {sts : List ES} {es : List (Nat × Ent)}

theorem GenOut.keys (p : GenOut F C d st pre sts es) (k : Nat) :
    k ∈ keysOf es ↔ k ∈ keysOf pre ∨ (∃ i, i < (F.G (sk d)).st.cells ∧ k = lk d i) ∨ k = sk d ∨ ∃ i, i < sts.length ∧ k = lk d i := by
  rw [p.es_eq, keysOf_append, List.mem_append, keysOf_append, List.mem_append, mem_keys_blanks]
  simp only [keysOf, List.map_cons, List.mem_cons]
  rw [show k ∈ List.map (fun x => x.fst) (leafEnts C.ver d 0 sts) ↔ k ∈ keysOf (leafEnts C.ver d 0 sts) from Iff.rfl, mem_keys_leafEnts]
  simp

theorem GenOut.ent_sk (p : GenOut F C d st pre sts es) : F.G.sets es (sk d) = ⟨C.ver, C.ch, st⟩ := by
  rw [GT.sets_eq, p.es_eq, lastOf_append, lastOf_append]
  have : lastOf (leafEnts C.ver d 0 sts) (sk d) = none := by
    rw [lastOf_none, mem_keys_leafEnts]
    rintro ⟨i, hi, he⟩
    have := p.len
    exact lk_sk (by omega) he.symm
  simp [lastOf, this]

theorem GenOut.ent_lk (p : GenOut F C d st pre sts es) {j : Nat} (hj : j < sts.length) : F.G.sets es (lk d j) = ⟨C.ver, [], sts[j]⟩ := by
  rw [GT.sets_eq, p.es_eq, lastOf_append, lastOf_append]
  have := lastOf_leafEnts_in C.ver d sts 0 j hj
  simp only [Nat.zero_add] at this
  simp [lastOf, this]

/-- An entry ahead, at another slot. -/
theorem GenOut.ent_pre (p : GenOut F C d st pre sts es) {k : Nat} (hk : k / 16 ≠ d) : F.G.sets es k = F.G.sets pre k := by
  rw [GT.sets_eq, GT.sets_eq, p.es_eq, lastOf_append]
  have hn : lastOf (blanks C.ver d 0 (F.G (sk d)).st.cells ++ (sk d, ⟨C.ver, C.ch, st⟩) :: leafEnts C.ver d 0 sts) k = none := by
    rw [lastOf_none, keysOf_append, List.mem_append, mem_keys_blanks]
    simp only [keysOf, List.map_cons, List.mem_cons]
    rw [show k ∈ List.map (fun x => x.fst) (leafEnts C.ver d 0 sts) ↔ k ∈ keysOf (leafEnts C.ver d 0 sts) from Iff.rfl, mem_keys_leafEnts]
    rintro (⟨i, _, hi, rfl⟩ | rfl | ⟨i, hi, rfl⟩)
    · have := p.old; exact hk (lk_div (by omega))
    · exact hk (sk_div d)
    · have := p.len; exact hk (lk_div (by omega))
  rw [hn]; simp

theorem GenOut.allver (p : GenOut F C d st pre sts es) : ∀ x ∈ es, x.2.ver = C.ver := by
  intro a ha
  rw [p.es_eq, List.mem_append, List.mem_append] at ha
  have hbl : ∀ (n j : Nat), ∀ a ∈ blanks C.ver d j n, a.2.ver = C.ver := by
    intro n
    induction n with
    | zero => intro j a ha; simp [blanks] at ha
    | succ n ih => intro j a ha; simp only [blanks, List.mem_cons] at ha; rcases ha with rfl | ha; rfl; exact ih _ _ ha
  have hle : ∀ (m : List ES) (j : Nat), ∀ a ∈ leafEnts C.ver d j m, a.2.ver = C.ver := by
    intro m
    induction m with
    | nil => intro j a ha; simp [leafEnts] at ha
    | cons e m ih => intro j a ha; simp only [leafEnts, List.mem_cons] at ha; rcases ha with rfl | ha; rfl; exact ih _ _ ha
  rcases ha with ha | ha | ha
  · exact p.ver a ha
  · exact hbl _ _ a ha
  · rcases List.mem_cons.1 ha with rfl | ha
    · rfl
    · exact hle _ _ a ha

theorem GenOut.ver' (p : GenOut F C d st pre sts es) {k : Nat} (hk : k ∈ keysOf es) : (F.G.sets es k).ver = C.ver := by
  rw [GT.sets_eq]
  cases hl : lastOf es k with
  | none => exact absurd hk (lastOf_none.1 hl)
  | some e => exact lastOf_all (p := fun e => e.ver = C.ver) p.allver hl

theorem leafEnts_old {ver d j : Nat} {clk : Clk} {sts : List ES} (h : ∀ e ∈ sts, e.older clk) : ∀ a ∈ leafEnts ver d j sts, a.2.st.older clk := by
  induction sts generalizing j with
  | nil => intro a ha; simp [leafEnts] at ha
  | cons e m ih =>
    intro a ha
    simp only [leafEnts, List.mem_cons] at ha
    rcases ha with rfl | ha
    · exact h _ (by simp)
    · exact ih (fun e he => h e (by simp [he])) a ha

theorem blanks_old {ver d : Nat} {clk : Clk} : ∀ {n j : Nat}, ∀ a ∈ blanks ver d j n, a.2.st.older clk := by
  intro n
  induction n with
  | zero => intro j a ha; simp [blanks] at ha
  | succ n ih => intro j a ha; simp only [blanks, List.mem_cons] at ha; rcases ha with rfl | ha; trivial; exact ih a ha

/-- THE STATE BEHIND IT, in general. -/
theorem GenOut.state (p : GenOut F C d st pre sts es) {clk : Clk} (h : St F clk) (hv : ¬ clk C.ver)
    (hch : holds F.env C.ch = true) (hchD : ∀ s, sk s ∉ keysOf es → ∀ c ∈ (F.G (sk s)).ch, c.1 ∉ keysOf es) (hchC : ∀ c ∈ C.ch, c.1 ∉ keysOf es)
    {F' : Fr} (hG : F'.G = F.G.sets es) (henv : ∀ k, k ∉ keysOf es → F'.env k = F.env k) (horg : F'.org = F.org)
    (htmp : ∀ s, s ≠ d → F'.val s = F.val s)
    (hshr : ∀ (b : Nat) (o : Obj), F.H[b]? = some o → (F.lab b).shared → F'.H[b]? = some o ∧ (F'.lab b).shared)
    (hfrn : ∀ (b : Nat) (o : Obj), F.H[b]? = some o → F.lab b = .own [] → F'.H[b]? = some o ∧ F'.lab b = .own [])
    (hown : ∀ (b : Nat) (o : Obj) k q, F.H[b]? = some o → F.lab b = .own (k :: q) → k % 16 ≠ 15 → k ∉ keysOf es → F'.H[b]? = some o ∧ F'.lab b = .own (k :: q))
    (hbox : ∀ s b (c : Array Value) ty, sk s ∉ keysOf es → F.val s = .pointer (some ⟨b, 0, none⟩) → F.lab b = .own [sk s] → F.H[b]? = some (.cells c ty (0, 0)) →
      ∃ c' : Array Value, F'.H[b]? = some (.cells c' ty (0, 0)) ∧ F'.lab b = .own [sk s] ∧ c'.size = c.size ∧ ∀ j, lk s j ∉ keysOf es → c'[j]? = c[j]?)
    (hnew : ∀ b, F'.H.size ≤ b → F'.lab b = .imm)
    (hold : st.older (clk.add C.ver)) (holds : ∀ e ∈ sts, e.older (clk.add C.ver)) (holdp : ∀ x ∈ pre, x.2.st.older (clk.add C.ver))
    (hpre : Touch F F' clk (clk.add C.ver) (· ∈ keysOf es) → ∀ s cs' j v, s ≠ d → F'.has s cs' → cs'[j]? = some v → lk s j ∈ keysOf pre → LeafOk F' (lk s j) (F'.G (lk s j)).st v)
    (hcl : Touch F F' clk (clk.add C.ver) (· ∈ keysOf es) → Claim F' d st) : St F' (clk.add C.ver) := by
  have hskt : ∀ s, s ≠ d → sk s ∉ keysOf es := by
    intro s hs hk
    rw [p.keys] at hk
    rcases hk with hk | ⟨i, hi, he⟩ | hk | ⟨i, hi, he⟩
    · have := p.no15 _ hk; unfold sk at this; omega
    · have := p.old; by_cases hi15 : i = 15
      · omega
      · exact lk_sk (by omega) he.symm
    · exact hs (sk_inj.1 hk)
    · have := p.len; exact lk_sk (by omega) he.symm
  have T : Touch F F' clk (clk.add C.ver) (· ∈ keysOf es) := {
    le := fun _ h => .inl h
    ent := fun k hk => by rw [hG, GT.sets_ne _ hk]
    env := henv
    org := horg
    slot := fun s cs hs hh j hj => by
      by_cases hsd : s = d
      · subst hsd
        rw [p.keys]
        exact .inr (.inl ⟨j, by rw [← Fr.has_cells hh]; exact hj, rfl⟩)
      · exact absurd hs (hskt s hsd)
    tmp := fun s hs => htmp s fun he => hs (by rw [he, p.keys]; exact .inr (.inr (.inl rfl)))
    ver := fun k hk => by rw [hG, p.ver' hk]; exact hv
    chn := hchD
    shr := hshr
    frn := hfrn
    own := hown
    box := fun s b c ty hs hv hl hb => hbox s b c ty hs hv hl hb
    old := fun k hk => by
      refine ⟨?_, by rw [hG, p.ver' hk]; exact .inr rfl⟩
      rw [hG, GT.sets_eq]
      cases hl : lastOf es k with
      | none => exact absurd hk (lastOf_none.1 hl)
      | some e =>
        refine lastOf_all (p := fun e => e.st.older (clk.add C.ver)) (fun a ha => ?_) hl
        rw [p.es_eq, List.mem_append, List.mem_append] at ha
        rcases ha with ha | ha | ha
        · exact holdp a ha
        · exact blanks_old a ha
        · rcases List.mem_cons.1 ha with rfl | ha
          · exact hold
          · exact leafEnts_old holds a ha
    lab := hnew }
  refine h.touch T ?_
  intro s hs
  by_cases hsd : s = d
  · subst hsd
    unfold SlotOk
    rw [hG, p.ent_sk]
    have hh : Lf.holds F'.env C.ch = true := by rw [T.holds hchC]; exact hch
    simp only [hh, if_true]
    exact hcl T
  · have hss := hskt s hsd
    refine T.slotLeaf h hss fun cs' j v hcs hj hD => ?_
    have hj15 : j < 15 := by
      have := (List.getElem?_eq_some_iff.1 hj).1; have := hcs.2
      rcases Nat.lt_or_ge j 15 with h | h
      · exact h
      · omega
    refine hpre T s cs' j v hsd hcs hj ?_
    rw [p.keys] at hD
    rcases hD with hk | ⟨i, hi, he⟩ | hk | ⟨i, hi, he⟩
    · exact hk
    · have := p.old; exact absurd ((lk_inj (by omega) (by omega)).1 he).1 hsd
    · exact absurd hk (lk_sk hj15)
    · have := p.len; exact absurd ((lk_inj (by omega) (by omega)).1 he).1 hsd
end

end Go.Lf

/- Soundness, sixth part: operations that compute with scalars. -/
namespace Go.Lf

/-- A value that reads as a scalar, whatever the memory. -/
def ScaOk (V : Value) (x : Dyn) : Prop := ∀ (H : Array Obj) (lab : Nat → Lab), Rd H lab x.τ.shr [] [V] x.τ x.v

def OdOk (F : Fr) (o : Od) (V : Value) : Prop := Rd F.H F.lab (o.rd F.env).τ.shr [] [V] (o.rd F.env).τ (o.rd F.env).v

theorem sca_int (k : IntKind) (n : Int) : ScaOk (.int k n) ⟨.int k, n⟩ := fun _ _ => by simp [Ty.shr, Rd]
theorem sca_bool (b : Bool) : ScaOk (.bool b) ⟨.bool, b⟩ := fun _ _ => by simp [Ty.shr, Rd]
theorem sca_str (s : ByteArray) : ScaOk (.string s) ⟨.str, s⟩ := fun _ _ => by simp [Ty.shr, Rd]

theorem eqGuard_int (op : BinOp) (t : TypeId) (x y : Operand) (k k' : IntKind) (a b : Int) (P : Program) (w : World) :
    (eqGuard op t x y (.int k a) (.int k' b)).run P w = .ok () w := by
  unfold eqGuard; cases op <;> rfl
theorem eqGuard_bool (op : BinOp) (t : TypeId) (x y : Operand) (a b : Bool) (P : Program) (w : World) :
    (eqGuard op t x y (.bool a) (.bool b)).run P w = .ok () w := by
  unfold eqGuard; cases op <;> rfl
theorem eqGuard_str (op : BinOp) (t : TypeId) (x y : Operand) (a b : ByteArray) (P : Program) (w : World) :
    (eqGuard op t x y (.string a) (.string b)).run P w = .ok () w := by
  unfold eqGuard; cases op <;> rfl

theorem run_then {α β : Type} (P : Program) (p : Sem α) (q : α → Sem β) {w w' : World} {x : α} (h : p.run P w = .ok x w') : (p >>= q).run P w = (q x).run P w' := by
  have key : ∀ (p : Sem α) (w : World), p.run P w = .ok x w' → (Sem.bind p q).run P w = (q x).run P w' := by
    intro p
    induction p with
    | pure a => intro w h; simp only [Sem.run, Result.ok.injEq] at h; obtain ⟨rfl, rfl⟩ := h; rfl
    | load m a k ih =>
      intro w h
      simp only [Sem.run, Sem.bind] at h ⊢
      split at h
      · exact ih _ _ h
      · split at h
        · exact ih _ _ h
        · cases h
    | store m a v k ih =>
      intro w h
      cases v <;> simp only [Sem.run, Sem.bind, reduceCtorEq] at h ⊢
      all_goals
        split at h
        · split at h
          · cases h
          · rename_i h1 h2; rw [if_neg h2]; exact ih _ h
        · split at h
          · exact ih _ h
          · cases h
    | new o k ih => intro w h; simp only [Sem.run, Sem.bind] at h ⊢; exact ih _ _ h
    | shape r k ih => intro w h; simp only [Sem.run, Sem.bind] at h ⊢; exact ih _ _ h
    | freeze a n k ih => intro w h; simp only [Sem.run, Sem.bind] at h ⊢; exact ih _ h
    | frozen a k ih => intro w h; simp only [Sem.run, Sem.bind] at h ⊢; exact ih _ _ h
    | getObj r k ih =>
      intro w h
      simp only [Sem.run, Sem.bind] at h ⊢
      split at h
      · cases h
      · exact ih _ _ h
      · cases h
    | setObj r o k ih =>
      intro w h
      simp only [Sem.run, Sem.bind] at h ⊢
      split at h
      · cases h
      · exact ih _ h
      · cases h
    | choose q' k ih =>
      intro w h
      simp only [Sem.run, Sem.bind] at h ⊢
      split at h
      · rename_i hf; rw [if_pos hf]; exact ih _ _ h
      · rename_i hf; rw [if_neg hf]; exact ih _ _ h
    | sys c k ih => intro w h; simp only [Sem.run, Sem.bind] at h ⊢; exact ih _ _ h
    | program k ih => intro w h; simp only [Sem.run, Sem.bind] at h ⊢; exact ih _ _ h
    | mark m k ih => intro w h; simp only [Sem.run, Sem.bind] at h ⊢; exact ih _ h
    | halt h' => intro w h; simp [Sem.run] at h
  exact key p w h

theorem bin_run {op : BinOp} {X Y Z : Dyn} (h : binD op X Y = some Z) {H : Array Obj} {lab : Nat → Lab} {Vx Vy : Value}
    (hx : Rd H lab X.τ.shr [] [Vx] X.τ X.v) (hy : Rd H lab Y.τ.shr [] [Vy] Y.τ Y.v) (t : TypeId) (xo yo : Operand) :
    ∃ V, (∀ P w, ((do eqGuard op t xo yo Vx Vy; binOp op t Vx Vy) : Sem Value).run P w = .ok V w) ∧ ScaOk V Z := by
  obtain ⟨tx, x⟩ := X
  obtain ⟨ty, y⟩ := Y
  cases tx <;> cases ty <;> simp only [binD, reduceCtorEq] at h <;> simp only [Ty.shr, Rd, List.cons.injEq, and_true] at hx hy <;> subst hx <;> subst hy
  case int.int k k' =>
    have G : ∀ (V : Value), (∀ P w, (binOp op t (.int k x) (.int k' y)).run P w = .ok V w) → ∀ P w, ((do eqGuard op t xo yo (.int k x) (.int k' y); binOp op t (.int k x) (.int k' y)) : Sem Value).run P w = .ok V w := by
      intro V hV P w
      rw [run_then P _ _ (eqGuard_int op t xo yo k k' x y P w)]
      exact hV P w
    by_cases hshl : op = .shl
    · subst hshl
      simp only at h
      split at h <;> simp at h
      rename_i hc
      subst h
      exact ⟨_, G (.int k (k.wrap (x * 2 ^ (min y.toNat k.bits)))) (fun P w => by simp [binOp, Op.shift, Int.not_lt.2 hc.2, pure]), sca_int _ _⟩
    by_cases hshr : op = .shr
    · subst hshr
      simp only at h
      split at h <;> simp at h
      rename_i hc
      subst h
      exact ⟨_, G (.int k (x.fdiv (2 ^ (min y.toNat k.bits)))) (fun P w => by simp [binOp, Op.shift, Int.not_lt.2 hc.2, pure]), sca_int _ _⟩
    rcases Decidable.em (k = k') with hk | hk
    case inr => cases op <;> simp [hk] at h hshl hshr
    subst hk
    cases op <;> simp only [if_true, reduceCtorEq, Option.some.injEq, not_true_eq_false] at h hshl hshr
    case add => subst h; exact ⟨_, G (.int k (k.wrap (x + y))) (fun P w => by simp [binOp, Op.intArith, Sem.run, pure]), sca_int _ _⟩
    case sub => subst h; exact ⟨_, G (.int k (k.wrap (x - y))) (fun P w => by simp [binOp, Op.intArith, Sem.run, pure]), sca_int _ _⟩
    case mul => subst h; exact ⟨_, G (.int k (k.wrap (x * y))) (fun P w => by simp [binOp, Op.intArith, Sem.run, pure]), sca_int _ _⟩
    case quo =>
      split at h <;> simp only [reduceCtorEq, Option.some.injEq] at h
      rename_i hy0
      subst h
      exact ⟨_, G (.int k (k.wrap (x.tdiv y))) (fun P w => by simp [binOp, Op.intDiv, hy0, Sem.run, pure]), sca_int _ _⟩
    case rem =>
      split at h <;> simp only [reduceCtorEq, Option.some.injEq] at h
      rename_i hy0
      subst h
      exact ⟨_, G (.int k (x.tmod y)) (fun P w => by simp [binOp, Op.intDiv, hy0, Sem.run, pure]), sca_int _ _⟩
    case and => subst h; exact ⟨_, G (.int k (k.wrap (BitVec.ofInt k.bits x &&& BitVec.ofInt k.bits y).toNat)) (fun P w => by simp [binOp, Op.intBits, Sem.run, pure]), sca_int _ _⟩
    case or => subst h; exact ⟨_, G (.int k (k.wrap (BitVec.ofInt k.bits x ||| BitVec.ofInt k.bits y).toNat)) (fun P w => by simp [binOp, Op.intBits, Sem.run, pure]), sca_int _ _⟩
    case xor => subst h; exact ⟨_, G (.int k (k.wrap (BitVec.ofInt k.bits x ^^^ BitVec.ofInt k.bits y).toNat)) (fun P w => by simp [binOp, Op.intBits, Sem.run, pure]), sca_int _ _⟩
    case eql => subst h; exact ⟨_, G (.bool (x == y)) (fun P w => by simp [binOp, Op.intCmp, Sem.run, pure]), sca_bool _⟩
    case neq => subst h; exact ⟨_, G (.bool (x != y)) (fun P w => by simp [binOp, Op.intCmp, Sem.run, pure]), sca_bool _⟩
    case lss => subst h; exact ⟨_, G (.bool (decide (x < y))) (fun P w => by simp [binOp, Op.intCmp, Sem.run, pure]), sca_bool _⟩
    case leq => subst h; exact ⟨_, G (.bool (decide (x ≤ y))) (fun P w => by simp [binOp, Op.intCmp, Sem.run, pure]), sca_bool _⟩
    case gtr => subst h; exact ⟨_, G (.bool (decide (x > y))) (fun P w => by simp [binOp, Op.intCmp, Sem.run, pure]), sca_bool _⟩
    case geq => subst h; exact ⟨_, G (.bool (decide (x ≥ y))) (fun P w => by simp [binOp, Op.intCmp, Sem.run, pure]), sca_bool _⟩
  case str.str =>
    have G : ∀ (V : Value), (∀ P w, (binOp op t (.string x) (.string y)).run P w = .ok V w) → ∀ P w, ((do eqGuard op t xo yo (.string x) (.string y); binOp op t (.string x) (.string y)) : Sem Value).run P w = .ok V w := by
      intro V hV P w
      rw [run_then P _ _ (eqGuard_str op t xo yo x y P w)]
      exact hV P w
    cases op <;> simp only [reduceCtorEq, Option.some.injEq] at h
    case add =>
      split at h <;> simp only [reduceCtorEq, Option.some.injEq] at h
      rename_i hr
      subst h
      refine ⟨_, G (.string (x ++ y)) (fun P w => ?_), sca_str _⟩
      have : ¬ ((x.size + y.size : Nat) : Int) > IntKind.i64.max := by
        have : IntKind.i64.max = 9223372036854775807 := by decide
        rw [this]
        unfold room at hr
        omega
      simp only [binOp, Op.stringOp]
      rw [if_neg this]; rfl
    case eql => subst h; exact ⟨_, G (.bool (x.toList == y.toList)) (fun P w => by simp [binOp, Op.stringOp, pure]), sca_bool _⟩
    case neq => subst h; exact ⟨_, G (.bool (!(x.toList == y.toList))) (fun P w => by simp [binOp, Op.stringOp, pure]), sca_bool _⟩

theorem beq_run {op : BinOp} {neg : Bool} {X Y Z : Dyn} (h : beqD neg X Y = some Z) {H : Array Obj} {lab : Nat → Lab} {Vx Vy : Value}
    (hx : Rd H lab X.τ.shr [] [Vx] X.τ X.v) (hy : Rd H lab Y.τ.shr [] [Vy] Y.τ Y.v) {P : Program} {t : TypeId} (ht : boolEq P op t = some neg) (xo yo : Operand) :
    ∃ V, (∀ w, ((do eqGuard op t xo yo Vx Vy; binOp op t Vx Vy) : Sem Value).run P w = .ok V w) ∧ ScaOk V Z := by
  obtain ⟨tx, x⟩ := X
  obtain ⟨ty, y⟩ := Y
  cases tx <;> cases ty <;> simp only [beqD, reduceCtorEq] at h <;> simp only [Ty.shr, Rd, List.cons.injEq, and_true] at hx hy <;> subst hx <;> subst hy
  simp only [Option.some.injEq] at h
  subst h
  have hu : P.underlying t = some .bool ∧ ((op = .eql ∧ neg = false) ∨ (op = .neq ∧ neg = true)) := by
    unfold boolEq at ht
    split at ht <;> simp at ht
    · rename_i h; exact ⟨h, .inl ⟨rfl, ht⟩⟩
    · rename_i h; exact ⟨h, .inr ⟨rfl, ht⟩⟩
  have hE : ∀ w, (Op.equal t (.bool x) (.bool y)).run P w = .ok (x == y) w := by
    intro w
    have key : ∀ d, (Op.equalIn (d + 1) t (.bool x) (.bool y)).run P w = .ok (x == y) w := by
      intro d
      rw [Op.equalIn]
      have hrun : (underlying t).run P w = .ok .bool w := by
        unfold underlying
        rw [run_then P _ _ (x := P) (w' := w) rfl]
        simp only [hu.1]; rfl
      rw [run_then P _ _ hrun]
      rfl
    exact key 9999
  rcases hu.2 with ⟨rfl, rfl⟩ | ⟨rfl, rfl⟩
  · refine ⟨.bool (x == y), fun w => ?_, sca_bool _⟩
    rw [run_then P _ _ (eqGuard_bool _ t xo yo x y P w)]
    simp only [binOp]
    rw [run_then P _ _ (hE w)]; rfl
  · refine ⟨.bool (!(x == y)), fun w => ?_, sca_bool _⟩
    rw [run_then P _ _ (eqGuard_bool _ t xo yo x y P w)]
    simp only [binOp]
    rw [run_then P _ _ (hE w)]; rfl

end Go.Lf

/- Soundness, seventh part: moves and scalar operations as operations of the machine. -/
namespace Go.Lf

theorem put1_run {F : Fr} {C : Cfg} {d : Nat} {st : ES} {is0 is : List I} {es : List (Nat × Ent)} (h : (put1 C d st is0).run F.G = some (es, is)) :
    GenOut F C d (.pl 1 false) [] [st] es ∧ is = is0 := by
  simp only [put1, Q.run_bind'] at h
  cases hs : (slotEnts C d (.pl 1 false) [st]).run F.G with
  | none => rw [hs] at h; simp at h
  | some e =>
    rw [hs] at h
    simp only [Option.bind_some, Q.run, Option.some.injEq, Prod.mk.injEq] at h
    obtain ⟨h1, h2, h3, h4⟩ := slotEnts_run hs
    obtain ⟨rfl, rfl⟩ := h
    exact ⟨⟨h1, h2, h3, fun x hx => by simp at hx, fun k hk => by simp [keysOf] at hk, by rw [h4]; rfl⟩, rfl⟩

theorem put0_run {F : Fr} {C : Cfg} {d : Nat} {st : ES} {is : List I} {es : List (Nat × Ent)} (h : (put0 C d st).run F.G = some (es, is)) :
    PutOut F C d st [] es is := by
  simp only [put0, Q.run_bind'] at h
  cases hs : (slotEnts C d st []).run F.G with
  | none => rw [hs] at h; simp at h
  | some e =>
    rw [hs] at h
    simp only [Option.bind_some, Q.run, Option.some.injEq, Prod.mk.injEq] at h
    obtain ⟨h1, h2, h3, h4⟩ := slotEnts_run hs
    obtain ⟨rfl, rfl⟩ := h
    exact ⟨rfl, fun k hk => by simp [takenKeys] at hk, .inr rfl, fun x hx => by simp at hx, Nat.zero_le _, h2, h3, by rw [h4]; rfl, rfl⟩

section
variable {F : Fr} {clk : Clk} {C : Cfg} {d : Nat} {st : ES} {es : List (Nat × Ent)} {is is0 : List I} {a : Act} {w : World} {P : Program} {o : Oper}
  {K : Act → World → Prop} {Q' : Exit → Act → World → Prop} {D : Nat → List Dyn → Option (List Dyn)} {env' : Env} {V : Value}

/-- An operation that yields one leaf and leaves the memory as it is. -/
theorem put1_sound (hr : (put1 C d st is0).run F.G = some (es, is)) (h : Here F clk C es a w) (hold : st.older (clk.add C.ver)) {x : Dyn} (hx : env' = F.env.set (lk d 0) x)
    (hrun : (execOp a.eval o).run P w = .ok (.value V) w) (hdst : o.dst = some d)
    (hleaf : ∀ F' : Fr, F'.env (lk d 0) = x → F'.H = F.H → (∀ (b : Nat) (o : Obj), F.H[b]? = some o → (F.lab b).shared → F'.H[b]? = some o ∧ (F'.lab b).shared) → LeafOk F' (lk d 0) st V)
    (hK : OpPost F clk C es env' w K) : o.wp P a w K Q' := by
  obtain ⟨p, rfl⟩ := put1_run hr
  unfold Oper.wp
  rw [hrun]
  simp only [Oper.upon, hdst]
  let F' : Fr := { tmps := F.tmps.setIfInBounds d V, H := F.H, lab := F.lab, env := env', G := F.G.sets es, org := F.org }
  obtain ⟨hrel, hvd, hvs⟩ := h.rel.put p.nt V F' rfl rfl
  have hk0 : lk d 0 ∈ keysOf es := (p.keys _).2 (.inr (.inr (.inr ⟨0, by simp, rfl⟩)))
  refine hK F' _ w hrel rfl rfl ⟨rfl, rfl, rfl, Nat.le_refl _, fun b o ho hl => ⟨ho, hl⟩, fun b o ho hl => ⟨ho, hl⟩, rfl⟩ ?_
  refine p.state h.st h.ver h.ch h.chD h.chC (F' := F') rfl (fun k hk => ?_) rfl hvs (fun b o ho hl => ⟨ho, hl⟩) (fun b o ho hl => ⟨ho, hl⟩) (fun b o k q ho hl _ _ => ⟨ho, hl⟩)
    (fun s b c ty _ _ hl hb => ⟨c, hb, hl, rfl, fun _ _ => rfl⟩) h.st.labs trivial (fun e he => by simp at he; subst he; exact hold) (fun x hx => by simp at hx) (fun T s cs' j v _ _ _ hk => by simp [keysOf] at hk) ?_
  · show env' k = F.env k
    rw [hx, Env.set_ne]
    intro he; subst he; exact hk hk0
  · intro T
    rw [claim_leafy rfl]
    refine ⟨[V], ⟨?_, by simp⟩, fun j v hj => ?_⟩
    · have : (F'.G (sk d)) = ⟨C.ver, C.ch, .pl 1 false⟩ := p.ent_sk
      rw [this, hvd]
      exact ⟨rfl, rfl, fun _ => rfl⟩
    · have hj0 : j = 0 := by
        have := (List.getElem?_eq_some_iff.1 hj).1; simp at this; exact this
      subst hj0
      simp at hj
      subst hj
      have : (F'.G (lk d 0)) = ⟨C.ver, [], st⟩ := p.ent_lk (j := 0) (by simp)
      rw [this]
      exact hleaf F' (by show env' (lk d 0) = x; rw [hx, Env.set_same]) rfl (fun b o ho hl => ⟨ho, hl⟩)

theorem scalar_run {ch : List (Nat × Bool)} (h : St F clk) (hch : holds F.env ch = true) {nt : Nat} (hrel : Rel F a w nt) {x : Operand} {od : Od}
    (hr : (scalar ch x).run F.G = some od) : OdOk F od (a.eval x) := by
  unfold scalar at hr
  cases x with
  | const v =>
    cases v <;> simp only [Q.run, Option.some.injEq, reduceCtorEq] at hr <;> subst hr <;> simp [OdOk, Od.rd, Cst.dyn, Ty.shr, Rd, Act.eval]
  | tmp s =>
    simp only [Q.run_bind'] at hr
    cases hs : (slotK ch s).run F.G with
    | none => rw [hs] at hr; simp at hr
    | some e =>
      rw [hs] at hr
      obtain ⟨rfl, hcl⟩ := h.slot hch hs
      simp only [Option.bind_some, Q.run_guard] at hr
      split at hr
      · rename_i he
        have he' : (F.G (sk s)).st = .pl 1 false := by simpa using he
        simp only [Option.bind_some, Q.run_ent, Q.run_bind', Q.run_guard] at hr
        split at hr
        · rename_i hl
          have hl' : (F.G (lk s 0)).st = .va := by simpa using hl
          simp only [Option.bind_some, Q.run, Option.some.injEq] at hr
          subst hr
          rw [he'] at hcl
          obtain ⟨cs, hh, hlf⟩ := hcl
          have hH := hh.1
          rw [he'] at hH
          obtain ⟨hv, hn, _⟩ := hH
          match cs, hn with
          | [V], _ =>
            have := hlf 0 V rfl
            rw [hl'] at this
            simp only [mkVal] at hv
            rw [hrel.val, show F.val s = V by simpa using hv]
            exact this
        · simp at hr
      · simp at hr
  | _ => simp [Q.run] at hr

theorem leaf_sca {F' : Fr} {k : Nat} {x : Dyn} (he : F'.env k = x) {V : Value} (h : ScaOk V x) : LeafOk F' k .va V := by
  simp only [LeafOk]; rw [he]; exact h _ _

/-- Two scalar operands. -/
theorem scalar2_run {α : Type} {x y : Operand} {f : Od → Od → Q α} {r : α} (hr : ((do let a ← scalar C.ch x; let b ← scalar C.ch y; f a b) : Q α).run F.G = some r) :
    ∃ u v, (scalar C.ch x).run F.G = some u ∧ (scalar C.ch y).run F.G = some v ∧ (f u v).run F.G = some r := by
  simp only [Q.run_bind'] at hr
  cases h1 : (scalar C.ch x).run F.G with
  | none => rw [h1] at hr; simp at hr
  | some u =>
    rw [h1] at hr
    simp only [Option.bind_some] at hr
    cases h2 : (scalar C.ch y).run F.G with
    | none => rw [h2] at hr; simp at hr
    | some v => rw [h2] at hr; exact ⟨u, v, rfl, rfl, hr⟩

theorem set1_some {env : Env} {k : Nat} {x : Option Dyn} {e : Env} (h : I.dens D env [] = some e → True) (hs : set1 env k x = some e) : ∃ y, x = some y ∧ e = env.set k y := by
  cases x with
  | none => simp [set1] at hs
  | some y => simp [set1] at hs; exact ⟨y, rfl, hs.symm⟩

theorem dens1 {env : Env} {i : I} {e : Env} (h : I.dens D env [i] = some e) : i.den D env = some e := by
  simp only [I.dens] at h
  cases hi : i.den D env with
  | none => rw [hi] at h; simp at h
  | some x => rw [hi] at h; simpa using h

theorem set1_inv {env : Env} {k : Nat} {x : Option Dyn} {e : Env} (hs : set1 env k x = some e) : ∃ y, x = some y ∧ e = env.set k y := by
  cases x with
  | none => simp [set1] at hs
  | some y => simp [set1] at hs; exact ⟨y, rfl, hs.symm⟩

theorem compBin_sound {op : BinOp} {t yt : TypeId} {x y : Operand} (hr : (compBin C d op t x y).run F.G = some (es, is)) (h : Here F clk C es a w)
    (henv : I.dens D F.env is = some env') (hP : C.P = P) (hop : o.op = .binOp op t x y yt) (hdst : o.dst = some d) (hK : OpPost F clk C es env' w K) : o.wp P a w K Q' := by
  obtain ⟨u, v, h1, h2, h3⟩ := scalar2_run hr
  have hx := scalar_run h.st h.ch h.rel h1
  have hy := scalar_run h.st h.ch h.rel h2
  have hexec : ∀ V, ((do eqGuard op t x y (a.eval x) (a.eval y); binOp op t (a.eval x) (a.eval y)) : Sem Value).run P w = .ok V w → (execOp a.eval o).run P w = .ok (.value V) w := by
    intro V hV
    simp only [execOp, hop]
    rw [run_then P _ _ hV]; rfl
  cases hb : boolEq C.P op t with
  | some neg =>
    rw [hb] at h3
    obtain ⟨_, his⟩ := put1_run h3
    subst his
    obtain ⟨z, hz, he⟩ := set1_inv (dens1 henv)
    obtain ⟨V, hV, hsc⟩ := beq_run hz hx hy (hP ▸ hb) x y
    exact put1_sound h3 h trivial he (hexec V (hV w)) hdst (fun F' hF _ _ => leaf_sca hF hsc) hK
  | none =>
    rw [hb] at h3
    obtain ⟨_, his⟩ := put1_run h3
    subst his
    obtain ⟨z, hz, he⟩ := set1_inv (dens1 henv)
    obtain ⟨V, hV, hsc⟩ := bin_run hz hx hy t x y
    exact put1_sound h3 h trivial he (hexec V (hV P w)) hdst (fun F' hF _ _ => leaf_sca hF hsc) hK

theorem compUn_sound {op : UnOp} {t : TypeId} {x : Operand} (hr : (compUn C d op x).run F.G = some (es, is)) (h : Here F clk C es a w)
    (henv : I.dens D F.env is = some env') (hop : o.op = .unOp op t x) (hdst : o.dst = some d) (hK : OpPost F clk C es env' w K) : o.wp P a w K Q' := by
  simp only [compUn, Q.run_bind'] at hr
  cases h1 : (scalar C.ch x).run F.G with
  | none => rw [h1] at hr; simp at hr
  | some u =>
    rw [h1] at hr
    simp only [Option.bind_some] at hr
    have hx := scalar_run h.st h.ch h.rel h1
    unfold OdOk at hx
    have hexec : ∀ V, (Op.unary op (a.eval x)).run P w = .ok V w → (execOp a.eval o).run P w = .ok (.value V) w := by
      intro V hV
      simp only [execOp, hop]
      rw [run_then P _ _ hV]; rfl
    cases op <;> simp only [Q.run, reduceCtorEq] at hr
    case not =>
      obtain ⟨_, his⟩ := put1_run hr
      subst his
      obtain ⟨z, hz, he⟩ := set1_inv (dens1 henv)
      generalize u.rd F.env = U at hx hz
      obtain ⟨τ, v⟩ := U
      cases τ <;> simp only [notD, reduceCtorEq, Option.some.injEq] at hz
      simp only [Ty.shr, Rd, List.cons.injEq, and_true] at hx
      subst hz
      exact put1_sound hr h trivial he (hexec (.bool !v) (by rw [hx]; rfl)) hdst (fun F' hF _ _ => leaf_sca hF (sca_bool _)) hK
    case neg =>
      obtain ⟨_, his⟩ := put1_run hr
      subst his
      obtain ⟨z, hz, he⟩ := set1_inv (dens1 henv)
      generalize u.rd F.env = U at hx hz
      obtain ⟨τ, v⟩ := U
      cases τ <;> simp only [negD, reduceCtorEq, Option.some.injEq] at hz
      simp only [Ty.shr, Rd, List.cons.injEq, and_true] at hx
      subst hz
      exact put1_sound hr h trivial he (hexec (.int _ _) (by rw [hx]; rfl)) hdst (fun F' hF _ _ => leaf_sca hF (sca_int _ _)) hK

end
end Go.Lf

/- Soundness, eighth part: what the types' rows tell; moves, lengths, picks and conversions. -/
namespace Go.Lf

theorem mapOpt_len {α β : Type} {f : α → Option β} : ∀ {l : List α} {r : List β}, mapOpt f l = some r → r.length = l.length
  | [], r, h => by simp [mapOpt] at h; subst h; rfl
  | a :: l, r, h => by
    simp only [mapOpt] at h
    split at h
    · split at h
      · rename_i hr
        simp at h
        subst h
        simp [mapOpt_len hr]
      · cases h
    · cases h

theorem pairUp_pair : ∀ {ts : List Ty} {τ : Ty}, 2 ≤ ts.length → pairUp ts = some τ → τ.isPair = true
  | [], _, h, _ => by simp at h
  | [_], _, h, _ => by simp at h
  | a :: b :: r, τ, _, h => by
    simp only [pairUp, Option.map_eq_some_iff] at h
    obtain ⟨x, _, rfl⟩ := h
    rfl

/-- What lies behind a data type. -/
structure TyRow (P : Program) (t : TypeId) (τ : Ty) : Prop where
  info : ∃ i z, P.info? t = some i ∧ i.size = τ.n ∧ i.bytes ≤ 256 ∧ i.zero = some z ∧ zeroVal τ z = true
  under : ∃ d, P.underlying t = some d ∧ (match d with | .struct _ | .array _ _ => true | _ => false) = τ.isPair
  slice : ∀ e, P.underlying t = some (.slice e) → ∃ σ fuel, τ = .slice σ ∧ tyOf P fuel e = some σ
  desc : (∃ fs ts, P.underlying t = some (.struct fs) ∧ 2 ≤ ts.length ∧ pairUp ts = some τ ∧ fieldsFit P 0 fs.toList ts = true ∧ ∃ fuel, mapOpt (fun f => tyOf P fuel f.type) fs.toList = some ts) ∨
    ((∃ k, P.underlying t = some (.int k) ∧ τ = .int k) ∨ (P.underlying t = some .bool ∧ τ = .bool) ∨ (P.underlying t = some .string ∧ τ = .str) ∨ ∃ e σ, P.underlying t = some (.slice e) ∧ τ = .slice σ)

theorem tyOf_row {P : Program} : ∀ {fuel : Nat} {t : TypeId} {τ : Ty}, tyOf P fuel t = some τ → TyRow P t τ := by
  intro fuel
  cases fuel with
  | zero => intro t τ h; simp [tyOf] at h
  | succ fuel =>
    intro t τ h
    rw [tyOf] at h
    split at h
    · rename_i τ' i hd hi
      split at h
      · rename_i hc
        simp only [Option.some.injEq] at h
        subst h
        obtain ⟨h1, h2, h3⟩ := hc
        have hinfo : ∃ i z, P.info? t = some i ∧ i.size = τ'.n ∧ i.bytes ≤ 256 ∧ i.zero = some z ∧ zeroVal τ' z = true := by
          cases hz : i.zero with
          | none => rw [hz] at h3; simp at h3
          | some z => rw [hz] at h3; exact ⟨i, z, hi, h1, h2, hz, by simpa using h3⟩
        split at hd
        · rename_i k hu
          simp at hd; subst hd
          exact ⟨hinfo, ⟨_, hu, rfl⟩, fun e he => by rw [hu] at he; simp at he, .inr (.inl ⟨k, hu, rfl⟩)⟩
        · rename_i hu
          simp at hd; subst hd
          exact ⟨hinfo, ⟨_, hu, rfl⟩, fun e he => by rw [hu] at he; simp at he, .inr (.inr (.inl ⟨hu, rfl⟩))⟩
        · rename_i hu
          simp at hd; subst hd
          exact ⟨hinfo, ⟨_, hu, rfl⟩, fun e he => by rw [hu] at he; simp at he, .inr (.inr (.inr (.inl ⟨hu, rfl⟩)))⟩
        · rename_i e hu
          simp only [Option.map_eq_some_iff] at hd
          obtain ⟨σ, hσ, rfl⟩ := hd
          exact ⟨hinfo, ⟨_, hu, rfl⟩, fun e' he => by rw [hu] at he; simp at he; subst he; exact ⟨σ, fuel, rfl, hσ⟩, .inr (.inr (.inr (.inr ⟨e, σ, hu, rfl⟩)))⟩
        · rename_i fs hu
          split at hd
          · rename_i ts hts
            split at hd
            · rename_i hf
              exact ⟨hinfo, ⟨_, hu, (pairUp_pair hf.1 hd).symm⟩, fun e he => by rw [hu] at he; simp at he, .inl ⟨fs, ts, hu, hf.1, hd, hf.2, fuel, hts⟩⟩
            · cases hd
          · cases hd
        · cases hd
      · cases h
    · cases h

section
variable {P : Program} {t : TypeId} {τ : Ty}

theorem TyRow.cells (h : TyRow P t τ) : P.cellsOf t = τ.n := by
  obtain ⟨i, z, h1, h2, _⟩ := h.info
  simp [Program.cellsOf, h1, h2]

theorem TyRow.sizeOf (h : TyRow P t τ) (w : World) : (sizeOf t).run P w = .ok τ.n w := by
  obtain ⟨i, z, h1, h2, _⟩ := h.info
  simp [Go.sizeOf, typeInfo, h1, h2]

theorem TyRow.isAgg (h : TyRow P t τ) (w : World) : (isAgg t).run P w = .ok τ.isPair w := by
  obtain ⟨d, hu, hd⟩ := h.under
  unfold Go.isAgg
  rw [run_then P _ _ (run_underlying hu w), ← hd]
  cases d <;> rfl

theorem zeroCell_val {τ : Ty} {v : Value} (h : zeroCell τ v = true) : v = (zeroCst τ).val := by
  cases τ <;> cases v <;> simp [zeroCell] at h <;> simp only [zeroCst, Cst.val]
  case int.int k k' n => rw [h.1, h.2]
  case bool.bool b => rw [h]
  case str.string s =>
    rw [h]
  case slice.slice e a l c =>
    obtain ⟨⟨h1, h2⟩, h3⟩ := h
    cases a <;> simp at h1
    simp [h2, h3]

theorem allZero_val : ∀ {ts : List Ty} {vs : List Value}, allZero ts vs = true → vs = ts.map fun t => (zeroCst t).val
  | [], [], _ => rfl
  | t :: ts, v :: vs, h => by
    simp only [allZero, Bool.and_eq_true] at h
    simp [zeroCell_val h.1, ← allZero_val h.2]
  | [], _ :: _, h => by simp [allZero] at h
  | _ :: _, [], h => by simp [allZero] at h

theorem zeroVal_cells {z : Value} (h : zeroVal τ z = true) : z = mkVal τ.isPair (τ.leaves.map fun t => (zeroCst t).val) := by
  unfold zeroVal at h
  split at h
  · rename_i cs
    simp only [Bool.and_eq_true] at h
    rw [h.1, ← allZero_val h.2]
    simp [mkVal]
  · simp only [Bool.and_eq_true, Bool.not_eq_true'] at h
    rw [h.1, ← allZero_val h.2]
    rfl

/-- One cell each. -/
def OneCells (cs : List Value) : Prop := ∀ v ∈ cs, v.oneCell' = true

theorem zero_one (τ : Ty) : OneCells (τ.leaves.map fun t => (zeroCst t).val) := by
  intro v hv
  obtain ⟨t, _, rfl⟩ := List.mem_map.1 hv
  cases t <;> rfl

theorem mkVal_cells {agg : Bool} {cs : List Value} (ha : agg = false → cs.length = 1) (h1 : OneCells cs) : (mkVal agg cs).cells = cs.toArray := by
  cases agg with
  | true => rfl
  | false =>
    match cs, ha rfl with
    | [v], _ =>
      have := h1 v (by simp)
      simp only [mkVal, List.headD_cons, Bool.false_eq_true, if_false]
      cases v <;> simp [Value.oneCell'] at this <;> rfl

theorem TyRow.zero (h : TyRow P t τ) (w : World) : (zeroValue t).run P w = .ok (mkVal τ.isPair (τ.leaves.map fun t => (zeroCst t).val)) w := by
  obtain ⟨i, z, h1, _, _, h4, h5⟩ := h.info
  simp [zeroValue, typeInfo, h1, h4, zeroVal_cells h5]

theorem leaves_one (h : τ.isPair = false) : τ.leaves = [τ] := by cases τ <;> simp_all [Ty.isPair, Ty.leaves]

theorem zeroCells_eq (τ : Ty) : (mkVal τ.isPair (τ.leaves.map fun t => (zeroCst t).val)).cells = (τ.leaves.map fun t => (zeroCst t).val).toArray :=
  mkVal_cells (fun hp => by simp [leaves_one hp]) (zero_one τ)

end

theorem Rd.ones {H : Array Obj} {lab : Nat → Lab} : ∀ {m : M} {pos : List Nat} {cs : List Value} {τ : Ty} {x : τ.T}, Rd H lab m pos cs τ x → OneCells cs := by
  intro m
  induction m with
  | pair ma mb iha ihb =>
    intro pos cs τ x h
    cases τ <;> simp only [Rd] at h
    rename_i a b
    intro v hv
    rw [← List.take_append_drop a.n cs, List.mem_append] at hv
    exact hv.elim (iha h.1 v) (ihb h.2 v)
  | sc =>
    intro pos cs τ x h
    have hl := h.length
    cases τ <;> simp only [Rd] at h <;> subst h <;> intro v hv <;> simp at hv <;> subst hv <;> rfl
  | sl md m ih =>
    intro pos cs τ x h
    cases τ <;> simp only [Rd] at h
    obtain ⟨ad, cap, rfl, _⟩ := h
    intro v hv
    simp at hv; subst hv; rfl

theorem Cst.one (c : Cst) : c.val.oneCell' = true := by cases c <;> rfl

theorem cell_one {F : Fr} {s : Src} {v : Value} (hs : SrcOk F s v) : v.oneCell' = true := by
  cases s with
  | cpy k em =>
    cases em with
    | true => obtain ⟨_, a, e, rfl, _⟩ := hs; rfl
    | false => exact Rd.one hs.2
  | als k kv k0 => exact hs.2.2.2
  | tak k m org => exact Rd.one hs.2.2.1
  | lek k => obtain ⟨m, org, _, _, h, _⟩ := hs; exact Rd.one h
  | new c => simp only [SrcOk] at hs; subst hs; exact c.one

end Go.Lf

/- Soundness, ninth part: slots without leaves, moves, lengths, conversions, picks. -/
namespace Go.Lf

section
variable {F : Fr} {clk : Clk} {C : Cfg} {d : Nat} {st : ES} {es : List (Nat × Ent)} {is : List I} {a : Act} {w : World} {P : Program} {o : Oper}
  {K : Act → World → Prop} {Q' : Exit → Act → World → Prop} {D : Nat → List Dyn → Option (List Dyn)} {env' : Env} {V : Value}

/-- A slot of a kind without leaves. -/
theorem put0_sound (hr : (put0 C d st).run F.G = some (es, is)) (h : Here F clk C es a w) (henv : I.dens D F.env is = some env')
    (hrun : (execOp a.eval o).run P w = .ok (.value V) w) (hdst : o.dst = some d) (hold : st.older (clk.add C.ver))
    (hcl : ∀ F' : Fr, F'.H = F.H → F'.val d = V → Touch F F' clk (clk.add C.ver) (· ∈ keysOf es) → Claim F' d st)
    (hK : OpPost F clk C es env' w K) : o.wp P a w K Q' :=
  (put0_run hr).sound (vs := []) h rfl (fun i h1 _ => by simp at h1) henv hrun hdst hold (fun F' hH _ hv _ T _ => hcl F' hH hv T) hK

/-- What an address is worth. -/
def AdrOk (F : Fr) (V : Value) : Adr → Prop
  | .box s sv off n => (F.G (sk s)).ver = sv ∧ (F.G (sk s)).st = .bx n ∧ Claim F s (.bx n) ∧ ∃ b, F.val s = .pointer (some ⟨b, 0, none⟩) ∧ V = .pointer (some ⟨b, off, none⟩)
  | .shr s n => (F.G (sk s)).st = .pa n ∧ Claim F s (.pa n) ∧ F.val s = V
  | .elt k kv i iv off => (F.G k).ver = kv ∧ (F.G i).ver = iv ∧
      ∃ n b o e, F.num i n ∧ F.elemAt k n b o e ∧ V = .pointer (some ⟨b, o + off, none⟩) ∧
        ∀ v, F.cell k v → LeafOk F k (F.G k).st v

theorem adrOf_run (h : St F clk) {ch : List (Nat × Bool)} (hch : holds F.env ch = true) {nt : Nat} (hrel : Rel F a w nt) {x : Operand} {A : Adr}
    (hr : (adrOf ch x).run F.G = some A) : AdrOk F (a.eval x) A := by
  unfold adrOf at hr
  cases x with
  | tmp s =>
    simp only [Q.run_bind'] at hr
    cases hs : (slotK ch s).run F.G with
    | none => rw [hs] at hr; simp at hr
    | some e =>
      rw [hs] at hr
      obtain ⟨rfl, hcl⟩ := h.slot hch hs
      simp only [Option.bind_some] at hr
      rw [hrel.val]
      cases hst : (F.G (sk s)).st <;> rw [hst] at hr hcl <;> simp only [Q.run, Q.run_bind', reduceCtorEq, Option.some.injEq] at hr
      case bx n =>
        subst hr
        have hc := hcl
        obtain ⟨cs, hh, _⟩ := hcl
        have hH := hh.1
        rw [hst] at hH
        obtain ⟨b, c, ty, hv, _⟩ := hH
        exact ⟨rfl, hst, hc, b, hv, hv⟩
      case al s2 sv off =>
        cases hs2 : (slotK ch s2).run F.G with
        | none => rw [hs2] at hr; simp at hr
        | some e2 =>
          rw [hs2] at hr
          obtain ⟨rfl, hcl2⟩ := h.slot hch hs2
          simp only [Option.bind_some, Q.run_guard] at hr
          split at hr
          · rename_i hg
            have hv : (F.G (sk s2)).ver = sv := by simpa using hg
            simp only [Option.bind_some] at hr
            cases hst2 : (F.G (sk s2)).st <;> rw [hst2] at hr hcl2 <;> simp only [Q.run, reduceCtorEq, Option.some.injEq] at hr
            subst hr
            obtain ⟨b, h1, h2⟩ := hcl hv
            exact ⟨hv, hst2, hcl2, b, h1, h2⟩
          · simp at hr
      case pa n =>
        subst hr
        exact ⟨hst, hcl, rfl⟩
      case ea k kv i iv off =>
        cases hs2 : (slotK ch (k / 16)).run F.G with
        | none => rw [hs2] at hr; simp at hr
        | some e2 =>
          rw [hs2] at hr
          simp only [Option.bind_some, Q.run_ent, Q.run_guard] at hr
          split at hr
          · rename_i hg
            simp only [Bool.and_eq_true, beq_iff_eq] at hg
            simp only [Option.bind_some, Q.run, Option.some.injEq] at hr
            subst hr
            obtain ⟨n, b, o, e, h1, h2, h3⟩ := hcl hg.1 hg.2
            exact ⟨hg.1, hg.2, n, b, o, e, h1, h2, h3, fun v hv => h.leafOk hch hs2 hv⟩
          · simp at hr
  | _ => simp [Q.run] at hr

theorem run_value {V : Value} {w : World} : ((do pure (Next.value (← (pure V : Sem Value)))) : Sem Next).run P w = .ok (.value V) w := rfl

theorem compNil_sound {x : Operand} (hr : (compNilCheck C d x).run F.G = some (es, is)) (h : Here F clk C es a w) (henv : I.dens D F.env is = some env')
    (hop : o.op = .nilCheck x) (hdst : o.dst = some d) (hK : OpPost F clk C es env' w K) : o.wp P a w K Q' := by
  simp only [compNilCheck, Q.run_bind'] at hr
  cases hA : (adrOf C.ch x).run F.G with
  | none => rw [hA] at hr; simp at hr
  | some A =>
    rw [hA] at hr
    have hA' := adrOf_run h.st h.ch h.rel hA
    simp only [Option.bind_some] at hr
    have hrun : ∀ b off, a.eval x = .pointer (some ⟨b, off, none⟩) → (execOp a.eval o).run P w = .ok (.value (a.eval x)) w := by
      intro b off hx
      simp only [execOp, hop, hx]; rfl
    cases A with
    | box s sv off n =>
      obtain ⟨h1, h2, h3, b, h4, h5⟩ := hA'
      refine put0_sound hr h henv (hrun _ _ h5) hdst (Or.inl (by have := h.st.vers (sk s); simp_all)) (fun F' hH hv T => ?_) hK
      intro hver
      obtain ⟨hn, _⟩ := T.fresh (by rw [← h1]; exact h.st.vers _) hver
      exact ⟨b, by rw [T.tmp s hn]; exact h4, by rw [hv]; exact h5⟩
    | shr s n =>
      obtain ⟨h1, h2, h3⟩ := hA'
      simp only [Q.run_bind'] at hr
      cases hl : (srcsOf C.ch .ref s 0 n).run F.G with
      | none => rw [hl] at hr; simp at hr
      | some l =>
        rw [hl] at hr
        simp only [Option.bind_some, Q.run_guard] at hr
        split at hr
        · rename_i hcp
          simp only [Option.bind_some] at hr
          obtain ⟨cs, hh, hlf⟩ := h2
          have hH := hh.1
          rw [h1] at hH
          have hn : cs.length = n := by rw [Fr.has_cells hh, h1]; rfl
          obtain ⟨a1, a2⟩ := srcsOf_run h.st h.ch hh hlf hl (by omega)
          have hPa : PaOk F.H F.lab (a.eval x) n cs := by rw [← h3]; exact hH
          have hPa' := hPa
          obtain ⟨b, off, c, ty, fr, hV, _⟩ := hPa'
          refine (putLeaves_run hr).soundLeafy (vs := cs) h (by omega) (fun i h1 h2 => by simpa using a2 i h1 (by omega)) henv (hrun b off hV) hdst rfl (fun lab' hl' => ?_) hK
          exact hPa.keep fun b o ho hs => ⟨ho, hl' b (by obtain ⟨h, _⟩ := Array.getElem?_eq_some_iff.1 ho; exact h) hs⟩
        · simp at hr
    | elt k kv i iv off => simp [Q.run] at hr

theorem compConv_sound {src t : TypeId} {x : Operand} (hr : (compConv C d src t x).run F.G = some (es, is)) (h : Here F clk C es a w)
    (henv : I.dens D F.env is = some env') (hP : C.P = P) (hop : o.op = .convert src t x) (hdst : o.dst = some d) (hK : OpPost F clk C es env' w K) : o.wp P a w K Q' := by
  subst hP
  simp only [compConv, Q.run_bind', Q.run_guard] at hr
  split at hr
  case isFalse => simp at hr
  rename_i hsrc
  simp only [Option.bind_some] at hr
  cases h1 : (scalar C.ch x).run F.G with
  | none => rw [h1] at hr; simp at hr
  | some u =>
    rw [h1] at hr
    simp only [Option.bind_some] at hr
    have hx := scalar_run h.st h.ch h.rel h1
    unfold OdOk at hx
    cases hu : C.P.underlying t with
    | none => rw [hu] at hr; simp [Q.run] at hr
    | some dt =>
      rw [hu] at hr
      cases dt <;> simp only [Q.run, reduceCtorEq] at hr
      rename_i k
      obtain ⟨_, his⟩ := put1_run hr
      subst his
      obtain ⟨z, hz, he⟩ := set1_inv (dens1 henv)
      generalize u.rd F.env = U at hx hz
      obtain ⟨τ, v⟩ := U
      cases τ <;> simp only [convD, reduceCtorEq, Option.some.injEq] at hz
      rename_i k0
      simp only [Ty.shr, Rd, List.cons.injEq, and_true] at hx
      subst hz
      refine put1_sound hr h trivial he (V := .int k (k.wrap v)) ?_ hdst (fun F' hF _ _ => leaf_sca hF (sca_int _ _)) hK
      obtain ⟨ds, hds⟩ := Option.isSome_iff_exists.1 hsrc
      have : (convert src t (a.eval x)).run C.P w = .ok (.int k (k.wrap v)) w := by
        unfold convert
        rw [run_then C.P _ _ (run_underlying hds w), run_then C.P _ _ (run_underlying hu w), hx]
        cases ds <;> rfl
      simp only [execOp, hop]
      rw [run_then C.P _ _ this]; rfl


theorem srcs_slot (h : Here F clk C es a w) {s : Nat} {how : How} {n j : Nat} {l : List Src} (hs : Claim F s (F.G (sk s)).st) (hlf : (F.G (sk s)).st.leafy = true)
    (hl : (srcsOf C.ch how s j n).run F.G = some l) (hn : j + n ≤ (F.G (sk s)).st.cells) :
    ∃ cs, F.has s cs ∧ cs.length = (F.G (sk s)).st.cells ∧ l.length = n ∧ ∀ i (h1 : i < l.length) (h2 : j + i < cs.length), SrcOk F l[i] cs[j + i] := by
  rw [claim_leafy hlf] at hs
  obtain ⟨cs, hh, hl'⟩ := hs
  have hc := Fr.has_cells hh
  obtain ⟨a1, a2⟩ := srcsOf_run h.st h.ch hh hl' hl (by omega)
  exact ⟨cs, hh, hc, a1, a2⟩

theorem compMove_sound {how : How} {t : TypeId} {x : Operand} (hr : (compMove C how d t x).run F.G = some (es, is)) (h : Here F clk C es a w) (henv : I.dens D F.env is = some env')
    (hop : o.op = .move x ∨ o.op = .assign x) (hdst : o.dst = some d) (hK : OpPost F clk C es env' w K) : o.wp P a w K Q' := by
  have hrun : (execOp a.eval o).run P w = .ok (.value (a.eval x)) w := by
    rcases hop with hop | hop <;> simp only [execOp, hop] <;> rfl
  unfold compMove at hr
  have val : ∀ (x' : Operand), x' = x → ((do let (l, agg) ← valSrcs C how t x'; putLeaves C d (.pl l.length agg) l) : Q Out).run F.G = some (es, is) → o.wp P a w K Q' := by
    intro x' hx hr2
    subst hx
    simp only [Q.run_bind'] at hr2
    cases hv : (valSrcs C how t x').run F.G with
    | none => rw [hv] at hr2; simp at hr2
    | some r =>
      obtain ⟨l, agg⟩ := r
      rw [hv] at hr2
      simp only [Option.bind_some] at hr2
      obtain ⟨vs, h1, h2, h3, h4⟩ := valSrcs_run h.st h.ch hv h.rel
      exact (putLeaves_run hr2).soundPl h h2 h4 henv (by rw [hrun, h1]) hdst h2.symm (fun ha => by rw [h2, h3 ha]) hK
  cases x with
  | func f =>
    refine put0_sound hr h henv hrun hdst (by simp [ES.older]) (fun F' hH hv T => ?_) hK
    exact ⟨[], by rw [hv]; rfl, rfl, fun i c hc => by simp at hc⟩
  | tmp s =>
    simp only [Q.run_bind'] at hr
    cases hs : (slotK C.ch s).run F.G with
    | none => rw [hs] at hr; simp at hr
    | some e =>
      rw [hs] at hr
      obtain ⟨rfl, hcl⟩ := h.st.slot h.ch hs
      simp only [Option.bind_some] at hr
      rw [h.rel.val] at hrun
      have ho := h.st.refs (sk s)
      cases hst : (F.G (sk s)).st <;> rw [hst] at hr hcl ho <;> simp only [Q.run, Q.run_bind', reduceCtorEq, Q.run_guard] at hr
      case pl n agg =>
        cases hl : (srcsOf C.ch how s 0 n).run F.G with
        | none => rw [hl] at hr; simp at hr
        | some l =>
          rw [hl] at hr
          simp only [Option.bind_some] at hr
          obtain ⟨cs, hh, hc, a1, a2⟩ := srcs_slot h (by rw [hst]; exact hcl) (by rw [hst]; rfl) hl (by simp [hst, ES.cells])
          have hH := hh.1
          rw [hst] at hH hc
          obtain ⟨hv, hn, hagg⟩ := hH
          exact (putLeaves_run hr).soundPl (vs := cs) h (by omega) (fun i h1 h2 => by simpa using a2 i h1 (by omega)) henv (by rw [hrun, hv]) hdst hn hagg hK
      case tu ps =>
        cases hl : (srcsOf C.ch how s 0 (ps.foldl (fun a p => a + p.1) 0)).run F.G with
        | none => rw [hl] at hr; simp at hr
        | some l =>
          rw [hl] at hr
          simp only [Option.bind_some] at hr
          obtain ⟨cs, hh, hc, a1, a2⟩ := srcs_slot h (by rw [hst]; exact hcl) (by rw [hst]; rfl) hl (by simp [hst, ES.cells])
          have hH := hh.1
          rw [hst] at hH hc
          simp only [ES.cells] at hc
          exact (putLeaves_run hr).soundLeafy (vs := cs) h (by omega) (fun i h1 h2 => by simpa using a2 i h1 (by omega)) henv hrun hdst rfl (fun _ _ => hH) hK
      case bx n =>
        refine put0_sound hr h henv hrun hdst (Or.inl (h.st.vers (sk s))) (fun F' hH hv T => ?_) hK
        intro hver
        obtain ⟨hn, _⟩ := T.fresh (h.st.vers _) hver
        obtain ⟨cs, hh, _⟩ := hcl
        have hH := hh.1
        rw [hst] at hH
        obtain ⟨b, c, ty, hv2, _⟩ := hH
        exact ⟨b, by rw [T.tmp s hn]; exact hv2, by rw [hv]; exact hv2⟩
      case al s2 sv off =>
        simp only [ES.older] at ho
        refine put0_sound hr h henv hrun hdst (Or.inl ho) (fun F' hH hv T => ?_) hK
        intro hver
        obtain ⟨hn, hv2⟩ := T.fresh ho hver
        obtain ⟨b, h1, h2⟩ := hcl hv2
        exact ⟨b, by rw [T.tmp s2 hn]; exact h1, by rw [hv]; exact h2⟩
      case ea k kv i iv off =>
        simp only [ES.older] at ho
        refine put0_sound hr h henv hrun hdst ⟨Or.inl ho.1, Or.inl ho.2⟩ (fun F' hH hv T => ?_) hK
        intro hver hveri
        obtain ⟨hn, hv2⟩ := T.fresh ho.1 hver
        obtain ⟨hni, hvi⟩ := T.fresh ho.2 hveri
        obtain ⟨n, b, oo, e, h1, h2, h3⟩ := hcl hv2 hvi
        exact ⟨n, b, oo, e, T.num hni h1, T.elemAt hn h2, by rw [hv]; exact h3⟩
      case cl f caps =>
        simp only [ES.older] at ho
        refine put0_sound hr h henv hrun hdst (by simp only [ES.older]; exact fun c hc => Or.inl (ho c hc)) (fun F' hH hv T => ?_) hK
        obtain ⟨ps, h1, h2, h3⟩ := hcl
        refine ⟨ps, by rw [hv]; exact h1, h2, fun i c hc hver => ?_⟩
        obtain ⟨hn, hv2⟩ := T.fresh (ho c (List.mem_of_getElem? hc)) hver
        rw [T.tmp _ hn]
        exact h3 i c hc hv2
      case pa n =>
        cases hl : (srcsOf C.ch .ref s 0 n).run F.G with
        | none => rw [hl] at hr; simp at hr
        | some l =>
          rw [hl] at hr
          simp only [Option.bind_some] at hr
          split at hr
          case isFalse => simp at hr
          simp only [Option.bind_some] at hr
          obtain ⟨cs, hh, hc, a1, a2⟩ := srcs_slot h (by rw [hst]; exact hcl) (by rw [hst]; rfl) hl (by simp [hst, ES.cells])
          have hH := hh.1
          rw [hst] at hH hc
          simp only [ES.cells] at hc
          exact (putLeaves_run hr).soundLeafy (vs := cs) h (by omega) (fun i h1 h2 => by simpa using a2 i h1 (by omega)) henv hrun hdst rfl
            (fun lab' hl' => PaOk.keep (fun b o ho hs => ⟨ho, hl' b (by obtain ⟨h, _⟩ := Array.getElem?_eq_some_iff.1 ho; exact h) hs⟩) hH) hK
      case cp f ns =>
        cases hl : (srcsOf C.ch .ref s 0 (ns.foldl (· + ·) 0)).run F.G with
        | none => rw [hl] at hr; simp at hr
        | some l =>
          rw [hl] at hr
          simp only [Option.bind_some] at hr
          split at hr
          case isFalse => simp at hr
          simp only [Option.bind_some] at hr
          obtain ⟨cs, hh, hc, a1, a2⟩ := srcs_slot h (by rw [hst]; exact hcl) (by rw [hst]; rfl) hl (by simp [hst, ES.cells])
          have hH := hh.1
          rw [hst] at hH hc
          simp only [ES.cells] at hc
          obtain ⟨ps, hp1, hp2⟩ := hH
          exact (putLeaves_run hr).soundLeafy (vs := cs) h (by omega) (fun i h1 h2 => by simpa using a2 i h1 (by omega)) henv hrun hdst rfl
            (fun lab' hl' => ⟨ps, hp1, PasOk.keep (fun b o ho hs => ⟨ho, hl' b (by obtain ⟨h, _⟩ := Array.getElem?_eq_some_iff.1 ho; exact h) hs⟩) hp2⟩) hK
  | const v => exact val _ rfl hr
  | global g => exact val _ rfl hr

end
end Go.Lf

/- Soundness, tenth part: what is read at a leaf; lengths, least and greatest, picks, fields and parts of tuples. -/
namespace Go.Lf

theorem M.flat_len {H : Array Obj} {lab : Nat → Lab} : ∀ {m : M} {pos : List Nat} {cs : List Value} {τ : Ty} {x : τ.T}, Rd H lab m pos cs τ x → m.flat.length = τ.n := by
  intro m
  induction m with
  | pair ma mb iha ihb =>
    intro pos cs τ x h
    cases τ <;> simp only [Rd] at h
    simp [M.flat, Ty.n, iha h.1, ihb h.2]
  | sc => intro pos cs τ x h; cases τ <;> simp only [Rd] at h <;> simp [M.flat, Ty.n]
  | sl md m ih => intro pos cs τ x h; cases τ <;> simp only [Rd] at h; simp [M.flat, Ty.n]

/-- Where the leaves lie in a pair. -/
def Ty.paths : Ty → List (List Nat)
  | .pair a b => a.paths.map (0 :: ·) ++ b.paths.map (1 :: ·)
  | _ => [[]]

theorem Ty.paths_len (τ : Ty) : τ.paths.length = τ.n := by
  induction τ with
  | pair a b iha ihb => simp [Ty.paths, Ty.n, iha, ihb]
  | _ => simp [Ty.paths, Ty.n]

/-- One leaf of what is read. -/
theorem Rd.leaf {H : Array Obj} {lab : Nat → Lab} : ∀ {m : M} {pos : List Nat} {cs : List Value} {τ : Ty} {x : τ.T}, Rd H lab m pos cs τ x →
    ∀ {off : Nat} {v : Value}, cs[off]? = some v → ∃ y m' pos', (flat τ x)[off]? = some y ∧ m.flat[off]? = some m' ∧ Rd H lab m' pos' [v] y.τ y.v ∧ ∃ q, pos' = pos ++ q ∧ τ.paths[off]? = some q := by
  intro m
  induction m with
  | pair ma mb iha ihb =>
    intro pos cs τ x h off v hv
    have hml := M.flat_len h
    cases τ <;> simp only [Rd] at h
    rename_i a b
    have hla := h.1.length
    have hma := M.flat_len h.1
    by_cases ho : off < a.n
    · obtain ⟨y, m', pos', h1, h2, h3, q, hq, hpq⟩ := iha h.1 (off := off) (v := v) (by rw [List.getElem?_take_of_lt ho]; exact hv)
      refine ⟨y, m', pos', ?_, ?_, h3, 0 :: q, by simp [hq], ?_⟩
      · simp only [flat]
        rw [List.getElem?_append_left (by rw [flat_length]; exact ho)]; exact h1
      · simp only [M.flat]
        rw [List.getElem?_append_left (by omega)]; exact h2
      · simp only [Ty.paths]
        rw [List.getElem?_append_left (by simpa [Ty.paths_len] using ho)]; simp [hpq]
    · obtain ⟨y, m', pos', h1, h2, h3, q, hq, hpq⟩ := ihb h.2 (off := off - a.n) (v := v) (by rw [List.getElem?_drop, show a.n + (off - a.n) = off by omega]; exact hv)
      refine ⟨y, m', pos', ?_, ?_, h3, 1 :: q, by simp [hq], ?_⟩
      · simp only [flat]
        rw [List.getElem?_append_right (by rw [flat_length]; omega), flat_length]; exact h1
      · simp only [M.flat]
        rw [List.getElem?_append_right (by omega), hma]; exact h2
      · simp only [Ty.paths]
        rw [List.getElem?_append_right (by simp [Ty.paths_len]; omega)]; simp [Ty.paths_len, hpq]
  | sc =>
    intro pos cs τ x h off v hv
    cases τ <;> simp only [Rd] at h <;> subst h <;> (cases off with | succ o => simp at hv | zero => ?_) <;> simp at hv <;> subst hv <;>
      exact ⟨_, .sc, pos, rfl, rfl, by simp only [Rd], [], by simp, rfl⟩
  | sl md m ih =>
    intro pos cs τ x h off v hv
    cases τ <;> simp only [Rd] at h
    have h' := h
    obtain ⟨ad, cap, rfl, _⟩ := h'
    cases off with
    | succ o => simp at hv
    | zero =>
      simp at hv
      subst hv
      refine ⟨⟨.slice _, x⟩, .sl md m, pos, rfl, rfl, ?_, [], by simp, rfl⟩
      simp only [Rd]
      exact h

/-- The cell at a key reads as its datum. -/
def RdAt (F : Fr) (k : Nat) (v : Value) : Prop := ∃ m pos, Rd F.H F.lab m pos [v] (F.env k).τ (F.env k).v

section
variable {F : Fr} {clk : Clk} {C : Cfg} {d : Nat} {st : ES} {es : List (Nat × Ent)} {is : List I} {a : Act} {w : World} {P : Program} {o : Oper}
  {K : Act → World → Prop} {Q' : Exit → Act → World → Prop} {D : Nat → List Dyn → Option (List Dyn)} {env' : Env} {V : Value}

theorem RdAt.of_em {k : Nat} {v : Value} (h : LeafOk F k .em v) : RdAt F k v := by
  obtain ⟨a, e, rfl, he⟩ := h
  refine ⟨.sl .shr .sc, [], ?_⟩
  rw [he]
  simp only [Rd]
  refine ⟨a, 0, rfl, ?_⟩
  cases a with
  | none => exact ⟨trivial, rfl⟩
  | some p => exact .inl ⟨trivial, rfl⟩

theorem RdAt.of_ef (h : St F clk) {ch : List (Nat × Bool)} (hch : holds F.env ch = true) {k k2 kv i iv off : Nat} {v : Value} (hl : LeafOk F k (.ef k2 kv i iv off) v) (h1 : (F.G k2).ver = kv) (h2 : (F.G i).ver = iv)
    {e0 : Ent} (hs : (slotK ch (k2 / 16)).run F.G = some e0) {m : M} {org : Option Nat} (hro : (F.G k2).st = .ro m org) :
    ∃ m' q, m.flat[off]? = some m' ∧ Rd F.H F.lab m' (k2 :: q) [v] (F.env k).τ (F.env k).v := by
  obtain ⟨h15, n, b, o, e, c, ty, hn, hel, hlab, hH, hc, xs, x, hx, hxn, hf⟩ := hl h1 h2
  obtain ⟨o', len, cap, xs', hcell, hxs', hlt, ho⟩ := hel
  have hok := h.leafOk hch hs hcell
  rw [hro] at hok
  have hRd := hok.1
  rw [hx] at hRd
  have hb := Rd.block hRd
  obtain ⟨hlen, hb⟩ := hb
  change len = xs.length at hlen
  rcases hb with ⟨hnil, _⟩ | ⟨hcap, b', o2, c', ty', ha, hlab', hH', hsz, hel⟩
  · subst hnil; simp at hlen; omega
  · simp at ha
    obtain ⟨rfl, rfl⟩ := ha
    rw [hH] at hH'
    simp at hH'
    obtain ⟨rfl, rfl⟩ := hH'
    have hnl : n < xs.length := by omega
    have hR := hel n hnl
    have hxe : xs[n] = x := by
      have := List.getElem?_eq_getElem hnl
      rw [hxn] at this; exact (Option.some.inj this).symm
    rw [hxe] at hR
    have hen := e.n_pos
    have hoff : off < e.n := by
      have := (List.getElem?_eq_some_iff.1 hf).1
      rw [flat_length] at this; exact this
    obtain ⟨y, m', pos', g1, g2, g3, q, hq, _⟩ := hR.leaf (off := off) (v := v) (by
      unfold cut
      rw [List.getElem?_take_of_lt hoff, List.getElem?_drop]
      rw [ho] at hc
      simpa using hc)
    rw [hf] at g1
    simp at g1
    subst g1
    exact ⟨m', [n] ++ q, g2, by rw [hq] at g3; simpa using g3⟩

/-- What is read: shared, or below what a key owns. -/
def RdOf (F : Fr) (o : Option Nat) (v : Value) (y : Dyn) : Prop :=
  match o with
  | none => Rd F.H F.lab y.τ.shr [] [v] y.τ y.v
  | some k => ∃ m q, Rd F.H F.lab m (k :: q) [v] y.τ y.v

theorem RdOf.at {o : Option Nat} {k : Nat} {v : Value} (h : RdOf F o v (F.env k)) : RdAt F k v := by
  cases o with
  | none => exact ⟨_, _, h⟩
  | some k2 => obtain ⟨m, q, h⟩ := h; exact ⟨_, _, h⟩

theorem RdOf.of_em {k : Nat} {v : Value} (h : LeafOk F k .em v) : RdOf F none v (F.env k) := by
  obtain ⟨a, e, rfl, he⟩ := h
  unfold RdOf
  rw [he]
  simp only [Ty.shr, Rd]
  refine ⟨a, 0, rfl, ?_⟩
  cases a with
  | none => exact ⟨trivial, rfl⟩
  | some p => exact .inl ⟨trivial, rfl⟩

theorem readable_run (h : St F clk) {ch : List (Nat × Bool)} (hch : holds F.env ch = true) {k : Nat} {v : Value} {b : Option Nat}
    (hr : (readable ch k (F.G k)).run F.G = some b) (hc : F.cell k v) (hl : LeafOk F k (F.G k).st v) : RdOf F b v (F.env k) := by
  unfold readable at hr
  have gen : (do let (k2, _, _) ← owner ch k (F.G k); Q.ret (some k2) : Q (Option Nat)).run F.G = some b → RdOf F b v (F.env k) := by
    intro hr
    simp only [Q.run_bind'] at hr
    cases ho : (owner ch k (F.G k)).run F.G with
    | none => rw [ho] at hr; simp at hr
    | some x =>
      obtain ⟨k2, m, org⟩ := x
      rw [ho] at hr
      simp only [Option.bind_some, Q.run, Option.some.injEq] at hr
      subst hr
      obtain ⟨h1, h2, h3, h4⟩ := owner_run h hch ho hc hl
      exact ⟨_, [], by rw [h4]; exact h3.1⟩
  cases hst : (F.G k).st <;> rw [hst] at hr hl
  case va =>
    simp only [Q.run, Option.some.injEq] at hr
    subst hr
    exact hl
  case em =>
    simp only [Q.run, Option.some.injEq] at hr
    subst hr
    exact RdOf.of_em hl
  case ef k2 kv i iv off =>
    simp only [Q.run_bind'] at hr
    cases hs : (slotK ch (k2 / 16)).run F.G with
    | none => rw [hs] at hr; simp at hr
    | some e0 =>
      rw [hs] at hr
      simp only [Option.bind_some, Q.run_ent, Q.run_guard] at hr
      split at hr
      case isFalse => simp at hr
      rename_i hg
      simp only [Bool.and_eq_true, beq_iff_eq] at hg
      simp only [Option.bind_some] at hr
      cases hst2 : (F.G k2).st <;> rw [hst2] at hr <;> simp only [Q.run, reduceCtorEq] at hr
      simp only [Option.some.injEq] at hr
      subst hr
      obtain ⟨m', q, _, h3⟩ := RdAt.of_ef h hch hl hg.1 hg.2 hs hst2
      exact ⟨_, _, h3⟩
  all_goals exact gen hr

theorem seen_run (h : St F clk) {ch : List (Nat × Bool)} (hch : holds F.env ch = true) {nt : Nat} (hrel : Rel F a w nt) {x : Operand} {k : Nat} {l : Ent}
    (hr : (seen ch x).run F.G = some (k, l)) : l = F.G k ∧ F.cell k (a.eval x) ∧ LeafOk F k (F.G k).st (a.eval x) ∧ k % 16 = 0 ∧ x = .tmp (k / 16) ∧ ∃ e, (slotK ch (k / 16)).run F.G = some e := by
  unfold seen at hr
  cases x with
  | tmp s =>
    simp only [Q.run_bind'] at hr
    cases hs : (slotK ch s).run F.G with
    | none => rw [hs] at hr; simp at hr
    | some e =>
      rw [hs] at hr
      have hs' := hs
      obtain ⟨rfl, hcl⟩ := h.slot hch hs
      simp only [Option.bind_some, Q.run_guard] at hr
      split at hr
      case isFalse => simp at hr
      rename_i he
      have he' : (F.G (sk s)).st = .pl 1 false := by simpa using he
      simp only [Option.bind_some, Q.run_ent, Q.run, Option.some.injEq, Prod.mk.injEq] at hr
      obtain ⟨rfl, rfl⟩ := hr
      rw [he'] at hcl
      obtain ⟨cs, hh, hlf⟩ := hcl
      have hH := hh.1
      rw [he'] at hH
      obtain ⟨hv, hn, _⟩ := hH
      match cs, hn with
      | [V], _ =>
        simp only [mkVal] at hv
        have hv' : F.val s = V := by simpa using hv
        rw [hrel.val, hv']
        refine ⟨rfl, ⟨[V], by rw [lk_div (by omega)]; exact hh, by rw [lk_mod (by omega)]; rfl⟩, hlf 0 V rfl, lk_mod (by omega), by rw [lk_div (by omega)], ?_⟩
        rw [lk_div (by omega)]
        exact ⟨_, hs'⟩
  | _ => simp [Q.run] at hr

theorem RdAt.slice {k : Nat} {v : Value} (h : RdAt F k v) {e : Ty} {xs : List e.T} (he : F.env k = ⟨.slice e, xs⟩) : ∃ ad cap, v = .slice ad xs.length cap := by
  obtain ⟨m, pos, h⟩ := h
  rw [he] at h
  cases m <;> simp only [Rd] at h
  obtain ⟨ad, cap, h, _⟩ := h
  exact ⟨ad, cap, by simpa using h⟩

theorem RdAt.str {k : Nat} {v : Value} (h : RdAt F k v) {x : ByteArray} (he : F.env k = ⟨.str, x⟩) : v = .string x := by
  obtain ⟨m, pos, h⟩ := h
  rw [he] at h
  cases m <;> simp only [Rd] at h
  simpa using h

theorem compLen_sound {t : TypeId} {x : Operand} {ts : List TypeId} (hr : (compLen C d t x).run F.G = some (es, is)) (h : Here F clk C es a w) (henv : I.dens D F.env is = some env') (hP : C.P = P)
    (hop : o.op = .call { callee := .builtin .len, args := #[x], argTypes := (t :: ts).toArray }) (hdst : o.dst = some d) (hK : OpPost F clk C es env' w K) : o.wp P a w K Q' := by
  subst hP
  simp only [compLen, Q.run_bind'] at hr
  cases hs : (seen C.ch x).run F.G with
  | none => rw [hs] at hr; simp at hr
  | some kl =>
    obtain ⟨k, l⟩ := kl
    rw [hs] at hr
    simp only [Option.bind_some] at hr
    obtain ⟨rfl, hc, hl, _⟩ := seen_run h.st h.ch h.rel hs
    cases hrd : (readable C.ch k (F.G k)).run F.G with
    | none => rw [hrd] at hr; simp at hr
    | some b =>
      rw [hrd] at hr
      simp only [Option.bind_some] at hr
      have hR := (readable_run h.st h.ch hrd hc hl).at
      have hexec : ∀ V, (Builtin.len_ (t :: ts).toArray o.type #[a.eval x]).run C.P w = .ok V w → (execOp a.eval o).run C.P w = .ok (.value V) w := by
        intro V hV
        simp [execOp, hop, resolve, invoke, builtin, hV, Result.andThen]
      split at hr
      · rename_i e0 hu
        obtain ⟨_, his⟩ := put1_run hr
        subst his
        obtain ⟨z, hz, he⟩ := set1_inv (dens1 henv)
        simp only [Od.rd] at hz
        generalize hU : F.env k = U at hz
        obtain ⟨τ, v⟩ := U
        cases τ <;> simp only [lenD, reduceCtorEq, Option.some.injEq] at hz
        rename_i e
        obtain ⟨ad, cap, hv⟩ := hR.slice hU
        subst hz
        refine put1_sound hr h trivial he (V := .int .i64 (v.length : Int)) (hexec _ ?_) hdst (fun F' hF _ _ => leaf_sca hF (sca_int _ _)) hK
        rw [hv]
        simp [Builtin.len_, run_underlying hu, goInt]
      · rename_i hu
        obtain ⟨_, his⟩ := put1_run hr
        subst his
        obtain ⟨z, hz, he⟩ := set1_inv (dens1 henv)
        simp only [Od.rd] at hz
        generalize hU : F.env k = U at hz
        obtain ⟨τ, v⟩ := U
        cases τ <;> simp only [lenD, reduceCtorEq, Option.some.injEq] at hz
        have hv := hR.str hU
        subst hz
        refine put1_sound hr h trivial he (V := .int .i64 (v.size : Int)) (hexec _ ?_) hdst (fun F' hF _ _ => leaf_sca hF (sca_int _ _)) hK
        rw [hv]
        simp [Builtin.len_, run_underlying hu, goInt]
      · simp [Q.run] at hr

theorem compMnx_sound {big : Bool} {x y : Operand} {ts : Array TypeId} (hr : (compMnx C big d x y).run F.G = some (es, is)) (h : Here F clk C es a w) (henv : I.dens D F.env is = some env')
    (hop : o.op = .call { callee := .builtin (if big then .max else .min), args := #[x, y], argTypes := ts }) (hdst : o.dst = some d) (hK : OpPost F clk C es env' w K) : o.wp P a w K Q' := by
  obtain ⟨u, v, h1, h2, h3⟩ := scalar2_run hr
  have hx := scalar_run h.st h.ch h.rel h1
  have hy := scalar_run h.st h.ch h.rel h2
  obtain ⟨_, his⟩ := put1_run h3
  subst his
  obtain ⟨z, hz, he⟩ := set1_inv (dens1 henv)
  unfold OdOk at hx hy
  generalize u.rd F.env = U at hx hz
  generalize v.rd F.env = V at hy hz
  obtain ⟨tx, x'⟩ := U
  obtain ⟨ty, y'⟩ := V
  cases tx <;> cases ty <;> simp only [mnxD, reduceCtorEq] at hz
  split at hz
  case isFalse => simp at hz
  rename_i hkk
  subst hkk
  simp only [Option.some.injEq] at hz
  simp only [Ty.shr, Rd, List.cons.injEq, and_true] at hx hy
  subst hz
  refine put1_sound h3 h trivial he (V := .int _ (if big then (if x' < y' then y' else x') else (if y' < x' then y' else x'))) ?_ hdst (fun F' hF _ _ => leaf_sca hF (sca_int _ _)) hK
  simp only [execOp, hop, resolve]
  cases big <;> simp [invoke, builtin, Builtin.max_, Builtin.min_, Builtin.max2, Builtin.min2, hx, hy]

end
end Go.Lf

/- Soundness, eleventh part: picks, function values, fields, parts of tuples, loads, addresses of fields. -/
namespace Go.Lf

theorem foldl_add {α : Type} (g : α → Nat) : ∀ (l : List α) (a : Nat), l.foldl (fun a p => a + g p) a = a + l.foldl (fun a p => a + g p) 0 := by
  intro l
  induction l with
  | nil => intro a; simp
  | cons x l ih => intro a; simp only [List.foldl_cons]; rw [ih (a + g x), ih (0 + g x)]; omega

theorem PartsOk.get : ∀ {vs : List Value} {ps : List (Nat × Bool)} {cs : List Value}, PartsOk vs ps cs → ∀ {j : Nat} {p : Nat × Bool}, ps[j]? = some p →
    vs[j]? = some (mkVal p.2 ((cs.drop ((ps.take j).foldl (fun a p => a + p.1) 0)).take p.1)) ∧ (ps.take j).foldl (fun a p => a + p.1) 0 + p.1 ≤ cs.length ∧ (p.2 = false → p.1 = 1) := by
  intro vs
  induction vs with
  | nil => intro ps cs h j p hj; cases ps with | nil => simp at hj | cons q ps => exact h.elim
  | cons V vs ih =>
    intro ps cs h j p hj
    cases ps with
    | nil => exact h.elim
    | cons q ps =>
      obtain ⟨n, agg⟩ := q
      obtain ⟨c1, c2, rfl, h1, h2, h3, h4⟩ := h
      cases j with
      | zero =>
        simp at hj
        subst hj
        refine ⟨?_, ?_, h2⟩
        · simp only [List.take_zero, List.foldl_nil, List.drop_zero, List.getElem?_cons_zero]
          rw [h3, ← h1]; simp
        · simp [h1]
      | succ j =>
        obtain ⟨g1, g2, g3⟩ := ih h4 (j := j) (p := p) (by simpa using hj)
        simp only [List.take_succ_cons, List.foldl_cons, List.getElem?_cons_succ, List.length_append]
        rw [foldl_add (fun p : Nat × Bool => p.1)]
        refine ⟨?_, by omega, g3⟩
        rw [g1]
        congr 3
        rw [List.drop_append, List.drop_eq_nil_of_le (as := c1) (by omega), List.nil_append]
        congr 1
        omega

section
variable {P : Program} {t : TypeId} {τ : Ty} {w : World}

theorem TyRow.part (h : TyRow P t τ) {cs : List Value} {off : Nat} (hl : off + τ.n ≤ cs.length) : (part t cs.toArray off).run P w = .ok (mkVal τ.isPair ((cs.drop off).take τ.n)) w := by
  unfold Go.part
  rw [run_then P _ _ (h.isAgg w)]
  cases hp : τ.isPair with
  | true =>
    simp only [if_true]
    rw [run_then P _ _ (h.sizeOf w)]
    simp only [mkVal, if_true]
    show Result.ok _ w = _
    congr 2
    simp [show off + τ.n - off = τ.n by omega]
  | false =>
    have hn := Ty.n_one hp
    simp only [Bool.false_eq_true, if_false]
    have hlt : off < cs.length := by omega
    simp only [List.getElem?_toArray, List.getElem?_eq_getElem hlt, mkVal, hn]
    rw [List.drop_eq_getElem_cons hlt]
    rfl

theorem TyRow.loadVar (h : TyRow P t τ) {b off : Nat} {c : Array Value} {ty : TypeId} {fr : Nat × Nat} (hb : w.heap[b]? = some (.cells c ty fr)) (hl : off + τ.n ≤ c.size) :
    (loadVar t ⟨b, off, none⟩).run P w = .ok (mkVal τ.isPair (cut c off τ.n)) w := by
  unfold Go.loadVar
  rw [run_then P _ _ (h.isAgg w)]
  have hadd : ∀ j, (⟨b, off, none⟩ : Addr).add j = ⟨b, off + j, none⟩ := by intro j; unfold Addr.add; split <;> simp_all
  have hcell : ∀ j, w.cell? ⟨b, j, none⟩ = c[j]? := fun j => cell_of_row w b j c ty fr hb
  cases hp : τ.isPair with
  | true =>
    simp only [if_true]
    rw [run_then P _ _ (h.sizeOf w)]
    have := run_loadCells_list (P := P) w ⟨b, off, none⟩ (cut c off τ.n) (fun j v hv => by
      rw [hadd, hcell]
      unfold cut at hv
      have hj : j < τ.n := by have := (List.getElem?_eq_some_iff.1 hv).1; simp at this; omega
      rw [List.getElem?_take_of_lt hj, List.getElem?_drop] at hv
      simpa using hv)
    rw [cut_length hl] at this
    rw [run_then P _ _ this]; rfl
  | false =>
    have hn := Ty.n_one hp
    have hlt : off < c.size := by omega
    simp only [Bool.false_eq_true, if_false, run_load, hcell, Array.getElem?_eq_getElem hlt, mkVal, hn, cut]
    rw [List.drop_eq_getElem_cons (by simpa using hlt)]
    simp

end

section
variable {F : Fr} {clk : Clk} {C : Cfg} {d : Nat} {st : ES} {es : List (Nat × Ent)} {is : List I} {a : Act} {w : World} {P : Program} {o : Oper}
  {K : Act → World → Prop} {Q' : Exit → Act → World → Prop} {D : Nat → List Dyn → Option (List Dyn)} {env' : Env} {V : Value}

theorem compPick_sound {c x y : Operand} (hr : (compPick C d c x y).run F.G = some (es, is)) (h : Here F clk C es a w) (henv : I.dens D F.env is = some env')
    (hop : o.op = .pick c x y) (hdst : o.dst = some d) (hK : OpPost F clk C es env' w K) : o.wp P a w K Q' := by
  simp only [compPick, Q.run_bind'] at hr
  cases h1 : (scalar C.ch c).run F.G with
  | none => rw [h1] at hr; simp at hr
  | some u =>
    rw [h1] at hr
    simp only [Option.bind_some] at hr
    have hc := scalar_run h.st h.ch h.rel h1
    cases u with
    | c v => simp [Q.run] at hr
    | k kc =>
      simp only [Q.run_bind'] at hr
      cases h2 : (scalar (C.ch ++ [(kc, true)]) x).run F.G with
      | none => rw [h2] at hr; simp at hr
      | some p =>
        rw [h2] at hr
        simp only [Option.bind_some] at hr
        cases h3 : (scalar (C.ch ++ [(kc, false)]) y).run F.G with
        | none => rw [h3] at hr; simp at hr
        | some q =>
          rw [h3] at hr
          simp only [Option.bind_some] at hr
          obtain ⟨_, his⟩ := put1_run hr
          subst his
          obtain ⟨z, hz, he⟩ := set1_inv (dens1 henv)
          unfold OdOk at hc
          simp only [Od.rd] at hc hz
          generalize hU : F.env kc = U at hc hz
          obtain ⟨τ, b⟩ := U
          cases τ <;> simp only [pickD, reduceCtorEq, Option.some.injEq] at hz
          simp only [Ty.shr, Rd, List.cons.injEq, and_true] at hc
          have hold : ∀ b' : Bool, b = b' → holds F.env (C.ch ++ [(kc, b')]) = true := by
            intro b' hb
            subst hb
            unfold holds
            rw [List.all_append]
            have := h.ch
            unfold holds at this
            rw [this]
            simp [hU, holds1]
          have hrun : (execOp a.eval o).run P w = .ok (.value (if b then a.eval x else a.eval y)) w := by
            simp only [execOp, hop, hc]; rfl
          have fin : ∀ V' : Value, OdOk F (if b then p else q) V' → (execOp a.eval o).run P w = .ok (.value V') w → o.wp P a w K Q' := by
            intro V' hV hrun
            refine put1_sound hr h trivial he hrun hdst (fun F' hF hH hsh => ?_) hK
            simp only [LeafOk]
            rw [hF, ← hz]
            unfold OdOk at hV
            cases b <;> exact hV.shared hsh
          cases b with
          | true => exact fin _ (scalar_run h.st (hold true rfl) h.rel h2) hrun
          | false => exact fin _ (scalar_run h.st (hold false rfl) h.rel h3) hrun

theorem capSlots_run : ∀ {l : List Operand} {cs : List (Nat × Nat)}, (capSlots C l).run F.G = some cs →
    l = cs.map (fun c => .tmp c.1) ∧ ∀ c ∈ cs, (F.G (sk c.1)).ver = c.2
  | [], cs, hr => by
    simp only [capSlots, Q.run, Option.some.injEq] at hr
    subst hr
    exact ⟨rfl, fun c hc => by simp at hc⟩
  | .tmp s :: l, cs, hr => by
    simp only [capSlots, Q.run_bind'] at hr
    cases hs : (slotK C.ch s).run F.G with
    | none => rw [hs] at hr; simp at hr
    | some e =>
      rw [hs] at hr
      obtain ⟨rfl, _⟩ := slotK_run hs
      simp only [Option.bind_some] at hr
      cases hl : (capSlots C l).run F.G with
      | none => rw [hl] at hr; simp at hr
      | some rest =>
        rw [hl] at hr
        simp only [Option.bind_some] at hr
        obtain ⟨g1, g2⟩ := capSlots_run hl
        have fin : cs = (s, (F.G (sk s)).ver) :: rest := by
          cases hst : (F.G (sk s)).st <;> rw [hst] at hr <;> simp only [Q.run, reduceCtorEq, Option.some.injEq] at hr <;> exact hr.symm
        subst fin
        refine ⟨by simp [g1], fun c hc => ?_⟩
        rcases List.mem_cons.1 hc with rfl | hc
        · rfl
        · exact g2 c hc
  | .const _ :: _, _, hr => by simp [capSlots, Q.run] at hr
  | .global _ :: _, _, hr => by simp [capSlots, Q.run] at hr
  | .func _ :: _, _, hr => by simp [capSlots, Q.run] at hr

theorem compMakeFunc_sound {fn : Fn} {first caps : Array Operand} (hr : (compMakeFunc C d fn first caps).run F.G = some (es, is)) (h : Here F clk C es a w) (henv : I.dens D F.env is = some env')
    (hop : o.op = .makeFunc fn first caps) (hdst : o.dst = some d) (hK : OpPost F clk C es env' w K) : o.wp P a w K Q' := by
  unfold compMakeFunc at hr
  cases fn <;> simp only [Q.run, Q.run_bind', Q.run_guard, reduceCtorEq] at hr
  rename_i f
  split at hr
  case isFalse => simp at hr
  rename_i hf
  simp only [Option.bind_some] at hr
  cases hl : (capSlots C caps.toList).run F.G with
  | none => rw [hl] at hr; simp at hr
  | some cs =>
    rw [hl] at hr
    simp only [Option.bind_some] at hr
    obtain ⟨g1, g2⟩ := capSlots_run hl
    have hfe : first = #[] := by simpa using hf
    subst hfe
    have hrun : (execOp a.eval o).run P w = .ok (.value (.func (.func f) #[] (cs.map fun c => F.val c.1).toArray)) w := by
      simp only [execOp, hop, Instr.makeFunc]
      have : caps.map a.eval = (cs.map fun c => F.val c.1).toArray := by
        apply Array.ext'
        rw [Array.toList_map, g1]
        simp only [List.map_map]
        apply List.map_congr_left
        intro c _
        exact h.rel.val c.1
      rw [this]; simp
    refine put0_sound hr h henv hrun hdst (by simp only [ES.older]; exact fun c hc => by rw [← g2 c hc]; exact Or.inl (h.st.vers _)) (fun F' hH hv T => ?_) hK
    refine ⟨cs.map fun c => F.val c.1, hv, by simp, fun i c hc hver => ?_⟩
    have hm := List.mem_of_getElem? hc
    obtain ⟨hn, _⟩ := T.fresh (by rw [← g2 c hm]; exact h.st.vers _) hver
    simp [hc, T.tmp _ hn]

theorem fieldOf_row {t : TypeId} {f off n : Nat} (hf : fieldOf P t f = some (off, n)) : ∃ fs fd, P.underlying t = some (.struct fs) ∧ fs[f]? = some fd ∧ off = fd.offset ∧ n = P.cellsOf fd.type ∧ n ≠ 0 := by
  unfold fieldOf at hf
  split at hf
  · rename_i fs hu
    split at hf
    · rename_i fd hfd
      split at hf
      · cases hf
      · rename_i hne
        simp only [Option.some.injEq, Prod.mk.injEq] at hf
        exact ⟨fs, fd, hu, hfd, hf.1.symm, hf.2.symm, by rw [← hf.2]; exact hne⟩
    · cases hf
  · cases hf

theorem compField_sound {how : How} {t : TypeId} {x : Operand} {f : Nat} (hr : (compField C how d t x f).run F.G = some (es, is)) (h : Here F clk C es a w) (henv : I.dens D F.env is = some env') (hP : C.P = P)
    (hop : o.op = .field t x f) (hdst : o.dst = some d) (hK : OpPost F clk C es env' w K) : o.wp P a w K Q' := by
  subst hP
  simp only [compField, Q.run_bind', Q.run_ofOption] at hr
  cases hf : fieldOf C.P t f with
  | none => rw [hf] at hr; simp at hr
  | some on =>
    obtain ⟨off, n⟩ := on
    rw [hf] at hr
    simp only [Option.bind_some] at hr
    obtain ⟨fs, fd, hu, hfd, rfl, hn, hn0⟩ := fieldOf_row hf
    cases x <;> simp only [Q.run, Q.run_bind', reduceCtorEq] at hr
    rename_i s
    cases hs : (slotK C.ch s).run F.G with
    | none => rw [hs] at hr; simp at hr
    | some e =>
      rw [hs] at hr
      obtain ⟨rfl, hcl⟩ := h.st.slot h.ch hs
      simp only [Option.bind_some] at hr
      cases hst : (F.G (sk s)).st <;> rw [hst] at hr hcl
      all_goals first | (simp [Q.run] at hr; done) | skip
      rename_i m agg
      cases agg
      case false => simp [Q.run] at hr
      simp only [Q.run_bind', Q.run_guard] at hr
      split at hr
      case isFalse => simp at hr
      rename_i hg
      have hle : fd.offset + n ≤ m := by simpa using hg
      simp only [Option.bind_some] at hr
      cases hl : (srcsOf C.ch how s fd.offset n).run F.G with
      | none => rw [hl] at hr; simp at hr
      | some l =>
        rw [hl] at hr
        simp only [Option.bind_some, hu, Q.run_bind', Q.run_ofOption, hfd] at hr
        cases ht : tyOf C.P deep fd.type with
        | none => rw [ht] at hr; simp at hr
        | some τ =>
          rw [ht] at hr
          simp only [Option.bind_some, Q.run_guard] at hr
          split at hr
          case isFalse => simp at hr
          rename_i hτ
          have hτn : τ.n = n := by simpa using hτ
          simp only [Option.bind_some] at hr
          have hrow := tyOf_row ht
          obtain ⟨cs, hh, hc, a1, a2⟩ := srcs_slot h (by rw [hst]; exact hcl) (by rw [hst]; rfl) hl (by simpa [hst, ES.cells] using hle)
          have hH := hh.1
          rw [hst] at hH hc
          simp only [ES.cells] at hc
          obtain ⟨hv, _, _⟩ := hH
          have hlen : fd.offset + τ.n ≤ cs.length := by omega
          have hrun : (execOp a.eval o).run C.P w = .ok (.value (mkVal τ.isPair ((cs.drop fd.offset).take τ.n))) w := by
            have : (Instr.field t (a.eval (.tmp s)) f).run C.P w = .ok (mkVal τ.isPair ((cs.drop fd.offset).take τ.n)) w := by
              unfold Instr.field
              rw [run_then C.P _ _ (run_underlying hu w)]
              simp only [hfd]
              rw [h.rel.val, hv]
              exact hrow.part hlen
            simp only [execOp, hop]
            rw [run_then C.P _ _ this]; rfl
          have hvl : ((cs.drop fd.offset).take τ.n).length = n := by simp; omega
          exact (putLeaves_run hr).soundPl (vs := (cs.drop fd.offset).take τ.n) h (by omega)
            (fun i h1 h2 => by
              have := a2 i h1 (by omega)
              rw [List.getElem_take, List.getElem_drop]
              exact this) henv hrun hdst hvl (fun hp => by rw [← hτn]; exact Ty.n_one hp) hK

theorem compExtract_sound {how : How} {x : Operand} {j : Nat} (hr : (compExtract C how d x j).run F.G = some (es, is)) (h : Here F clk C es a w) (henv : I.dens D F.env is = some env')
    (hop : o.op = .extract x j) (hdst : o.dst = some d) (hK : OpPost F clk C es env' w K) : o.wp P a w K Q' := by
  unfold compExtract at hr
  cases x <;> simp only [Q.run, Q.run_bind', reduceCtorEq] at hr
  rename_i s
  cases hs : (slotK C.ch s).run F.G with
  | none => rw [hs] at hr; simp at hr
  | some e =>
    rw [hs] at hr
    obtain ⟨rfl, hcl⟩ := h.st.slot h.ch hs
    simp only [Option.bind_some] at hr
    cases hst : (F.G (sk s)).st <;> rw [hst] at hr hcl <;> simp only [Q.run, Q.run_bind', Q.run_ofOption, reduceCtorEq] at hr
    rename_i ps
    cases hp : ps[j]? with
    | none => rw [hp] at hr; simp at hr
    | some p =>
      rw [hp] at hr
      simp only [Option.bind_some] at hr
      cases hl : (srcsOf C.ch how s ((ps.take j).foldl (fun a p => a + p.1) 0) p.1).run F.G with
      | none => rw [hl] at hr; simp at hr
      | some l =>
        rw [hl] at hr
        simp only [Option.bind_some] at hr
        rw [claim_leafy rfl] at hcl
        obtain ⟨cs, hh, hlf⟩ := hcl
        have hH := hh.1
        rw [hst] at hH
        obtain ⟨vs, hv, hps⟩ := hH
        obtain ⟨g1, g2, g3⟩ := hps.get hp
        obtain ⟨a1, a2⟩ := srcsOf_run h.st h.ch hh hlf hl g2
        have hrun : (execOp a.eval o).run P w = .ok (.value (mkVal p.2 ((cs.drop ((ps.take j).foldl (fun a p => a + p.1) 0)).take p.1))) w := by
          simp only [execOp, hop]
          rw [h.rel.val, hv]
          simp only [Instr.extract, List.getElem?_toArray, g1]
          rfl
        have hvl : ((cs.drop ((ps.take j).foldl (fun a p => a + p.1) 0)).take p.1).length = p.1 := by simp; omega
        exact (putLeaves_run hr).soundPl h (by omega)
          (fun i h1 h2 => by
            have := a2 i h1 (by omega)
            rw [List.getElem_take, List.getElem_drop]
            exact this) henv hrun hdst hvl g3 hK

end
end Go.Lf

/- Soundness, twelfth part: addresses of fields and elements, loads. -/
namespace Go.Lf

theorem add_lit (b off j : Nat) : (⟨b, off, none⟩ : Addr).add j = ⟨b, off + j, none⟩ := by unfold Addr.add; split <;> simp_all

/-- A mode with nothing owned is the shared one. -/
theorem Rd.isShr {H : Array Obj} {lab : Nat → Lab} : ∀ {m : M} {pos : List Nat} {cs : List Value} {τ : Ty} {x : τ.T}, m.isShr = true → Rd H lab m pos cs τ x → ∀ pos', Rd H lab τ.shr pos' cs τ x := by
  intro m
  induction m with
  | sc => intro pos cs τ x _ h pos'; cases τ <;> simp only [Rd, Ty.shr] at h ⊢ <;> exact h
  | pair ma mb iha ihb =>
    intro pos cs τ x hm h pos'
    cases τ <;> simp only [Rd, Ty.shr] at h ⊢
    simp only [M.isShr, Bool.and_eq_true] at hm
    exact ⟨iha hm.1 h.1 _, ihb hm.2 h.2 _⟩
  | sl md m ih =>
    intro pos cs τ x hm h pos'
    cases τ <;> simp only [Rd, Ty.shr] at h ⊢
    simp only [M.isShr, Bool.and_eq_true, beq_iff_eq] at hm
    obtain ⟨rfl, hm2⟩ := hm
    obtain ⟨ad, cap, rfl, h⟩ := h
    refine ⟨ad, cap, rfl, ?_⟩
    cases ad with
    | none => exact h
    | some q =>
      rcases h with h | ⟨hs, hl, hle, c, ty, fr, hb, hsz, hfr, hel⟩
      · exact .inl h
      · exact .inr ⟨hs, hl, hle, c, ty, fr, hb, hsz, by simp, fun i hi => ih hm2 (hel i hi) _⟩

theorem shr_isShr (τ : Ty) : τ.shr.isShr = true := by
  induction τ with
  | pair a b iha ihb => simp [Ty.shr, M.isShr, iha, ihb]
  | slice e ih => simp [Ty.shr, M.isShr, ih]
  | _ => rfl

theorem isShr_flat : ∀ {m : M} {i : Nat} {m' : M}, m.isShr = true → m.flat[i]? = some m' → m'.isShr = true := by
  intro m
  induction m with
  | pair a b iha ihb =>
    intro i m' h hi
    simp only [M.isShr, Bool.and_eq_true] at h
    simp only [M.flat] at hi
    rcases List.mem_append.1 (List.mem_of_getElem? hi) with hm | hm
    · obtain ⟨j, hj⟩ := List.getElem?_of_mem hm; exact iha h.1 hj
    · obtain ⟨j, hj⟩ := List.getElem?_of_mem hm; exact ihb h.2 hj
  | sc => intro i m' h hi; simp [M.flat] at hi; cases i <;> simp at hi; subst hi; rfl
  | sl md m ih => intro i m' h hi; simp [M.flat] at hi; cases i <;> simp at hi; subst hi; exact h

theorem Dyn.shr_leaf {H : Array Obj} {lab : Nat → Lab} {m : M} {pos : List Nat} {v : Value} {y : Dyn} (hm : m.isShr = true) (h : Rd H lab m pos [v] y.τ y.v) : Rd H lab y.τ.shr [] [v] y.τ y.v := h.isShr hm _

/-- Leaves put into keys. -/
theorem puts_ks {d : Nat} : ∀ {n j : Nat} {l : List Dyn} {env e : Env}, env.puts (ks d j n) l = some e →
    l.length = n ∧ (∀ k, (∀ i, i < n → k ≠ lk d (j + i)) → e k = env k) ∧ (j + n ≤ 16 → ∀ i (h : i < l.length), e (lk d (j + i)) = l[i]) := by
  intro n
  induction n with
  | zero =>
    intro j l env e h
    cases l with
    | nil => simp [ks, Env.puts] at h; subst h; exact ⟨rfl, fun _ _ => rfl, fun _ i h => by simp at h⟩
    | cons x l => simp [ks, Env.puts] at h
  | succ n ih =>
    intro j l env e h
    cases l with
    | nil => simp [ks, Env.puts] at h
    | cons x l =>
      simp only [ks, Env.puts] at h
      obtain ⟨h1, h2, h3⟩ := ih h
      refine ⟨by simp [h1], fun k hk => ?_, fun hj i hi => ?_⟩
      · rw [h2 k (fun i hi => by have := hk (i + 1) (by omega); rwa [show j + (i + 1) = j + 1 + i by omega] at this), Env.set_ne _ _ (by have := hk 0 (by omega); simpa using this)]
      · cases i with
        | zero =>
          simp only [Nat.add_zero, List.getElem_cons_zero]
          rw [h2 _ (fun i hi => by unfold lk; omega), Env.set_same]
        | succ i =>
          rw [show j + (i + 1) = j + 1 + i by omega, h3 (by omega) i (by simpa using hi)]
          simp

section
variable {F : Fr} {clk : Clk} {C : Cfg} {d : Nat} {st : ES} {es : List (Nat × Ent)} {is : List I} {a : Act} {w : World} {P : Program} {o : Oper}
  {K : Act → World → Prop} {Q' : Exit → Act → World → Prop} {D : Nat → List Dyn → Option (List Dyn)} {env' : Env} {V : Value}

theorem heap_lt {H : Array Obj} {b : Nat} {ob : Obj} (h : H[b]? = some ob) : b < H.size := (Array.getElem?_eq_some_iff.1 h).1

theorem compFieldAddr_sound {t : TypeId} {x : Operand} {f : Nat} (hr : (compFieldAddr C d t x f).run F.G = some (es, is)) (h : Here F clk C es a w) (henv : I.dens D F.env is = some env') (hP : C.P = P)
    (hop : o.op = .fieldAddr t x f) (hdst : o.dst = some d) (hK : OpPost F clk C es env' w K) : o.wp P a w K Q' := by
  subst hP
  simp only [compFieldAddr, Q.run_bind', Q.run_ofOption] at hr
  cases hf : fieldOf C.P t f with
  | none => rw [hf] at hr; simp at hr
  | some on =>
    obtain ⟨off, n⟩ := on
    rw [hf] at hr
    simp only [Option.bind_some] at hr
    obtain ⟨fs, fd, hu, hfd, rfl, hn, hn0⟩ := fieldOf_row hf
    cases hA : (adrOf C.ch x).run F.G with
    | none => rw [hA] at hr; simp at hr
    | some A =>
      rw [hA] at hr
      have hA' := adrOf_run h.st h.ch h.rel hA
      simp only [Option.bind_some] at hr
      have hrun : ∀ b off, a.eval x = .pointer (some ⟨b, off, none⟩) → (execOp a.eval o).run C.P w = .ok (.value (.pointer (some ⟨b, off + fd.offset, none⟩))) w := by
        intro b off hx
        have hsz : ∃ i, C.P.info? fd.type = some i ∧ i.size ≠ 0 := by
          rw [hn] at hn0
          unfold Program.cellsOf at hn0
          cases hi : C.P.info? fd.type with
          | none => rw [hi] at hn0; simp at hn0
          | some i => rw [hi] at hn0; exact ⟨i, rfl, by simpa using hn0⟩
        obtain ⟨i, hi, hi0⟩ := hsz
        have : (Instr.fieldAt t (a.eval x) f).run C.P w = .ok (.pointer (some ⟨b, off + fd.offset, none⟩)) w := by
          unfold Instr.fieldAt
          rw [run_then C.P _ _ (run_underlying hu w)]
          simp only [hfd, hx, Instr.sureAddr]
          simp [fieldPlace, Go.sizeOf, typeInfo, hi, hi0, add_lit]
        simp only [execOp, hop]
        rw [run_then C.P _ _ this]; rfl
      cases A with
      | box s sv o' m =>
        obtain ⟨h1, h2, h3, b, h4, h5⟩ := hA'
        refine put0_sound hr h henv (hrun _ _ h5) hdst (Or.inl (by have := h.st.vers (sk s); simp_all)) (fun F' hH hv T => ?_) hK
        intro hver
        obtain ⟨hn, _⟩ := T.fresh (by rw [← h1]; exact h.st.vers _) hver
        exact ⟨b, by rw [T.tmp s hn]; exact h4, hv⟩
      | shr s m =>
        obtain ⟨h1, h2, h3⟩ := hA'
        simp only [Q.run_bind', Q.run_guard] at hr
        split at hr
        case isFalse => simp at hr
        rename_i hg
        have hle : fd.offset + n ≤ m := by simpa using hg
        simp only [Option.bind_some] at hr
        cases hl : (srcsOf C.ch .ref s fd.offset n).run F.G with
        | none => rw [hl] at hr; simp at hr
        | some l =>
          rw [hl] at hr
          simp only [Option.bind_some] at hr
          split at hr
          case isFalse => simp at hr
          simp only [Option.bind_some] at hr
          obtain ⟨cs, hh, hc, a1, a2⟩ := srcs_slot h (by rw [h1]; exact h2) (by rw [h1]; rfl) hl (by simpa [h1, ES.cells] using hle)
          have hH := hh.1
          rw [h1] at hH hc
          simp only [ES.cells] at hc
          rw [h3] at hH
          obtain ⟨b, o', c, ty, fr, hV, hsh, hb, hz, rfl⟩ := hH
          have hcut : (cut c (o' + fd.offset) n).length = n := cut_length (by omega)
          refine (putLeaves_run hr).soundLeafy (vs := cut c (o' + fd.offset) n) h (by omega) (fun i h1 h2 => ?_) henv (hrun _ _ hV) hdst rfl (fun lab' hl' => ?_) hK
          · have := a2 i h1 (by omega)
            have e : (cut c (o' + fd.offset) n)[i] = (cut c o' m)[fd.offset + i]'(by omega) := by
              simp only [cut, List.getElem_take, List.getElem_drop]
              congr 1; omega
            rw [e]; exact this
          · exact ⟨b, o' + fd.offset, c, ty, fr, rfl, hl' b (heap_lt hb) hsh, hb, by omega, rfl⟩
      | elt k kv i iv o' =>
        obtain ⟨h1, h2, n', b, oo, e, hn', he, hV, hlf⟩ := hA'
        refine put0_sound hr h henv (hrun _ _ hV) hdst (⟨Or.inl (by have := h.st.vers k; simp_all), Or.inl (by have := h.st.vers i; simp_all)⟩) (fun F' hH hv T => ?_) hK
        intro hver hveri
        obtain ⟨hn, _⟩ := T.fresh (by rw [← h1]; exact h.st.vers _) hver
        obtain ⟨hni, _⟩ := T.fresh (by rw [← h2]; exact h.st.vers _) hveri
        exact ⟨n', b, oo, e, T.num hni hn', T.elemAt hn he, by rw [hv]; congr 3; omega⟩

/-- What an element's address tells, where the slice is owned. -/
structure EltAt (F : Fr) (k i : Nat) (m : M) (V : Value) (off : Nat) where
  n : Nat
  b : Nat
  o : Nat
  e : Ty
  xs : List e.T
  x : e.T
  c : Array Value
  ty : TypeId
  num : F.num i n
  at_ : F.elemAt k n b o e
  lab : F.lab b = .own [k]
  heap : F.H[b]? = some (.cells c ty (0, 0))
  env : F.env k = ⟨.slice e, xs⟩
  get : xs[n]? = some x
  val : V = .pointer (some ⟨b, o + off, none⟩)
  size : o + e.n ≤ c.size
  rd : Rd F.H F.lab m [k, n] (cut c o e.n) e x
  leaf : k % 16 < 15

theorem eltAt {k kv i iv off : Nat} {V : Value} (hA : AdrOk F V (.elt k kv i iv off)) {m : M} {org : Option Nat} (hro : (F.G k).st = .ro m org) : Nonempty (EltAt F k i m V off) := by
  obtain ⟨h1, h2, n, b, oo, e, hn, hel, hV, hlf⟩ := hA
  obtain ⟨o', len, cap, xs, hcell, hxs, hlt, ho⟩ := hel
  have hok := hlf _ hcell
  rw [hro] at hok
  have hRd := hok.1
  rw [hxs] at hRd
  obtain ⟨hlen, hb⟩ := Rd.block hRd
  change len = xs.length at hlen
  rcases hb with ⟨hnil, _⟩ | ⟨hcap, b', o2, c', ty', ha, hlab', hH', hsz, hel⟩
  · change xs = [] at hnil; subst hnil; simp at hlen; omega
  · simp at ha
    obtain ⟨rfl, rfl⟩ := ha
    have hnl : n < xs.length := by omega
    have hR := hel n hnl
    refine ⟨⟨n, b, oo, e, xs, xs[n], c', ty', hn, ⟨o', len, cap, xs, hcell, hxs, hlt, ho⟩, hlab', hH', hxs, List.getElem?_eq_getElem hnl, hV, ?_, ?_, hcell.lt⟩⟩
    · rw [ho]
      have : (n + 1) * e.n ≤ cap * e.n := Nat.mul_le_mul_right _ (by omega)
      rw [Nat.add_mul] at this
      omega
    · rw [ho]
      simpa using hR

theorem slotEnts_gen {F : Fr} {C : Cfg} {d : Nat} {st : ES} {l : List ES} {es : List (Nat × Ent)} (h : (slotEnts C d st l).run F.G = some es) (pre : List (Nat × Ent)) (hv : ∀ x ∈ pre, x.2.ver = C.ver) (h15 : ∀ k ∈ keysOf pre, k % 16 < 15) :
    GenOut F C d st pre l (pre ++ es) := by
  obtain ⟨h1, h2, h3, h4⟩ := slotEnts_run h
  exact ⟨h1, h2, h3, hv, h15, by rw [h4]⟩

/-- An operation with entries in front that leaves the memory as it is. -/
theorem GenOut.soundQuiet {pre : List (Nat × Ent)} {sts : List ES} (p : GenOut F C d st pre sts es) (h : Here F clk C es a w)
    (henv : ∀ k, k ∉ keysOf es → env' k = F.env k)
    (hrun : (execOp a.eval o).run P w = .ok (.value V) w) (hdst : o.dst = some d) (hold : st.older (clk.add C.ver)) (holds : ∀ e ∈ sts, e.older (clk.add C.ver)) (hpre : ∀ x ∈ pre, x.2.st = .no)
    (hcl : ∀ F' : Fr, F'.H = F.H → F'.lab = F.lab → F'.env = env' → F'.G = F.G.sets es → F'.val d = V →
      Touch F F' clk (clk.add C.ver) (· ∈ keysOf es) → Claim F' d st)
    (hK : OpPost F clk C es env' w K) : o.wp P a w K Q' := by
  unfold Oper.wp
  rw [hrun]
  simp only [Oper.upon, hdst]
  let F' : Fr := { tmps := F.tmps.setIfInBounds d V, H := F.H, lab := F.lab, env := env', G := F.G.sets es, org := F.org }
  obtain ⟨hrel, hvd, hvs⟩ := h.rel.put p.nt V F' rfl rfl
  refine hK F' _ w hrel rfl rfl ⟨rfl, rfl, rfl, Nat.le_refl _, fun b o ho hl => ⟨ho, hl⟩, fun b o ho hl => ⟨ho, hl⟩, rfl⟩ ?_
  refine p.state h.st h.ver h.ch h.chD h.chC (F' := F') rfl henv rfl hvs (fun b o ho hl => ⟨ho, hl⟩) (fun b o ho hl => ⟨ho, hl⟩) (fun b o k q ho hl _ _ => ⟨ho, hl⟩)
    (fun s b c ty _ _ hl hb => ⟨c, hb, hl, rfl, fun _ _ => rfl⟩) h.st.labs hold holds (fun x hx => by rw [hpre x hx]; trivial) (fun T s cs' j v hsd hcs hv hk => ?_) (fun T => hcl F' rfl rfl rfl rfl hvd T)
  have hj15 : j < 15 := by
    have := (List.getElem?_eq_some_iff.1 hv).1; have := hcs.2
    rcases Nat.lt_or_ge j 15 with h | h
    · exact h
    · omega
  have : F'.G (lk s j) = F.G.sets pre (lk s j) := p.ent_pre (by rw [lk_div (by omega)]; exact hsd)
  rw [this, GT.sets_eq]
  cases hl : lastOf pre (lk s j) with
  | none => exact absurd hk (lastOf_none.1 hl)
  | some e =>
    have := lastOf_all (p := fun e => e.st = .no) hpre hl
    simp [this, LeafOk]

theorem eltLeaves_get {k kv i iv : Nat} : ∀ {ms : List M} {off : Nat} {ls : List ES}, eltLeaves k kv i iv off ms = some ls →
    ls.length = ms.length ∧ ∀ j (h1 : j < ls.length) (h2 : j < ms.length), (ms[j].isShr = true ∧ ls[j] = .va) ∨ ((∃ m, ms[j] = .sl .own m) ∧ ls[j] = .ef k kv i iv (off + j)) := by
  intro ms
  induction ms with
  | nil => intro off ls h; simp [eltLeaves] at h; subst h; exact ⟨rfl, fun j h => by simp at h⟩
  | cons m ms ih =>
    intro off ls h
    simp only [eltLeaves] at h
    split at h
    · rename_i st hst
      split at h
      · rename_i l hl
        simp only [Option.some.injEq] at h
        subst h
        obtain ⟨g1, g2⟩ := ih hl
        refine ⟨by simp [g1], fun j h1 h2 => ?_⟩
        cases j with
        | zero =>
          simp only [List.getElem_cons_zero, Nat.add_zero]
          split at hst
          · rename_i hs
            simp at hst
            exact .inl ⟨hs, hst.symm⟩
          · split at hst
            · simp at hst
              exact .inr ⟨⟨_, rfl⟩, hst.symm⟩
            · cases hst
        | succ j =>
          simp only [List.getElem_cons_succ]
          rw [show off + (j + 1) = off + 1 + j by omega]
          exact g2 j (by simpa using h1) (by simpa using h2)
      · cases h
    · cases h

theorem srcs_pl {how : How} {s n j : Nat} {l : List Src} (h : Here F clk C es a w) (hcl : Claim F s (F.G (sk s)).st) (hlf : (F.G (sk s)).st.leafy = true) (hl : (srcsOf C.ch how s j n).run F.G = some l) (hn : j + n ≤ (F.G (sk s)).st.cells)
    {cs : List Value} (hh : F.has s cs) : l.length = n ∧ ∀ i (h1 : i < l.length) (h2 : j + i < cs.length), SrcOk F l[i] cs[j + i] := by
  obtain ⟨cs', hh', _, a1, a2⟩ := srcs_slot h hcl hlf hl hn
  rw [Fr.has_fun hh hh']
  exact ⟨a1, a2⟩

theorem num_of {F : Fr} {i n : Nat} (h : F.num i n) : ∃ kd, F.env i = ⟨.int kd, (n : Int)⟩ := by
  obtain ⟨kd, z, h1, rfl⟩ := h
  exact ⟨kd, h1⟩

theorem compLoad_sound {t : TypeId} {x : Operand} (hr : (compLoad C d t x).run F.G = some (es, is)) (h : Here F clk C es a w) (henv : I.dens D F.env is = some env') (hP : C.P = P)
    (hop : o.op = .load t x) (hdst : o.dst = some d) (hK : OpPost F clk C es env' w K) : o.wp P a w K Q' := by
  subst hP
  simp only [compLoad, Q.run_bind', Q.run_ofOption] at hr
  cases ht : tyOf C.P deep t with
  | none => rw [ht] at hr; simp at hr
  | some τ =>
    rw [ht] at hr
    have hrow := tyOf_row ht
    simp only [Option.bind_some] at hr
    cases hA : (adrOf C.ch x).run F.G with
    | none => rw [hA] at hr; simp at hr
    | some A =>
      rw [hA] at hr
      have hA' := adrOf_run h.st h.ch h.rel hA
      simp only [Option.bind_some] at hr
      have hrun : ∀ {b off : Nat} {c : Array Value} {ty : TypeId} {fr : Nat × Nat}, a.eval x = .pointer (some ⟨b, off, none⟩) → F.H[b]? = some (.cells c ty fr) → off + τ.n ≤ c.size → (execOp a.eval o).run C.P w = .ok (.value (mkVal τ.isPair (cut c off τ.n))) w := by
        intro b off c ty fr hx hb hsz
        have : (Instr.loadAt t (a.eval x)).run C.P w = .ok (mkVal τ.isPair (cut c off τ.n)) w := by
          rw [hx]
          unfold Instr.loadAt Instr.sureAddr
          exact hrow.loadVar (by rw [← h.rel.H]; exact hb) hsz
        simp only [execOp, hop]
        rw [run_then C.P _ _ this]; rfl
      cases A with
      | box s sv off n =>
        obtain ⟨h1, h2, h3, b, h4, h5⟩ := hA'
        simp only [Q.run_bind', Q.run_guard] at hr
        split at hr
        case isFalse => simp at hr
        rename_i hg
        have hle : off + τ.n ≤ n := by simpa using hg
        simp only [Option.bind_some] at hr
        cases hl : (srcsOf C.ch .ref s off τ.n).run F.G with
        | none => rw [hl] at hr; simp at hr
        | some l =>
          rw [hl] at hr
          simp only [Option.bind_some] at hr
          obtain ⟨cs, hh, hc, a1, a2⟩ := srcs_slot h (by rw [h2]; exact h3) (by rw [h2]; rfl) hl (by simpa [h2, ES.cells] using hle)
          have hH := hh.1
          rw [h2] at hH hc
          simp only [ES.cells] at hc
          obtain ⟨b', c, ty, hv, hlab, hb, rfl, hn⟩ := hH
          rw [h4] at hv
          simp at hv
          subst hv
          have hsz : off + τ.n ≤ c.size := by simp at hn; omega
          have hcl := cut_length hsz
          exact (putLeaves_run hr).soundPl (vs := cut c off τ.n) h (by omega)
            (fun i h1 h2 => by
              have := a2 i h1 (by omega)
              simp only [cut, List.getElem_take, List.getElem_drop]
              exact this) henv (hrun h5 hb hsz) hdst hcl Ty.n_one hK
      | shr s n =>
        obtain ⟨h1, h2, h3⟩ := hA'
        simp only [Q.run_bind', Q.run_guard] at hr
        split at hr
        case isFalse => simp at hr
        rename_i hg
        have hle : τ.n ≤ n := by simpa using hg
        simp only [Option.bind_some] at hr
        cases hl : (srcsOf C.ch .ref s 0 τ.n).run F.G with
        | none => rw [hl] at hr; simp at hr
        | some l =>
          rw [hl] at hr
          simp only [Option.bind_some] at hr
          split at hr
          case isFalse => simp at hr
          simp only [Option.bind_some] at hr
          obtain ⟨cs, hh, hc, a1, a2⟩ := srcs_slot h (by rw [h1]; exact h2) (by rw [h1]; rfl) hl (by simpa [h1, ES.cells] using hle)
          have hH := hh.1
          rw [h1] at hH hc
          simp only [ES.cells] at hc
          rw [h3] at hH
          obtain ⟨b, off, c, ty, fr, hV, hsh, hb, hz, rfl⟩ := hH
          have hsz : off + τ.n ≤ c.size := by omega
          have hcl := cut_length hsz
          exact (putLeaves_run hr).soundPl (vs := cut c off τ.n) h (by omega)
            (fun i h1 h2 => by
              have := a2 i h1 (by omega)
              simp only [cut, List.getElem_take, List.getElem_drop, Nat.zero_add] at this ⊢
              exact this) henv (hrun hV hb hsz) hdst hcl Ty.n_one hK
      | elt k kv i iv off =>
        simp only [Q.run_bind', Q.run_ent, Option.bind_some] at hr
        cases hst : (F.G k).st <;> rw [hst] at hr <;> simp only [Q.run, Q.run_bind', Q.run_ofOption, reduceCtorEq] at hr
        rename_i m org
        obtain ⟨E⟩ := eltAt hA' hst
        obtain ⟨hkv, hiv, _⟩ := hA'
        cases hls : eltLeaves k kv i iv off ((m.flat.drop off).take τ.n) with
        | none => rw [hls] at hr; simp at hr
        | some ls =>
          rw [hls] at hr
          simp only [Option.bind_some, Q.run_guard] at hr
          split at hr
          case isFalse => simp at hr
          rename_i hg
          simp only [Bool.and_eq_true, beq_iff_eq, bne_iff_ne, ne_eq] at hg
          simp only [Option.bind_some] at hr
          cases hse : (slotEnts C d (.pl τ.n τ.isPair) ls).run F.G with
          | none => rw [hse] at hr; simp at hr
          | some es' =>
            rw [hse] at hr
            simp only [Option.bind_some, Option.some.injEq, Prod.mk.injEq] at hr
            obtain ⟨rfl, rfl⟩ := hr
            have p := slotEnts_gen hse [] (fun x hx => by simp at hx) (fun k hk => by simp [keysOf] at hk)
            simp only [List.nil_append] at p
            obtain ⟨g1, g2⟩ := eltLeaves_get hls
            have hml := M.flat_len E.rd
            have hle : off + τ.n ≤ E.e.n := by
              have := g1
              rw [hg.1.1, List.length_take, List.length_drop, hml] at this
              have := τ.n_pos
              omega
            -- the data
            obtain ⟨kd, hkd⟩ := num_of E.num
            have hden := dens1 henv
            simp only [I.den, Od.rd, E.env, hkd, atD, true_or, if_true, Int.natCast_nonneg, Int.toNat_natCast, E.get] at hden
            have hksl : (ks d 0 τ.n).length = τ.n := by
              have : ∀ n j, (ks d j n).length = n := by
                intro n
                induction n with
                | zero => intro j; rfl
                | succ n ih => intro j; simp [ks, ih]
              exact this _ _
            rw [hksl] at hden
            obtain ⟨p1, p2, p3⟩ := puts_ks hden
            have hn16 : 0 + τ.n ≤ 16 := by have := p.len; rw [hg.1.1] at this; omega
            have p3 := p3 hn16
            have hsz : E.o + off + τ.n ≤ E.c.size := by have := E.size; omega
            have hcl := cut_length hsz
            refine p.soundQuiet h (fun k' hk' => p2 k' fun i hi he => hk' ((p.keys _).2 (.inr (.inr (.inr ⟨i, by omega, by simpa using he⟩)))))
              (hrun E.val E.heap hsz) hdst trivial ?_ (fun x hx => by simp at hx) (fun F' hF1 hF2 hF3 hF4 hF5 T => ?_) hK
            · intro e0 he0
              obtain ⟨j, hj, rfl⟩ := List.mem_iff_getElem.1 he0
              rcases g2 j hj (by omega) with ⟨_, hx⟩ | ⟨_, hx⟩ <;> rw [hx]
              · trivial
              · exact ⟨Or.inl (by have := h.st.vers k; simp_all), Or.inl (by have := h.st.vers i; simp_all)⟩
            · rw [claim_leafy rfl]
              refine ⟨cut E.c (E.o + off) τ.n, ⟨?_, by have := p.len; omega⟩, fun j v hj => ?_⟩
              · rw [hF4, p.ent_sk, hF5]
                exact ⟨rfl, hcl, Ty.n_one⟩
              · have hjl : j < τ.n := by have := (List.getElem?_eq_some_iff.1 hj).1; omega
                rw [hF4, p.ent_lk (by omega : j < ls.length)]
                have hcv : (cut E.c E.o E.e.n)[off + j]? = some v := by
                  simp only [cut] at hj ⊢
                  rw [List.getElem?_take_of_lt hjl, List.getElem?_drop] at hj
                  rw [List.getElem?_take_of_lt (by omega), List.getElem?_drop, ← hj]
                  congr 1; omega
                obtain ⟨y, m', pos', y1, y2, y3, _⟩ := E.rd.leaf hcv
                have hE : F'.env (lk d j) = y := by
                  rw [hF3]
                  have := p3 j (by rw [p1]; exact hjl)
                  simp only [Nat.zero_add] at this
                  rw [this]
                  simp only [List.getElem_take, List.getElem_drop]
                  exact (List.getElem?_eq_some_iff.1 y1).2
                have hmj : ((m.flat.drop off).take τ.n)[j]'(by omega) = m' := by
                  simp only [List.getElem_take, List.getElem_drop]
                  exact (List.getElem?_eq_some_iff.1 y2).2
                rcases g2 j (by omega) (by omega) with ⟨hs, hx⟩ | ⟨_, hx⟩
                · rw [hx]
                  simp only [LeafOk]
                  rw [hE, hF1, hF2]
                  rw [hmj] at hs
                  exact y3.isShr hs _
                · rw [hx]
                  intro hver hveri
                  obtain ⟨n1, _⟩ := T.fresh (by rw [← hkv]; exact h.st.vers _) hver
                  obtain ⟨n2, _⟩ := T.fresh (by rw [← hiv]; exact h.st.vers _) hveri
                  refine ⟨by have := E.leaf; omega, E.n, E.b, E.o, E.e, E.c, E.ty, T.num n2 E.num, T.elemAt n1 E.at_, by rw [hF2]; exact E.lab, by rw [hF1]; exact E.heap, ?_, E.xs, E.x, by rw [T.env k n1]; exact E.env, E.get, by rw [hE]; exact y1⟩
                  simp only [cut] at hcv
                  rw [List.getElem?_take_of_lt (by omega), List.getElem?_drop] at hcv
                  simpa [Nat.add_assoc] using hcv

end
end Go.Lf

/- Soundness, thirteenth part: addresses of elements. -/
namespace Go.Lf

theorem elemTy_row {P : Program} {t : TypeId} {e : Ty} (h : elemTy P t = some e) : ∃ et, P.underlying t = some (.slice et) ∧ TyRow P et e := by
  unfold elemTy at h
  split at h
  · rename_i e' ht
    simp at h
    subst h
    have hr := tyOf_row ht
    rcases hr.desc with ⟨fs, ts, _, h2, hp, _⟩ | ⟨k, _, hk⟩ | ⟨_, hk⟩ | ⟨_, hk⟩ | ⟨et, σ, hu, hk⟩
    · have := pairUp_pair h2 hp; simp [Ty.isPair] at this
    · simp at hk
    · simp at hk
    · simp at hk
    · obtain ⟨σ', fuel, h1, h2⟩ := hr.slice et hu
      simp at h1
      subst h1
      exact ⟨et, hu, tyOf_row h2⟩
  · cases h

theorem atD_some {t : Option Ty} {A B : Dyn} {y : Dyn} (h : atD t A B = some y) : ∃ (e : Ty) (l : List e.T) (kd : IntKind) (n : Nat) (x : e.T), A = ⟨.slice e, l⟩ ∧ B = ⟨.int kd, (n : Int)⟩ ∧ l[n]? = some x ∧ y = ⟨e, x⟩ ∧ (t = none ∨ t = some e) := by
  obtain ⟨ta, va⟩ := A
  obtain ⟨tb, vb⟩ := B
  cases ta <;> cases tb <;> simp only [atD, reduceCtorEq] at h
  rename_i e kd
  split at h
  case isFalse => simp at h
  rename_i ht
  split at h
  case isFalse => simp at h
  rename_i hz
  split at h
  · rename_i x hx
    simp at h
    refine ⟨e, va, kd, vb.toNat, x, rfl, ?_, hx, h.symm, ht⟩
    congr 1
    exact (Int.toNat_of_nonneg hz).symm
  · cases h

section
variable {F : Fr} {clk : Clk} {C : Cfg} {d : Nat} {st : ES} {es : List (Nat × Ent)} {is : List I} {a : Act} {w : World} {P : Program} {o : Oper}
  {K : Act → World → Prop} {Q' : Exit → Act → World → Prop} {D : Nat → List Dyn → Option (List Dyn)} {env' : Env} {V : Value}

theorem OdOk.int {od : Od} {V : Value} (h : OdOk F od V) {kd : IntKind} {z : Int} (he : od.rd F.env = ⟨.int kd, z⟩) : V = .int kd z := by
  unfold OdOk at h
  rw [he] at h
  simpa [Ty.shr, Rd] using h

theorem index_run {t : TypeId} {x i : Operand} {et : TypeId} {e : Ty} (hu : P.underlying t = some (.slice et)) (hrow : TyRow P et e) (hop : o.op = .indexAddr t x i)
    {b off len cap : Nat} (hx : a.eval x = .slice (some ⟨b, off, none⟩) len cap) {kd : IntKind} {n : Nat} (hi : a.eval i = .int kd (n : Int)) (hn : n < len) :
    (execOp a.eval o).run P w = .ok (.value (.pointer (some ⟨b, off + n * e.n, none⟩))) w := by
  have : (Instr.indexAt t (a.eval x) (a.eval i)).run P w = .ok (.pointer (some ⟨b, off + n * e.n, none⟩)) w := by
    have hcond : (0 : Int) ≤ (n : Int) ∧ (n : Int) < (len : Int) := ⟨by omega, by omega⟩
    rw [hx, hi]
    simp [Instr.indexAt, asIntOf, run_underlying hu, hn, hrow.sizeOf, add_lit]
  simp only [execOp, hop]
  rw [run_then P _ _ this]; rfl

theorem compIndexAddr_sound {t : TypeId} {x i : Operand} (hr : (compIndexAddr C d t x i).run F.G = some (es, is)) (h : Here F clk C es a w) (henv : I.dens D F.env is = some env') (hP : C.P = P)
    (hop : o.op = .indexAddr t x i) (hdst : o.dst = some d) (hK : OpPost F clk C es env' w K) : o.wp P a w K Q' := by
  subst hP
  simp only [compIndexAddr, Q.run_bind', Q.run_ofOption] at hr
  cases he : elemTy C.P t with
  | none => rw [he] at hr; simp at hr
  | some e =>
    rw [he] at hr
    obtain ⟨et, hu, hrow⟩ := elemTy_row he
    simp only [Option.bind_some] at hr
    cases hs : (seen C.ch x).run F.G with
    | none => rw [hs] at hr; simp at hr
    | some kl =>
      obtain ⟨k, l⟩ := kl
      rw [hs] at hr
      simp only [Option.bind_some] at hr
      obtain ⟨rfl, hc, hl, hk0, hxk, e0, hsk⟩ := seen_run h.st h.ch h.rel hs
      cases hi : (scalar C.ch i).run F.G with
      | none => rw [hi] at hr; simp at hr
      | some i' =>
        rw [hi] at hr
        simp only [Option.bind_some] at hr
        have hiv := scalar_run h.st h.ch h.rel hi
        have own : (F.G k).st ≠ .va → ((owner C.ch k (F.G k)).bind fun r => (Q.ent r.1).bind fun e2 => (Q.guard (r.1 / 16 != d && k / 16 != d)).bind fun _ =>
            match i' with
            | .k ki => (Q.ent ki).bind fun e3 => (Q.guard (ki / 16 != d)).bind fun _ => (slotEnts C d (.ea r.1 e2.ver ki e3.ver 0) []).bind fun es => Q.ret (es, [I.chk e (.k r.1) i'])
            | .c c => (slotEnts C d (.ea r.1 e2.ver (lk d 14) C.ver 0) []).bind fun es => Q.ret ((lk d 14, (⟨C.ver, [], .no⟩ : Ent)) :: es, [I.cp (lk d 14) (.c c), I.chk e (.k r.1) (.k (lk d 14))])).run F.G = some (es, is) → o.wp C.P a w K Q' := by
          intro _ hr
          rw [Q.run_bind] at hr
          cases ho : (owner C.ch k (F.G k)).run F.G with
          | none => rw [ho] at hr; simp at hr
          | some r =>
            obtain ⟨k2, m, org⟩ := r
            rw [ho] at hr
            obtain ⟨o1, o2, o3, o4⟩ := owner_run h.st h.ch ho hc hl
            simp only [Option.bind_some, Q.run_bind, Q.run_ent, Q.run_guard] at hr
            split at hr
            case isFalse => simp at hr
            rename_i hg
            simp only [Bool.and_eq_true, bne_iff_ne, ne_eq] at hg
            simp only [Option.bind_some] at hr
            -- common: the element
            have common : ∀ {kd : IntKind} {n : Nat} {e' : Ty} {xs : List e'.T} {y : e'.T}, F.env k2 = ⟨.slice e', xs⟩ → xs[n]? = some y → e' = e → a.eval i = .int kd (n : Int) →
                ∃ b off, F.elemAt k2 n b off e ∧ (execOp a.eval o).run C.P w = .ok (.value (.pointer (some ⟨b, off, none⟩))) w := by
              intro kd n e' xs y hE hget hee hI
              subst hee
              have hR := o3.1
              rw [hE] at hR
              have hnl : n < xs.length := (List.getElem?_eq_some_iff.1 hget).1
              have hR' := hR
              simp only [Rd] at hR'
              obtain ⟨ad, cap, hV, _⟩ := hR'
              simp only [List.cons.injEq, and_true] at hV
              rw [hV] at hR
              obtain ⟨_, hb⟩ := Rd.block hR
              rcases hb with ⟨hnil, _⟩ | ⟨hcap, b, oo, c, ty, ha, hlab, hH, hsz, hel⟩
              · change xs = [] at hnil; subst hnil; simp at hnl
              · subst ha
                exact ⟨b, oo + n * e'.n, ⟨oo, _, _, xs, by rw [hV] at o2; exact o2, hE, hnl, rfl⟩, index_run hu hrow hop hV hI hnl⟩
            cases i' with
            | k ki =>
              simp only [Q.run_bind, Q.run_ent, Q.run_guard, Option.bind_some] at hr
              split at hr
              case isFalse => simp at hr
              simp only [Option.bind_some] at hr
              cases hse : (slotEnts C d (.ea k2 (F.G k2).ver ki (F.G ki).ver 0) []).run F.G with
              | none => rw [hse] at hr; simp at hr
              | some es' =>
                rw [hse] at hr
                simp only [Option.bind_some, Q.run, Option.some.injEq, Prod.mk.injEq] at hr
                obtain ⟨rfl, rfl⟩ := hr
                have p := slotEnts_gen hse [] (fun x hx => by simp at hx) (fun k hk => by simp [keysOf] at hk)
                simp only [List.nil_append] at p
                have hden := dens1 henv
                simp only [I.den, Od.rd] at hden
                cases hat : atD (some e) (F.env k2) (F.env ki) with
                | none => rw [hat] at hden; simp at hden
                | some y =>
                  rw [hat] at hden
                  simp only [Option.some.injEq] at hden
                  obtain ⟨e', xs, kd, n, y', hA, hB, hget, _, hee⟩ := atD_some hat
                  have hee' : e' = e := (by simpa using hee : e = e').symm
                  obtain ⟨b, off, hel, hrun⟩ := common hA hget hee' (hiv.int (by simpa [Od.rd] using hB))
                  refine p.soundQuiet h (fun _ _ => by rw [← hden]) hrun hdst (⟨Or.inl (h.st.vers k2), Or.inl (h.st.vers ki)⟩) (fun x hx => by simp at hx) (fun x hx => by simp at hx)
                    (fun F' hF1 hF2 hF3 hF4 hF5 T => ?_) hK
                  intro hver hveri
                  obtain ⟨n1, _⟩ := T.fresh (h.st.vers _) hver
                  obtain ⟨n2, _⟩ := T.fresh (h.st.vers _) hveri
                  exact ⟨n, b, off, e, T.num n2 ⟨kd, _, hB, rfl⟩, T.elemAt n1 hel, hF5⟩
            | c c =>
              simp only [Q.run_bind] at hr
              cases hse : (slotEnts C d (.ea k2 (F.G k2).ver (lk d 14) C.ver 0) []).run F.G with
              | none => rw [hse] at hr; simp at hr
              | some es' =>
                rw [hse] at hr
                simp only [Option.bind_some, Q.run, Option.some.injEq, Prod.mk.injEq] at hr
                obtain ⟨rfl, rfl⟩ := hr
                have p := slotEnts_gen hse [(lk d 14, ⟨C.ver, [], .no⟩)] (fun x hx => by simp at hx; subst hx; rfl) (fun k hk => by simp [keysOf] at hk; subst hk; rw [lk_mod (by omega)]; omega)
                have hden : I.dens D F.env [I.cp (lk d 14) (.c c), I.chk e (.k k2) (.k (lk d 14))] = some env' := henv
                simp only [I.dens, I.den, Od.rd] at hden
                have hk2d : k2 ≠ lk d 14 := by intro he; apply hg.1; rw [he, lk_div (by omega)]
                rw [Env.set_ne _ _ hk2d, Env.set_same] at hden
                cases hat : atD (some e) (F.env k2) c.dyn with
                | none => rw [hat] at hden; simp at hden
                | some y =>
                  rw [hat] at hden
                  simp only [Option.some.injEq] at hden
                  obtain ⟨e', xs, kd, n, y', hA, hB, hget, _, hee⟩ := atD_some hat
                  have hee' : e' = e := (by simpa using hee : e = e').symm
                  obtain ⟨b, off, hel, hrun⟩ := common hA hget hee' (hiv.int (by simpa [Od.rd] using hB))
                  have hin : lk d 14 ∈ keysOf ([(lk d 14, (⟨C.ver, [], .no⟩ : Ent))] ++ es') := by simp [keysOf]
                  refine GenOut.soundQuiet (env' := env') p h (fun k' hk' => by rw [← hden, Env.set_ne]; intro he; subst he; exact hk' hin) hrun hdst
                    (by simp only [ES.older]; exact ⟨.inl (h.st.vers k2), .inr rfl⟩) (fun x hx => by simp at hx) (fun x hx => by simp at hx; subst hx; rfl)
                    (fun F' hF1 hF2 hF3 hF4 hF5 T => ?_) hK
                  intro hver _
                  obtain ⟨n1, _⟩ := T.fresh (h.st.vers _) hver
                  exact ⟨n, b, off, e, ⟨kd, _, by rw [hF3, ← hden, Env.set_same]; exact hB, rfl⟩, T.elemAt n1 hel, hF5⟩
        cases hst : (F.G k).st <;> rw [hst] at hr
        case va =>
          simp only [Q.run_bind'] at hr
          cases hse : (slotEnts C d (.pa e.n) (List.replicate e.n .va)).run F.G with
          | none => rw [hse] at hr; simp at hr
          | some es' =>
            rw [hse] at hr
            simp only [Option.bind_some, Q.run_guard] at hr
            split at hr
            case isFalse => simp at hr
            rename_i hg
            simp only [Bool.and_eq_true, bne_iff_ne, ne_eq, List.all_eq_true] at hg
            simp only [Option.bind_some, Q.run, Option.some.injEq, Prod.mk.injEq] at hr
            obtain ⟨rfl, rfl⟩ := hr
            have p := slotEnts_gen hse [] (fun x hx => by simp at hx) (fun k hk => by simp [keysOf] at hk)
            simp only [List.nil_append] at p
            have hden := dens1 henv
            simp only [I.den, Od.rd] at hden
            cases hat : atD (some e) (F.env k) (i'.rd F.env) with
            | none => simp only [Od.rd] at hat; rw [hat] at hden; simp at hden
            | some y =>
              simp only [Od.rd] at hat
              rw [hat] at hden
              simp only at hden
              obtain ⟨e', xs, kd, n, y', hA, hB, hget, rfl, hee⟩ := atD_some hat
              obtain rfl : e' = e := (by simpa using hee : e = e').symm
              have hI := hiv.int hB
              have hnl : n < xs.length := (List.getElem?_eq_some_iff.1 hget).1
              rw [hst] at hl
              simp only [LeafOk] at hl
              rw [hA] at hl
              simp only [Ty.shr, Rd] at hl
              obtain ⟨ad, cap, hV, hl⟩ := hl
              simp only [List.cons.injEq, and_true] at hV
              cases ad with
              | none => obtain ⟨hnil, _⟩ := hl; subst hnil; simp at hnl
              | some q =>
                rcases hl with ⟨hnil, _⟩ | ⟨hsp, hsh, hcap, c, ty, fr, hH, hsz, _, hel⟩
                · subst hnil; simp at hnl
                · obtain ⟨b, oo, sp⟩ := q
                  simp only at hsp hsh hH hsz hel
                  subst hsp
                  have hrun := index_run (w := w) (a := a) hu hrow hop hV hI hnl
                  have hle : oo + n * e'.n + e'.n ≤ c.size := by
                    have : (n + 1) * e'.n ≤ cap * e'.n := Nat.mul_le_mul_right _ (by omega)
                    rw [Nat.add_mul] at this; omega
                  have hcl := cut_length hle
                  have hksl : (ks d 0 e'.n).length = e'.n := by
                    have : ∀ n j, (ks d j n).length = n := by
                      intro n
                      induction n with
                      | zero => intro j; rfl
                      | succ n ih => intro j; simp [ks, ih]
                    exact this _ _
                  rw [hksl] at hden
                  obtain ⟨p1, p2, p3⟩ := puts_ks hden
                  have hlen := p.len
                  simp at hlen
                  have p3 := p3 (by omega)
                  refine p.soundQuiet h (fun k' hk' => p2 k' fun i hi he => hk' ((p.keys _).2 (.inr (.inr (.inr ⟨i, by simpa using hi, by simpa using he⟩)))))
                    hrun hdst trivial (fun x hx => by rw [List.eq_of_mem_replicate hx]; trivial) (fun x hx => by simp at hx) (fun F' hF1 hF2 hF3 hF4 hF5 T => ?_) hK
                  rw [claim_leafy rfl]
                  refine ⟨cut c (oo + n * e'.n) e'.n, ⟨?_, by omega⟩, fun j v hj => ?_⟩
                  · rw [hF4, p.ent_sk, hF5, hF1, hF2]
                    exact ⟨b, _, c, ty, fr, rfl, Lab.still_iff.2 (.inl hsh), hH, hle, rfl⟩
                  · have hjl : j < e'.n := by have := (List.getElem?_eq_some_iff.1 hj).1; omega
                    rw [hF4, p.ent_lk (by simpa using hjl)]
                    simp only [List.getElem_replicate, LeafOk]
                    have hR := hel n hnl
                    obtain ⟨y, m', pos', y1, y2, y3, _⟩ := hR.leaf hj
                    have hxn : xs[n] = y' := (List.getElem?_eq_some_iff.1 hget).2
                    rw [hxn] at y1
                    have hE : F'.env (lk d j) = y := by
                      rw [hF3]
                      have := p3 j (by rw [p1]; exact hjl)
                      simp only [Nat.zero_add] at this
                      rw [this]
                      simp only [List.getElem_take, List.getElem_drop, Nat.zero_add]
                      exact (List.getElem?_eq_some_iff.1 y1).2
                    rw [hE, hF1, hF2]
                    exact y3.isShr (isShr_flat (shr_isShr _) y2) _
        case em => simp [Q.run] at hr
        all_goals exact own (by rw [hst]; simp) hr

end
end Go.Lf
