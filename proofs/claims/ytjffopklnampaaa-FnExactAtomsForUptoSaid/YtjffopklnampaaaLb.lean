/- The core of the lifting, part 2 of 4: a compiler of Go functions to functions of data, and its soundness. -/
import Derived.Test.YtjffopklnampaaaLa
set_option linter.unusedVariables false
set_option linter.unusedSimpArgs false
/- Soundness, fourteenth part: new boxes; labels moved to places; an element out of its leaves. -/
namespace Go.Lf

section
variable {F : Fr} {clk : Clk} {C : Cfg} {d : Nat} {st : ES} {es : List (Nat × Ent)} {is : List I} {a : Act} {w : World} {P : Program} {o : Oper}
  {K : Act → World → Prop} {Q' : Exit → Act → World → Prop} {D : Nat → List Dyn → Option (List Dyn)} {env' : Env} {V : Value}

theorem Rel.put2 {nt : Nat} (h : Rel F a w nt) (hd : d < nt) (V : Value) (F' : Fr) (w' : World) (ht : F'.tmps = F.tmps.setIfInBounds d V) (hH : F'.H = w'.heap) :
    Rel F' (a.put (some d) V) w' nt ∧ F'.val d = V ∧ ∀ s, s ≠ d → F'.val s = F.val s := by
  refine ⟨⟨by rw [ht, h.tmps]; rfl, hH, h.calm, by rw [ht]; simp [h.size]⟩, ?_, fun s hs => ?_⟩
  · simp [Fr.val, ht, Array.getElem?_setIfInBounds, h.size, hd]
  · simp [Fr.val, ht, Array.getElem?_setIfInBounds, Ne.symm hs]

theorem PutOut.soundBox {n : Nat} {l : List Src} {vs : List Value} {ty : TypeId} (p : PutOut F C d (.bx n) l es is) (h : Here F clk C es a w) (hlen : l.length = vs.length)
    (hsrc : ∀ i (h1 : i < l.length) (h2 : i < vs.length), SrcOk F l[i] vs[i]) (henv : I.dens D F.env is = some env') (hn : vs.length = n)
    (hrun : (execOp a.eval o).run P w = .ok (.value (.pointer (some ⟨w.heap.size, 0, none⟩))) { w with heap := w.heap.push (.cells vs.toArray ty (0, 0)) }) (hdst : o.dst = some d)
    (hK : OpPost F clk C es env' w K) : o.wp P a w K Q' := by
  unfold Oper.wp
  rw [hrun]
  simp only [Oper.upon, hdst]
  let V : Value := .pointer (some ⟨w.heap.size, 0, none⟩)
  let w' : World := { w with heap := w.heap.push (.cells vs.toArray ty (0, 0)) }
  let F' : Fr := { tmps := F.tmps.setIfInBounds d V, H := F.H.push (.cells vs.toArray ty (0, 0)), lab := fun b => if b = F.H.size then .own [sk d] else relab (mvOf d 0 l) F.lab b, env := env', G := F.G.sets es, org := F.org }
  obtain ⟨hrel, hvd, hvs⟩ := h.rel.put2 p.nt V F' w' rfl (by show F.H.push _ = w.heap.push _; rw [h.rel.H])
  have hold : ∀ (b : Nat) (o : Obj), F.H[b]? = some o → F'.H[b]? = some o := by
    intro b ob hb
    have := heap_lt hb
    show (F.H.push _)[b]? = _
    rw [Array.getElem?_push, if_neg (by omega)]; exact hb
  have hlab : ∀ b, b < F.H.size → F'.lab b = relab (mvOf d 0 l) F.lab b := by
    intro b hb
    show (if b = F.H.size then _ else _) = _
    rw [if_neg (by omega)]
  have hnew : F'.H[F.H.size]? = some (.cells vs.toArray ty (0, 0)) := by show (F.H.push _)[F.H.size]? = _; simp
  have hnl : F'.lab F.H.size = .own [sk d] := by show (if F.H.size = F.H.size then _ else _) = _; simp
  refine hK F' _ w' hrel rfl rfl ⟨rfl, rfl, rfl, by show _ ≤ (F.H.push _).size; simp, fun b o ho hl => ⟨hold b o ho, by rw [hlab b (heap_lt ho)]; exact relab_imm hl⟩, fun b o ho hl => ⟨hold b o ho, by rw [hlab b (heap_lt ho)]; exact relab_frn hl⟩, rfl⟩ ?_
  refine p.state h.st h.ver h.ch h.chD h.chC hlen hsrc rfl henv rfl hvs hold hlab (fun b hb => ?_) trivial ?_
  · have hb' : F.H.size + 1 ≤ b := by have : (F.H.push (.cells vs.toArray ty (0, 0))).size ≤ b := hb; simpa using this
    show (if b = F.H.size then _ else _) = _
    rw [if_neg (by omega)]
    exact relab_imm (h.st.labs b (by omega))
  · intro T hlf
    rw [claim_leafy rfl]
    refine ⟨vs, ⟨?_, by have := p.len; omega⟩, hlf⟩
    have : F'.G (sk d) = ⟨C.ver, C.ch, .bx n⟩ := p.ent_sk
    rw [this, hvd]
    refine ⟨F.H.size, vs.toArray, ty, ?_, hnl, hnew, by simp, hn⟩
    show Value.pointer (some ⟨w.heap.size, 0, none⟩) = _
    rw [h.rel.H]

theorem zeroSrcs (τ : Ty) (F : Fr) : ∀ i (h1 : i < (τ.leaves.map fun t => Src.new (zeroCst t)).length) (h2 : i < (τ.leaves.map fun t => (zeroCst t).val).length),
    SrcOk F (τ.leaves.map fun t => Src.new (zeroCst t))[i] (τ.leaves.map fun t => (zeroCst t).val)[i] := by
  intro i h1 h2
  simp [SrcOk]

theorem compAlloc_sound {t : TypeId} (hr : (compAlloc C d t).run F.G = some (es, is)) (h : Here F clk C es a w) (henv : I.dens D F.env is = some env') (hP : C.P = P)
    (hop : o.op = .alloc t) (hdst : o.dst = some d) (hK : OpPost F clk C es env' w K) : o.wp P a w K Q' := by
  subst hP
  simp only [compAlloc, Q.run_bind', Q.run_ofOption] at hr
  cases ht : tyOf C.P deep t with
  | none => rw [ht] at hr; simp at hr
  | some τ =>
    rw [ht] at hr
    have hrow := tyOf_row ht
    simp only [Option.bind_some] at hr
    refine (putLeaves_run hr).soundBox (vs := τ.leaves.map fun t => (zeroCst t).val) (ty := t) h (by simp) (zeroSrcs τ F) henv (by simp [Ty.leaves_len]) ?_ hdst hK
    have hz := hrow.zero w
    have hc := zeroCells_eq τ
    simp only [execOp, hop, Instr.alloc]
    simp [hz, newVar, newRow, hc]

theorem compBox_sound {how : How} {t : TypeId} {x : Operand} (hr : (compBox C how d t x).run F.G = some (es, is)) (h : Here F clk C es a w) (henv : I.dens D F.env is = some env')
    (hop : o.op = .box t x) (hdst : o.dst = some d) (hK : OpPost F clk C es env' w K) : o.wp P a w K Q' := by
  simp only [compBox, Q.run_bind', Q.run_ofOption] at hr
  cases ht : tyOf C.P deep t with
  | none => rw [ht] at hr; simp at hr
  | some τ =>
    rw [ht] at hr
    simp only [Option.bind_some] at hr
    cases hv : (valSrcs C how t x).run F.G with
    | none => rw [hv] at hr; simp at hr
    | some r =>
      obtain ⟨l, agg⟩ := r
      rw [hv] at hr
      simp only [Option.bind_some, Q.run_guard] at hr
      split at hr
      case isFalse => simp at hr
      rename_i hg
      simp only [Option.bind_some] at hr
      obtain ⟨vs, h1, h2, h3, h4⟩ := valSrcs_run h.st h.ch hv h.rel
      have hone : OneCells vs := by
        intro v hm
        obtain ⟨i, hi, rfl⟩ := List.mem_iff_getElem.1 hm
        exact cell_one (h4 i (by omega) hi)
      have hc := mkVal_cells h3 hone
      refine (putLeaves_run hr).soundBox (vs := vs) (ty := t) h h2 h4 henv (by rw [← h2]; simpa using hg) ?_ hdst hK
      simp only [execOp, hop, Instr.box, h1]
      simp [newVar, newRow, hc]

end

/- ---- labels moved to places ---- -/

/-- The labels with things moved: what lies at k's place q goes to another place, or becomes shared. -/
def relabP (mv : Nat → List Nat → Option (Option (List Nat))) (lab : Nat → Lab) (b : Nat) : Lab :=
  match lab b with
  | .own (k :: q) =>
    match mv k q with
    | some (some p) => .own p
    | some none => .imm
    | none => .own (k :: q)
  | l => l

section
variable {mv : Nat → List Nat → Option (Option (List Nat))} {lab lab' : Nat → Lab} {H H' : Array Obj}

theorem relabP_imm {b : Nat} (h : lab b = .imm) : relabP mv lab b = .imm := by simp [relabP, h]
theorem relabP_shared {b : Nat} (h : (lab b).shared) : (relabP mv lab b).shared := by
  unfold relabP
  cases hl : lab b with
  | imm => trivial
  | own p => rw [hl] at h; exact h.elim
theorem relabP_frn {b : Nat} (h : lab b = .own []) : relabP mv lab b = .own [] := by simp [relabP, h]
theorem relabP_own {b k : Nat} {q : List Nat} (h : lab b = .own (k :: q)) (hk : mv k q = none) : relabP mv lab b = .own (k :: q) := by simp [relabP, h, hk]

theorem relabP_carry {k : Nat} {p0 p : List Nat} (hk : ∀ s, mv k (p0 ++ s) = some (some (p ++ s)))
    (hH : ∀ (b : Nat) (o : Obj), H[b]? = some o → (lab b).shared ∨ (∃ q, lab b = .own (k :: (p0 ++ q))) → H'[b]? = some o) (hl : ∀ b, b < H.size → lab' b = relabP mv lab b) :
    Carry H H' lab lab' (k :: p0) p where
  own b o s ho h := by
    have h' : lab b = .own (k :: (p0 ++ s)) := by simpa using h
    exact ⟨hH b o ho (.inr ⟨s, h'⟩), by rw [hl b (heap_lt ho)]; simp [relabP, h', hk]⟩
  shr b o ho h := ⟨hH b o ho (.inl h), by rw [hl b (heap_lt ho)]; exact relabP_shared h⟩

theorem relabP_share {k : Nat} (hk : ∀ s, mv k s = some none)
    (hH : ∀ (b : Nat) (o : Obj), H[b]? = some o → (lab b).shared ∨ (∃ q, lab b = .own (k :: q)) → H'[b]? = some o) (hl : ∀ b, b < H.size → lab' b = relabP mv lab b) :
    Share H H' lab lab' [k] where
  own b o s ho h := by
    have h' : lab b = .own (k :: s) := by simpa using h
    exact ⟨hH b o ho (.inr ⟨s, h'⟩), by rw [hl b (heap_lt ho)]; simp [relabP, h', hk, Lab.shared]⟩
  shr b o ho h := ⟨hH b o ho (.inl h), by rw [hl b (heap_lt ho)]; exact relabP_shared h⟩

end

/- ---- an element out of its leaves ---- -/

/-- A leaf of a place. -/
def LeafAt (H : Array Obj) (lab : Nat → Lab) (m : M) (pos : List Nat) (v : Value) (y : Dyn) : Prop := Rd H lab m pos [v] y.τ y.v

theorem Rd.build {H : Array Obj} {lab : Nat → Lab} : ∀ {τ : Ty} {pos : List Nat} {ds rest : List Dyn} {ms mrest : List M} {vs : List Value} {x : τ.T} {m : M}, unflat τ ds = some (x, rest) → mUnflat τ ms = some (m, mrest) →
    τ.n ≤ vs.length → (∀ j (h0 : j < τ.n) (h1 : j < ds.length) (h2 : j < ms.length) (h3 : j < vs.length), LeafAt H lab ms[j] (pos ++ τ.paths[j]'(by rw [Ty.paths_len]; exact h0)) vs[j] ds[j]) →
    Rd H lab m pos (vs.take τ.n) τ x ∧ rest = ds.drop τ.n ∧ mrest = ms.drop τ.n ∧ τ.n ≤ ds.length ∧ τ.n ≤ ms.length := by
  intro τ
  induction τ with
  | pair a b iha ihb =>
    intro pos ds rest ms mrest vs x m h1 h2 hl hlf
    simp only [unflat] at h1
    simp only [mUnflat] at h2
    split at h1
    case h_2 => simp at h1
    rename_i xa l1 ha
    split at h1
    case h_2 => simp at h1
    rename_i xb l2 hb
    split at h2
    case h_2 => simp at h2
    rename_i ma n1 hma
    split at h2
    case h_2 => simp at h2
    rename_i mb n2 hmb
    simp only [Option.some.injEq, Prod.mk.injEq] at h1 h2
    obtain ⟨rfl, rfl⟩ := h1
    obtain ⟨rfl, rfl⟩ := h2
    simp only [Ty.n] at hl
    have pa : ∀ j (h0 : j < a.n), (Ty.pair a b).paths[j]'(by rw [Ty.paths_len]; simp only [Ty.n]; omega) = 0 :: a.paths[j]'(by rw [Ty.paths_len]; exact h0) := by
      intro j h0
      simp only [Ty.paths]
      rw [List.getElem_append_left (by simpa [Ty.paths_len] using h0)]
      simp
    have pb : ∀ j (h0 : j < b.n), (Ty.pair a b).paths[a.n + j]'(by rw [Ty.paths_len]; simp only [Ty.n]; omega) = 1 :: b.paths[j]'(by rw [Ty.paths_len]; exact h0) := by
      intro j h0
      simp only [Ty.paths]
      rw [List.getElem_append_right (by simp [Ty.paths_len])]
      simp [Ty.paths_len]
    obtain ⟨a1, a2, a3, a4, a5⟩ := iha (pos := pos ++ [0]) (vs := vs) ha hma (by omega) (fun j h0 g1 g2 g3 => by
      have := hlf j (by simp only [Ty.n]; omega) g1 g2 g3
      rw [pa j h0] at this
      simpa using this)
    subst a2
    subst a3
    obtain ⟨b1, b2, b3, b4, b5⟩ := ihb (pos := pos ++ [1]) (vs := vs.drop a.n) hb hmb (by simp; omega) (fun j h0 g1 g2 g3 => by
      simp at g1 g2 g3
      have := hlf (a.n + j) (by simp only [Ty.n]; omega) (by omega) (by omega) (by omega)
      rw [pb j h0] at this
      simp only [List.getElem_drop]
      simpa using this)
    simp only [List.length_drop] at b4 b5
    refine ⟨?_, by rw [b2, List.drop_drop]; rfl, by rw [b3, List.drop_drop]; rfl, by simp only [Ty.n]; omega, by simp only [Ty.n]; omega⟩
    simp only [Rd, Ty.n]
    refine ⟨?_, ?_⟩
    · rw [List.take_take, show min a.n (a.n + b.n) = a.n by omega]; exact a1
    · rw [List.drop_take, show a.n + b.n - a.n = b.n by omega]; exact b1
  | int k =>
    intro pos ds rest ms mrest vs x m h1 h2 hl hlf
    cases ds with
    | nil => simp [unflat] at h1
    | cons dd ds =>
      cases ms with
      | nil => simp [mUnflat] at h2
      | cons mm ms =>
        simp only [unflat] at h1
        split at h1
        case isFalse => simp at h1
        rename_i ht
        simp only [Option.some.injEq, Prod.mk.injEq, mUnflat] at h1 h2
        obtain ⟨rfl, rfl⟩ := h1
        obtain ⟨rfl, rfl⟩ := h2
        have := hlf 0 (by simp [Ty.n]) (by simp) (by simp) (by simp only [Ty.n] at hl; omega)
        obtain ⟨τ, v⟩ := dd
        simp only at ht
        subst ht
        simp only [Ty.n] at hl ⊢
        refine ⟨?_, rfl, rfl, by simp, by simp⟩
        cases vs with
        | nil => simp at hl
        | cons v0 vs => simpa [LeafAt, Ty.paths] using this
  | bool =>
    intro pos ds rest ms mrest vs x m h1 h2 hl hlf
    cases ds with
    | nil => simp [unflat] at h1
    | cons dd ds =>
      cases ms with
      | nil => simp [mUnflat] at h2
      | cons mm ms =>
        simp only [unflat] at h1
        split at h1
        case isFalse => simp at h1
        rename_i ht
        simp only [Option.some.injEq, Prod.mk.injEq, mUnflat] at h1 h2
        obtain ⟨rfl, rfl⟩ := h1
        obtain ⟨rfl, rfl⟩ := h2
        have := hlf 0 (by simp [Ty.n]) (by simp) (by simp) (by simp only [Ty.n] at hl; omega)
        obtain ⟨τ, v⟩ := dd
        simp only at ht
        subst ht
        simp only [Ty.n] at hl ⊢
        refine ⟨?_, rfl, rfl, by simp, by simp⟩
        cases vs with
        | nil => simp at hl
        | cons v0 vs => simpa [LeafAt, Ty.paths] using this
  | str =>
    intro pos ds rest ms mrest vs x m h1 h2 hl hlf
    cases ds with
    | nil => simp [unflat] at h1
    | cons dd ds =>
      cases ms with
      | nil => simp [mUnflat] at h2
      | cons mm ms =>
        simp only [unflat] at h1
        split at h1
        case isFalse => simp at h1
        rename_i ht
        simp only [Option.some.injEq, Prod.mk.injEq, mUnflat] at h1 h2
        obtain ⟨rfl, rfl⟩ := h1
        obtain ⟨rfl, rfl⟩ := h2
        have := hlf 0 (by simp [Ty.n]) (by simp) (by simp) (by simp only [Ty.n] at hl; omega)
        obtain ⟨τ, v⟩ := dd
        simp only at ht
        subst ht
        simp only [Ty.n] at hl ⊢
        refine ⟨?_, rfl, rfl, by simp, by simp⟩
        cases vs with
        | nil => simp at hl
        | cons v0 vs => simpa [LeafAt, Ty.paths] using this
  | slice e ih =>
    intro pos ds rest ms mrest vs x m h1 h2 hl hlf
    cases ds with
    | nil => simp [unflat] at h1
    | cons dd ds =>
      cases ms with
      | nil => simp [mUnflat] at h2
      | cons mm ms =>
        simp only [unflat] at h1
        split at h1
        case isFalse => simp at h1
        rename_i ht
        simp only [Option.some.injEq, Prod.mk.injEq, mUnflat] at h1 h2
        obtain ⟨rfl, rfl⟩ := h1
        obtain ⟨rfl, rfl⟩ := h2
        have := hlf 0 (by simp [Ty.n]) (by simp) (by simp) (by simp only [Ty.n] at hl; omega)
        obtain ⟨τ, v⟩ := dd
        simp only at ht
        subst ht
        simp only [Ty.n] at hl ⊢
        refine ⟨?_, rfl, rfl, by simp, by simp⟩
        cases vs with
        | nil => simp at hl
        | cons v0 vs => simpa [LeafAt, Ty.paths] using this

end Go.Lf

/- Soundness, fifteenth part: stores. -/
namespace Go.Lf

section
variable {F : Fr} {clk : Clk} {C : Cfg} {d : Nat} {st : ES} {es : List (Nat × Ent)} {is : List I} {a : Act} {w : World} {P : Program} {o : Oper}
  {K : Act → World → Prop} {Q' : Exit → Act → World → Prop} {D : Nat → List Dyn → Option (List Dyn)} {env' : Env} {V : Value}

theorem sets_ver {es : List (Nat × Ent)} {v : Nat} (h : ∀ x ∈ es, x.2.ver = v) {k : Nat} (hk : k ∈ keysOf es) : (F.G.sets es k).ver = v := by
  rw [GT.sets_eq]
  cases hl : lastOf es k with
  | none => exact absurd hk (lastOf_none.1 hl)
  | some e => exact lastOf_all (p := fun e => e.ver = v) h hl

theorem sets_old {es : List (Nat × Ent)} {c : Clk} (h : ∀ x ∈ es, x.2.st.older c) {k : Nat} (hk : k ∈ keysOf es) : (F.G.sets es k).st.older c := by
  rw [GT.sets_eq]
  cases hl : lastOf es k with
  | none => exact absurd hk (lastOf_none.1 hl)
  | some e => exact lastOf_all (p := fun e => e.st.older c) h hl

/-- A change of leaves alone: no slot's own key is touched. -/
theorem leafTouch {F' : Fr} (h : St F clk) (hcv : ¬ clk C.ver) (hver : ∀ x ∈ es, x.2.ver = C.ver) (hold : ∀ x ∈ es, x.2.st.older (clk.add C.ver)) (h15 : ∀ k ∈ keysOf es, k % 16 < 15)
    (hchD : ∀ s, sk s ∉ keysOf es → ∀ c ∈ (F.G (sk s)).ch, c.1 ∉ keysOf es)
    (hG : F'.G = F.G.sets es) (henv : ∀ k, k ∉ keysOf es → F'.env k = F.env k) (horg : F'.org = F.org) (htmp : ∀ s, F'.val s = F.val s)
    (hshr : ∀ (b : Nat) (o : Obj), F.H[b]? = some o → (F.lab b).shared → F'.H[b]? = some o ∧ (F'.lab b).shared)
    (hfrn : ∀ (b : Nat) (o : Obj), F.H[b]? = some o → F.lab b = .own [] → F'.H[b]? = some o ∧ F'.lab b = .own [])
    (hown : ∀ (b : Nat) (o : Obj) k q, F.H[b]? = some o → F.lab b = .own (k :: q) → k % 16 ≠ 15 → k ∉ keysOf es → F'.H[b]? = some o ∧ F'.lab b = .own (k :: q))
    (hbox : ∀ s b (c : Array Value) ty, F.lab b = .own [sk s] → F.H[b]? = some (.cells c ty (0, 0)) →
      ∃ c' : Array Value, F'.H[b]? = some (.cells c' ty (0, 0)) ∧ F'.lab b = .own [sk s] ∧ c'.size = c.size ∧ ∀ j, lk s j ∉ keysOf es → c'[j]? = c[j]?)
    (hnew : ∀ b, F'.H.size ≤ b → F'.lab b = .imm) : Touch F F' clk (clk.add C.ver) (· ∈ keysOf es) where
  le := fun _ h => .inl h
  ent k hk := by rw [hG, GT.sets_ne _ hk]
  env := henv
  org := horg
  slot s cs hs := by have := h15 _ hs; unfold sk at this; omega
  tmp s _ := htmp s
  ver k hk := by rw [hG, sets_ver hver hk]; exact hcv
  chn := hchD
  shr := hshr
  frn := hfrn
  own := hown
  box s b c ty _ _ hl hb := hbox s b c ty hl hb
  old k hk := by rw [hG]; exact ⟨sets_old hold hk, by rw [sets_ver hver hk]; exact .inr rfl⟩
  lab := hnew

theorem store_run {t : TypeId} {x y : Operand} {τ : Ty} (hrow : TyRow P t τ) (hop : o.op = .store t x y) {b off : Nat} (hx : a.eval x = .pointer (some ⟨b, off, none⟩)) {agg : Bool} {vs : List Value}
    (hy : a.eval y = mkVal agg vs) (hagg : agg = false → vs.length = 1) (hone : OneCells vs) (hn : vs.length = τ.n) {c : Array Value} {ty : TypeId} (hb : w.heap[b]? = some (.cells c ty (0, 0))) (hsz : off + vs.length ≤ c.size) :
    (execOp a.eval o).run P w = .ok .skip (w.setRow b (c.toList.take off ++ vs ++ c.toList.drop (off + vs.length)).toArray) := by
  have hc := mkVal_cells hagg hone
  have hst := run_storeCells_at (P := P) b off ty vs 0 c w hb (by omega) hone
  simp only [Nat.add_zero] at hst
  have : (Instr.storeAt t (a.eval x) (a.eval y)).run P w = .ok () (w.setRow b (c.toList.take off ++ vs ++ c.toList.drop (off + vs.length)).toArray) := by
    rw [hx, hy]
    simp [Instr.storeAt, Instr.sureAddr, storeVar, hrow.sizeOf, hc, hn, hst]
  simp only [execOp, hop]
  rw [run_then P _ _ this]; rfl

/-- The cells behind a store. -/
theorem patched {c : List Value} {off : Nat} {vs : List Value} (h : off + vs.length ≤ c.length) (j : Nat) :
    (c.take off ++ vs ++ c.drop (off + vs.length))[j]? = if off ≤ j ∧ j < off + vs.length then vs[j - off]? else c[j]? := by
  by_cases h1 : j < off
  · rw [List.append_assoc, List.getElem?_append_left (by simp; omega), List.getElem?_take_of_lt h1, if_neg (by omega)]
  · by_cases h2 : j < off + vs.length
    · rw [List.append_assoc, List.getElem?_append_right (by simp; omega), List.getElem?_append_left (by simp; omega), if_pos ⟨by omega, h2⟩]
      congr 1; simp; omega
    · rw [List.getElem?_append_right (by simp; omega), if_neg (by omega), List.getElem?_drop]
      congr 1; simp; omega

theorem patched_len {c : List Value} {off : Nat} {vs : List Value} (h : off + vs.length ≤ c.length) : (c.take off ++ vs ++ c.drop (off + vs.length)).length = c.length := by
  simp; omega

theorem mem_leafEnts_ver {ver d : Nat} : ∀ (m : List ES) (j : Nat), ∀ a ∈ leafEnts ver d j m, a.2.ver = ver := by
  intro m
  induction m with
  | nil => intro j a ha; simp [leafEnts] at ha
  | cons e m ih => intro j a ha; simp only [leafEnts, List.mem_cons] at ha; rcases ha with rfl | ha; rfl; exact ih _ _ ha

theorem srcEnts_facts {l : List Src} {ver : Nat} {c : Clk} : ∀ x ∈ l.flatMap (Src.ents ver), x.2.ver = ver ∧ x.2.st.older c := by
  intro x hx
  obtain ⟨s, _, hs⟩ := List.mem_flatMap.1 hx
  cases s <;> simp [Src.ents] at hs <;> subst hs <;> exact ⟨rfl, trivial⟩

theorem src_old (h : St F clk) {s : Src} {v : Value} (hs : SrcOk F s v) : s.st.older (clk.add C.ver) := by
  cases s with
  | als k2 kv k0 => simp only [Src.st, ES.older]; rw [← hs.1]; exact Or.inl (h.vers k2)
  | cpy k2 em => cases em <;> trivial
  | new c => cases c <;> trivial
  | _ => trivial

theorem taken_lt {l : List Src} {vs : List Value} (hlen : l.length = vs.length) (hsrc : ∀ i (h1 : i < l.length) (h2 : i < vs.length), SrcOk F l[i] vs[i]) : ∀ k ∈ takenKeys l, k % 16 < 15 := by
  intro k hk
  obtain ⟨i, hi, hx⟩ := mem_takenKeys hk
  have := hsrc i hi (by omega)
  rcases hx with ⟨m, org, hx⟩ | hx <;> rw [hx] at this
  · exact this.2.1.lt
  · obtain ⟨_, _, _, h2, _⟩ := this; exact h2.lt

/-- A leaf that was taken away from where it lay: nothing is claimed of it any more, or it is shared from now on. -/
theorem taken_leaf {F' : Fr} {l : List Src} {vs : List Value} {ver s j : Nat} (hlen : l.length = vs.length)
    (hsrc : ∀ i (h1 : i < l.length) (h2 : i < vs.length), SrcOk F l[i] vs[i]) {cs' : List Value} {v : Value} (hcs : F'.has s cs') (hv : cs'[j]? = some v)
    (hshare : ∀ k, (∃ i, ∃ hi : i < l.length, l[i] = .lek k) → Share F.H F'.H F.lab F'.lab [k]) (hcell : ∀ cs, F.has s cs → cs[j]? = cs'[j]?)
    (henv : F'.env (lk s j) = F.env (lk s j)) {e : Ent} (hE : lastOf (l.flatMap (Src.ents ver)) (lk s j) = some e) (hG : F'.G (lk s j) = e) : LeafOk F' (lk s j) (F'.G (lk s j)).st v := by
  rw [hG]
  have hj15 : j < 15 := by
    have := (List.getElem?_eq_some_iff.1 hv).1; have := hcs.2
    rcases Nat.lt_or_ge j 15 with h | h
    · exact h
    · omega
  rcases srcEnts_last hE with rfl | ⟨rfl, i, hi, hx⟩
  · trivial
  · have hs' := hsrc i hi (by omega)
    rw [hx] at hs'
    obtain ⟨m, org, g1, g2, g3⟩ := hs'
    obtain ⟨cs, hh, hcv⟩ := g2
    rw [lk_div (by omega), lk_mod (by omega)] at *
    rw [hcell cs hh, hv] at hcv
    obtain rfl := Option.some.inj hcv
    simp only [LeafOk] at g3 ⊢
    rw [henv]
    exact g3.1.share (hshare _ ⟨i, hi, hx⟩)

theorem cells_of_touch {F F' : Fr} {clk clk' : Clk} {D' : Nat → Prop} (T : Touch F F' clk clk' D') {s j : Nat} (hss : ¬ D' (sk s)) {cs' : List Value} (hcs : F'.has s cs') (hq : ∀ b (c c' : Array Value) ty, F.val s = .pointer (some ⟨b, 0, none⟩) → F.lab b = .own [sk s] →
    F.H[b]? = some (.cells c ty (0, 0)) → F'.H[b]? = some (.cells c' ty (0, 0)) → c'[j]? = c[j]?) : ∀ cs, F.has s cs → cs[j]? = cs'[j]? := by
  intro cs hh
  obtain ⟨cs2, h1, h2, h3⟩ := T.has hss hh
  have := Fr.has_fun hcs h1
  subst this
  -- the cells may differ at touched leaves only in a box
  obtain ⟨hH, _⟩ := hh
  obtain ⟨hH', _⟩ := hcs
  have hG := T.ent _ hss
  have hV := T.tmp s hss
  rw [hG, hV] at hH'
  cases hst : (F.G (sk s)).st <;> rw [hst] at hH hH' <;> simp only [Has] at hH hH'
  case bx n =>
    obtain ⟨b, c, ty, hv, hl, hb, rfl, _⟩ := hH
    obtain ⟨b', c', ty', hv', hl', hb', rfl, _⟩ := hH'
    rw [hv] at hv'
    simp at hv'
    subst hv'
    obtain ⟨c2, hb2, _⟩ := T.box s b c ty hss hv hl hb
    rw [hb2] at hb'
    simp at hb'
    obtain ⟨rfl, rfl⟩ := hb'
    simpa using (hq b c c2 ty hv hl hb hb2).symm
  case pl n agg => rw [mkVal_inj (by rw [hH.2.1, hH'.2.1]) (fun h => by rw [hH.2.1, hH.2.2 h]) (hH.1.symm.trans hH'.1)]
  case pa n => rw [PaOk.fun (hH.keep T.still) hH']
  case cp f ns =>
    obtain ⟨ps, hv, hp⟩ := hH
    obtain ⟨ps', hv', hp'⟩ := hH'
    rw [hv] at hv'
    simp at hv'
    subst hv'
    rw [PasOk.fun (hp.keep T.still) hp']
  case tu ps =>
    obtain ⟨vs, hv, hp⟩ := hH
    obtain ⟨vs', hv', hp'⟩ := hH'
    rw [hv] at hv'
    simp at hv'
    subst hv'
    rw [PartsOk.fun hp hp']
  all_goals rw [hH, hH']


/-- Where a taken key is not among those behind. -/
theorem lastOf_front {pre es' : List (Nat × Ent)} {k : Nat} (h : k ∉ keysOf es') : lastOf (pre ++ es') k = lastOf pre k := by
  rw [lastOf_append, lastOf_none.2 h]; simp

end
end Go.Lf

/- Soundness, sixteenth part: stores into elements. -/
namespace Go.Lf

/-- Where what is taken goes, each to its own place. -/
def mvAt (dst : Nat → List Nat) : Nat → List Src → Nat → List Nat → Option (Option (List Nat))
  | _, [], _, _ => none
  | j, .tak k _ _ :: l, k', q => if k' = k then some (some (dst j ++ q)) else mvAt dst (j + 1) l k' q
  | j, .lek k :: l, k', q => if k' = k then some none else mvAt dst (j + 1) l k' q
  | j, .cpy _ _ :: l, k', q => mvAt dst (j + 1) l k' q
  | j, .als _ _ _ :: l, k', q => mvAt dst (j + 1) l k' q
  | j, .new _ :: l, k', q => mvAt dst (j + 1) l k' q

theorem mvAt_none {dst : Nat → List Nat} : ∀ {l : List Src} {j k : Nat} {q : List Nat}, k ∉ takenKeys l → mvAt dst j l k q = none := by
  intro l
  induction l with
  | nil => intro j k q _; rfl
  | cons s l ih =>
    intro j k q hk
    cases s <;> simp only [takenKeys, mvAt, List.mem_cons, not_or] at hk ⊢
    case tak k' m org => rw [if_neg hk.1]; exact ih hk.2
    case lek k' => rw [if_neg hk.1]; exact ih hk.2
    all_goals exact ih hk

theorem mvAt_some {dst : Nat → List Nat} : ∀ {l : List Src} {j i : Nat} (hi : i < l.length), nodupB (takenKeys l) = true →
    (∀ k m org q, l[i] = .tak k m org → mvAt dst j l k q = some (some (dst (j + i) ++ q))) ∧ (∀ k q, l[i] = .lek k → mvAt dst j l k q = some none) := by
  intro l
  induction l with
  | nil => intro j i hi; simp at hi
  | cons s l ih =>
    intro j i hi hn
    cases i with
    | zero =>
      constructor
      · intro k m org q h; simp at h; subst h; simp [mvAt]
      · intro k q h; simp at h; subst h; simp [mvAt]
    | succ i =>
      have hi' : i < l.length := by simpa using hi
      have hn' : nodupB (takenKeys l) = true := by cases s <;> simp only [takenKeys] at hn <;> first | exact hn | exact (nodupB_cons hn).2
      have hd : ∀ k, ((∃ m org, l[i] = .tak k m org) ∨ l[i] = .lek k) → ∀ k', (s = .lek k' ∨ ∃ m org, s = .tak k' m org) → k ≠ k' := by
        intro k hk k' hs he
        subst he
        have := takenKeys_mem hi' hk
        rcases hs with rfl | ⟨m, org, rfl⟩ <;> simp only [takenKeys] at hn <;> exact (nodupB_cons hn).1 this
      obtain ⟨h1, h2⟩ := ih (j := j + 1) hi' hn'
      constructor
      · intro k m org q h
        have hk : l[i] = .tak k m org := by simpa using h
        have := h1 k m org q hk
        rw [show j + 1 + i = j + (i + 1) by omega] at this
        cases s <;> simp only [mvAt]
        case tak k' m' org' => rw [if_neg (hd k (.inl ⟨m, org, hk⟩) k' (.inr ⟨m', org', rfl⟩))]; exact this
        case lek k' => rw [if_neg (hd k (.inl ⟨m, org, hk⟩) k' (.inl rfl))]; exact this
        all_goals exact this
      · intro k q h
        have hk : l[i] = .lek k := by simpa using h
        have := h2 k q hk
        cases s <;> simp only [mvAt]
        case tak k' m' org' => rw [if_neg (hd k (.inr hk) k' (.inr ⟨m', org', rfl⟩))]; exact this
        case lek k' => rw [if_neg (hd k (.inr hk) k' (.inl rfl))]; exact this
        all_goals exact this

/-- A leaf that comes to a place. -/
theorem Src.place {F F' : Fr} {s : Src} {v : Value} {t : Ty} {m : M} {p : List Nat} (hs : SrcOk F s v) (hm : fitsMode t s m = true) (ht : (s.od.rd F.env).τ = t)
    (hsh : ∀ (b : Nat) (o : Obj), F.H[b]? = some o → (F.lab b).shared → F'.H[b]? = some o ∧ (F'.lab b).shared)
    (hc : ∀ k m org, s = .tak k m org → Carry F.H F'.H F.lab F'.lab [k] p) (hk : ∀ k, s = .lek k → Share F.H F'.H F.lab F'.lab [k]) :
    LeafAt F'.H F'.lab m p v (s.od.rd F.env) := by
  unfold LeafAt
  cases s with
  | cpy k em =>
    cases em with
    | false =>
      simp only [SrcOk, Bool.false_eq_true, if_false, LeafOk] at hs
      simp only [fitsMode, beq_iff_eq] at hm
      simp only [Src.od, Od.rd] at ht ⊢
      rw [hm, ← ht]
      exact hs.2.shared hsh
    | true =>
      simp only [SrcOk, if_true, LeafOk] at hs
      obtain ⟨_, a, e, rfl, he⟩ := hs
      cases m <;> simp only [fitsMode, Bool.false_eq_true] at hm
      simp only [Src.od, Od.rd]
      rw [he]
      simp only [Rd]
      refine ⟨a, 0, rfl, ?_⟩
      cases a with
      | none => exact ⟨trivial, rfl⟩
      | some p => exact .inl ⟨trivial, rfl⟩
  | als k kv k0 => cases m <;> simp [fitsMode] at hm
  | tak k m' org =>
    cases m with
    | sl md m =>
      cases md <;> simp only [fitsMode, Bool.false_eq_true, beq_iff_eq] at hm
      subst hm
      simp only [SrcOk, LeafOk] at hs
      simp only [Src.od, Od.rd]
      exact hs.2.2.1.carry (hc k _ org rfl)
    | _ => simp [fitsMode] at hm
  | lek k =>
    simp only [fitsMode, beq_iff_eq] at hm
    obtain ⟨m0, org, _, _, h3, _⟩ := hs
    simp only [Src.od, Od.rd] at ht ⊢
    rw [hm, ← ht]
    exact h3.share (hk k rfl)
  | new c =>
    simp only [SrcOk] at hs
    subst hs
    simp only [Src.od, Od.rd]
    cases c <;> cases m <;> simp only [fitsMode, Bool.false_eq_true] at hm <;> simp only [Cst.dyn, Cst.val, Rd]
    exact ⟨none, 0, rfl, trivial, rfl⟩

/-- Modes flattened and built again. -/
theorem mUnflat_flat {H : Array Obj} {lab : Nat → Lab} : ∀ {m : M} {pos : List Nat} {cs : List Value} {τ : Ty} {x : τ.T}, Rd H lab m pos cs τ x → ∀ r, mUnflat τ (m.flat ++ r) = some (m, r) := by
  intro m
  induction m with
  | pair ma mb iha ihb =>
    intro pos cs τ x h r
    cases τ <;> simp only [Rd] at h
    simp only [M.flat, mUnflat, List.append_assoc, iha h.1, ihb h.2]
  | sc => intro pos cs τ x h r; cases τ <;> simp only [Rd] at h <;> simp [M.flat, mUnflat]
  | sl md m ih => intro pos cs τ x h r; cases τ <;> simp only [Rd] at h; simp [M.flat, mUnflat]

theorem fitsModes_get : ∀ {ts : List Ty} {l : List Src} {ms : List M}, fitsModes ts l ms = true → ts.length = l.length ∧ ms.length = l.length ∧
    ∀ i (h1 : i < ts.length) (h2 : i < l.length) (h3 : i < ms.length), fitsMode ts[i] l[i] ms[i] = true
  | [], [], [], _ => ⟨rfl, rfl, fun i h => by simp at h⟩
  | t :: ts, s :: ss, m :: ms, h => by
    simp only [fitsModes, Bool.and_eq_true] at h
    obtain ⟨a, b, c⟩ := fitsModes_get h.2
    refine ⟨by simp [a], by simp [b], fun i h1 h2 h3 => ?_⟩
    cases i with
    | zero => exact h.1
    | succ i => exact c i (by simpa using h1) (by simpa using h2) (by simpa using h3)
  | [], [], _ :: _, h => by simp [fitsModes] at h
  | [], _ :: _, _, h => by simp [fitsModes] at h
  | _ :: _, [], _, h => by simp [fitsModes] at h
  | _ :: _, _ :: _, [], h => by simp [fitsModes] at h

theorem cut_patch {c : Array Value} {o off : Nat} {vs : List Value} {c' : Array Value} (hc : ∀ j, c'[j]? = if o + off ≤ j ∧ j < o + off + vs.length then vs[j - (o + off)]? else c[j]?) {n : Nat} (j : Nat) :
    (cut c' o n)[j]? = if off ≤ j ∧ j < off + vs.length ∧ j < n then vs[j - off]? else (cut c o n)[j]? := by
  unfold cut
  by_cases hj : j < n
  · rw [List.getElem?_take_of_lt hj, List.getElem?_take_of_lt hj, List.getElem?_drop, List.getElem?_drop, Array.getElem?_toList, hc]
    by_cases h : off ≤ j ∧ j < off + vs.length
    · rw [if_pos ⟨by omega, by omega⟩, if_pos ⟨h.1, h.2, hj⟩]
      congr 1; omega
    · rw [if_neg (fun hh => h ⟨by omega, by omega⟩), if_neg (fun hh => h ⟨hh.1, hh.2.1⟩)]
      simp
  · rw [if_neg (by omega)]
    rw [List.getElem?_eq_none (by simp; omega), List.getElem?_eq_none (by simp; omega)]

theorem patch_get {off : Nat} {new l : List Dyn} (h : off + new.length ≤ l.length) (j : Nat) : (patch off new l)[j]? = if off ≤ j ∧ j < off + new.length then new[j - off]? else l[j]? := by
  unfold patch
  by_cases h1 : j < off
  · rw [List.append_assoc, List.getElem?_append_left (by simp; omega), List.getElem?_take_of_lt h1, if_neg (by omega)]
  · by_cases h2 : j < off + new.length
    · rw [List.append_assoc, List.getElem?_append_right (by simp; omega), List.getElem?_append_left (by simp; omega), if_pos ⟨by omega, h2⟩]
      congr 1; simp; omega
    · rw [List.getElem?_append_right (by simp; omega), if_neg (by omega), List.getElem?_drop]
      congr 1; simp; omega

/-- An owned slice with one element changed in place. -/
theorem Rd.setElem {H H' : Array Obj} {lab lab' : Nat → Lab} {m : M} {k n : Nat} {v : Value} {e : Ty} {xs : List e.T} {y : e.T}
    (h : Rd H lab (.sl .own m) [k] [v] (.slice e) xs) {b o0 len cap : Nat} (hv : v = .slice (some ⟨b, o0, none⟩) len cap) (hn : n < xs.length) {c c' : Array Value} {ty : TypeId} (hb : H[b]? = some (.cells c ty (0, 0)))
    (hb' : H'[b]? = some (.cells c' ty (0, 0))) (hl' : lab' b = .own [k]) (hsz : c'.size = c.size) (hout : ∀ i, i ≠ n → cut c' (o0 + i * e.n) e.n = cut c (o0 + i * e.n) e.n)
    (hcar : ∀ i, i ≠ n → Carry H H' lab lab' [k, i] [k, i]) (hnew : Rd H' lab' m [k, n] (cut c' (o0 + n * e.n) e.n) e y) :
    Rd H' lab' (.sl .own m) [k] [v] (.slice e) (xs.set n y) := by
  subst hv
  obtain ⟨hlen, hbk⟩ := Rd.block h
  rcases hbk with ⟨hnil, _⟩ | ⟨hcap, b2, o2, c2, ty2, ha, hlab, hH, hz, hel⟩
  · subst hnil; simp at hn
  · simp at ha
    obtain ⟨rfl, rfl⟩ := ha
    rw [hb] at hH
    simp at hH
    obtain ⟨rfl, rfl⟩ := hH
    simp only [Rd, List.length_set]
    refine ⟨some ⟨b, o0, none⟩, cap, by rw [hlen], .inr ⟨rfl, hl', by omega, c', ty, (0, 0), hb', by rw [hsz]; exact hz, fun _ => rfl, fun i hi => ?_⟩⟩
    by_cases hin : i = n
    · subst hin
      simp only [List.getElem_set_self]
      simpa using hnew
    · rw [List.getElem_set_ne (by omega)]
      show Rd H' lab' m [k, i] (cut c' (o0 + i * e.n) e.n) e _
      rw [hout i hin]
      have := hel i (by simpa using hi)
      exact Rd.carry (hcar i hin) (by simpa using this)

section
variable {F : Fr} {clk : Clk} {C : Cfg} {d : Nat} {st : ES} {es : List (Nat × Ent)} {is : List I} {a : Act} {w : World} {P : Program} {o : Oper}
  {K : Act → World → Prop} {Q' : Exit → Act → World → Prop} {D : Nat → List Dyn → Option (List Dyn)} {env' : Env} {V : Value}

theorem setD_some {off : Nat} {ts : List Ty} {new : List Dyn} {A B Y : Dyn} (h : setD off ts new A B = some Y) :
    ∃ (e : Ty) (l : List e.T) (kd : IntKind) (n : Nat) (x y : e.T), A = ⟨.slice e, l⟩ ∧ B = ⟨.int kd, (n : Int)⟩ ∧ l[n]? = some x ∧ new.map Dyn.τ = ts ∧
      unflat e (patch off new (flat e x)) = some (y, []) ∧ Y = ⟨.slice e, l.set n y⟩ := by
  obtain ⟨ta, va⟩ := A
  obtain ⟨tb, vb⟩ := B
  cases ta <;> cases tb <;> simp only [setD, reduceCtorEq] at h
  rename_i e kd
  split at h
  case isFalse => simp at h
  rename_i hz
  split at h
  case h_2 => simp at h
  rename_i x hx
  split at h
  case h_2 => simp at h
  rename_i y hy
  simp only [Option.some.injEq] at h
  refine ⟨e, va, kd, vb.toNat, x, y, rfl, ?_, hx, hz.2, ?_, h.symm⟩
  · congr 1
    exact (Int.toNat_of_nonneg hz.1).symm
  · unfold build at hy
    split at hy
    · rename_i z hz'
      simp at hy
      subst hy
      exact hz'
    · cases hy

theorem compStore_sound {how : How} {t : TypeId} {x y : Operand} (hr : (compStore C how t x y).run F.G = some (es, is)) (h : Here F clk C es a w) (henv : I.dens D F.env is = some env') (hP : C.P = P)
    (hop : o.op = .store t x y) (hdst : o.dst = none) (hK : OpPost F clk C es env' w K) : o.wp P a w K Q' := by
  subst hP
  simp only [compStore, Q.run_bind', Q.run_ofOption, Q.run_guard] at hr
  split at hr
  case isFalse => simp at hr
  simp only [Option.bind_some] at hr
  cases ht : tyOf C.P deep t with
  | none => rw [ht] at hr; simp at hr
  | some τ =>
    rw [ht] at hr
    have hrow := tyOf_row ht
    simp only [Option.bind_some] at hr
    cases hv : (valSrcs C how t y).run F.G with
    | none => rw [hv] at hr; simp at hr
    | some r =>
      obtain ⟨l, agg⟩ := r
      rw [hv] at hr
      simp only [Option.bind_some] at hr
      obtain ⟨vs, hy, hlen, hagg, hsrc⟩ := valSrcs_run h.st h.ch hv h.rel
      split at hr
      case isFalse => simp at hr
      rename_i hln
      have hln : l.length = τ.n := by simpa using hln
      simp only [Option.bind_some] at hr
      split at hr
      case isFalse => simp at hr
      rename_i hnd
      simp only [Option.bind_some] at hr
      have hone : OneCells vs := by
        intro v hm
        obtain ⟨i, hi, rfl⟩ := List.mem_iff_getElem.1 hm
        exact cell_one (hsrc i (by omega) hi)
      have htl := taken_lt hlen hsrc
      cases hA : (adrOf C.ch x).run F.G with
      | none => rw [hA] at hr; simp at hr
      | some A =>
        rw [hA] at hr
        have hA' := adrOf_run h.st h.ch h.rel hA
        simp only [Option.bind_some] at hr
        cases A with
        | shr s n => simp [Q.run] at hr
        | box s sv off n =>
          obtain ⟨h1, h2, h3, b, h4, h5⟩ := hA'
          simp only [Q.run_bind', Q.run_guard] at hr
          split at hr
          case isFalse => simp at hr
          rename_i hg
          simp only [Bool.and_eq_true, decide_eq_true_eq, List.all_eq_true, bne_iff_ne, ne_eq] at hg
          obtain ⟨⟨⟨hle, hn14⟩, htk⟩, hods⟩ := hg
          simp only [Option.bind_some, Q.run, Option.some.injEq, Prod.mk.injEq] at hr
          obtain ⟨rfl, rfl⟩ := hr
          obtain ⟨cs0, hh, hlf⟩ := h3
          have hH := hh.1
          rw [h2] at hH
          obtain ⟨b', c, ty, hvb, hlab, hb, rfl, hn⟩ := hH
          rw [h4] at hvb
          simp at hvb
          subst hvb
          have hn' : c.size = n := by simpa using hn
          have hsz : off + vs.length ≤ c.size := by omega
          have hrun := store_run hrow hop h5 hy hagg hone (by omega) (by rw [← h.rel.H]; exact hb) hsz
          unfold Oper.wp
          rw [hrun]
          simp only [Oper.upon, hdst, Act.put]
          -- the new cells
          generalize hc' : (c.toList.take off ++ vs ++ c.toList.drop (off + vs.length)).toArray = c'
          have hc'j : ∀ j, c'[j]? = if off ≤ j ∧ j < off + vs.length then vs[j - off]? else c[j]? := by
            intro j
            rw [← hc']
            simpa using patched (c := c.toList) (off := off) (vs := vs) (by simpa using hsz) j
          have hc's : c'.size = c.size := by
            rw [← hc']
            have := patched_len (c := c.toList) (off := off) (vs := vs) (by simpa using hsz)
            simpa using this
          let es : List (Nat × Ent) := l.flatMap (Src.ents C.ver) ++ leafEnts C.ver s off (l.map Src.st)
          let F' : Fr := { tmps := F.tmps, H := (w.setRow b c').heap, lab := relab (mvOf s off l) F.lab, env := env', G := F.G.sets es, org := F.org }
          have hbw : w.heap[b]? = some (.cells c ty (0, 0)) := by rw [← h.rel.H]; exact hb
          have hHb : F'.H[b]? = some (.cells c' ty (0, 0)) := setRow_heap w b c c' ty (0, 0) hbw
          have hHo : ∀ g, g ≠ b → F'.H[g]? = F.H[g]? := by
            intro g hg
            show (w.setRow b c').heap[g]? = _
            rw [setRow_other w b g c' hg, h.rel.H]
          have hHs : F'.H.size = F.H.size := by show (w.setRow b c').heap.size = _; rw [setRow_size, h.rel.H]
          have hkeys : ∀ k, k ∈ keysOf es ↔ k ∈ takenKeys l ∨ ∃ i, i < l.length ∧ k = lk s (off + i) := by
            intro k
            show k ∈ keysOf (_ ++ _) ↔ _
            rw [keysOf_append, List.mem_append, mem_srcEnts, mem_keys_leafEnts]
            simp
          have hkl : ∀ k ∈ keysOf es, k % 16 < 15 := by
            intro k hk
            rcases (hkeys k).1 hk with hk | ⟨i, hi, rfl⟩
            · exact htl k hk
            · rw [lk_mod (by omega)]; omega
          have hmv : ∀ k, k ∉ keysOf es → (mvOf s off l).lookup k = none := fun k hk => mvOf_none fun ht => hk ((hkeys k).2 (.inl ht))
          have hmv15 : ∀ s', (mvOf s off l).lookup (sk s') = none := fun s' => mvOf_none fun ht => by have := htl _ ht; unfold sk at this; omega
          obtain ⟨e, he1, he2, he3⟩ := dens_cps (D := D) s (l.map Src.od) off F.env (by
            intro x hx k hk
            obtain ⟨z, hz, rfl⟩ := List.mem_map.1 hx
            exact hods z hz k hk) (by simp; omega)
          rw [he1] at henv
          obtain rfl : e = env' := Option.some.inj henv
          have hbl : F.lab b = .own [sk s] := hlab
          have hne : ∀ g (q : List Nat) k, F.lab g = .own (k :: q) → k % 16 ≠ 15 → g ≠ b := by
            rintro g q k hg hk rfl
            rw [hbl] at hg
            simp at hg
            rw [← hg.1] at hk
            unfold sk at hk; omega
          have T : Touch F F' clk (clk.add C.ver) (· ∈ keysOf es) := by
            refine leafTouch h.st h.ver ?_ ?_ hkl h.chD rfl ?_ rfl (fun _ => rfl) ?_ ?_ ?_ ?_ ?_
            · intro z hz
              rcases List.mem_append.1 hz with hz | hz
              · exact (srcEnts_facts (c := clk) z hz).1
              · exact (mem_leafEnts_ver _ _ z hz)
            · intro z hz
              rcases List.mem_append.1 hz with hz | hz
              · exact (srcEnts_facts z hz).2
              · refine leafEnts_old (fun e he => ?_) z hz
                obtain ⟨q, hq, rfl⟩ := List.mem_map.1 he
                obtain ⟨i, hi, rfl⟩ := List.mem_iff_getElem.1 hq
                exact src_old h.st (hsrc i hi (by omega))
            · intro k hk
              refine he2 k fun i hi hki => hk ((hkeys k).2 (.inr ⟨i, by simpa using hi, hki⟩))
            · intro g ob hg hs
              have hgb : g ≠ b := by rintro rfl; rw [hbl] at hs; exact hs.elim
              exact ⟨by rw [hHo g hgb]; exact hg, relab_shared hs⟩
            · intro g ob hg hs
              have hgb : g ≠ b := by rintro rfl; rw [hbl] at hs; simp at hs
              exact ⟨by rw [hHo g hgb]; exact hg, relab_frn hs⟩
            · intro g ob k q hg hl hk15 hk
              exact ⟨by rw [hHo g (hne g q k hl hk15)]; exact hg, relab_own hl (hmv k hk)⟩
            · intro s' g c2 ty2 hl hg
              by_cases hgb : g = b
              · subst hgb
                rw [hbl] at hl
                simp at hl
                have hs' : s = s' := sk_inj.1 hl
                subst hs'
                rw [hb] at hg
                simp at hg
                obtain ⟨rfl, rfl⟩ := hg
                refine ⟨c', hHb, relab_own hbl (hmv15 s), hc's, fun j hj => ?_⟩
                rw [hc'j, if_neg]
                intro hjj
                exact hj ((hkeys _).2 (.inr ⟨j - off, by omega, by congr 1; omega⟩))
              · exact ⟨c2, by rw [hHo g hgb]; exact hg, relab_own hl (hmv15 s'), rfl, fun _ _ => rfl⟩
            · intro g hg
              rw [hHs] at hg
              exact relab_imm (h.st.labs g hg)
          have hsk : ∀ s', sk s' ∉ keysOf es := fun s' hk => by have := hkl _ hk; unfold sk at this; omega
          refine hK F' a (w.setRow b c') ⟨h.rel.tmps, rfl, h.rel.calm, h.rel.size⟩ rfl rfl ⟨rfl, rfl, rfl, by rw [hHs]; exact Nat.le_refl _, ?_, T.frn, rfl⟩ ?_
          · intro g ob hg hl
            have hgb : g ≠ b := by rintro rfl; rw [hbl] at hl; cases hl
            exact ⟨by rw [hHo g hgb]; exact hg, relab_imm hl⟩
          refine h.st.touch T fun s' _ => ?_
          refine T.slotLeaf h.st (hsk s') fun cs' j v hcs hj hD => ?_
          have hj15 : j < 15 := by
            have := (List.getElem?_eq_some_iff.1 hj).1; have := hcs.2
            rcases Nat.lt_or_ge j 15 with h | h
            · exact h
            · omega
          by_cases hss : s' = s ∧ off ≤ j ∧ j < off + l.length
          · obtain ⟨rfl, hj1, hj2⟩ := hss
            have hnew : F'.has s' c'.toList := by
              refine ⟨?_, by simpa [hc's] using hh.2⟩
              rw [T.ent _ (hsk s'), T.tmp s' (hsk s'), h2]
              exact ⟨b, c', ty, h4, relab_own hbl (hmv15 s'), hHb, rfl, by simpa [hc's] using hn'⟩
            have hcs2 := Fr.has_fun hcs hnew
            have hvj : vs[j - off]? = some v := by
              rw [hcs2] at hj
              have := hc'j j
              rw [if_pos ⟨hj1, by omega⟩] at this
              rw [← this]
              simpa using hj
            have hil : j - off < l.length := by omega
            have hiv : j - off < vs.length := by omega
            have hE : F'.G (lk s' j) = ⟨C.ver, [], l[j - off].st⟩ := by
              show F.G.sets es (lk s' j) = _
              rw [GT.sets_eq]
              show (lastOf (_ ++ _) _).getD _ = _
              rw [lastOf_append]
              have := lastOf_leafEnts_in C.ver s' (l.map Src.st) off (j - off) (by simpa using hil)
              rw [show off + (j - off) = j by omega] at this
              rw [this]
              simp
            rw [hE]
            have hvv : vs[j - off] = v := (List.getElem?_eq_some_iff.1 hvj).2
            rw [← hvv]
            have hmvj := mvOf_some (d := s') (j := off) hil hnd
            refine Src.leaf h.st T (mv := mvOf s' off l) ?_ (fun _ _ => rfl) (hsrc (j - off) hil hiv) ?_ (fun k hx => hmvj.2 k hx) ?_
            · intro g ob hg hs
              have hgb : g ≠ b := by
                rcases hs with hs | ⟨k, q, hl, hk⟩
                · rintro rfl; rw [hbl] at hs; exact hs.elim
                · exact hne g q k hl hk
              rw [hHo g hgb]; exact hg
            · intro k m org hx
              have := hmvj.1 k m org hx
              rwa [show off + (j - off) = j by omega] at this
            · have := he3 (j - off) (by simpa using hil)
              rw [show off + (j - off) = j by omega] at this
              simpa using this
          · -- a leaf that was taken
            have hkt : lk s' j ∈ takenKeys l := by
              rcases (hkeys _).1 hD with hk | ⟨i, hi, he⟩
              · exact hk
              · have := (lk_inj (by omega) (by omega)).1 he
                exact absurd ⟨this.1, by omega, by omega⟩ hss
            have hss' : s' ≠ s := by rintro rfl; exact htk _ hkt (lk_div (by omega))
            have hnl : lk s' j ∉ keysOf (leafEnts C.ver s off (l.map Src.st)) := by
              rw [mem_keys_leafEnts]
              rintro ⟨i, hi, he⟩
              simp at hi
              exact hss' ((lk_inj (by omega) (by omega)).1 he).1
            cases hE : lastOf (l.flatMap (Src.ents C.ver)) (lk s' j) with
            | none => exact absurd (mem_srcEnts.2 hkt) (lastOf_none.1 hE)
            | some e0 =>
              have hG0 : F'.G (lk s' j) = e0 := by
                show F.G.sets es (lk s' j) = _
                rw [GT.sets_eq]
                show (lastOf (_ ++ _) _).getD _ = _
                rw [lastOf_front hnl, hE]; rfl
              refine taken_leaf hlen hsrc hcs hj ?_ ?_ ?_ hE hG0
              · rintro k ⟨i, hi, hx⟩
                refine relab_share ((mvOf_some (d := s) (j := off) hi hnd).2 k hx) (fun g ob hg hs => ?_) (fun _ _ => rfl)
                have hk15 : k % 16 ≠ 15 := by have := htl k (takenKeys_mem hi (.inr hx)); omega
                have hgb : g ≠ b := by
                  rcases hs with hs | ⟨q, hl⟩
                  · rintro rfl; rw [hbl] at hs; exact hs.elim
                  · exact hne g q k hl hk15
                rw [hHo g hgb]; exact hg
              · refine cells_of_touch T (hsk s') hcs ?_
                intro g c1 c2 ty2 hv1 hl1 hg1 hg2
                have hgb : g ≠ b := by
                  rintro rfl
                  rw [hbl] at hl1
                  simp at hl1
                  exact hss' (sk_inj.1 hl1).symm
                rw [hHo g hgb, hg1] at hg2
                simp at hg2
                rw [hg2]
              · refine he2 _ fun i hi hki => ?_
                simp at hi
                exact hss' ((lk_inj (by omega) (by omega)).1 hki).1
        | elt k kv i iv off =>
          simp only [Q.run_bind', Q.run_ent, Option.bind_some] at hr
          cases hst : (F.G k).st <;> rw [hst] at hr <;> simp only [Q.run, Q.run_bind', Q.run_guard, reduceCtorEq] at hr
          rename_i m org
          split at hr
          case isFalse => simp at hr
          rename_i hg
          simp only [Bool.and_eq_true, decide_eq_true_eq, List.all_eq_true, bne_iff_ne, ne_eq] at hg
          obtain ⟨⟨hle, hfit⟩, htk⟩ := hg
          simp only [Option.bind_some, Option.some.injEq, Prod.mk.injEq] at hr
          obtain ⟨rfl, rfl⟩ := hr
          obtain ⟨E⟩ := eltAt hA' hst
          obtain ⟨_, _, _, _, _, _, _, _, _, hlfk⟩ := hA'
          obtain ⟨f1, f2, f3⟩ := fitsModes_get hfit
          have hml := M.flat_len E.rd
          have hen : off + τ.n ≤ E.e.n := by omega
          have hsz : E.o + off + vs.length ≤ E.c.size := by have := E.size; omega
          have hrun := store_run hrow hop E.val hy hagg hone (by omega) (by rw [← h.rel.H]; exact E.heap) hsz
          unfold Oper.wp
          rw [hrun]
          simp only [Oper.upon, hdst, Act.put]
          generalize hc' : (E.c.toList.take (E.o + off) ++ vs ++ E.c.toList.drop (E.o + off + vs.length)).toArray = c'
          have hc'j : ∀ j, c'[j]? = if E.o + off ≤ j ∧ j < E.o + off + vs.length then vs[j - (E.o + off)]? else E.c[j]? := by
            intro j
            rw [← hc']
            simpa using patched (c := E.c.toList) (off := E.o + off) (vs := vs) (by simpa using hsz) j
          have hc's : c'.size = E.c.size := by
            rw [← hc']
            have := patched_len (c := E.c.toList) (off := E.o + off) (vs := vs) (by simpa using hsz)
            simpa using this
          let dst : Nat → List Nat := fun j => [k, E.n] ++ (E.e.paths[off + j]?).getD []
          let es : List (Nat × Ent) := l.flatMap (Src.ents C.ver) ++ [(k, ⟨C.ver, [], .ro m org⟩)]
          let F' : Fr := { tmps := F.tmps, H := (w.setRow E.b c').heap, lab := relabP (mvAt dst 0 l) F.lab, env := env', G := F.G.sets es, org := F.org }
          have hbw : w.heap[E.b]? = some (.cells E.c E.ty (0, 0)) := by rw [← h.rel.H]; exact E.heap
          have hHb : F'.H[E.b]? = some (.cells c' E.ty (0, 0)) := setRow_heap w E.b E.c c' E.ty (0, 0) hbw
          have hHo : ∀ g, g ≠ E.b → F'.H[g]? = F.H[g]? := by
            intro g hg
            show (w.setRow E.b c').heap[g]? = _
            rw [setRow_other w E.b g c' hg, h.rel.H]
          have hHs : F'.H.size = F.H.size := by show (w.setRow E.b c').heap.size = _; rw [setRow_size, h.rel.H]
          have hkeys : ∀ k', k' ∈ keysOf es ↔ k' ∈ takenKeys l ∨ k' = k := by
            intro k'
            show k' ∈ keysOf (_ ++ _) ↔ _
            rw [keysOf_append, List.mem_append, mem_srcEnts]
            simp [keysOf]
          have hkt : k ∉ takenKeys l := fun hk => htk k hk rfl
          have hkl : ∀ k' ∈ keysOf es, k' % 16 < 15 := by
            intro k' hk
            rcases (hkeys k').1 hk with hk | rfl
            · exact htl k' hk
            · exact E.leaf
          have hmv : ∀ k' q, k' ∉ takenKeys l → mvAt dst 0 l k' q = none := fun k' q hk => mvAt_none hk
          have hsk : ∀ s', sk s' ∉ keysOf es := fun s' hk => by have := hkl _ hk; unfold sk at this; omega
          have hskt : ∀ s', sk s' ∉ takenKeys l := fun s' hk => hsk s' ((hkeys _).2 (.inl hk))
          -- the data
          have hden := dens1 henv
          simp only [I.den] at hden
          obtain ⟨Y, hY, hEnv⟩ := set1_inv hden
          obtain ⟨e', xs', kd, n', x', y', hA1, hB1, hget, hts, hbuild, hYv⟩ := setD_some hY
          rw [E.env] at hA1
          simp only [Dyn.mk.injEq, Ty.slice.injEq] at hA1
          obtain ⟨he', hxs'⟩ := hA1
          subst he'
          have hxs' := eq_of_heq hxs'
          subst hxs'
          obtain ⟨kd2, hkd⟩ := num_of E.num
          have hnn : n' = E.n := by
            simp only [Od.rd] at hB1
            rw [hkd] at hB1
            simp only [Dyn.mk.injEq, Ty.int.injEq] at hB1
            obtain ⟨rfl, hB2⟩ := hB1
            have hB3 : (E.n : Int) = (n' : Int) := eq_of_heq hB2
            omega
          subst hnn
          have hxx : x' = E.x := by rw [E.get] at hget; exact (Option.some.inj hget).symm
          subst hxx
          have hbl := E.lab
          have hne : ∀ g (q : List Nat) k', F.lab g = .own (k' :: q) → k' ∉ keysOf es → g ≠ E.b := by
            rintro g q k' hg hk rfl
            rw [hbl] at hg
            simp at hg
            exact hk ((hkeys _).2 (.inr hg.1.symm))
          have hsame : ∀ (g : Nat) (ob : Obj), F.H[g]? = some ob → g ≠ E.b → F'.H[g]? = some ob := fun g ob hg hgb => by rw [hHo g hgb]; exact hg
          have hsh : ∀ (g : Nat) (ob : Obj), F.H[g]? = some ob → (F.lab g).shared → F'.H[g]? = some ob ∧ (F'.lab g).shared := by
            intro g ob hg hs
            have hgb : g ≠ E.b := by rintro rfl; rw [hbl] at hs; exact hs.elim
            exact ⟨hsame g ob hg hgb, relabP_shared hs⟩
          have hfr : ∀ (g : Nat) (ob : Obj), F.H[g]? = some ob → F.lab g = .own [] → F'.H[g]? = some ob ∧ F'.lab g = .own [] := by
            intro g ob hg hs
            have hgb : g ≠ E.b := by rintro rfl; rw [hbl] at hs; simp at hs
            exact ⟨hsame g ob hg hgb, relabP_frn hs⟩
          have T : Touch F F' clk (clk.add C.ver) (· ∈ keysOf es) := by
            refine leafTouch h.st h.ver ?_ ?_ hkl h.chD rfl ?_ rfl (fun _ => rfl) hsh hfr ?_ ?_ ?_
            · intro z hz
              rcases List.mem_append.1 hz with hz | hz
              · exact (srcEnts_facts (c := clk) z hz).1
              · simp at hz; subst hz; rfl
            · intro z hz
              rcases List.mem_append.1 hz with hz | hz
              · exact (srcEnts_facts z hz).2
              · simp at hz; subst hz; trivial
            · intro k' hk
              show env' k' = _
              rw [hEnv, Env.set_ne]
              rintro rfl; exact hk ((hkeys _).2 (.inr rfl))
            · intro g ob k' q hg hl hk15 hk
              exact ⟨hsame g ob hg (hne g q k' hl hk), relabP_own hl (hmv k' q fun hh => hk ((hkeys _).2 (.inl hh)))⟩
            · intro s' g c2 ty2 hl hg
              have hgb : g ≠ E.b := by
                rintro rfl; rw [hbl] at hl; simp at hl
                have := E.leaf; rw [hl] at this; unfold sk at this; omega
              exact ⟨c2, hsame g _ hg hgb, relabP_own hl (hmv _ _ (hskt s')), rfl, fun _ _ => rfl⟩
            · intro g hg
              rw [hHs] at hg
              exact relabP_imm (h.st.labs g hg)
          refine hK F' a (w.setRow E.b c') ⟨h.rel.tmps, rfl, h.rel.calm, h.rel.size⟩ rfl rfl ⟨rfl, rfl, rfl, by rw [hHs]; exact Nat.le_refl _, ?_, T.frn, rfl⟩ ?_
          · intro g ob hg hl
            have hgb : g ≠ E.b := by rintro rfl; rw [hbl] at hl; cases hl
            exact ⟨hsame g ob hg hgb, relabP_imm hl⟩
          refine h.st.touch T fun s' _ => ?_
          refine T.slotLeaf h.st (hsk s') fun cs' j v hcs hj hD => ?_
          have hj15 : j < 15 := by
            have := (List.getElem?_eq_some_iff.1 hj).1; have := hcs.2
            rcases Nat.lt_or_ge j 15 with h | h
            · exact h
            · omega
          have hcell : ∀ cs, F.has s' cs → cs[j]? = cs'[j]? := by
            refine cells_of_touch T (hsk s') hcs ?_
            intro g c1 c2 ty2 hv1 hl1 hg1 hg2
            have hgb : g ≠ E.b := by
              rintro rfl
              rw [hbl] at hl1
              simp at hl1
              have := E.leaf; rw [hl1] at this; unfold sk at this; omega
            rw [hHo g hgb, hg1] at hg2
            simp at hg2
            rw [hg2]
          by_cases hkj : lk s' j = k
          · -- the slice itself
            subst hkj
            have hG0 : F'.G (lk s' j) = ⟨C.ver, [], .ro m org⟩ := by
              show F.G.sets es _ = _
              rw [GT.sets_eq]
              show (lastOf (_ ++ _) _).getD _ = _
              rw [lastOf_append]
              simp [lastOf]
            rw [hG0]
            obtain ⟨o0, len, cap, xs0, hc0, hxs0, hlt0, ho0⟩ := E.at_
            have hok := hlfk _ hc0
            rw [hst] at hok
            have hv : v = .slice (some ⟨E.b, o0, none⟩) len cap := by
              obtain ⟨cs, hh, hcv⟩ := hc0
              rw [lk_div (by omega), lk_mod (by omega)] at *
              rw [hcell cs hh, hj] at hcv
              exact Option.some.inj hcv
            rw [← hv] at hok
            refine ⟨?_, hok.2⟩
            have hEk : F'.env (lk s' j) = ⟨.slice E.e, E.xs.set E.n y'⟩ := by
              show env' _ = _
              rw [hEnv, Env.set_same, hYv]
            rw [hEk]
            have hR := hok.1
            rw [E.env] at hR
            have hnl : E.n < E.xs.length := (List.getElem?_eq_some_iff.1 E.get).1
            have hl' : F'.lab E.b = .own [lk s' j] := relabP_own hbl (hmv _ _ hkt)
            have hcarry : ∀ p0 : List Nat, p0 ≠ [] → Carry F.H F'.H F.lab F'.lab (lk s' j :: p0) (lk s' j :: p0) := by
              intro p0 hp0
              refine ⟨fun g ob s0 hg hl => ?_, hsh⟩
              · have hl2 : F.lab g = .own (lk s' j :: (p0 ++ s0)) := by simpa using hl
                have hgb : g ≠ E.b := by
                  rintro rfl; rw [hbl] at hl2; simp at hl2; exact hp0 hl2.1
                exact ⟨hsame g ob hg hgb, by simpa using relabP_own hl2 (hmv _ _ hkt)⟩
            refine Rd.setElem hR hv hnl E.heap hHb hl' hc's (fun i0 hi0 => ?_) (fun i0 _ => hcarry [i0] (by simp)) ?_
            · apply List.ext_getElem?
              intro j0
              simp only [cut]
              by_cases hj0 : j0 < E.e.n
              · rw [List.getElem?_take_of_lt hj0, List.getElem?_take_of_lt hj0, List.getElem?_drop, List.getElem?_drop, Array.getElem?_toList, Array.getElem?_toList, hc'j, if_neg]
                rw [ho0]
                rintro ⟨h1, h2⟩
                rcases Nat.lt_or_ge i0 E.n with hlt | hge
                · have : (i0 + 1) * E.e.n ≤ E.n * E.e.n := Nat.mul_le_mul_right _ hlt
                  rw [Nat.add_mul] at this; omega
                · have : (E.n + 1) * E.e.n ≤ i0 * E.e.n := Nat.mul_le_mul_right _ (by omega)
                  rw [Nat.add_mul] at this; omega
              · rw [List.getElem?_eq_none (by simp; omega), List.getElem?_eq_none (by simp; omega)]
            · rw [← ho0]
              have hnewl : (l.map Src.od).map (Od.rd F.env) = l.map fun s => s.od.rd F.env := by simp
              have hpl : off + (l.map fun s => s.od.rd F.env).length ≤ (flat E.e E.x).length := by rw [flat_length]; simp; omega
              have hcutl : (cut c' E.o E.e.n).length = E.e.n := cut_length (by rw [hc's]; exact E.size)
              have := Rd.build (H := F'.H) (lab := F'.lab) (τ := E.e) (pos := [lk s' j, E.n]) (ds := patch off (l.map fun s => s.od.rd F.env) (flat E.e E.x)) (rest := []) (ms := m.flat) (mrest := []) (vs := cut c' E.o E.e.n) (x := y') (m := m)
                (by rw [← hnewl]; exact hbuild) (by simpa using mUnflat_flat E.rd []) (by omega) (fun j0 h0 h1 h2 h3 => ?_)
              · have h5 := this.1
                rwa [List.take_of_length_le (by omega)] at h5
              · have hcutj := cut_patch (o := E.o) (off := off) hc'j (n := E.e.n) j0
                have hpj := patch_get hpl j0
                simp only [List.length_map] at hpj
                by_cases hin : off ≤ j0 ∧ j0 < off + l.length
                · rw [if_pos ⟨hin.1, by omega, h0⟩, List.getElem?_eq_getElem h3, List.getElem?_eq_getElem (by omega : j0 - off < vs.length)] at hcutj
                  rw [if_pos hin, List.getElem?_eq_getElem h1, List.getElem?_map, List.getElem?_eq_getElem (by omega : j0 - off < l.length)] at hpj
                  rw [Option.some.inj hcutj]
                  simp only [Option.map_some, Option.some.injEq] at hpj
                  rw [hpj]
                  have hil : j0 - off < l.length := by omega
                  have hmode := f3 (j0 - off) (by omega) hil (by omega)
                  have hmj : ((m.flat.drop off).take τ.n)[j0 - off]'(by omega) = m.flat[j0] := by
                    simp only [List.getElem_take, List.getElem_drop]
                    congr 1; omega
                  rw [hmj] at hmode
                  have hty : ((l[j0 - off]).od.rd F.env).τ = τ.leaves[j0 - off]'(by omega) := by
                    have h6 : ((l.map Src.od).map (Od.rd F.env)).map Dyn.τ = τ.leaves := hts
                    have h7 : (((l.map Src.od).map (Od.rd F.env)).map Dyn.τ)[j0 - off]'(by simp; exact hil) = τ.leaves[j0 - off]'(by omega) := by simp only [h6]
                    simpa using h7
                  have hpath : dst (j0 - off) = [lk s' j, E.n] ++ E.e.paths[j0]'(by rw [Ty.paths_len]; exact h0) := by
                    show [lk s' j, E.n] ++ (E.e.paths[off + (j0 - off)]?).getD [] = _
                    rw [show off + (j0 - off) = j0 by omega, List.getElem?_eq_getElem (by rw [Ty.paths_len]; exact h0)]
                    rfl
                  have hmvj := mvAt_some (dst := dst) (j := 0) hil hnd
                  refine Src.place (hsrc (j0 - off) hil (by omega)) hmode hty hsh (fun k' m' org' hx => ?_) (fun k' hx => ?_)
                  · have hkt' : k' ∈ takenKeys l := takenKeys_mem hil (.inl ⟨m', org', hx⟩)
                    have := relabP_carry (mv := mvAt dst 0 l) (H := F.H) (H' := F'.H) (lab := F.lab) (lab' := F'.lab) (k := k') (p0 := []) (p := [lk s' j, E.n] ++ E.e.paths[j0]'(by rw [Ty.paths_len]; exact h0))
                      (fun s0 => by
                        have := hmvj.1 k' m' org' s0 hx
                        simp only [Nat.zero_add] at this
                        rw [hpath] at this
                        simpa using this) (fun g ob hg hs => ?_) (fun _ _ => rfl)
                    · exact this
                    · refine hsame g ob hg ?_
                      rcases hs with hs | ⟨q, hl⟩
                      · rintro rfl; rw [hbl] at hs; exact hs.elim
                      · rintro rfl
                        rw [hbl] at hl
                        simp at hl
                        exact hkt (by rw [hl.1]; exact hkt')
                  · have hkt' : k' ∈ takenKeys l := takenKeys_mem hil (.inr hx)
                    refine relabP_share (fun s0 => hmvj.2 k' s0 hx) (fun g ob hg hs => hsame g ob hg ?_) (fun _ _ => rfl)
                    rcases hs with hs | ⟨q, hl⟩
                    · rintro rfl; rw [hbl] at hs; exact hs.elim
                    · rintro rfl
                      rw [hbl] at hl
                      simp at hl
                      exact hkt (by rw [hl.1]; exact hkt')
                · rw [if_neg (by omega), List.getElem?_eq_getElem h3] at hcutj
                  rw [if_neg hin, List.getElem?_eq_getElem h1] at hpj
                  obtain ⟨y0, m0, pos0, g1, g2, g3, q, hq1, hq2⟩ := E.rd.leaf hcutj.symm
                  rw [← hpj] at g1
                  have g1' := Option.some.inj g1
                  rw [g1']
                  rw [List.getElem?_eq_getElem h2] at g2
                  have g2' := Option.some.inj g2
                  rw [g2']
                  rw [List.getElem?_eq_getElem (by rw [Ty.paths_len]; exact h0)] at hq2
                  have hq2' := Option.some.inj hq2
                  rw [hq2']
                  unfold LeafAt
                  rw [hq1] at g3
                  exact g3.carry (by simpa using hcarry ([E.n] ++ q) (by simp))
          · -- a leaf that was taken
            have hkt' : lk s' j ∈ takenKeys l := ((hkeys _).1 hD).resolve_right hkj
            have hnl : lk s' j ∉ keysOf [(k, (⟨C.ver, [], .ro m org⟩ : Ent))] := by simpa [keysOf] using hkj
            cases hE : lastOf (l.flatMap (Src.ents C.ver)) (lk s' j) with
            | none => exact absurd (mem_srcEnts.2 hkt') (lastOf_none.1 hE)
            | some e0 =>
              have hG0 : F'.G (lk s' j) = e0 := by
                show F.G.sets es (lk s' j) = _
                rw [GT.sets_eq]
                show (lastOf (_ ++ _) _).getD _ = _
                rw [lastOf_front hnl, hE]; rfl
              refine taken_leaf hlen hsrc hcs hj ?_ hcell ?_ hE hG0
              · rintro k' ⟨i0, hi, hx⟩
                have hkt2 : k' ∈ takenKeys l := takenKeys_mem hi (.inr hx)
                refine relabP_share (fun s0 => (mvAt_some (dst := dst) (j := 0) hi hnd).2 k' s0 hx) (fun g ob hg hs => hsame g ob hg ?_) (fun _ _ => rfl)
                rcases hs with hs | ⟨q, hl⟩
                · rintro rfl; rw [hbl] at hs; exact hs.elim
                · rintro rfl
                  rw [hbl] at hl
                  simp at hl
                  exact hkt (by rw [hl.1]; exact hkt2)
              · show env' _ = _
                rw [hEnv, Env.set_ne _ _ hkj]

end
end Go.Lf

/- Soundness, seventeenth part: values built out of parts, slices made and cut. -/
namespace Go.Lf

/-- What filling gives, cell by cell. -/
theorem fill_fold (off : Nat) : ∀ (vs : List Value) (k : Nat) (cs : Array Value) (j : Nat), off + k + vs.length ≤ cs.size →
    ((vs.zipIdx k).foldl (fun cs p => cs.setIfInBounds (off + p.2) p.1) cs)[j]? = (if off + k ≤ j ∧ j < off + k + vs.length then vs[j - (off + k)]? else cs[j]?) ∧
    ((vs.zipIdx k).foldl (fun cs p => cs.setIfInBounds (off + p.2) p.1) cs).size = cs.size := by
  intro vs
  induction vs with
  | nil => intro k cs j _; simp; intro h1 h2; omega
  | cons v vs ih =>
    intro k cs j h
    simp only [List.length_cons] at h
    simp only [List.zipIdx_cons, List.foldl_cons]
    obtain ⟨h1, h2⟩ := ih (k + 1) (cs.setIfInBounds (off + k) v) j (by simp; omega)
    rw [h1, h2]
    refine ⟨?_, by simp⟩
    simp only [List.length_cons]
    by_cases hj : j = off + k
    · subst hj
      rw [if_neg (by omega), if_pos ⟨by omega, by omega⟩]
      simp [Array.getElem?_setIfInBounds, show off + k < cs.size by omega]
    · by_cases hin : off + (k + 1) ≤ j ∧ j < off + (k + 1) + vs.length
      · rw [if_pos hin, if_pos ⟨by omega, by omega⟩, show j - (off + k) = (j - (off + (k + 1))) + 1 by omega, List.getElem?_cons_succ]
      · rw [if_neg hin, if_neg (by omega), Array.getElem?_setIfInBounds_ne (by omega)]

section
variable {F : Fr} {clk : Clk} {C : Cfg} {d : Nat} {st : ES} {es : List (Nat × Ent)} {is : List I} {a : Act} {w : World} {P : Program} {o : Oper}
  {K : Act → World → Prop} {Q' : Exit → Act → World → Prop} {D : Nat → List Dyn → Option (List Dyn)} {env' : Env} {V : Value}

theorem fill_step {place : Nat → Option (Nat × Nat)} {cells : Array Value} {i off size : Nat} {v : Value} {rest : List (Nat × Value)} {vs : List Value} (hp : place i = some (off, size)) (hv : v.cells = vs.toArray) (hs : vs.length = size)
    (hle : off + vs.length ≤ cells.size) : ∃ cells' : Array Value, Instr.fill place cells ((i, v) :: rest) = Instr.fill place cells' rest ∧ cells'.size = cells.size ∧
      ∀ j, cells'[j]? = if off ≤ j ∧ j < off + vs.length then vs[j - off]? else cells[j]? := by
  refine ⟨(vs.zipIdx 0).foldl (fun cs p => cs.setIfInBounds (off + p.2) p.1) cells, ?_, (fill_fold off vs 0 cells 0 (by omega)).2, fun j => by simpa using (fill_fold off vs 0 cells j (by omega)).1⟩
  simp only [Instr.fill, hp, hv]
  rw [if_neg]
  · congr 1
    rw [← Array.foldl_toList]
    simp
  · simp; omega

/-- Parts put in place. -/
theorem partsOf_run (h : Here F clk C es a w) {how : How} {t : TypeId} {fs : Array Field} {place : Nat → Option (Nat × Nat)} (hplace : ∀ i fd, fs[i]? = some fd → place i = some (fd.offset, C.P.cellsOf fd.type)) :
    ∀ {ps : List (Nat × Operand)} {acc l : List Src} {cells : Array Value}, (partsOf C how t fs ps acc).run F.G = some l → acc.length = cells.size →
      (∀ i (h1 : i < acc.length) (h2 : i < cells.size), SrcOk F acc[i] cells[i]) →
      ∃ cells' : Array Value, Instr.fill place cells (ps.map fun p => (p.1, a.eval p.2)) = some cells' ∧ l.length = cells'.size ∧ ∀ i (h1 : i < l.length) (h2 : i < cells'.size), SrcOk F l[i] cells'[i]
  | [], acc, l, cells, hr, hl, hs => by
    simp only [partsOf, Q.run, Option.some.injEq] at hr
    subst hr
    exact ⟨cells, rfl, hl, hs⟩
  | (i, x) :: ps, acc, l, cells, hr, hl, hs => by
    simp only [partsOf, Q.run_bind', Q.run_ofOption] at hr
    cases hf : fs[i]? with
    | none => rw [hf] at hr; simp at hr
    | some fd =>
      rw [hf] at hr
      simp only [Option.bind_some] at hr
      cases hv : (valSrcs C how fd.type x).run F.G with
      | none => rw [hv] at hr; simp at hr
      | some r =>
        obtain ⟨lx, agg⟩ := r
        rw [hv] at hr
        simp only [Option.bind_some, Q.run_guard] at hr
        split at hr
        case isFalse => simp at hr
        rename_i hg
        simp only [Bool.and_eq_true, beq_iff_eq, decide_eq_true_eq] at hg
        simp only [Option.bind_some] at hr
        obtain ⟨vs, hx, hlen, hagg, hsrc⟩ := valSrcs_run h.st h.ch hv h.rel
        have hone : OneCells vs := by
          intro v hm
          obtain ⟨i, hi, rfl⟩ := List.mem_iff_getElem.1 hm
          exact cell_one (hsrc i (by omega) hi)
        have hc := mkVal_cells hagg hone
        obtain ⟨cells1, g1, g2, g3⟩ := fill_step (place := place) (cells := cells) (rest := ps.map fun p => (p.1, a.eval p.2)) (v := a.eval x) (vs := vs) (hplace i fd hf) (by rw [hx]; exact hc) (by omega) (by omega)
        have hpl : (placeSrcs acc fd.offset lx).length = acc.length := by simp [placeSrcs]; omega
        obtain ⟨cells', k1, k2, k3⟩ := partsOf_run h hplace (cells := cells1) hr (by omega) (fun j h1 h2 => by
          have hj := g3 j
          rw [Array.getElem?_eq_getElem h2] at hj
          have hpj : (placeSrcs acc fd.offset lx)[j]? = if fd.offset ≤ j ∧ j < fd.offset + lx.length then lx[j - fd.offset]? else acc[j]? := by
            show (acc.take fd.offset ++ lx ++ acc.drop (fd.offset + lx.length))[j]? = _
            by_cases c1 : j < fd.offset
            · rw [List.append_assoc, List.getElem?_append_left (by simp; omega), List.getElem?_take_of_lt c1, if_neg (by omega)]
            · by_cases c2 : j < fd.offset + lx.length
              · rw [List.append_assoc, List.getElem?_append_right (by simp; omega), List.getElem?_append_left (by simp; omega), if_pos ⟨by omega, c2⟩]
                congr 1; simp; omega
              · rw [List.getElem?_append_right (by simp; omega), if_neg (by omega), List.getElem?_drop]
                congr 1; simp; omega
          rw [List.getElem?_eq_getElem h1] at hpj
          by_cases hin : fd.offset ≤ j ∧ j < fd.offset + vs.length
          · rw [if_pos hin, List.getElem?_eq_getElem (by omega)] at hj
            rw [if_pos (by omega), List.getElem?_eq_getElem (by omega)] at hpj
            rw [Option.some.inj hj, Option.some.inj hpj]
            exact hsrc _ _ _
          · rw [if_neg hin, Array.getElem?_eq_getElem (by omega)] at hj
            rw [if_neg (by omega), List.getElem?_eq_getElem (by omega)] at hpj
            rw [Option.some.inj hj, Option.some.inj hpj]
            exact hs _ _ _)
        exact ⟨cells', by rw [List.map_cons, g1]; exact k1, k2, k3⟩

theorem mapOpt_get {α β : Type} {f : α → Option β} : ∀ {l : List α} {r : List β}, mapOpt f l = some r → ∀ x ∈ l, ∃ y, f x = some y
  | [], _, _, x, hx => by simp at hx
  | a :: l, r, h, x, hx => by
    simp only [mapOpt] at h
    split at h
    · rename_i b hb
      split at h
      · rename_i bs hbs
        rcases List.mem_cons.1 hx with rfl | hx
        · exact ⟨b, hb⟩
        · exact mapOpt_get hbs x hx
      · cases h
    · cases h

theorem places_some : ∀ (fs : List Field), (∀ f ∈ fs, ∃ i, P.info? f.type = some i) →
    ∃ pl, fs.mapM (fun f => (P.info? f.type).map fun i => (f.offset, i.size)) = some pl ∧ pl.length = fs.length ∧ ∀ (i : Nat) (f : Field), fs[i]? = some f → pl[i]? = some (f.offset, P.cellsOf f.type)
  | [], _ => ⟨[], by simp, rfl, fun i f h => by simp at h⟩
  | f :: fs, h => by
    obtain ⟨i, hi⟩ := h f (by simp)
    obtain ⟨pl, h1, h2, h3⟩ := places_some fs (fun f hf => h f (by simp [hf]))
    refine ⟨(f.offset, i.size) :: pl, by simp [List.mapM_cons, hi, h1], by simp [h2], fun j g hj => ?_⟩
    cases j with
    | zero => simp at hj; subst hj; simp [Program.cellsOf, hi]
    | succ j => simpa using h3 j g (by simpa using hj)

theorem compBuild_sound {how : How} {t : TypeId} {ps : Array (Nat × Operand)} (hr : (compBuild C how d t ps).run F.G = some (es, is)) (h : Here F clk C es a w) (henv : I.dens D F.env is = some env') (hP : C.P = P)
    (hop : o.op = .build t ps) (hdst : o.dst = some d) (hK : OpPost F clk C es env' w K) : o.wp P a w K Q' := by
  subst hP
  simp only [compBuild, Q.run_bind', Q.run_ofOption] at hr
  cases ht : tyOf C.P deep t with
  | none => rw [ht] at hr; simp at hr
  | some τ =>
    rw [ht] at hr
    have hrow := tyOf_row ht
    simp only [Option.bind_some] at hr
    split at hr
    case h_2 => simp [Q.run] at hr
    rename_i fs hu
    simp only [Q.run_bind'] at hr
    cases hl : (partsOf C how t fs ps.toList (τ.leaves.map fun t => .new (zeroCst t))).run F.G with
    | none => rw [hl] at hr; simp at hr
    | some l =>
      rw [hl] at hr
      simp only [Option.bind_some, Q.run_guard] at hr
      split at hr
      case isFalse => simp at hr
      rename_i hln
      have hln : l.length = τ.n := by simpa using hln
      simp only [Option.bind_some] at hr
      rcases hrow.desc with ⟨fs', ts, hu', h2, hp, hfit, fuel, hmo⟩ | hx
      · rw [hu] at hu'
        simp at hu'
        subst hu'
        have hpair := pairUp_pair h2 hp
        obtain ⟨pl, p1, p2, p3⟩ := places_some (P := C.P) fs.toList (fun f hf => by
          obtain ⟨y, hy⟩ := mapOpt_get hmo f hf
          obtain ⟨i, z, hi, _⟩ := (tyOf_row hy).info
          exact ⟨i, hi⟩)
        obtain ⟨cells', k1, k2, k3⟩ := partsOf_run h (place := (pl.toArray[·]?)) (fun i fd hf => by
          have := p3 i fd (by simpa using hf)
          simpa using this) (cells := (τ.leaves.map fun t => (zeroCst t).val).toArray) hl (by simp) (fun i h1 h2 => by simp [SrcOk])
        obtain ⟨it, z, hi, _, _, hz, hzv⟩ := hrow.info
        have hzc : z.cells = (τ.leaves.map fun t => (zeroCst t).val).toArray := by rw [zeroVal_cells hzv]; exact zeroCells_eq τ
        have hrun : (execOp a.eval o).run C.P w = .ok (.value (mkVal τ.isPair cells'.toList)) w := by
          have hb : C.P.built t (ps.map fun (i, x) => (i, a.eval x)).toList = some cells' := by
            unfold Program.built
            simp only [hi, hu, hz, p1, hzc]
            rw [← k1]
            simp
          have := run_build w t (ps.map fun (i, x) => (i, a.eval x)) cells' hb
          simp only [execOp, hop]
          rw [run_then C.P _ _ this, hpair]
          simp [mkVal]
        exact (putLeaves_run hr).soundPl (vs := cells'.toList) h (by simpa using k2) (fun i h1 h2 => by simpa using k3 i h1 (by simpa using h2)) henv hrun hdst (by simp; omega) Ty.n_one hK
      · rcases hx with ⟨k, hx, _⟩ | ⟨hx, _⟩ | ⟨hx, _⟩ | ⟨e, σ, hx, _⟩ <;> rw [hu] at hx <;> simp at hx

end
end Go.Lf

/- Soundness, eighteenth part: new slices. -/
namespace Go.Lf

section
variable {F : Fr} {clk : Clk} {C : Cfg} {d : Nat} {st : ES} {es : List (Nat × Ent)} {is : List I} {a : Act} {w : World} {P : Program} {o : Oper}
  {K : Act → World → Prop} {Q' : Exit → Act → World → Prop} {D : Nat → List Dyn → Option (List Dyn)} {env' : Env} {V : Value}

/-- What an operation leaves behind of leaves that were given away. -/
def Gone (F : Fr) (mv : Nat → List Nat → Option (Option (List Nat))) (k : Nat) (e : Ent) : Prop :=
  e.st = .no ∨ (e.st = .va ∧ (∃ m org v, (F.G k).st = .ro m org ∧ F.cell k v ∧ LeafOk F k (.ro m org) v) ∧ ∀ q, mv k q = some none)

theorem newSlice_sound {pre : List (Nat × Ent)} {m : M} (p : GenOut F C d (.pl 1 false) pre [.ro m none] es) (h : Here F clk C es a w) {e : Ty} {xs : List e.T} (hd : env' (lk d 0) = ⟨.slice e, xs⟩)
    (henv : ∀ k, k ∉ keysOf es → env' k = F.env k) (henvp : ∀ k ∈ keysOf pre, k / 16 ≠ d → env' k = F.env k) {w' : World} {c2 : Array Value} {ty : TypeId} {mv : Nat → List Nat → Option (Option (List Nat))}
    (hw : w'.heap = w.heap.push (.cells c2 ty (0, 0))) (hos : w'.os = w.os) (htape : w'.tape = w.tape) (hout : w'.output = w.output) (hrun : (execOp a.eval o).run P w = .ok (.value V) w') (hdst : o.dst = some d)
    (hmv : ∀ k q, k ∉ keysOf pre → mv k q = none) (hpre : ∀ k e, lastOf pre k = some e → Gone F mv k e) (hplain : ∀ x ∈ pre, x.2.st.older (clk.add C.ver))
    (hrd : Rd (F.H.push (.cells c2 ty (0, 0))) (fun b => if b = F.H.size then .own [lk d 0] else relabP mv F.lab b) (.sl .own m) [lk d 0] [V] (.slice e) xs)
    (hK : OpPost F clk C es env' w K) : o.wp P a w K Q' := by
  unfold Oper.wp
  rw [hrun]
  simp only [Oper.upon, hdst]
  let F' : Fr := { tmps := F.tmps.setIfInBounds d V, H := F.H.push (.cells c2 ty (0, 0)), lab := fun b => if b = F.H.size then .own [lk d 0] else relabP mv F.lab b, env := env', G := F.G.sets es, org := F.org }
  obtain ⟨hrel, hvd, hvs⟩ := h.rel.put2 p.nt V F' w' rfl (by show F.H.push _ = w'.heap; rw [h.rel.H, hw])
  have hold : ∀ (b : Nat) (o : Obj), F.H[b]? = some o → F'.H[b]? = some o := by
    intro b ob hb
    have := heap_lt hb
    show (F.H.push _)[b]? = _
    rw [Array.getElem?_push, if_neg (by omega)]; exact hb
  have hlab : ∀ b, b < F.H.size → F'.lab b = relabP mv F.lab b := by
    intro b hb
    show (if b = F.H.size then _ else _) = _
    rw [if_neg (by omega)]
  have hkk : ∀ k, k ∉ keysOf es → k ∉ keysOf pre := fun k hk hp => hk ((p.keys k).2 (.inl hp))
  have hsk : ∀ s, sk s ∉ keysOf pre := fun s hp => by have := p.no15 _ hp; unfold sk at this; omega
  refine hK F' _ w' hrel rfl rfl ⟨hos, htape, hout, by show _ ≤ (F.H.push _).size; simp, fun b o ho hl => ⟨hold b o ho, by rw [hlab b (heap_lt ho)]; exact relabP_imm hl⟩, fun b o ho hl => ⟨hold b o ho, by rw [hlab b (heap_lt ho)]; exact relabP_frn hl⟩, rfl⟩ ?_
  refine p.state h.st h.ver h.ch h.chD h.chC (F' := F') rfl henv rfl hvs ?_ ?_ ?_ ?_ ?_ trivial ?_ ?_ ?_ ?_
  · exact fun b ob ho hl => ⟨hold b ob ho, by rw [hlab b (heap_lt ho)]; exact relabP_shared hl⟩
  · exact fun b ob ho hl => ⟨hold b ob ho, by rw [hlab b (heap_lt ho)]; exact relabP_frn hl⟩
  · exact fun b ob k q ho hl _ hk => ⟨hold b ob ho, by rw [hlab b (heap_lt ho)]; exact relabP_own hl (hmv k q (hkk k hk))⟩
  · exact fun s b c ty _ _ hl hb => ⟨c, hold b _ hb, by rw [hlab b (heap_lt hb)]; exact relabP_own hl (hmv _ _ (hsk s)), rfl, fun _ _ => rfl⟩
  · intro b hb
    have hb' : F.H.size + 1 ≤ b := by have : (F.H.push (.cells c2 ty (0, 0))).size ≤ b := hb; simpa using this
    show (if b = F.H.size then _ else _) = _
    rw [if_neg (by omega)]
    exact relabP_imm (h.st.labs b (by omega))
  · intro e he; simp at he; subst he; trivial
  · -- entries ahead are never references
    exact hplain
  · intro T s cs' j v hsd hcs hv hk
    have hj15 : j < 15 := by
      have := (List.getElem?_eq_some_iff.1 hv).1; have := hcs.2
      rcases Nat.lt_or_ge j 15 with h | h
      · exact h
      · omega
    have hG : F'.G (lk s j) = F.G.sets pre (lk s j) := p.ent_pre (by rw [lk_div (by omega)]; exact hsd)
    have hE : F'.env (lk s j) = F.env (lk s j) := henvp _ hk (by rw [lk_div (by omega)]; exact hsd)
    rw [hG, GT.sets_eq]
    cases hl : lastOf pre (lk s j) with
    | none => exact absurd hk (lastOf_none.1 hl)
    | some e0 =>
      simp only [Option.getD_some]
      have hsks : sk s ∉ keysOf es := by
        intro hk2
        rcases (p.keys _).1 hk2 with h1 | ⟨i, h1, h2⟩ | h1 | ⟨i, h1, h2⟩
        · exact hsk s h1
        · have := p.old; by_cases hi15 : i = 15
          · omega
          · exact lk_sk (by omega) h2.symm
        · exact hsd (sk_inj.1 h1)
        · simp at h1; subst h1; exact lk_sk (by omega) h2.symm
      rcases hpre _ _ hl with h1 | ⟨h1, ⟨m0, org, v0, g1, g2, g3⟩, g4⟩
      · rw [h1]; trivial
      · rw [h1]
        obtain ⟨cs, hh, hcv⟩ := g2
        rw [lk_div (by omega), lk_mod (by omega)] at *
        have hsame : F'.has s cs := Fr.has_same (T.ent _ hsks) (hvs s hsd) (fun b o ho _ => hold b o ho) (fun b o ho hl => (T.shr b o ho hl).2) T.frn
          (fun b o ho hl => by rw [hlab b (heap_lt ho)]; exact relabP_own hl (hmv _ _ (hsk s))) hh
        rw [Fr.has_fun hcs hsame, hcv] at hv
        obtain rfl : _ = v := Option.some.inj hv
        simp only [LeafOk] at g3 ⊢
        rw [hE]
        exact g3.1.share (relabP_share g4 (fun b o ho _ => hold b o ho) hlab)
  · intro T
    rw [claim_leafy rfl]
    refine ⟨[V], ⟨?_, by simp⟩, fun j v hj => ?_⟩
    · have : (F'.G (sk d)) = ⟨C.ver, C.ch, .pl 1 false⟩ := p.ent_sk
      rw [this, hvd]
      exact ⟨rfl, rfl, fun _ => rfl⟩
    · have hj0 : j = 0 := by
        have := (List.getElem?_eq_some_iff.1 hj).1; simp at this; exact this
      subst hj0
      simp at hj
      subst hj
      have : (F'.G (lk d 0)) = ⟨C.ver, [], .ro m none⟩ := p.ent_lk (j := 0) (by simp)
      rw [this]
      refine ⟨?_, fun p hp => by cases hp⟩
      have hE : F'.env (lk d 0) = ⟨.slice e, xs⟩ := hd
      rw [hE]
      exact hrd

/-- A zero datum. -/
theorem zero_rd {H : Array Obj} {lab : Nat → Lab} : ∀ (τ : Ty) (pos : List Nat), Rd H lab τ.ownd pos (τ.leaves.map fun t => (zeroCst t).val) τ τ.zero := by
  intro τ
  induction τ with
  | pair a b iha ihb =>
    intro pos
    simp only [Ty.ownd, Rd, Ty.leaves, List.map_append, Ty.zero]
    have hl : (a.leaves.map fun t => (zeroCst t).val).length = a.n := by simp [Ty.leaves_len]
    refine ⟨?_, ?_⟩
    · rw [List.take_append_of_le_length (by omega), List.take_of_length_le (by omega)]; exact iha _
    · rw [List.drop_append, List.drop_eq_nil_of_le (by omega), List.nil_append, hl, Nat.sub_self, List.drop_zero]; exact ihb _
  | slice e ih =>
    intro pos
    simp only [Ty.ownd, Rd, Ty.leaves, Ty.zero]
    exact ⟨none, 0, rfl, trivial, rfl⟩
  | _ => intro pos; simp [Ty.ownd, Rd, Ty.leaves, Ty.zero, zeroCst, Cst.val]

theorem made_cut {z : List Value} (hz : 0 < z.length) {n i : Nat} (hi : i < n) : cut (madeCells z.toArray (n * z.length)) (0 + i * z.length) z.length = z := by
  have hle : (i + 1) * z.length ≤ n * z.length := Nat.mul_le_mul_right _ (by omega)
  rw [Nat.add_mul] at hle
  apply List.ext_getElem?
  intro j
  simp only [cut, Nat.zero_add]
  by_cases hj : j < z.length
  · rw [List.getElem?_take_of_lt hj, List.getElem?_drop]
    simp only [madeCells, Array.toList_map, List.getElem?_map, Array.toList_range, List.getElem?_range (show i * z.length + j < n * z.length by omega)]
    rw [List.getElem?_eq_getElem hj]
    simp only [Option.map_some, Option.some.injEq, List.size_toArray]
    rw [Nat.add_comm, Nat.mul_comm, Nat.add_mul_mod_self_left, Nat.mod_eq_of_lt hj]
    simp [hj]
  · rw [List.getElem?_eq_none (by simp; omega), List.getElem?_eq_none (by omega)]

theorem compMake_sound {t : TypeId} {x y : Operand} (hr : (compMake C d t x y).run F.G = some (es, is)) (h : Here F clk C es a w) (henv : I.dens D F.env is = some env') (hP : C.P = P)
    (hop : o.op = .makeSlice t x y) (hdst : o.dst = some d) (hK : OpPost F clk C es env' w K) : o.wp P a w K Q' := by
  subst hP
  simp only [compMake, Q.run_bind', Q.run_ofOption] at hr
  cases he : elemTy C.P t with
  | none => rw [he] at hr; simp at hr
  | some e =>
    rw [he] at hr
    obtain ⟨et, hu, hrow⟩ := elemTy_row he
    simp only [Option.bind_some, Q.run_guard] at hr
    split at hr
    case isFalse => simp at hr
    simp only [Option.bind_some] at hr
    cases h1 : (scalar C.ch x).run F.G with
    | none => rw [h1] at hr; simp at hr
    | some u =>
      rw [h1] at hr
      simp only [Option.bind_some] at hr
      cases h2 : (scalar C.ch y).run F.G with
      | none => rw [h2] at hr; simp at hr
      | some v =>
        rw [h2] at hr
        simp only [Option.bind_some] at hr
        have hx := scalar_run h.st h.ch h.rel h1
        have hy := scalar_run h.st h.ch h.rel h2
        cases u <;> cases v <;> simp only [Q.run, Q.run_bind', Q.run_guard, reduceCtorEq] at hr
        rename_i i j
        split at hr
        case isFalse => simp at hr
        rename_i hij
        have hij : i = j := by simpa using hij
        subst hij
        simp only [Option.bind_some] at hr
        obtain ⟨p, his⟩ := put1_run hr
        subst his
        obtain ⟨z, hz, hE⟩ := set1_inv (dens1 henv)
        simp only [Od.rd] at hz
        generalize hU : F.env i = U at hz
        obtain ⟨τ, n⟩ := U
        cases τ <;> simp only [mkD, reduceCtorEq] at hz
        rename_i kd
        split at hz
        case isFalse => simp at hz
        rename_i hn
        simp only [Option.some.injEq] at hz
        subst hz
        have hX := hx.int (by simpa [Od.rd] using hU)
        have hY := hy.int (by simpa [Od.rd] using hU)
        obtain ⟨it, zv, hi, hsz, hby, hzr, hzv⟩ := hrow.info
        have hzc : zv.cells = (e.leaves.map fun t => (zeroCst t).val).toArray := by rw [zeroVal_cells hzv]; exact zeroCells_eq e
        have hzl : (e.leaves.map fun t => (zeroCst t).val).length = e.n := by simp [Ty.leaves_len]
        have hroom : (id n : Int) < 68719476736 := hn.2
        have hn0 : (0 : Int) ≤ (id n : Int) := hn.1
        simp only [id] at hroom hn0
        have hmk := run_make (P := C.P) w t et it zv hu hi hzr kd kd n n hn0 (Int.le_refl _) (by
          have : (it.bytes : Int) * n ≤ 256 * n := Int.mul_le_mul_of_nonneg_right (by omega) hn0
          exact Int.le_trans this (by omega)) (by omega)
        have hrun : (execOp a.eval o).run C.P w = .ok (.value (.slice (some ⟨w.heap.size, 0, none⟩) n.toNat n.toNat)) (w.alloc (.cells (madeCells zv.cells (n.toNat * it.size)) et)) := by
          simp only [execOp, hop, hX, hY]
          rw [run_then C.P _ _ hmk]; rfl
        refine newSlice_sound (w' := w.alloc (.cells (madeCells zv.cells (n.toNat * it.size)) et)) p h (e := e) (xs := List.replicate n.toNat e.zero) (mv := fun _ _ => none) (by rw [hE, Env.set_same]) (fun k hk => ?_) (fun k hk => by simp [keysOf] at hk) rfl rfl rfl rfl hrun hdst
          (fun _ _ _ => rfl) (fun k e hl => by simp [lastOf] at hl) (fun x hx => by simp at hx) ?_ hK
        · rw [hE, Env.set_ne]
          rintro rfl
          exact hk ((p.keys _).2 (.inr (.inr (.inr ⟨0, by simp, rfl⟩))))
        · simp only [Rd, List.length_replicate]
          refine ⟨some ⟨w.heap.size, 0, none⟩, n.toNat, rfl, .inr ⟨rfl, ?_, Nat.le_refl _, madeCells zv.cells (n.toNat * it.size), et, (0, 0), ?_, ?_, fun _ => rfl, fun i hi => ?_⟩⟩
          · simp [MdOk, h.rel.H]
          · simp only [← h.rel.H]; simp
          · simp [size_madeCells, hsz]
          · simp only [List.getElem_replicate]
            rw [hzc, hsz]
            have := made_cut (z := e.leaves.map fun t => (zeroCst t).val) (by rw [hzl]; exact e.n_pos) (n := n.toNat) (i := i) (by simpa using hi)
            rw [hzl] at this
            rw [this]
            exact zero_rd e _

end
end Go.Lf

/- Soundness, nineteenth part: parts of slices, slices out of rows. -/
namespace Go.Lf

/-- A bound of a cut. -/
def boundD (max : Nat) : Option Dyn → Nat → Option Nat
  | none, dflt => some dflt
  | some ⟨.int _, z⟩, _ => if 0 ≤ z ∧ z ≤ (max : Int) then some z.toNat else none
  | _, _ => none

theorem subD_some {t : Ty} {lo hi : Option Dyn} {A Y : Dyn} (h : subD t lo hi A = some Y) :
    ∃ (l : List t.T) (hh ll : Nat), A = ⟨.slice t, l⟩ ∧ boundD l.length hi l.length = some hh ∧ boundD hh lo 0 = some ll ∧ Y = ⟨.slice t, (l.take hh).drop ll⟩ := by
  obtain ⟨ta, va⟩ := A
  cases ta <;> simp only [subD, reduceCtorEq] at h
  rename_i e
  split at h
  case isFalse => simp at h
  rename_i he
  subst he
  cases hi with
  | none =>
    simp only at h
    cases lo with
    | none => simp only [Option.some.injEq] at h; exact ⟨va, _, 0, rfl, rfl, rfl, by rw [← h]; simp⟩
    | some z =>
      obtain ⟨tz, z⟩ := z
      cases tz <;> simp only [reduceCtorEq] at h
      split at h
      case isFalse => simp at h
      rename_i hz
      simp only [Option.some.injEq] at h
      exact ⟨va, _, z.toNat, rfl, rfl, by simp only [boundD]; rw [if_pos hz], h.symm⟩
  | some y =>
    obtain ⟨ty, y⟩ := y
    cases ty <;> simp only [reduceCtorEq] at h
    split at h
    · simp at h
    · rename_i hh hy
      split at hy
      case isFalse => simp at hy
      rename_i hyy
      simp only [Option.some.injEq] at hy
      subst hy
      cases lo with
      | none => simp only [Option.some.injEq] at h; exact ⟨va, _, 0, rfl, by simp only [boundD]; rw [if_pos hyy], rfl, by rw [← h]; simp⟩
      | some z =>
        obtain ⟨tz, z⟩ := z
        cases tz <;> simp only [reduceCtorEq] at h
        split at h
        case isFalse => simp at h
        rename_i hz
        simp only [Option.some.injEq] at h
        exact ⟨va, _, z.toNat, rfl, by simp only [boundD]; rw [if_pos hyy], by simp only [boundD]; rw [if_pos hz], h.symm⟩

theorem boundD_le {max dflt h : Nat} {x : Option Dyn} (hb : boundD max x dflt = some h) (hd : dflt ≤ max) : h ≤ max := by
  cases x with
  | none => simp [boundD] at hb; omega
  | some z =>
    obtain ⟨tz, z⟩ := z
    cases tz <;> simp only [boundD, reduceCtorEq] at hb
    split at hb
    · rename_i hz
      have hz2 : (id z : Int) ≤ (max : Int) := hz.2
      simp only [id] at hz2
      simp only [Option.some.injEq] at hb
      subst hb
      exact Int.toNat_le.2 hz2
    · simp at hb

section
variable {F : Fr} {clk : Clk} {C : Cfg} {d : Nat} {st : ES} {es : List (Nat × Ent)} {is : List I} {a : Act} {w : World} {P : Program} {o : Oper}
  {K : Act → World → Prop} {Q' : Exit → Act → World → Prop} {D : Nat → List Dyn → Option (List Dyn)} {env' : Env} {V : Value}

def OptOk (F : Fr) (a : Act) : Option Operand → Option Od → Prop
  | none, none => True
  | some x, some od => OdOk F od (a.eval x)
  | _, _ => False

theorem optScalar_run {ch : List (Nat × Bool)} (h : St F clk) (hch : holds F.env ch = true) {nt : Nat} (hrel : Rel F a w nt) {x : Option Operand} {od : Option Od}
    (hr : (optScalar ch x).run F.G = some od) : OptOk F a x od := by
  cases x with
  | none => simp only [optScalar, Q.run, Option.some.injEq] at hr; subst hr; trivial
  | some x =>
    simp only [optScalar, Q.run_bind'] at hr
    cases h1 : (scalar ch x).run F.G with
    | none => rw [h1] at hr; simp at hr
    | some u =>
      rw [h1] at hr
      simp only [Option.bind_some, Q.run, Option.some.injEq] at hr
      subst hr
      exact scalar_run h hch hrel h1

theorem bound_run {x : Option Operand} {od : Option Od} (hx : OptOk F a x od) {max dflt h y : Nat} {code : BoundsCode}
    (hb : boundD max (od.map (Od.rd F.env)) dflt = some h) (hy : max ≤ y) :
    (match x.map a.eval with | some v => Instr.sliceBound v y code | none => pure dflt : Sem Nat).run P w = .ok h w := by
  cases x with
  | none =>
    cases od with
    | none => simp [boundD] at hb; subst hb; rfl
    | some od => exact hx.elim
  | some x =>
    cases od with
    | none => exact hx.elim
    | some od =>
      simp only [Option.map_some] at hb ⊢
      simp only [OptOk] at hx
      generalize hU : od.rd F.env = U at hb
      obtain ⟨tz, z⟩ := U
      cases tz <;> simp only [boundD, reduceCtorEq] at hb
      split at hb
      case isFalse => simp at hb
      rename_i hz
      simp only [Option.some.injEq] at hb
      have hV := hx.int hU
      rw [hV]
      have hz1 : (0 : Int) ≤ (id z : Int) := hz.1
      have hz2 : (id z : Int) ≤ (max : Int) := hz.2
      simp only [id] at hz1 hz2
      have : (0 : Int) ≤ z ∧ z ≤ (y : Int) := ⟨hz1, Int.le_trans hz2 (by omega)⟩
      unfold Instr.sliceBound
      rw [run_then P _ _ (x := (_, z)) (w' := w) rfl]
      simp only [this, and_self, if_true]
      rw [← hb]; rfl

theorem compSlice_sound {t : TypeId} {x : Operand} {lo hi mx : Option Operand} (hr : (compSlice C d t x lo hi mx).run F.G = some (es, is)) (h : Here F clk C es a w) (henv : I.dens D F.env is = some env') (hP : C.P = P)
    (hop : o.op = .slice t x lo hi mx) (hdst : o.dst = some d) (hK : OpPost F clk C es env' w K) : o.wp P a w K Q' := by
  subst hP
  simp only [compSlice, Q.run_bind', Q.run_ofOption, Q.run_guard] at hr
  split at hr
  case isFalse => simp at hr
  rename_i hmx
  have hmx : mx = none := by simpa using hmx
  subst hmx
  simp only [Option.bind_some] at hr
  cases he : elemTy C.P t with
  | none => rw [he] at hr; simp at hr
  | some e =>
    rw [he] at hr
    obtain ⟨et, hu, hrow⟩ := elemTy_row he
    simp only [Option.bind_some] at hr
    cases hs : (seen C.ch x).run F.G with
    | none => rw [hs] at hr; simp at hr
    | some kl =>
      obtain ⟨k, l⟩ := kl
      rw [hs] at hr
      simp only [Option.bind_some] at hr
      obtain ⟨rfl, hc, hl, _⟩ := seen_run h.st h.ch h.rel hs
      split at hr
      case isFalse => simp at hr
      rename_i hva
      have hva : (F.G k).st = .va := by simpa using hva
      simp only [Option.bind_some] at hr
      cases h1 : (optScalar C.ch lo).run F.G with
      | none => rw [h1] at hr; simp at hr
      | some lo' =>
        rw [h1] at hr
        simp only [Option.bind_some] at hr
        cases h2 : (optScalar C.ch hi).run F.G with
        | none => rw [h2] at hr; simp at hr
        | some hi' =>
          rw [h2] at hr
          simp only [Option.bind_some] at hr
          have hlo := optScalar_run h.st h.ch h.rel h1
          have hhi := optScalar_run h.st h.ch h.rel h2
          obtain ⟨_, his⟩ := put1_run hr
          subst his
          obtain ⟨z, hz, hE⟩ := set1_inv (dens1 henv)
          obtain ⟨xs, hh, ll, hA, hb1, hb2, rfl⟩ := subD_some hz
          simp only [Od.rd] at hA
          rw [hva] at hl
          simp only [LeafOk] at hl
          rw [hA] at hl
          simp only [Ty.shr, Rd] at hl
          obtain ⟨ad, cap, hV, hl⟩ := hl
          simp only [List.cons.injEq, and_true] at hV
          have hcap : xs.length ≤ cap := by
            cases ad with
            | none => rw [hl.1]; simp
            | some q =>
              rcases hl with ⟨h1, _⟩ | ⟨_, _, h1, _⟩
              · rw [h1]; simp
              · exact h1
          have hhl := boundD_le hb1 (Nat.le_refl _)
          have hll := boundD_le hb2 (Nat.zero_le _)
          have hrun : (execOp a.eval o).run C.P w = .ok (.value (.slice (if cap = ll then ad else ad.map (·.add (ll * e.n))) (hh - ll) (cap - ll))) w := by
            have hS : (Instr.sliceBounds true xs.length cap (lo.map a.eval) (hi.map a.eval) none).run C.P w = .ok (ll, hh, cap) w := by
              have b1 := bound_run (P := C.P) (w := w) (code := .sliceAcap) hhi hb1 hcap
              have b2 := bound_run (P := C.P) (w := w) (code := .sliceB) hlo hb2 (Nat.le_refl _)
              clear hK hr henv hhi hlo h1 h2
              cases hi <;> cases lo <;> simp only [Option.map_none, Option.map_some, Sem.run_pure, Result.ok.injEq, and_true] at b1 b2 ⊢ <;> simp [Instr.sliceBounds, b1, b2]
            have : (Instr.sliceAt t (a.eval x) (lo.map a.eval) (hi.map a.eval) none).run C.P w = .ok (.slice (if cap = ll then ad else ad.map (·.add (ll * e.n))) (hh - ll) (cap - ll)) w := by
              rw [hV]
              unfold Instr.sliceAt
              rw [run_then C.P _ _ (run_underlying hu w)]
              simp only
              unfold Instr.slice
              rw [run_then C.P _ _ (run_underlying hu w)]
              simp only
              rw [run_then C.P _ _ hS]
              simp only
              rw [run_then C.P _ _ (hrow.sizeOf w)]
              rfl
            simp only [execOp, hop, Option.map_none]
            rw [run_then C.P _ _ this]; rfl
          refine put1_sound hr h trivial hE hrun hdst (fun F' hF hH hsh => ?_) hK
          simp only [LeafOk]
          rw [hF]
          refine Rd.shared hsh (p := []) ?_
          have hlen : ((xs.take hh).drop ll).length = hh - ll := by simp; omega
          simp only [Ty.shr, Rd]
          refine ⟨if cap = ll then ad else ad.map (·.add (ll * e.n)), cap - ll, by rw [hlen], ?_⟩
          by_cases hcl : cap = ll
          · rw [if_pos hcl]
            have hnil : (xs.take hh).drop ll = [] := List.eq_nil_of_length_eq_zero (by omega)
            cases ad with
            | none => exact ⟨hnil, by omega⟩
            | some q => exact .inl ⟨hnil, by omega⟩
          · rw [if_neg hcl]
            cases ad with
            | none => obtain ⟨h1, h2⟩ := hl; subst h1; simp at hhl; omega
            | some q =>
              rcases hl with ⟨h1, h2⟩ | ⟨hsp, hsh2, hle, c, ty, fr, hH2, hsz, _, hel⟩
              · subst h1; simp at hhl; omega
              · obtain ⟨b, off, sp⟩ := q
                simp only at hsp hsh2 hH2 hsz hel
                subst hsp
                simp only [Option.map_some, add_lit]
                refine .inr ⟨trivial, hsh2, by rw [hlen]; omega, c, ty, fr, hH2, ?_, by simp, fun i hi => ?_⟩
                · have : (cap - ll) * e.n + ll * e.n = cap * e.n := by rw [← Nat.add_mul]; congr 1; omega
                  omega
                · rw [hlen] at hi
                  have hR := hel (ll + i) (by omega)
                  have hg : ((xs.take hh).drop ll)[i]'(by omega) = xs[ll + i]'(by omega) := by simp
                  rw [hg]
                  have : off + ll * e.n + i * e.n = off + (ll + i) * e.n := by rw [Nat.add_mul]; omega
                  rw [this]
                  exact hR.isShr (shr_isShr _) _

end
end Go.Lf

/- Soundness, twentieth part: slices out of rows. -/
namespace Go.Lf

theorem unflat_types : ∀ {τ : Ty} {ds rest : List Dyn} {x : τ.T}, unflat τ ds = some (x, rest) → ∀ j (h0 : j < τ.n) (h1 : j < ds.length), ds[j].τ = τ.leaves[j]'(by rw [Ty.leaves_len]; exact h0) := by
  intro τ
  induction τ with
  | pair a b iha ihb =>
    intro ds rest x h j h0 h1
    have hlen : ∀ {τ : Ty} {ds rest : List Dyn} {x : τ.T}, unflat τ ds = some (x, rest) → rest = ds.drop τ.n := by
      intro τ
      induction τ with
      | pair a b iha ihb =>
        intro ds rest x h
        simp only [unflat] at h
        split at h
        case h_2 => simp at h
        rename_i xa l1 ha
        split at h
        case h_2 => simp at h
        rename_i xb l2 hb
        simp only [Option.some.injEq, Prod.mk.injEq] at h
        rw [← h.2, ihb hb, iha ha, List.drop_drop]
        rfl
      | _ =>
        intro ds rest x h
        cases ds with
        | nil => simp [unflat] at h
        | cons dd ds =>
          simp only [unflat] at h
          split at h
          case isFalse => simp at h
          simp only [Option.some.injEq, Prod.mk.injEq] at h
          rw [← h.2]
          simp [Ty.n]
    simp only [unflat] at h
    split at h
    case h_2 => simp at h
    rename_i xa l1 ha
    split at h
    case h_2 => simp at h
    rename_i xb l2 hb
    have hl1 := hlen ha
    subst hl1
    simp only [Ty.n] at h0
    by_cases hj : j < a.n
    · simp only [Ty.leaves]
      rw [List.getElem_append_left (by rw [Ty.leaves_len]; exact hj)]
      exact iha ha j hj h1
    · simp only [Ty.leaves]
      rw [List.getElem_append_right (by rw [Ty.leaves_len]; omega)]
      have := ihb hb (j - a.n) (by omega) (by simp; omega)
      simp only [List.getElem_drop] at this
      simp only [Ty.leaves_len]
      rw [← this]
      congr 2; omega
  | _ =>
    intro ds rest x h j h0 h1
    cases ds with
    | nil => simp at h1
    | cons dd ds =>
      simp only [unflat] at h
      split at h
      case isFalse => simp at h
      rename_i ht
      simp only [Ty.n] at h0
      have hj : j = 0 := by omega
      subst hj
      simpa [Ty.leaves] using ht

theorem mode_fits {F : Fr} {s : Src} {v : Value} {t : Ty} {m : M} (hs : SrcOk F s v) (h : s.mode t = some m) (ht : (s.od.rd F.env).τ = t) : fitsMode t s m = true := by
  cases s with
  | cpy k em =>
    cases em with
    | false => simp only [Src.mode, Option.some.injEq] at h; subst h; simp [fitsMode]
    | true =>
      simp only [Src.mode, Option.some.injEq] at h
      subst h
      obtain ⟨_, a, e, _, he⟩ := hs
      simp only [Src.od, Od.rd] at ht
      rw [he] at ht
      simp only at ht
      subst ht
      rfl
  | als k kv k0 => simp [Src.mode] at h
  | tak k m' org => simp only [Src.mode, Option.some.injEq] at h; subst h; simp [fitsMode]
  | lek k => simp only [Src.mode, Option.some.injEq] at h; subst h; simp [fitsMode]
  | new c =>
    cases c <;> simp only [Src.mode, Option.some.injEq] at h <;> subst h <;> try rfl
    simp only [Src.od, Od.rd, Cst.dyn] at ht
    subst ht
    rfl

theorem modesOf_get : ∀ {ts : List Ty} {l : List Src} {ms : List M}, modesOf ts l = some ms → ts.length = l.length ∧ ms.length = l.length ∧
    ∀ i (h1 : i < ts.length) (h2 : i < l.length) (h3 : i < ms.length), l[i].mode ts[i] = some ms[i]
  | [], [], ms, h => by simp [modesOf] at h; subst h; exact ⟨rfl, rfl, fun i h => by simp at h⟩
  | t :: ts, s :: ss, ms, h => by
    simp only [modesOf] at h
    split at h
    · rename_i m hm
      split at h
      · rename_i ms' hms
        simp only [Option.some.injEq] at h
        subst h
        obtain ⟨a, b, c⟩ := modesOf_get hms
        refine ⟨by simp [a], by simp [b], fun i h1 h2 h3 => ?_⟩
        cases i with
        | zero => exact hm
        | succ i => exact c i (by simpa using h1) (by simpa using h2) (by simpa using h3)
      · cases h
    · cases h
  | [], _ :: _, _, h => by simp [modesOf] at h
  | _ :: _, [], _, h => by simp [modesOf] at h

theorem rowsMode_get {e : Ty} : ∀ {rows : List (List Src)} {m : M}, rowsMode e rows = some m → ∀ r ∈ rows, ∃ ms, modesOf e.leaves r = some ms ∧ mUnflat e ms = some (m, [])
  | [], m, h => by simp [rowsMode] at h
  | [r], m, h => by
    intro r' hr'
    simp only [List.mem_singleton] at hr'
    subst hr'
    simp only [rowsMode, Option.bind_eq_some_iff] at h
    obtain ⟨ms, h1, h2⟩ := h
    refine ⟨ms, h1, ?_⟩
    unfold mBuild at h2
    split at h2
    · rename_i m' hm; simp at h2; subst h2; exact hm
    · cases h2
  | r :: r2 :: rs, m, h => by
    simp only [rowsMode] at h
    split at h
    · rename_i m1 m2 h1 h2
      split at h
      · rename_i hm
        simp only [Option.some.injEq] at h
        subst h
        subst hm
        intro r' hr'
        rcases List.mem_cons.1 hr' with rfl | hr'
        · simp only [Option.bind_eq_some_iff] at h1
          obtain ⟨ms, h1, h3⟩ := h1
          refine ⟨ms, h1, ?_⟩
          unfold mBuild at h3
          split at h3
          · rename_i m' hm; simp at h3; subst h3; exact hm
          · cases h3
        · exact rowsMode_get h2 r' hr'
      · cases h
    · cases h

theorem rowsD_get {e : Ty} {env : Env} : ∀ {rows : List (List Od)} {xs : List e.T}, rowsD e env rows = some xs → xs.length = rows.length ∧
    ∀ i (h1 : i < rows.length) (h2 : i < xs.length), unflat e (rows[i].map (Od.rd env)) = some (xs[i], [])
  | [], xs, h => by simp [rowsD] at h; subst h; exact ⟨rfl, fun i h => by simp at h⟩
  | r :: rs, xs, h => by
    simp only [rowsD] at h
    split at h
    · rename_i x hx
      split at h
      · rename_i xs' hxs
        simp only [Option.some.injEq] at h
        subst h
        obtain ⟨a, b⟩ := rowsD_get hxs
        refine ⟨by simp [a], fun i h1 h2 => ?_⟩
        cases i with
        | zero =>
          simp only [List.getElem_cons_zero]
          unfold build at hx
          split at hx
          · rename_i z hz; simp at hx; subst hx; exact hz
          · cases hx
        | succ i => exact b i (by simpa using h1) (by simpa using h2)
      · cases h
    · cases h

theorem takenKeys_append (a b : List Src) : takenKeys (a ++ b) = takenKeys a ++ takenKeys b := by
  induction a with
  | nil => rfl
  | cons s a ih => cases s <;> simp [takenKeys, ih]

theorem takenKeys_flatten (rows : List (List Src)) : takenKeys rows.flatten = rows.flatMap takenKeys := by
  induction rows with
  | nil => rfl
  | cons r rs ih => simp [takenKeys_append, ih]

theorem ents_flatten (rows : List (List Src)) (v : Nat) : rows.flatMap (·.flatMap (Src.ents v)) = rows.flatten.flatMap (Src.ents v) := by
  induction rows with
  | nil => rfl
  | cons r rs ih => simp [ih]

theorem flatten_get {α : Type} {n : Nat} : ∀ {rows : List (List α)}, (∀ r ∈ rows, r.length = n) → rows.flatten.length = rows.length * n ∧
    ∀ i j (h1 : i < rows.length) (h2 : j < n), rows.flatten[i * n + j]? = rows[i][j]?
  | [], _ => ⟨by simp, fun i j h => by simp at h⟩
  | r :: rs, h => by
    obtain ⟨a, b⟩ := flatten_get (n := n) (rows := rs) (fun r hr => h r (by simp [hr]))
    have hr := h r (by simp)
    refine ⟨by simp only [List.flatten_cons, List.length_append, a, hr, List.length_cons, Nat.add_mul]; omega, fun i j h1 h2 => ?_⟩
    cases i with
    | zero =>
      simp only [Nat.zero_mul, Nat.zero_add, List.flatten_cons, List.getElem_cons_zero]
      rw [List.getElem?_append_left (by omega)]
    | succ i =>
      simp only [List.flatten_cons, List.getElem_cons_succ]
      rw [List.getElem?_append_right (by rw [hr, Nat.add_mul]; omega), ← b i j (by simpa using h1) h2]
      congr 1
      rw [hr, Nat.add_mul]; omega

section
variable {F : Fr} {clk : Clk} {C : Cfg} {d : Nat} {st : ES} {es : List (Nat × Ent)} {is : List I} {a : Act} {w : World} {P : Program} {o : Oper}
  {K : Act → World → Prop} {Q' : Exit → Act → World → Prop} {D : Nat → List Dyn → Option (List Dyn)} {env' : Env} {V : Value}

theorem rowsOf_run (h : Here F clk C es a w) {how : How} {et : TypeId} {n : Nat} : ∀ {ps : List (Nat × Operand)} {i0 : Nat} {rows : List (List Src)} {cells : Array Value},
    (rowsOf C how et i0 ps).run F.G = some rows → (∀ r ∈ rows, r.length = n) → (i0 + ps.length) * n ≤ cells.size →
    ∃ cells' : Array Value, Instr.fill (fun i => some (i * n, n)) cells (ps.map fun p => (p.1, a.eval p.2)) = some cells' ∧ cells'.size = cells.size ∧ rows.length = ps.length ∧
      (∀ q, q < i0 * n → cells'[q]? = cells[q]?) ∧ ∀ q (hq : q < rows.flatten.length), ∃ v, cells'[i0 * n + q]? = some v ∧ SrcOk F rows.flatten[q] v
  | [], i0, rows, cells, hr, _, _ => by
    simp only [rowsOf, Q.run, Option.some.injEq] at hr
    subst hr
    exact ⟨cells, rfl, rfl, rfl, fun _ _ => rfl, fun q hq => by simp at hq⟩
  | (j, x) :: ps, i0, rows, cells, hr, hn, hsz => by
    simp only [rowsOf, Q.run_bind', Q.run_guard] at hr
    split at hr
    case isFalse => simp at hr
    rename_i hij
    have hij : i0 = j := by simpa using hij
    subst hij
    simp only [Option.bind_some] at hr
    cases hv : (valSrcs C how et x).run F.G with
    | none => rw [hv] at hr; simp at hr
    | some r =>
      obtain ⟨l, agg⟩ := r
      rw [hv] at hr
      simp only [Option.bind_some] at hr
      cases hrest : (rowsOf C how et (i0 + 1) ps).run F.G with
      | none => rw [hrest] at hr; simp at hr
      | some rest =>
        rw [hrest] at hr
        simp only [Option.bind_some, Q.run, Option.some.injEq] at hr
        subst hr
        obtain ⟨vs, hx, hlen, hagg, hsrc⟩ := valSrcs_run h.st h.ch hv h.rel
        have hone : OneCells vs := by
          intro v hm
          obtain ⟨i, hi, rfl⟩ := List.mem_iff_getElem.1 hm
          exact cell_one (hsrc i (by omega) hi)
        have hc := mkVal_cells hagg hone
        have hln : l.length = n := hn l (by simp)
        have hmul : (i0 + 1) * n = i0 * n + n := by rw [Nat.add_mul]; omega
        simp only [List.length_cons] at hsz
        have hsz' : (i0 + 1 + ps.length) * n ≤ cells.size := by rw [show i0 + 1 + ps.length = i0 + (ps.length + 1) by omega]; exact hsz
        have hsz2 : (i0 + 1) * n ≤ (i0 + 1 + ps.length) * n := Nat.mul_le_mul_right _ (by omega)
        obtain ⟨cells1, g1, g2, g3⟩ := fill_step (place := fun i => some (i * n, n)) (i := i0) (off := i0 * n) (size := n) (cells := cells) (rest := ps.map fun p => (p.1, a.eval p.2)) (v := a.eval x) (vs := vs) rfl (by rw [hx]; exact hc) (by omega) (by omega)
        obtain ⟨cells', k1, k2, k3, k4, k5⟩ := rowsOf_run h (cells := cells1) hrest (fun r hr => hn r (by simp [hr])) (by rw [g2]; exact hsz')
        refine ⟨cells', by rw [List.map_cons, g1]; exact k1, by rw [k2, g2], by simp [k3], fun q hq => ?_, fun q hq => ?_⟩
        · rw [k4 q (by omega), g3, if_neg (by omega)]
        · simp only [List.flatten_cons, List.length_append] at hq
          by_cases hql : q < l.length
          · refine ⟨vs[q], ?_, ?_⟩
            · rw [k4 _ (by omega), g3, if_pos ⟨by omega, by omega⟩, show i0 * n + q - i0 * n = q by omega, List.getElem?_eq_getElem]
            · simp only [List.flatten_cons]
              rw [List.getElem_append_left hql]
              exact hsrc q hql (by omega)
          · obtain ⟨v, hv1, hv2⟩ := k5 (q - l.length) (by omega)
            refine ⟨v, ?_, ?_⟩
            · rw [← hv1]; congr 1; omega
            · simp only [List.flatten_cons]
              rw [List.getElem_append_right (by omega)]
              exact hv2

/-- An operation that yields one leaf, and makes a block that nobody minds. -/
theorem put1New_sound {is0 : List I} (hr : (put1 C d st is0).run F.G = some (es, is)) (h : Here F clk C es a w) (hold : st.older (clk.add C.ver)) {x : Dyn} (hx : env' = F.env.set (lk d 0) x) {w' : World} {ob : Obj}
    (hw : w'.heap = w.heap.push ob) (hos : w'.os = w.os) (htape : w'.tape = w.tape) (hout : w'.output = w.output)
    (hrun : (execOp a.eval o).run P w = .ok (.value V) w') (hdst : o.dst = some d)
    (hleaf : ∀ F' : Fr, F'.env (lk d 0) = x → LeafOk F' (lk d 0) st V)
    (hK : OpPost F clk C es env' w K) : o.wp P a w K Q' := by
  obtain ⟨p, rfl⟩ := put1_run hr
  unfold Oper.wp
  rw [hrun]
  simp only [Oper.upon, hdst]
  let F' : Fr := { tmps := F.tmps.setIfInBounds d V, H := F.H.push ob, lab := F.lab, env := env', G := F.G.sets es, org := F.org }
  obtain ⟨hrel, hvd, hvs⟩ := h.rel.put2 p.nt V F' w' rfl (by show F.H.push _ = w'.heap; rw [h.rel.H, hw])
  have hk0 : lk d 0 ∈ keysOf es := (p.keys _).2 (.inr (.inr (.inr ⟨0, by simp, rfl⟩)))
  have holdH : ∀ (b : Nat) (o : Obj), F.H[b]? = some o → F'.H[b]? = some o := by
    intro b ob' hb
    have := heap_lt hb
    show (F.H.push _)[b]? = _
    rw [Array.getElem?_push, if_neg (by omega)]; exact hb
  refine hK F' _ w' hrel rfl rfl ⟨hos, htape, hout, by show _ ≤ (F.H.push _).size; simp, fun b o ho hl => ⟨holdH b o ho, hl⟩, fun b o ho hl => ⟨holdH b o ho, hl⟩, rfl⟩ ?_
  refine p.state h.st h.ver h.ch h.chD h.chC (F' := F') rfl (fun k hk => ?_) rfl hvs (fun b o ho hl => ⟨holdH b o ho, hl⟩) (fun b o ho hl => ⟨holdH b o ho, hl⟩) (fun b o k q ho hl _ _ => ⟨holdH b o ho, hl⟩)
    (fun s b c ty _ _ hl hb => ⟨c, holdH b _ hb, hl, rfl, fun _ _ => rfl⟩) (fun b hb => h.st.labs b (by have : (F.H.push ob).size ≤ b := hb; simp at this; omega)) trivial (fun e he => by simp at he; subst he; exact hold) (fun x hx => by simp at hx) (fun T s cs' j v _ _ _ hk => by simp [keysOf] at hk) ?_
  · show env' k = F.env k
    rw [hx, Env.set_ne]
    intro he; subst he; exact hk hk0
  · intro T
    rw [claim_leafy rfl]
    refine ⟨[V], ⟨?_, by simp⟩, fun j v hj => ?_⟩
    · have : (F'.G (sk d)) = ⟨C.ver, C.ch, .pl 1 false⟩ := p.ent_sk
      rw [this, hvd]
      exact ⟨rfl, rfl, fun _ => rfl⟩
    · have hj0 : j = 0 := by
        have := (List.getElem?_eq_some_iff.1 hj).1; simp at this; exact this
      subst hj0
      simp at hj
      subst hj
      have : (F'.G (lk d 0)) = ⟨C.ver, [], st⟩ := p.ent_lk (j := 0) (by simp)
      rw [this]
      exact hleaf F' (by show env' (lk d 0) = x; rw [hx, Env.set_same])

theorem compBuildSlice_sound {how : How} {t : TypeId} {n : Nat} {ps : Array (Nat × Operand)} (hr : (compBuildSlice C how d t n ps).run F.G = some (es, is)) (h : Here F clk C es a w) (henv : I.dens D F.env is = some env') (hP : C.P = P)
    (hop : o.op = .buildSlice t n ps) (hdst : o.dst = some d) (hK : OpPost F clk C es env' w K) : o.wp P a w K Q' := by
  subst hP
  simp only [compBuildSlice, Q.run_bind', Q.run_ofOption] at hr
  cases he : elemTy C.P t with
  | none => rw [he] at hr; simp at hr
  | some e =>
    rw [he] at hr
    obtain ⟨et, hu, hrow⟩ := elemTy_row he
    simp only [Option.bind_some, hu] at hr
    by_cases hn0 : n = 0
    · subst hn0
      simp only [if_true, Q.run_bind', Q.run_guard] at hr
      split at hr
      case isFalse => simp at hr
      rename_i hps
      have hps : ps = #[] := by simpa using hps
      subst hps
      simp only [Option.bind_some] at hr
      obtain ⟨p, his⟩ := put1_run hr
      subst his
      have hE : env' = F.env.set (lk d 0) ⟨.slice e, []⟩ := by
        have := dens1 henv
        simp only [I.den, Od.rd, Cst.dyn, Option.some.injEq] at this
        exact this.symm
      refine put1New_sound (w' := { w with heap := w.heap.push (.cells #[] et (0, 0)) }) hr h trivial hE rfl rfl rfl rfl ?_ hdst (V := .slice (some ⟨w.heap.size, 0, none⟩) 0 0) (fun F' hF => ⟨_, _, rfl, hF⟩) hK
      simp only [execOp, hop]
      simp [Instr.buildSlice, run_underlying hu, hrow.sizeOf, Instr.fill, newRow]
      congr 2
      exact Array.eq_empty_of_size_eq_zero (by simp)
    · simp only [if_neg hn0, Q.run_bind', Q.run_guard, Q.run_ofOption] at hr
      split at hr
      case isFalse => simp at hr
      rename_i hg
      simp only [Bool.and_eq_true, decide_eq_true_eq, beq_iff_eq] at hg
      obtain ⟨⟨_, hpn⟩, h24⟩ := hg
      simp only [Option.bind_some] at hr
      cases hro : (rowsOf C how et 0 ps.toList).run F.G with
      | none => rw [hro] at hr; simp at hr
      | some rows =>
        rw [hro] at hr
        simp only [Option.bind_some] at hr
        cases hm : rowsMode e rows with
        | none => rw [hm] at hr; simp at hr
        | some m =>
          rw [hm] at hr
          simp only [Option.bind_some] at hr
          split at hr
          case isFalse => simp at hr
          rename_i hg2
          simp only [Bool.and_eq_true, List.all_eq_true, bne_iff_ne, ne_eq] at hg2
          obtain ⟨hnd, htk⟩ := hg2
          simp only [Option.bind_some] at hr
          cases hse : (slotEnts C d (.pl 1 false) [.ro m none]).run F.G with
          | none => rw [hse] at hr; simp at hr
          | some es' =>
            rw [hse] at hr
            simp only [Option.bind_some, Q.run, Option.some.injEq, Prod.mk.injEq] at hr
            obtain ⟨rfl, rfl⟩ := hr
            have hmodes := rowsMode_get hm
            have hrl : ∀ r ∈ rows, r.length = e.n := by
              intro r hr
              obtain ⟨ms, h1, _⟩ := hmodes r hr
              rw [← (modesOf_get h1).1, Ty.leaves_len]
            let zeros : Array Value := madeCells (e.leaves.map fun t => (zeroCst t).val).toArray (n * e.n)
            obtain ⟨cells', k1, k2, k3, _, k5⟩ := rowsOf_run h (n := e.n) (cells := zeros) hro hrl (by simp [zeros, size_madeCells]; rw [hpn]; exact Nat.le_refl _)
            have hrn : rows.length = n := by rw [k3]; simpa using hpn
            obtain ⟨fl1, fl2⟩ := flatten_get hrl
            rw [hrn] at fl1
            have hc's : cells'.size = n * e.n := by rw [k2]; simp [zeros, size_madeCells]
            simp only [Nat.zero_mul, Nat.zero_add] at k5
            rw [← takenKeys_flatten] at hnd htk
            have hL : rows.flatten.length = cells'.toList.length := by simp [fl1, hc's]
            have hsrcL : ∀ i (h1 : i < rows.flatten.length) (h2 : i < cells'.toList.length), SrcOk F rows.flatten[i] cells'.toList[i] := by
              intro i h1 h2
              obtain ⟨v, hv1, hv2⟩ := k5 i h1
              have : cells'.toList[i] = v := by
                have := (Array.getElem?_eq_some_iff.1 hv1).2
                simpa using this
              rw [this]; exact hv2
            have hrun : (execOp a.eval o).run C.P w = .ok (.value (.slice (some ⟨w.heap.size, 0, none⟩) n n)) { w with heap := w.heap.push (.cells cells' et (0, 0)) } := by
              have hz := hrow.zero w
              have hzc := zeroCells_eq e
              have hne : ¬ (n * e.n = 0) := Nat.mul_ne_zero hn0 (by have := e.n_pos; omega)
              have hfill : Instr.fill (fun i => some (i * e.n, e.n)) zeros (ps.toList.map fun p => (p.1, a.eval p.2)) = some cells' := k1
              have h24' : ¬ (2 ^ 24 < n * e.n) := by simpa using h24
              simp only [execOp, hop]
              simp [zeros, madeCells] at hfill
              simp [Instr.buildSlice, run_underlying hu, hrow.sizeOf, h24', hne, hz, hzc, newRow, hfill]
            let dst : Nat → List Nat := fun q => [lk d 0, q / e.n] ++ (e.paths[q % e.n]?).getD []
            have htl := taken_lt hL hsrcL
            have hent : rows.flatMap (·.flatMap (Src.ents C.ver)) = rows.flatten.flatMap (Src.ents C.ver) := ents_flatten rows C.ver
            rw [hent] at h hK
            have p := slotEnts_gen hse (rows.flatten.flatMap (Src.ents C.ver)) (fun x hx => (srcEnts_facts (c := fun _ => True) x hx).1) (fun k hk => htl k (mem_srcEnts.1 hk))
            have hden := dens1 henv
            simp only [I.den] at hden
            cases hrd : rowsD e F.env (rows.map (·.map Src.od)) with
            | none => rw [hrd] at hden; simp at hden
            | some xs =>
              rw [hrd] at hden
              simp only [Option.some.injEq] at hden
              obtain ⟨x1, x2⟩ := rowsD_get hrd
              have hxn : xs.length = n := by rw [x1]; simpa using hrn
              refine newSlice_sound (env' := env') (w' := { w with heap := w.heap.push (.cells cells' et (0, 0)) }) p h (e := e) (xs := xs) (mv := mvAt dst 0 rows.flatten) (by rw [← hden, Env.set_same]) (fun k hk => ?_) (fun k hk hkd => ?_) rfl rfl rfl rfl hrun hdst
                (fun k q hk => mvAt_none fun ht => hk (mem_srcEnts.2 ht)) (fun k e0 hl => ?_) (fun x hx => (srcEnts_facts x hx).2) ?_ hK
              · rw [← hden, Env.set_ne]
                rintro rfl
                exact hk ((p.keys _).2 (.inr (.inr (.inr ⟨0, by simp, rfl⟩))))
              · rw [← hden, Env.set_ne]
                rintro rfl
                exact hkd (lk_div (by omega))
              · rcases srcEnts_last hl with rfl | ⟨rfl, i, hi, hx⟩
                · exact .inl rfl
                · have hs := hsrcL i hi (by omega)
                  rw [hx] at hs
                  obtain ⟨m0, org, g1, g2, g3⟩ := hs
                  exact .inr ⟨rfl, ⟨m0, org, _, g1, g2, g3⟩, fun q => (mvAt_some (dst := dst) (j := 0) hi hnd).2 k q hx⟩
              · let H' := F.H.push (.cells cells' et (0, 0))
                let lab' : Nat → Lab := fun b => if b = F.H.size then .own [lk d 0] else relabP (mvAt dst 0 rows.flatten) F.lab b
                have holdH : ∀ (b : Nat) (o : Obj), F.H[b]? = some o → H'[b]? = some o := by
                  intro b ob' hb
                  have := heap_lt hb
                  show (F.H.push _)[b]? = _
                  rw [Array.getElem?_push, if_neg (by omega)]; exact hb
                have hlab : ∀ b, b < F.H.size → lab' b = relabP (mvAt dst 0 rows.flatten) F.lab b := by
                  intro b hb
                  show (if b = F.H.size then _ else _) = _
                  rw [if_neg (by omega)]
                have hsh : ∀ (b : Nat) (o : Obj), F.H[b]? = some o → (F.lab b).shared → H'[b]? = some o ∧ (lab' b).shared :=
                  fun b o ho hl => ⟨holdH b o ho, by rw [hlab b (heap_lt ho)]; exact relabP_shared hl⟩
                simp only [Rd, hxn]
                refine ⟨some ⟨w.heap.size, 0, none⟩, n, rfl, .inr ⟨rfl, ?_, Nat.le_refl _, cells', et, (0, 0), ?_, ?_, fun _ => rfl, fun i hi => ?_⟩⟩
                · simp [MdOk, h.rel.H]
                · simp only [← h.rel.H]; simp
                · rw [hc's]; simp
                · have hir : i < rows.length := by omega
                  have hri := hrl _ (List.getElem_mem hir)
                  obtain ⟨ms, hms, hmu⟩ := hmodes _ (List.getElem_mem hir)
                  obtain ⟨mg1, mg2, mg3⟩ := modesOf_get hms
                  have hb := x2 i (by simpa using hir) (by omega)
                  simp only [List.getElem_map] at hb
                  have hle : i * e.n + e.n ≤ cells'.size := by
                    have : (i + 1) * e.n ≤ n * e.n := Nat.mul_le_mul_right _ (by omega)
                    rw [Nat.add_mul] at this; omega
                  have hcl : (cut cells' (0 + i * e.n) e.n).length = e.n := cut_length (by omega)
                  have := Rd.build (H := H') (lab := lab') (τ := e) (pos := [lk d 0, i]) (ds := (rows[i].map Src.od).map (Od.rd F.env)) (rest := []) (ms := ms) (mrest := []) (vs := cut cells' (0 + i * e.n) e.n) (x := xs[i]) (m := m)
                    hb hmu (by omega) (fun j h0 h1 h2 h3 => ?_)
                  · have h5 := this.1
                    rwa [List.take_of_length_le (by omega)] at h5
                  · have hjr : j < rows[i].length := by omega
                    have hq := fl2 i j hir h0
                    have hql : i * e.n + j < rows.flatten.length := by rw [fl1]; omega
                    rw [List.getElem?_eq_getElem hql, List.getElem?_eq_getElem hjr] at hq
                    have hq' := Option.some.inj hq
                    have hs := hsrcL (i * e.n + j) hql (by omega)
                    rw [hq'] at hs
                    have hvj : (cut cells' (0 + i * e.n) e.n)[j] = cells'.toList[i * e.n + j]'(by omega) := by
                      simp [cut]
                    rw [hvj]
                    have hty := unflat_types hb j h0 h1
                    have hdj : ((rows[i].map Src.od).map (Od.rd F.env))[j] = (rows[i][j]).od.rd F.env := by simp
                    rw [hdj] at hty ⊢
                    have hmode := mode_fits hs (mg3 j (by rw [Ty.leaves_len]; exact h0) hjr (by omega)) hty
                    have hpath : dst (i * e.n + j) = [lk d 0, i] ++ e.paths[j]'(by rw [Ty.paths_len]; exact h0) := by
                      show [lk d 0, (i * e.n + j) / e.n] ++ (e.paths[(i * e.n + j) % e.n]?).getD [] = _
                      have hen := e.n_pos
                      rw [show (i * e.n + j) / e.n = i by rw [Nat.add_comm, Nat.add_mul_div_right _ _ hen, Nat.div_eq_of_lt h0]; omega,
                        show (i * e.n + j) % e.n = j by rw [Nat.add_comm, Nat.add_mul_mod_self_right, Nat.mod_eq_of_lt h0], List.getElem?_eq_getElem (by rw [Ty.paths_len]; exact h0)]
                      rfl
                    have hmvj := mvAt_some (dst := dst) (j := 0) hql hnd
                    rw [hq'] at hmvj
                    let F2 : Fr := { F with H := H', lab := lab' }
                    refine Src.place (F' := F2) hs hmode hty hsh (fun k' m' org' hx => ?_) (fun k' hx => ?_)
                    · refine relabP_carry (mv := mvAt dst 0 rows.flatten) (p0 := []) (fun s0 => ?_) (fun g ob hg _ => holdH g ob hg) hlab
                      have := hmvj.1 k' m' org' s0 hx
                      simp only [Nat.zero_add] at this
                      rw [hpath] at this
                      simpa using this
                    · exact relabP_share (fun s0 => hmvj.2 k' s0 hx) (fun g ob hg _ => holdH g ob hg) hlab

end
end Go.Lf

/- Soundness, twenty-first part: append. -/
namespace Go.Lf

theorem noOwn_isShr : ∀ {m : M}, m.noOwn = true → m.isShr = true := by
  intro m
  induction m with
  | sc => intro _; rfl
  | pair a b iha ihb => intro h; simp only [M.noOwn, M.isShr, Bool.and_eq_true] at h ⊢; exact ⟨iha h.1, ihb h.2⟩
  | sl md e ih => intro h; simp only [M.noOwn, M.isShr, Bool.and_eq_true] at h ⊢; exact ⟨h.1, ih h.2⟩

theorem Rd.sharedM {H H' : Array Obj} {lab lab' : Nat → Lab} (hs : ∀ b o, H[b]? = some o → (lab b).shared → H'[b]? = some o ∧ (lab' b).shared) :
    ∀ {m : M} {τ : Ty} {p p' : List Nat} {cs : List Value} {x : τ.T}, m.isShr = true → Rd H lab m p cs τ x → Rd H' lab' m p' cs τ x := by
  intro m
  induction m with
  | pair ma mb iha ihb =>
    intro τ p p' cs x hm h
    simp only [M.isShr, Bool.and_eq_true] at hm
    cases τ <;> simp only [Rd] at h ⊢
    exact ⟨iha hm.1 h.1, ihb hm.2 h.2⟩
  | sc => intro τ p p' cs x _ h; cases τ <;> simp only [Rd] at h ⊢ <;> exact h
  | sl md m ih =>
    intro τ p p' cs x hm h
    simp only [M.isShr, Bool.and_eq_true, beq_iff_eq] at hm
    obtain ⟨rfl, hm2⟩ := hm
    cases τ <;> simp only [Rd] at h ⊢
    obtain ⟨ad, cap, rfl, h⟩ := h
    refine ⟨ad, cap, rfl, ?_⟩
    cases ad with
    | none => exact h
    | some q =>
      rcases h with h | h
      · exact .inl h
      refine .inr ?_
      obtain ⟨h1, hm, hl, c, ty, fr, hb, hsz, hfr, hel⟩ := h
      have key := hs _ _ hb hm
      exact ⟨h1, key.2, hl, c, ty, fr, key.1, hsz, by simp, fun i hi => ih hm2 (hel i hi)⟩

/-- The cells of a slice's elements. -/
structure RowOf (H : Array Obj) (lab : Nat → Lab) (m : M) (pos : List Nat) (V : Value) (e : Ty) (xs : List e.T) (cells : List Value) : Prop where
  len : cells.length = xs.length * e.n
  run : ∀ (P : Program) (w : World), w.heap = H → (Builtin.firstCells e.n xs.length V).run P w = .ok cells.toArray w
  el : ∀ i (h : i < xs.length), Rd H lab m (pos ++ [i]) ((cells.drop (i * e.n)).take e.n) e xs[i]
  one : OneCells cells

theorem rowOf {H : Array Obj} {lab : Nat → Lab} {md : Md} {m : M} {pos : List Nat} {V : Value} {e : Ty} {xs : List e.T} (h : Rd H lab (.sl md m) pos [V] (.slice e) xs) : ∃ cells, RowOf H lab m pos V e xs cells := by
  simp only [Rd] at h
  obtain ⟨ad, cap, hV, h⟩ := h
  simp only [List.cons.injEq, and_true] at hV
  have nil : xs = [] → ∃ cells, RowOf H lab m pos V e xs cells := by
    intro hx
    subst hx
    refine ⟨[], by simp, fun P w _ => ?_, fun i h => by simp at h, fun v hv => by simp at hv⟩
    rw [hV]
    cases ad with
    | none => simp [Builtin.firstCells]
    | some p => simp [Builtin.firstCells, loadCells, loadCellsFrom]
  cases ad with
  | none => exact nil h.1
  | some p =>
    rcases h with h | ⟨hsp, _, hle, c, ty, fr, hb, hsz, _, hel⟩
    · exact nil h.1
    · obtain ⟨b, off, sp⟩ := p
      simp only at hsp hb hsz hel
      subst hsp
      have hmul : xs.length * e.n ≤ cap * e.n := Nat.mul_le_mul_right _ hle
      have hcl : (cut c off (xs.length * e.n)).length = xs.length * e.n := cut_length (by omega)
      have hel' : ∀ i (h : i < xs.length), ((cut c off (xs.length * e.n)).drop (i * e.n)).take e.n = cut c (off + i * e.n) e.n := by
        intro i hi
        have : (i + 1) * e.n ≤ xs.length * e.n := Nat.mul_le_mul_right _ hi
        rw [Nat.add_mul] at this
        unfold cut
        rw [List.drop_take, List.take_take, List.drop_drop]
        congr 1; omega
      refine ⟨cut c off (xs.length * e.n), hcl, fun P w hw => ?_, fun i hi => ?_, fun v hv => ?_⟩
      · rw [hV]
        have := run_loadCells_list (P := P) w ⟨b, off, none⟩ (cut c off (xs.length * e.n)) (fun j v hv => by
          rw [add_lit, cell_of_row w b (off + j) c ty fr (by rw [hw]; exact hb)]
          unfold cut at hv
          have hj : j < xs.length * e.n := by have := (List.getElem?_eq_some_iff.1 hv).1; simp at this; omega
          rw [List.getElem?_take_of_lt hj, List.getElem?_drop] at hv
          simpa using hv)
        rw [hcl] at this
        simpa [Builtin.firstCells] using this
      · rw [hel' i hi]
        exact hel i hi
      · obtain ⟨q, hq, rfl⟩ := List.mem_iff_getElem.1 hv
        have hen := e.n_pos
        have hqi : q / e.n < xs.length := Nat.div_lt_of_lt_mul (by rw [hcl] at hq; rw [Nat.mul_comm]; exact hq)
        have := (hel _ hqi).ones
        refine this _ ?_
        rw [← hel' _ hqi]
        have hqm := Nat.mod_lt q hen
        have hdm := Nat.div_add_mod q e.n
        refine List.mem_iff_getElem.2 ⟨q % e.n, ?_, ?_⟩
        · simp only [List.length_take, List.length_drop, hcl]
          have : (q / e.n + 1) * e.n ≤ xs.length * e.n := Nat.mul_le_mul_right _ hqi
          rw [Nat.add_mul] at this
          omega
        · simp only [List.getElem_take, List.getElem_drop]
          congr 1
          rw [Nat.mul_comm]; exact hdm

section
variable {P : Program} {w : World}

theorem append_grow {t ty et : TypeId} {e : Ty} (hu : P.underlying t = some (.slice et)) (hrow : TyRow P et e) {base : Option Addr} {sLen sCap n : Nat} {Vy : Value} {olds news : List Value}
    (ho : ∀ w' : World, w'.heap = w.heap → (Builtin.firstCells e.n sLen (.slice base sLen sCap)).run P w' = .ok olds.toArray w') (hn : ∀ w' : World, w'.heap = w.heap → (Builtin.firstCells e.n n Vy).run P w' = .ok news.toArray w')
    (hl : (Builtin.lenOf Vy).run P w = .ok n w) (hg : sCap < sLen + n) (hroom : sLen + n < 68719476736) :
    ∃ newCap rest, sLen + n ≤ newCap ∧ (rest : List Value).length = (newCap - (sLen + n)) * e.n ∧ (Builtin.append_ #[t, t] ty #[.slice base sLen sCap, Vy]).run P w =
      .ok (.slice (some ⟨w.heap.size, 0, none⟩) (sLen + n) newCap) (w.drew.alloc (.cells (olds ++ news ++ rest).toArray et)) := by
  obtain ⟨i, z, hi, hsz, hby, hz, hzv⟩ := hrow.info
  have hzc : z.cells = (e.leaves.map fun t => (zeroCst t).val).toArray := by rw [zeroVal_cells hzv]; exact zeroCells_eq e
  refine ⟨grownCap w (sLen + n) sCap et, (Builtin.zeroCells z.cells (grownCap w (sLen + n) sCap et - (sLen + n))).toList, grownCap_ge w _ _ _, ?_, ?_⟩
  · simp [size_zeroCells, hzc, Ty.leaves_len]
  · have h1 : ¬ (sLen + n ≤ sCap) := by omega
    have h2 : ¬ (9223372036854775807 < ((sLen : Int) + (n : Int))) := by omega
    have h3 : ¬ (281474976710656 < Builtin.nextslicecap (sLen + n) sCap * i.bytes) := by
      have h4 := nextslicecap_le hg
      have h5 : Builtin.nextslicecap (sLen + n) sCap * i.bytes ≤ (2 * (sLen + n)) * 256 := Nat.mul_le_mul h4 hby
      omega
    have ho' := ho w.drew rfl
    have hn' := hn w.drew rfl
    rw [← hsz] at ho' hn'
    simp [Builtin.append_, run_underlying hu, sizeOf, typeInfo, zeroValue, hi, hz, hl, h1, h2, h3, Question.forced, ho', hn', newRow, grownCap]
    congr 2
    apply Array.ext'
    simp

theorem append_fits {t ty et : TypeId} {e : Ty} (hu : P.underlying t = some (.slice et)) (hrow : TyRow P et e) {b off sLen sCap n : Nat} {Vy : Value} {news : List Value} {c : Array Value} {cty : TypeId}
    (hb : w.heap[b]? = some (.cells c cty (0, 0))) (hn : (Builtin.firstCells e.n n Vy).run P w = .ok news.toArray w) (hone : OneCells news) (hln : news.length = n * e.n)
    (hl : (Builtin.lenOf Vy).run P w = .ok n w) (hg : sLen + n ≤ sCap) (hsz : off + sCap * e.n ≤ c.size) :
    (Builtin.append_ #[t, t] ty #[.slice (some ⟨b, off, none⟩) sLen sCap, Vy]).run P w =
      .ok (.slice (some ⟨b, off, none⟩) (sLen + n) sCap) (w.setRow b (c.toList.take (off + sLen * e.n) ++ news ++ c.toList.drop (off + sLen * e.n + news.length)).toArray) := by
  obtain ⟨i, z, hi, hsz', _⟩ := hrow.info
  have hmul : (sLen + n) * e.n ≤ sCap * e.n := Nat.mul_le_mul_right _ hg
  rw [Nat.add_mul] at hmul
  have hst := run_storeCells_at (P := P) b (off + sLen * e.n) cty news 0 c w hb (by omega) hone
  simp only [Nat.add_zero] at hst
  rw [← hsz'] at hn hst ⊢
  simp [Builtin.append_, run_underlying hu, sizeOf, typeInfo, hi, hl, hg, hn, add_lit, hst]

theorem append_none {t ty et : TypeId} {e : Ty} (hu : P.underlying t = some (.slice et)) (hrow : TyRow P et e) {base : Option Addr} {Vy : Value}
    (hn : (Builtin.firstCells e.n 0 Vy).run P w = .ok #[] w) (hl : (Builtin.lenOf Vy).run P w = .ok 0 w) :
    (Builtin.append_ #[t, t] ty #[.slice base 0 0, Vy]).run P w = .ok (.slice base 0 0) w := by
  obtain ⟨i, z, hi, hsz', _⟩ := hrow.info
  rw [← hsz'] at hn
  cases base <;> simp [Builtin.append_, run_underlying hu, sizeOf, typeInfo, hi, hl, hn, storeCells]

end
end Go.Lf

/- Soundness, twenty-second part: append as an operation. -/
namespace Go.Lf

/-- Where what is owned goes when one slice is put behind another. -/
def mvApp (own yk : Option Nat) (d n : Nat) (here : Bool) (k : Nat) (q : List Nat) : Option (Option (List Nat)) :=
  if own = some k then
    match q with
    | [] => if here then some (some [lk d 0]) else some none
    | i :: q => some (some (lk d 0 :: i :: q))
  else if yk = some k then
    match q with
    | [] => some none
    | i :: q => some (some (lk d 0 :: (n + i) :: q))
  else none

section
variable {F : Fr} {clk : Clk} {C : Cfg} {d : Nat} {st : ES} {es : List (Nat × Ent)} {is : List I} {a : Act} {w : World} {P : Program} {o : Oper}
  {K : Act → World → Prop} {Q' : Exit → Act → World → Prop} {D : Nat → List Dyn → Option (List Dyn)} {env' : Env} {V : Value}

/-- An operation that yields a slice whose block was there before. -/
theorem oldSlice_sound {pre : List (Nat × Ent)} {m : M} (p : GenOut F C d (.pl 1 false) pre [.ro m none] es) (h : Here F clk C es a w) {e : Ty} {xs : List e.T} (hd : env' (lk d 0) = ⟨.slice e, xs⟩)
    (henv : ∀ k, k ∉ keysOf es → env' k = F.env k) {w' : World} {mv : Nat → List Nat → Option (Option (List Nat))} {own : Option Nat}
    (hos : w'.os = w.os) (htape : w'.tape = w.tape) (hout : w'.output = w.output) (hrun : (execOp a.eval o).run P w = .ok (.value V) w') (hdst : o.dst = some d)
    (hmv : ∀ k q, k ∉ keysOf pre → mv k q = none) (hpre : ∀ k e, lastOf pre k = some e → e.st = .no) (hplain : ∀ x ∈ pre, x.2.st.older (clk.add C.ver))
    (hown : ∀ k, own = some k → k ∈ keysOf pre) (hsz : w'.heap.size = w.heap.size)
    (hsame : ∀ (g : Nat) (ob : Obj), F.H[g]? = some ob → (∀ k, own = some k → F.lab g ≠ .own [k]) → w'.heap[g]? = some ob)
    (hrd : Rd w'.heap (relabP mv F.lab) (.sl .own m) [lk d 0] [V] (.slice e) xs)
    (hK : OpPost F clk C es env' w K) : o.wp P a w K Q' := by
  unfold Oper.wp
  rw [hrun]
  simp only [Oper.upon, hdst]
  let F' : Fr := { tmps := F.tmps.setIfInBounds d V, H := w'.heap, lab := relabP mv F.lab, env := env', G := F.G.sets es, org := F.org }
  obtain ⟨hrel, hvd, hvs⟩ := h.rel.put2 p.nt V F' w' rfl rfl
  have hkk : ∀ k, k ∉ keysOf es → k ∉ keysOf pre := fun k hk hp => hk ((p.keys k).2 (.inl hp))
  have hsk : ∀ s, sk s ∉ keysOf pre := fun s hp => by have := p.no15 _ hp; unfold sk at this; omega
  have hshr : ∀ (g : Nat) (ob : Obj), F.H[g]? = some ob → (F.lab g).shared → F'.H[g]? = some ob := by
    intro g ob hg hl
    refine hsame g ob hg fun k _ he => ?_
    rw [he] at hl; exact hl
  have hfr : ∀ (g : Nat) (ob : Obj), F.H[g]? = some ob → F.lab g = .own [] → F'.H[g]? = some ob ∧ F'.lab g = .own [] := by
    intro g ob hg hl
    refine ⟨hsame g ob hg fun k _ he => ?_, relabP_frn hl⟩
    rw [he] at hl; simp at hl
  refine hK F' _ w' hrel rfl rfl ⟨hos, htape, hout, by show F.H.size ≤ w'.heap.size; rw [hsz, h.rel.H]; exact Nat.le_refl _, fun b o ho hl => ⟨hshr b o ho (by rw [hl]; trivial), relabP_imm hl⟩, hfr, rfl⟩ ?_
  refine p.state h.st h.ver h.ch h.chD h.chC (F' := F') rfl henv rfl hvs ?_ hfr ?_ ?_ ?_ trivial ?_ hplain ?_ ?_
  · exact fun b ob ho hl => ⟨hshr b ob ho hl, relabP_shared hl⟩
  · refine fun b ob k q ho hl _ hk => ⟨hsame b ob ho fun k' hk' he => ?_, relabP_own hl (hmv k q (hkk k hk))⟩
    rw [hl] at he
    simp at he
    exact hkk k hk (by rw [he.1]; exact hown k' hk')
  · refine fun s b c ty _ _ hl hb => ⟨c, hsame b _ hb fun k hk he => ?_, relabP_own hl (hmv _ _ (hsk s)), rfl, fun _ _ => rfl⟩
    rw [hl] at he
    simp at he
    exact hsk s (by rw [he]; exact hown k hk)
  · intro b hb
    have hb' : w'.heap.size ≤ b := hb
    exact relabP_imm (h.st.labs b (by rw [h.rel.H]; omega))
  · intro e he; simp at he; subst he; trivial
  · intro T s cs' j v hsd hcs hv hk
    have hj15 : j < 15 := by
      have := (List.getElem?_eq_some_iff.1 hv).1; have := hcs.2
      rcases Nat.lt_or_ge j 15 with h | h
      · exact h
      · omega
    have hG : F'.G (lk s j) = F.G.sets pre (lk s j) := p.ent_pre (by rw [lk_div (by omega)]; exact hsd)
    rw [hG, GT.sets_eq]
    cases hl : lastOf pre (lk s j) with
    | none => exact absurd hk (lastOf_none.1 hl)
    | some e0 =>
      simp only [Option.getD_some]
      rw [hpre _ _ hl]; trivial
  · intro T
    rw [claim_leafy rfl]
    refine ⟨[V], ⟨?_, by simp⟩, fun j v hj => ?_⟩
    · have : (F'.G (sk d)) = ⟨C.ver, C.ch, .pl 1 false⟩ := p.ent_sk
      rw [this, hvd]
      exact ⟨rfl, rfl, fun _ => rfl⟩
    · have hj0 : j = 0 := by
        have := (List.getElem?_eq_some_iff.1 hj).1; simp at this; exact this
      subst hj0
      simp at hj
      subst hj
      have : (F'.G (lk d 0)) = ⟨C.ver, [], .ro m none⟩ := p.ent_lk (j := 0) (by simp)
      rw [this]
      refine ⟨?_, fun p hp => by cases hp⟩
      have hE : F'.env (lk d 0) = ⟨.slice e, xs⟩ := hd
      rw [hE]
      exact hrd

/-- The slice that grows. -/
def GrowOk (F : Fr) (own : Option (Nat × M)) (od : Od) (V : Value) : Prop :=
  match own with
  | none => ∃ ad e', V = .slice ad 0 0 ∧ od.rd F.env = ⟨.slice e', []⟩
  | some (k, m) => ∃ org, (F.G k).st = .ro m org ∧ F.cell k V ∧ LeafOk F k (.ro m org) V ∧ od.rd F.env = F.env k

/-- What comes behind it. -/
def BehindOk (F : Fr) (e : Ty) (ym : Option M) (k : Nat) (yk : Option Nat) (V : Value) : Prop :=
  match ym, yk with
  | none, none => ∃ ad e', V = .slice ad 0 0 ∧ F.env k = ⟨.slice e', []⟩
  | some m, none => m.isShr = true ∧ ((m = e.shr ∧ Rd F.H F.lab (F.env k).τ.shr [] [V] (F.env k).τ (F.env k).v) ∨ ∃ md pos, Rd F.H F.lab (.sl md m) pos [V] (F.env k).τ (F.env k).v)
  | some m, some k2 => ∃ org, (F.G k2).st = .ro m org ∧ F.cell k2 V ∧ LeafOk F k2 (.ro m org) V ∧ F.env k = F.env k2
  | none, some _ => False

theorem growing_run (h : Here F clk C es a w) {e : Ty} {x : Operand} {own : Option (Nat × M)} {od : Od} (hr : (growing C e x).run F.G = some (own, od)) :
    GrowOk F own od (a.eval x) := by
  have gen : (do let (k, l) ← seen C.ch x; match l.st with | .em => .ret (none, .k k) | _ => do let (k2, m, _) ← owner C.ch k l; .ret (some (k2, m), .k k) : Q (Option (Nat × M) × Od)).run F.G = some (own, od) →
      GrowOk F own od (a.eval x) := by
    intro hr
    simp only [Q.run_bind'] at hr
    cases hs : (seen C.ch x).run F.G with
    | none => rw [hs] at hr; simp at hr
    | some kl =>
      obtain ⟨k, l⟩ := kl
      rw [hs] at hr
      simp only [Option.bind_some] at hr
      obtain ⟨rfl, hc, hl, _⟩ := seen_run h.st h.ch h.rel hs
      have own2 : ((owner C.ch k (F.G k)).bind fun r => Q.ret (some (r.1, r.2.1), Od.k k)).run F.G = some (own, od) →
          GrowOk F own od (a.eval x) := by
        intro hr
        rw [Q.run_bind] at hr
        cases ho : (owner C.ch k (F.G k)).run F.G with
        | none => rw [ho] at hr; simp at hr
        | some r =>
          obtain ⟨k2, m, org⟩ := r
          rw [ho] at hr
          simp only [Option.bind_some, Q.run, Option.some.injEq, Prod.mk.injEq] at hr
          obtain ⟨rfl, rfl⟩ := hr
          obtain ⟨o1, o2, o3, o4⟩ := owner_run h.st h.ch ho hc hl
          exact ⟨org, o1, o2, o3, o4⟩
      cases hst : (F.G k).st <;> rw [hst] at hr
      case em =>
        simp only [Q.run, Option.some.injEq, Prod.mk.injEq] at hr
        obtain ⟨rfl, rfl⟩ := hr
        rw [hst] at hl
        obtain ⟨ad, e', hv, he⟩ := hl
        exact ⟨ad, e', hv, he⟩
      all_goals exact own2 hr
  unfold growing at hr
  split at hr
  · simp only [Q.run, Option.some.injEq, Prod.mk.injEq] at hr
    obtain ⟨rfl, rfl⟩ := hr
    exact ⟨none, e, rfl, rfl⟩
  · exact gen hr

theorem behind_run (h : Here F clk C es a w) {e : Ty} {y : Operand} {ym : Option M} {k : Nat} {yk : Option Nat} (hr : (behind C e y).run F.G = some (ym, k, yk)) :
    BehindOk F e ym k yk (a.eval y) := by
  simp only [behind, Q.run_bind'] at hr
  cases hs : (seen C.ch y).run F.G with
  | none => rw [hs] at hr; simp at hr
  | some kl =>
    obtain ⟨k', l⟩ := kl
    rw [hs] at hr
    simp only [Option.bind_some] at hr
    obtain ⟨rfl, hc, hl, _⟩ := seen_run h.st h.ch h.rel hs
    have own2 : ((owner C.ch k' (F.G k')).bind fun r => if r.2.1.noOwn then Q.ret (some r.2.1, k', none) else Q.ret (some r.2.1, k', some r.1)).run F.G = some (ym, k, yk) → BehindOk F e ym k yk (a.eval y) := by
      intro hr
      rw [Q.run_bind] at hr
      cases ho : (owner C.ch k' (F.G k')).run F.G with
      | none => rw [ho] at hr; simp at hr
      | some r =>
        obtain ⟨k2, m, org⟩ := r
        rw [ho] at hr
        obtain ⟨o1, o2, o3, o4⟩ := owner_run h.st h.ch ho hc hl
        simp only [Option.bind_some] at hr
        cases hno : m.noOwn with
        | true =>
          rw [hno] at hr
          simp only [if_true, Q.run, Option.some.injEq, Prod.mk.injEq] at hr
          obtain ⟨rfl, rfl, rfl⟩ := hr
          refine ⟨noOwn_isShr hno, .inr ⟨_, _, by rw [o4]; exact o3.1⟩⟩
        | false =>
          rw [hno] at hr
          simp only [Bool.false_eq_true, if_false, Q.run, Option.some.injEq, Prod.mk.injEq] at hr
          obtain ⟨rfl, rfl, rfl⟩ := hr
          exact ⟨org, o1, o2, o3, o4⟩
    cases hst : (F.G k').st <;> rw [hst] at hr
    case va =>
      simp only [Q.run, Option.some.injEq, Prod.mk.injEq] at hr
      obtain ⟨rfl, rfl, rfl⟩ := hr
      rw [hst] at hl
      exact ⟨shr_isShr e, .inl ⟨rfl, hl⟩⟩
    case em =>
      simp only [Q.run, Option.some.injEq, Prod.mk.injEq] at hr
      obtain ⟨rfl, rfl, rfl⟩ := hr
      rw [hst] at hl
      obtain ⟨ad, e', hv, he⟩ := hl
      exact ⟨ad, e', hv, he⟩
    all_goals exact own2 hr

theorem appD_some {t : Ty} {A B Z : Dyn} (h : appD t A B = some Z) : ∃ xs ys : List t.T, A = ⟨.slice t, xs⟩ ∧ B = ⟨.slice t, ys⟩ ∧ xs.length + ys.length < room ∧ Z = ⟨.slice t, xs ++ ys⟩ := by
  obtain ⟨ta, va⟩ := A
  obtain ⟨tb, vb⟩ := B
  cases ta <;> cases tb <;> simp only [appD, reduceCtorEq] at h
  rename_i e e'
  split at h
  case isFalse => simp at h
  rename_i h1
  subst h1
  split at h
  case isFalse => simp at h
  rename_i h2
  subst h2
  split at h
  case isFalse => simp at h
  rename_i h3
  simp only [Option.some.injEq] at h
  exact ⟨va, vb, rfl, rfl, h3, h.symm⟩

end
end Go.Lf

/- Soundness, twenty-third part: append, put together. -/
namespace Go.Lf

section
variable {F : Fr} {clk : Clk} {C : Cfg} {d : Nat} {st : ES} {es : List (Nat × Ent)} {is : List I} {a : Act} {w : World} {P : Program} {o : Oper}
  {K : Act → World → Prop} {Q' : Exit → Act → World → Prop} {D : Nat → List Dyn → Option (List Dyn)} {env' : Env} {V : Value}

theorem behind_el {e : Ty} {ym : Option M} {k : Nat} {yk : Option Nat} {V : Value} (hb : BehindOk F e ym k yk V) {own : Option (Nat × M)} {m : M} (hm : appMode own ym = some m) {ys : List e.T} (hy : F.env k = ⟨.slice e, ys⟩) :
    ∃ news : List Value, news.length = ys.length * e.n ∧ OneCells news ∧ (∀ (P : Program) (w : World), w.heap = F.H → (Builtin.firstCells e.n ys.length V).run P w = .ok news.toArray w) ∧
      (∀ (P : Program) (w : World), (Builtin.lenOf V).run P w = .ok ys.length w) ∧
      ∀ (H' : Array Obj) (lab' : Nat → Lab) (p' : Nat → List Nat), (∀ (b : Nat) (o : Obj), F.H[b]? = some o → (F.lab b).shared → H'[b]? = some o ∧ (lab' b).shared) →
        (∀ k2, yk = some k2 → ∀ i, Carry F.H H' F.lab lab' [k2, i] (p' i)) → ∀ i (h : i < ys.length), Rd H' lab' m (p' i) ((news.drop (i * e.n)).take e.n) e ys[i] := by
  have lenok : ∀ {md : Md} {m : M} {pos : List Nat}, Rd F.H F.lab (.sl md m) pos [V] (.slice e) ys → ∀ (P : Program) (w : World), (Builtin.lenOf V).run P w = .ok ys.length w := by
    intro md m pos h P w
    simp only [Rd] at h
    obtain ⟨ad, cap, hV, _⟩ := h
    simp only [List.cons.injEq, and_true] at hV
    rw [hV]; rfl
  have shared : ∀ {md : Md} {m' : M} {pos : List Nat}, m' = m → m'.isShr = true → Rd F.H F.lab (.sl md m') pos [V] (.slice e) ys → ∃ news : List Value, news.length = ys.length * e.n ∧ OneCells news ∧ (∀ (P : Program) (w : World), w.heap = F.H → (Builtin.firstCells e.n ys.length V).run P w = .ok news.toArray w) ∧
      (∀ (P : Program) (w : World), (Builtin.lenOf V).run P w = .ok ys.length w) ∧
      ∀ (H' : Array Obj) (lab' : Nat → Lab) (p' : Nat → List Nat), (∀ (b : Nat) (o : Obj), F.H[b]? = some o → (F.lab b).shared → H'[b]? = some o ∧ (lab' b).shared) →
        (∀ k2, yk = some k2 → ∀ i, Carry F.H H' F.lab lab' [k2, i] (p' i)) → ∀ i (h : i < ys.length), Rd H' lab' m (p' i) ((news.drop (i * e.n)).take e.n) e ys[i] := by
    intro md m' pos hm' hs hR
    subst hm'
    obtain ⟨news, R⟩ := rowOf hR
    exact ⟨news, R.len, R.one, R.run, lenok hR, fun H' lab' p' hsh _ i hi => (R.el i hi).sharedM hsh hs⟩
  unfold BehindOk at hb
  cases ym with
  | none =>
    cases yk with
    | some k2 => exact hb.elim
    | none =>
      obtain ⟨ad, e', rfl, he⟩ := hb
      rw [hy] at he
      simp only [Dyn.mk.injEq, Ty.slice.injEq] at he
      obtain ⟨rfl, he⟩ := he
      have he := eq_of_heq he
      subst he
      refine ⟨[], by simp, fun v hv => by simp at hv, fun P w _ => ?_, fun P w => rfl, fun H' lab' p' _ _ i h => by simp at h⟩
      cases ad <;> simp [Builtin.firstCells, loadCells, loadCellsFrom]
  | some m' =>
    have hmm : m' = m := by
      cases own with
      | none => simp [appMode] at hm; exact hm
      | some x =>
        obtain ⟨k1, m1⟩ := x
        simp only [appMode] at hm
        split at hm
        · rename_i h; simp at hm; rw [← h]; exact hm
        · cases hm
    cases yk with
    | none =>
      obtain ⟨hs, hb | ⟨md, pos, hb⟩⟩ := hb
      · rw [hy] at hb
        refine shared (md := .shr) (pos := []) hmm hs ?_
        rw [hb.1]
        exact hb.2
      · rw [hy] at hb
        exact shared hmm hs hb
    | some k2 =>
      obtain ⟨org, h1, h2, h3, h4⟩ := hb
      have hR := h3.1
      rw [← h4, hy] at hR
      subst hmm
      obtain ⟨news, R⟩ := rowOf hR
      exact ⟨news, R.len, R.one, R.run, lenok hR, fun H' lab' p' _ hc i hi => Rd.carry (hc k2 rfl i) (R.el i hi)⟩

theorem growing_el {e : Ty} {own : Option (Nat × M)} {od : Od} {V : Value} (hg : GrowOk F own od V) {ym : Option M} {m : M} (hm : appMode own ym = some m) {xs : List e.T} (hx : od.rd F.env = ⟨.slice e, xs⟩) :
    ∃ base cap, V = .slice base xs.length cap ∧ (∃ olds : List Value, olds.length = xs.length * e.n ∧ (∀ (P : Program) (w : World), w.heap = F.H → (Builtin.firstCells e.n xs.length V).run P w = .ok olds.toArray w) ∧
      ∀ (H' : Array Obj) (lab' : Nat → Lab) (p' : Nat → List Nat), (∀ k1 m1, own = some (k1, m1) → ∀ i, Carry F.H H' F.lab lab' [k1, i] (p' i)) → ∀ i (h : i < xs.length), Rd H' lab' m (p' i) ((olds.drop (i * e.n)).take e.n) e xs[i]) ∧
      ((xs = [] ∧ cap = 0) ∨ ∃ k1 b o c ty, own = some (k1, m) ∧ base = some ⟨b, o, none⟩ ∧ F.lab b = .own [k1] ∧ F.H[b]? = some (.cells c ty (0, 0)) ∧ o + cap * e.n ≤ c.size ∧ xs.length ≤ cap ∧
        ∀ i (h : i < xs.length), Rd F.H F.lab m [k1, i] (cut c (o + i * e.n) e.n) e xs[i]) := by
  unfold GrowOk at hg
  cases own with
  | none =>
    obtain ⟨ad, e', rfl, he⟩ := hg
    rw [hx] at he
    simp only [Dyn.mk.injEq, Ty.slice.injEq] at he
    obtain ⟨rfl, he⟩ := he
    have he := eq_of_heq he
    subst he
    refine ⟨ad, 0, rfl, ⟨[], by simp, fun P w _ => ?_, fun H' lab' p' _ i h => by simp at h⟩, .inl ⟨rfl, rfl⟩⟩
    cases ad <;> simp [Builtin.firstCells, loadCells, loadCellsFrom]
  | some x =>
    obtain ⟨k1, m1⟩ := x
    have hmm : m1 = m := by
      cases ym with
      | none => simp [appMode] at hm; exact hm
      | some m' =>
        simp only [appMode] at hm
        split at hm
        · simpa using hm
        · cases hm
    subst hmm
    obtain ⟨org, h1, h2, h3, h4⟩ := hg
    have hR := h3.1
    rw [← h4, hx] at hR
    obtain ⟨olds, R⟩ := rowOf hR
    have hR' := hR
    simp only [Rd] at hR'
    obtain ⟨ad, cap, hV, _⟩ := hR'
    simp only [List.cons.injEq, and_true] at hV
    refine ⟨ad, cap, hV, ⟨olds, R.len, R.run, fun H' lab' p' hc i hi => Rd.carry (hc k1 m1 rfl i) (R.el i hi)⟩, ?_⟩
    rw [hV] at hR
    obtain ⟨_, hb⟩ := Rd.block hR
    rcases hb with hb | ⟨hle, b, o, c, ty, ha, hlab, hH, hsz, hel⟩
    · exact .inl hb
    · exact .inr ⟨k1, b, o, c, ty, rfl, ha, hlab, hH, hsz, hle, fun i hi => by simpa using hel i hi⟩

theorem compAppend_sound {t : TypeId} {x y : Operand} (hr : (compAppend C d t x y).run F.G = some (es, is)) (h : Here F clk C es a w) (henv : I.dens D F.env is = some env') (hP : C.P = P)
    (hop : o.op = .call { callee := .builtin .append, args := #[x, y], argTypes := #[t, t] }) (hdst : o.dst = some d) (hK : OpPost F clk C es env' w K) : o.wp P a w K Q' := by
  subst hP
  simp only [compAppend, Q.run_bind', Q.run_ofOption, Q.run_guard] at hr
  split at hr
  case isFalse => simp at hr
  simp only [Option.bind_some] at hr
  cases he : elemTy C.P t with
  | none => rw [he] at hr; simp at hr
  | some e =>
    rw [he] at hr
    obtain ⟨et, hu, hrow⟩ := elemTy_row he
    simp only [Option.bind_some] at hr
    cases hgr : (growing C e x).run F.G with
    | none => rw [hgr] at hr; simp at hr
    | some g =>
      obtain ⟨own, sod⟩ := g
      rw [hgr] at hr
      simp only [Option.bind_some] at hr
      cases hbe : (behind C e y).run F.G with
      | none => rw [hbe] at hr; simp at hr
      | some b =>
        obtain ⟨ym, k, yk⟩ := b
        rw [hbe] at hr
        simp only [Option.bind_some] at hr
        cases hm : appMode own ym with
        | none => rw [hm] at hr; simp at hr
        | some m =>
          rw [hm] at hr
          simp only [Option.bind_some] at hr
          split at hr
          case isFalse => simp at hr
          rename_i hgd
          simp only [Bool.and_eq_true, List.all_eq_true, bne_iff_ne, ne_eq] at hgd
          obtain ⟨hnd, htkd⟩ := hgd
          simp only [Option.bind_some] at hr
          cases hse : (slotEnts C d (.pl 1 false) [.ro m none]).run F.G with
          | none => rw [hse] at hr; simp at hr
          | some es' =>
            rw [hse] at hr
            simp only [Option.bind_some, Q.run, Option.some.injEq, Prod.mk.injEq] at hr
            obtain ⟨rfl, rfl⟩ := hr
            have hG := growing_run h hgr
            have hB := behind_run h hbe
            have hden := dens1 henv
            simp only [I.den, Od.rd] at hden
            obtain ⟨Z, hZ, hE⟩ := set1_inv hden
            obtain ⟨xs, ys, hX, hY, hroom, rfl⟩ := appD_some hZ
            change F.env k = _ at hY
            have hroom' : xs.length + ys.length < 68719476736 := hroom
            obtain ⟨news, n1, n2, n3, n4, n5⟩ := behind_el hB hm hY
            obtain ⟨base, cap, hV, ⟨olds, o1, o2, o3⟩, hblk⟩ := growing_el hG hm hX
            let tk : List Nat := (own.map (·.1)).toList ++ yk.toList
            let pre : List (Nat × Ent) := tk.map fun k => (k, (⟨C.ver, [], .no⟩ : Ent))
            have hprek : ∀ k, k ∈ keysOf pre ↔ (∃ m1, own = some (k, m1)) ∨ yk = some k := by
              intro k'
              have : keysOf pre = tk := by simp only [pre, keysOf, List.map_map]; exact List.map_id' _
              rw [this]
              simp only [tk, List.mem_append, Option.mem_toList, Option.map_eq_some_iff]
              constructor
              · rintro (⟨⟨a, b⟩, h1, h2⟩ | h1)
                · simp only at h2; subst h2; exact .inl ⟨b, h1⟩
                · exact .inr h1
              · rintro (⟨m1, h1⟩ | h1)
                · exact .inl ⟨(k', m1), h1, rfl⟩
                · exact .inr h1
            have hne : ∀ k1 m1 k2, own = some (k1, m1) → yk = some k2 → k1 ≠ k2 := by
              rintro k1 m1 k2 h1 h2 rfl
              have : tk = [k1, k1] := by simp [tk, h1, h2]
              have hnd' : nodupB tk = true := hnd
              rw [this] at hnd'
              simp [nodupB] at hnd'
            have hk15 : ∀ k ∈ keysOf pre, k % 16 < 15 := by
              intro k' hk'
              rcases (hprek k').1 hk' with ⟨m1, h1⟩ | h1
              · rw [h1] at hG; obtain ⟨_, _, hc, _⟩ := hG; exact hc.lt
              · rw [h1] at hB
                cases ym with
                | none => exact hB.elim
                | some m' => obtain ⟨_, _, hc, _⟩ := hB; exact hc.lt
            have hprev : ∀ x ∈ pre, x.2.ver = C.ver := by
              intro x hx
              obtain ⟨k', _, rfl⟩ := List.mem_map.1 hx; rfl
            have hpren : ∀ x ∈ pre, x.2.st = .no := by
              intro x hx
              obtain ⟨k', _, rfl⟩ := List.mem_map.1 hx; rfl
            have p := slotEnts_gen hse pre hprev hk15
            have hprel : ∀ k e, lastOf pre k = some e → e.st = .no := fun k e hl => lastOf_all (p := fun e => e.st = .no) hpren hl
            have hpreo : ∀ x ∈ pre, x.2.st.older (clk.add C.ver) := fun x hx => by rw [hpren x hx]; trivial
            have hexec : ∀ V' w', (Builtin.append_ #[t, t] o.type #[a.eval x, a.eval y]).run C.P w = .ok V' w' → (execOp a.eval o).run C.P w = .ok (.value V') w' := by
              intro V' w' hV'
              simp [execOp, hop, resolve, invoke, builtin, hV', Result.andThen]
            have hmvn : ∀ here k' q, k' ∉ keysOf pre → mvApp (own.map (·.1)) yk d xs.length here k' q = none := by
              intro here k' q hk'
              unfold mvApp
              rw [if_neg, if_neg]
              · exact fun hh => hk' ((hprek k').2 (.inr hh))
              · intro hh
                obtain ⟨⟨a, b⟩, h1, h2⟩ := Option.map_eq_some_iff.1 hh
                simp only at h2; subst h2
                exact hk' ((hprek _).2 (.inl ⟨b, h1⟩))
            have hmvo : ∀ here k1 m1 i q, own = some (k1, m1) → mvApp (own.map (·.1)) yk d xs.length here k1 (i :: q) = some (some (lk d 0 :: i :: q)) := by
              intro here k1 m1 i q h1
              unfold mvApp
              rw [if_pos (by rw [h1]; rfl)]
            have hmvy : ∀ here k2 i q, yk = some k2 → mvApp (own.map (·.1)) yk d xs.length here k2 (i :: q) = some (some (lk d 0 :: (xs.length + i) :: q)) := by
              intro here k2 i q h2
              unfold mvApp
              rw [if_neg, if_pos h2]
              intro hh
              obtain ⟨⟨a, b⟩, h1, h3⟩ := Option.map_eq_some_iff.1 hh
              simp only at h3; subst h3
              exact hne _ _ _ h1 h2 rfl
            have hdatum : env' (lk d 0) = ⟨.slice e, xs ++ ys⟩ := by rw [hE, Env.set_same]
            have henvk : ∀ k', k' ≠ lk d 0 → env' k' = F.env k' := fun k' hk' => by rw [hE, Env.set_ne _ _ hk']
            have henv1 : ∀ k', k' ∉ keysOf (pre ++ es') → env' k' = F.env k' := by
              intro k' hk'
              refine henvk k' ?_
              rintro rfl
              exact hk' ((p.keys _).2 (.inr (.inr (.inr ⟨0, by simp, rfl⟩))))
            have henv2 : ∀ k' ∈ keysOf pre, k' / 16 ≠ d → env' k' = F.env k' := by
              intro k' _ hk'
              refine henvk k' ?_
              rintro rfl
              exact hk' (lk_div (by omega))
            by_cases hgrow : cap < xs.length + ys.length
            · -- a new block
              obtain ⟨newCap, rest, r1, r2, hrun⟩ := append_grow (P := C.P) (w := w) (ty := o.type) hu hrow (base := base) (sLen := xs.length) (sCap := cap) (n := ys.length) (Vy := a.eval y) (olds := olds) (news := news)
                (fun w' hw' => by rw [← hV]; exact o2 C.P w' (by rw [hw', h.rel.H])) (fun w' hw' => n3 C.P w' (by rw [hw', h.rel.H])) (n4 C.P w) hgrow hroom'
              rw [← hV] at hrun
              have hrun' := hexec _ _ hrun
              refine newSlice_sound (env' := env') (w' := w.drew.alloc (.cells (olds ++ news ++ rest).toArray et)) (mv := mvApp (own.map (·.1)) yk d xs.length false) p h hdatum henv1 henv2 rfl rfl rfl rfl hrun' hdst (hmvn false) (fun k e hl => .inl (hprel k e hl)) hpreo ?_ hK
              let H' := F.H.push (.cells (olds ++ news ++ rest).toArray et (0, 0))
              let lab' : Nat → Lab := fun b => if b = F.H.size then .own [lk d 0] else relabP (mvApp (own.map (·.1)) yk d xs.length false) F.lab b
              have holdH : ∀ (b : Nat) (o : Obj), F.H[b]? = some o → H'[b]? = some o := by
                intro b ob' hb
                have := heap_lt hb
                show (F.H.push _)[b]? = _
                rw [Array.getElem?_push, if_neg (by omega)]; exact hb
              have hlab : ∀ b, b < F.H.size → lab' b = relabP (mvApp (own.map (·.1)) yk d xs.length false) F.lab b := by
                intro b hb
                show (if b = F.H.size then _ else _) = _
                rw [if_neg (by omega)]
              have hsh : ∀ (b : Nat) (o : Obj), F.H[b]? = some o → (F.lab b).shared → H'[b]? = some o ∧ (lab' b).shared :=
                fun b o ho hl => ⟨holdH b o ho, by rw [hlab b (heap_lt ho)]; exact relabP_shared hl⟩
              have elx := o3 H' lab' (fun i => [lk d 0, i]) (fun k1 m1 h1 i => relabP_carry (p0 := [i]) (p := [lk d 0, i]) (fun s => hmvo false k1 m1 i s h1) (fun g ob hg _ => holdH g ob hg) hlab)
              have ely := n5 H' lab' (fun i => [lk d 0, xs.length + i]) hsh (fun k2 h2 i => relabP_carry (p0 := [i]) (p := [lk d 0, xs.length + i]) (fun s => hmvy false k2 i s h2) (fun g ob hg _ => holdH g ob hg) hlab)
              have hmul : (xs.length + ys.length) * e.n = xs.length * e.n + ys.length * e.n := Nat.add_mul _ _ _
              have hcs : (olds ++ news ++ rest).length = newCap * e.n := by
                have h1 : (newCap - (xs.length + ys.length)) * e.n = newCap * e.n - (xs.length + ys.length) * e.n := Nat.sub_mul _ _ _
                have h2 : (xs.length + ys.length) * e.n ≤ newCap * e.n := Nat.mul_le_mul_right _ r1
                simp only [List.length_append, o1, n1, r2]
                omega
              simp only [Rd, List.length_append]
              refine ⟨some ⟨w.heap.size, 0, none⟩, newCap, rfl, .inr ⟨rfl, ?_, r1, (olds ++ news ++ rest).toArray, et, (0, 0), ?_, ?_, fun _ => rfl, fun i hi => ?_⟩⟩
              · simp [MdOk, h.rel.H]
              · simp only [← h.rel.H]; simp
              · simp only [List.size_toArray, hcs]; omega
              · have hcut : ∀ q, (cut (olds ++ news ++ rest).toArray (0 + i * e.n) e.n)[q]? = if q < e.n then (olds ++ news ++ rest)[i * e.n + q]? else none := by
                  intro q
                  unfold cut
                  by_cases hq : q < e.n
                  · rw [if_pos hq, List.getElem?_take_of_lt hq, List.getElem?_drop, Nat.zero_add]
                  · rw [if_neg hq]; exact List.getElem?_eq_none (by simp; omega)
                by_cases hix : i < xs.length
                · rw [List.getElem_append_left hix]
                  have : cut (olds ++ news ++ rest).toArray (0 + i * e.n) e.n = (olds.drop (i * e.n)).take e.n := by
                    apply List.ext_getElem?
                    intro q
                    rw [hcut]
                    have h1 : (i + 1) * e.n ≤ xs.length * e.n := Nat.mul_le_mul_right _ hix
                    rw [Nat.add_mul] at h1
                    by_cases hq : q < e.n
                    · rw [if_pos hq, List.getElem?_take_of_lt hq, List.getElem?_drop, List.append_assoc, List.getElem?_append_left (by omega)]
                    · rw [if_neg hq]; exact (List.getElem?_eq_none (by simp; omega)).symm
                  rw [this]
                  exact elx i hix
                · rw [List.getElem_append_right (by omega)]
                  have hj : i - xs.length < ys.length := by omega
                  have : cut (olds ++ news ++ rest).toArray (0 + i * e.n) e.n = (news.drop ((i - xs.length) * e.n)).take e.n := by
                    apply List.ext_getElem?
                    intro q
                    rw [hcut]
                    have h1 : (i - xs.length + 1) * e.n ≤ ys.length * e.n := Nat.mul_le_mul_right _ hj
                    rw [Nat.add_mul] at h1
                    have h2 : i * e.n = xs.length * e.n + (i - xs.length) * e.n := by rw [← Nat.add_mul]; congr 1; omega
                    by_cases hq : q < e.n
                    · rw [if_pos hq, List.getElem?_take_of_lt hq, List.getElem?_drop, List.append_assoc, List.getElem?_append_right (by omega), List.getElem?_append_left (by omega)]
                      congr 1; omega
                    · rw [if_neg hq]; exact (List.getElem?_eq_none (by simp; omega)).symm
                  rw [this]
                  have h9 : Rd H' lab' m [lk d 0, xs.length + (i - xs.length)] _ e _ := ely (i - xs.length) hj
                  rw [show xs.length + (i - xs.length) = i by omega] at h9
                  exact h9
            · have hfit : xs.length + ys.length ≤ cap := by omega
              rcases hblk with ⟨hx0, hcap0⟩ | ⟨k1, b, off, c, cty, h1, h2, hlab1, hH1, hsz1, hle1, hel1⟩
              · -- nothing at all
                have hy0 : ys = [] := List.eq_nil_of_length_eq_zero (by omega)
                subst hcap0
                subst hx0
                subst hy0
                have hrun := append_none (P := C.P) (w := w) (ty := o.type) (base := base) hu hrow (Vy := a.eval y) (by
                  have h5 := n3 C.P w h.rel.H.symm
                  have h6 : news = [] := List.eq_nil_of_length_eq_zero (by simpa using n1)
                  rw [h6] at h5; exact h5) (n4 C.P w)
                have hV0 : a.eval x = .slice base 0 0 := hV
                rw [← hV0] at hrun
                have hrun' := hexec _ _ hrun
                refine oldSlice_sound (env' := env') (w' := w) (mv := mvApp (own.map (·.1)) yk d 0 false) (own := none) p h hdatum henv1 rfl rfl rfl hrun' hdst (hmvn false) hprel hpreo (fun k hk => by cases hk) rfl
                  (fun g ob hg _ => by rw [← h.rel.H]; exact hg) ?_ hK
                rw [hV0]
                simp only [Rd, List.append_nil]
                refine ⟨base, 0, rfl, ?_⟩
                cases base with
                | none => exact ⟨trivial, rfl⟩
                | some q => exact .inl ⟨trivial, rfl⟩
              · subst h2
                have hbw : w.heap[b]? = some (.cells c cty (0, 0)) := by rw [← h.rel.H]; exact hH1
                have hmul : (xs.length + ys.length) * e.n ≤ cap * e.n := Nat.mul_le_mul_right _ hfit
                rw [Nat.add_mul] at hmul
                have hrun := append_fits (P := C.P) (w := w) (ty := o.type) hu hrow hbw (n3 C.P w h.rel.H.symm) n2 n1 (n4 C.P w) hfit hsz1
                rw [← hV] at hrun
                have hrun' := hexec _ _ hrun
                generalize hc' : (c.toList.take (off + xs.length * e.n) ++ news ++ c.toList.drop (off + xs.length * e.n + news.length)).toArray = c' at hrun'
                have hsz : off + xs.length * e.n + news.length ≤ c.size := by omega
                have hc'j : ∀ j, c'[j]? = if off + xs.length * e.n ≤ j ∧ j < off + xs.length * e.n + news.length then news[j - (off + xs.length * e.n)]? else c[j]? := by
                  intro j
                  rw [← hc']
                  simpa using patched (c := c.toList) (off := off + xs.length * e.n) (vs := news) (by simpa using hsz) j
                have hc's : c'.size = c.size := by
                  rw [← hc']
                  have := patched_len (c := c.toList) (off := off + xs.length * e.n) (vs := news) (by simpa using hsz)
                  simpa using this
                have hHb : (w.setRow b c').heap[b]? = some (.cells c' cty (0, 0)) := setRow_heap w b c c' cty (0, 0) hbw
                have hsame : ∀ (g : Nat) (ob : Obj), F.H[g]? = some ob → (∀ k, own.map (·.1) = some k → F.lab g ≠ .own [k]) → (w.setRow b c').heap[g]? = some ob := by
                  intro g ob hg hl
                  have hgb : g ≠ b := by
                    rintro rfl
                    exact hl k1 (by rw [h1]; rfl) hlab1
                  rw [setRow_other w b g c' hgb, ← h.rel.H]; exact hg
                have hmv1 : mvApp (own.map (·.1)) yk d xs.length true k1 [] = some (some [lk d 0]) := by
                  unfold mvApp
                  rw [if_pos (by rw [h1]; rfl)]; rfl
                refine oldSlice_sound (env' := env') (w' := w.setRow b c') (mv := mvApp (own.map (·.1)) yk d xs.length true) (own := own.map (·.1)) p h hdatum henv1 rfl rfl rfl hrun' hdst (hmvn true) hprel hpreo
                  (fun k hk => (hprek k).2 (.inl (by obtain ⟨⟨a, b⟩, h3, h4⟩ := Option.map_eq_some_iff.1 hk; simp only at h4; subst h4; exact ⟨b, h3⟩))) (setRow_size _ _ _) hsame ?_ hK
                have hlab' : ∀ g, g < F.H.size → relabP (mvApp (own.map (·.1)) yk d xs.length true) F.lab g = relabP (mvApp (own.map (·.1)) yk d xs.length true) F.lab g := fun _ _ => rfl
                have hshr : ∀ (g : Nat) (ob : Obj), F.H[g]? = some ob → (F.lab g).shared → (w.setRow b c').heap[g]? = some ob ∧ (relabP (mvApp (own.map (·.1)) yk d xs.length true) F.lab g).shared := by
                  intro g ob hg hl
                  exact ⟨hsame g ob hg fun k _ he => by rw [he] at hl; exact hl, relabP_shared hl⟩
                have hcarx : ∀ i, Carry F.H (w.setRow b c').heap F.lab (relabP (mvApp (own.map (·.1)) yk d xs.length true) F.lab) [k1, i] [lk d 0, i] := fun i =>
                  relabP_carry (p0 := [i]) (p := [lk d 0, i]) (fun s => hmvo true k1 m i s h1) (fun g ob hg hs => hsame g ob hg fun k hk he => by
                    rcases hs with hs | ⟨q, hs⟩
                    · rw [he] at hs; exact hs
                    · rw [hs] at he; simp at he) hlab'
                have ely := n5 (w.setRow b c').heap (relabP (mvApp (own.map (·.1)) yk d xs.length true) F.lab) (fun i => [lk d 0, xs.length + i]) hshr (fun k2 h2 i =>
                  relabP_carry (p0 := [i]) (p := [lk d 0, xs.length + i]) (fun s => hmvy true k2 i s h2) (fun g ob hg hs => hsame g ob hg fun k hk he => by
                    rcases hs with hs | ⟨q, hs⟩
                    · rw [he] at hs; exact hs
                    · rw [hs] at he; simp at he) hlab')
                simp only [Rd, List.length_append]
                refine ⟨some ⟨b, off, none⟩, cap, rfl, .inr ⟨rfl, ?_, hfit, c', cty, (0, 0), hHb, by rw [hc's]; exact hsz1, fun _ => rfl, fun i hi => ?_⟩⟩
                · simp only [MdOk]
                  simp [relabP, hlab1, hmv1]
                · have hcut : ∀ q, (cut c' (off + i * e.n) e.n)[q]? = if q < e.n then c'[off + i * e.n + q]? else none := by
                    intro q
                    unfold cut
                    by_cases hq : q < e.n
                    · rw [if_pos hq, List.getElem?_take_of_lt hq, List.getElem?_drop, Array.getElem?_toList]
                    · rw [if_neg hq]; exact List.getElem?_eq_none (by simp; omega)
                  by_cases hix : i < xs.length
                  · rw [List.getElem_append_left hix]
                    have : cut c' (off + i * e.n) e.n = cut c (off + i * e.n) e.n := by
                      apply List.ext_getElem?
                      intro q
                      rw [hcut]
                      have h3 : (i + 1) * e.n ≤ xs.length * e.n := Nat.mul_le_mul_right _ hix
                      rw [Nat.add_mul] at h3
                      by_cases hq : q < e.n
                      · rw [if_pos hq, hc'j, if_neg (by omega)]
                        unfold cut
                        rw [List.getElem?_take_of_lt hq, List.getElem?_drop, Array.getElem?_toList]
                      · rw [if_neg hq]; exact (List.getElem?_eq_none (by simp [cut]; omega)).symm
                    rw [this]
                    exact Rd.carry (hcarx i) (hel1 i hix)
                  · rw [List.getElem_append_right (by omega)]
                    have hj : i - xs.length < ys.length := by omega
                    have : cut c' (off + i * e.n) e.n = (news.drop ((i - xs.length) * e.n)).take e.n := by
                      apply List.ext_getElem?
                      intro q
                      rw [hcut]
                      have h3 : (i - xs.length + 1) * e.n ≤ ys.length * e.n := Nat.mul_le_mul_right _ hj
                      rw [Nat.add_mul] at h3
                      have h4 : i * e.n = xs.length * e.n + (i - xs.length) * e.n := by rw [← Nat.add_mul]; congr 1; omega
                      by_cases hq : q < e.n
                      · rw [if_pos hq, hc'j, if_pos (by omega), List.getElem?_take_of_lt hq, List.getElem?_drop]
                        congr 1; omega
                      · rw [if_neg hq]; exact (List.getElem?_eq_none (by simp; omega)).symm
                    rw [this]
                    have h9 : Rd _ _ m [lk d 0, xs.length + (i - xs.length)] _ e _ := ely (i - xs.length) hj
                    rw [show xs.length + (i - xs.length) = i by omega] at h9
                    exact h9

end
end Go.Lf

/- Calls, first part: what a callee is given and what it gives back; the labels that it sees. -/
namespace Go.Lf

/-- The entries at the start of a function. -/
def entryG (ps : List PK) : GT := fun k =>
  match ps[k / 16]? with
  | none => ⟨0, [], .no⟩
  | some p => if k % 16 = 15 then ⟨0, [], p.kind⟩ else ⟨0, [], ((p.sts (k / 16))[k % 16]?).getD .no⟩

def PK.tys : PK → List Ty
  | .v τ | .p τ | .m τ _ | .io τ _ | .q τ _ => [τ]
  | .c _ caps => caps

/-- The data of one parameter into its leaves. -/
def entry1 (i : Nat) : Nat → List Ty → List Dyn → Env → Option (List Dyn × Env)
  | _, [], l, env => some (l, env)
  | j, τ :: τs, x :: l, env =>
    if x.τ = τ then
      match env.puts (ks i j τ.n) (flat x.τ x.v) with
      | some e => entry1 i (j + τ.n) τs l e
      | none => none
    else none
  | _, _ :: _, [], _ => none

def entryEnv : Nat → List PK → List Dyn → Env → Option Env
  | _, [], [], env => some env
  | _, [], _ :: _, _ => none
  | i, p :: ps, l, env =>
    match entry1 i 0 p.tys l env with
    | some (l', e) => entryEnv (i + 1) ps l' e
    | none => none

/-- A key for results, on no slot. -/
def rb : Nat := 1000000

structure Entry (s : Sig) (F0 : Fr) (w : World) (l : List Dyn) : Prop where
  H : F0.H = w.heap
  G : F0.G = entryG s.ps
  st : St F0 (· = 0)
  size : F0.tmps.size = s.ps.length
  env : entryEnv 0 s.ps l (fun _ => ⟨.bool, false⟩) = some F0.env
  org : ∀ k v, F0.cell k v → F0.org k = v

/-- What is given back of a lent parameter. -/
def BackOk (F0 : Fr) (H' : Array Obj) (lab' : Nat → Lab) (i : Nat) : PK → Dyn → Prop
  | .io τ ms, y => y.τ = τ ∧ ∀ j m, ms[j]? = some (some m) → ∃ (v : Value) (z : Dyn), F0.cell (lk i j) v ∧ (flat y.τ y.v)[j]? = some z ∧ Rd H' lab' (.sl .own m) [lk i j] [v] z.τ z.v
  | .q τ ms, y => y.τ = τ ∧ ∃ b c ty, F0.val i = .pointer (some ⟨b, 0, none⟩) ∧ H'[b]? = some (.cells c ty (0, 0)) ∧ lab' b = .own [sk i] ∧ c.size = τ.n ∧
      (∀ c0 ty0 fr0, F0.H[b]? = some (.cells c0 ty0 fr0) → ty = ty0) ∧
      ∀ j m, ms[j]? = some m → ∃ (v : Value) (z : Dyn), c[j]? = some v ∧ (flat y.τ y.v)[j]? = some z ∧ match m with
        | none => Rd H' lab' z.τ.shr [] [v] z.τ z.v
        | some m => Rd H' lab' (.sl .own m) [lk i j] [v] z.τ z.v
  | _, _ => False

def PK.lent : PK → Bool
  | .io _ _ | .q _ _ => true
  | _ => false

def BacksOk (F0 : Fr) (H' : Array Obj) (lab' : Nat → Lab) : Nat → List PK → List Dyn → Prop
  | _, [], l => l = []
  | i, p :: ps, l =>
    match p.lent with
    | false => BacksOk F0 H' lab' (i + 1) ps l
    | true =>
      match l with
      | y :: l => BackOk F0 H' lab' i p y ∧ BacksOk F0 H' lab' (i + 1) ps l
      | [] => False

/-- What a callee leaves behind. -/
structure Gives (s : Sig) (F0 : Fr) (w : World) (r : List Dyn) (V : Value) (w' : World) (lab' : Nat → Lab) : Prop where
  os : w'.os = w.os
  tape : w'.tape = w.tape
  output : w'.output = w.output
  size : w.heap.size ≤ w'.heap.size
  labs : ∀ b, w'.heap.size ≤ b → lab' b = .imm
  imm : ∀ (b : Nat) (o : Obj), w.heap[b]? = some o → F0.lab b = .imm → w'.heap[b]? = some o ∧ lab' b = .imm
  frn : ∀ (b : Nat) (o : Obj), w.heap[b]? = some o → F0.lab b = .own [] → w'.heap[b]? = some o ∧ lab' b = .own []
  res : ∃ (rs ls : List Dyn) (cs : List Value), r = rs ++ ls ∧ rs.map Dyn.τ = s.rs.map (·.1) ∧ Has w'.heap lab' 0 (resKind s.rs) V cs ∧
    (∀ j m v, (s.rs.flatMap (·.2))[j]? = some m → cs[j]? = some v → ∃ z : Dyn, (rs.flatMap fun y => flat y.τ y.v)[j]? = some z ∧ match m with
        | none => Rd w'.heap lab' z.τ.shr [] [v] z.τ z.v
        | some m => Rd w'.heap lab' (.sl .own m) [lk rb j] [v] z.τ z.v) ∧
    (s.rs.flatMap (·.2)).length = cs.length ∧ BacksOk F0 w'.heap lab' 0 s.ps ls

/-- THE CONTRACT of a function. -/
def Keeps (P : Program) (s : Sig) (D : List Dyn → Option (List Dyn)) : Prop :=
  ∀ (F0 : Fr) (w : World) (l r : List Dyn), Entry s F0 w l → D l = some r →
    Calls P s.f F0.tmps w fun out w' => ∃ V lab', out = .returned V ∧ Gives s F0 w r V w' lab'

/- ---- the caller's side ---- -/

/-- What is told of a leaf that is handed over. -/
def LeafArg (F : Fr) : LA → Value → Dyn → Prop
  | .rd o, v, y => RdOf F o v y
  | .em, v, y => ∃ a e, v = .slice a 0 0 ∧ y = ⟨.slice e, []⟩
  | .tk k m, v, y => F.cell k v ∧ Rd F.H F.lab (.sl .own m) [k] [v] y.τ y.v ∧ ∀ m' p, (F.G k).st = .ro m' (some p) → v = F.org p
  | .te k i off m, v, y => ∃ mk org V, (F.G k).st = .ro mk org ∧ mk.flat[off]? = some (.sl .own m) ∧ ∃ E : EltAt F k i mk V off, E.c[E.o + off]? = some v ∧ (flat E.e E.x)[off]? = some y ∧ ∀ v0, F.cell k v0 → LeafOk F k (F.G k).st v0

/-- A pointer to cells that nobody writes, or to a box that is looked at. -/
def PaSeen (F : Fr) (seen : List Nat) (V : Value) (n : Nat) (cs : List Value) : Prop :=
  ∃ b off c ty fr, V = .pointer (some ⟨b, off, none⟩) ∧ ((F.lab b).still ∨ ∃ k ∈ seen, F.lab b = .own [k]) ∧ F.H[b]? = some (.cells c ty fr) ∧ off + n ≤ c.size ∧ cs = cut c off n

def PasSeen (F : Fr) (seen : List Nat) : List Value → List Nat → List Value → Prop
  | [], [], cs => cs = []
  | V :: Vs, n :: ns, cs => ∃ c1 c2, cs = c1 ++ c2 ∧ PaSeen F seen V n c1 ∧ PasSeen F seen Vs ns c2
  | _, _, _ => False

/-- What a slot holds that is handed over. -/
def KindArg (F : Fr) (A : Arg) (V : Value) (cs : List Value) : PK → Prop
  | .v τ | .m τ _ | .io τ _ => V = mkVal τ.isPair cs ∧ cs.length = τ.n
  | .p τ => PaSeen F A.seen V τ.n cs
  | .q τ _ => ∃ s b c ty, A.box = some s ∧ V = .pointer (some ⟨b, 0, none⟩) ∧ F.val s = V ∧ F.lab b = .own [sk s] ∧ F.H[b]? = some (.cells c ty (0, 0)) ∧ cs = c.toList ∧ cs.length = τ.n
  | .c f caps => ∃ ps : List Value, V = .func (.func f) #[] ps.toArray ∧ PasSeen F A.seen ps (caps.map Ty.n) cs

def Arg.ods (A : Arg) : List Od := A.data.flatMap (·.2)

/-- What is told of an argument. -/
structure ArgOk (F : Fr) (pk : PK) (A : Arg) (V : Value) (cs : List Value) : Prop where
  len : A.las.length = cs.length
  ods : A.ods.length = cs.length
  tys : A.data.map (·.1) = pk.tys
  leaf : ∀ j (h1 : j < A.las.length) (h2 : j < A.ods.length) (h3 : j < cs.length), LeafArg F A.las[j] cs[j] (A.ods[j].rd F.env)
  kind : KindArg F A V cs pk

section
variable {F : Fr} {clk : Clk} {C : Cfg} {d : Nat} {a : Act} {w : World} {P : Program}

theorem readAll_run (h : St F clk) {ch : List (Nat × Bool)} (hch : holds F.env ch = true) {s : Nat} {cs : List Value} (hh : F.has s cs)
    (hl : ∀ j v, cs[j]? = some v → LeafOk F (lk s j) (F.G (lk s j)).st v) : ∀ {n j : Nat} {ods : List Od} {las : List LA},
    (readAll ch s j n).run F.G = some (ods, las) → j + n ≤ cs.length → las.length = n ∧ ods.length = n ∧
      ∀ i (h1 : i < las.length) (h2 : i < ods.length) (h3 : j + i < cs.length), LeafArg F las[i] cs[j + i] (ods[i].rd F.env) := by
  intro n
  induction n with
  | zero =>
    intro j ods las hr _
    simp only [readAll, Q.run, Option.some.injEq, Prod.mk.injEq] at hr
    obtain ⟨rfl, rfl⟩ := hr
    exact ⟨rfl, rfl, fun i h => by simp at h⟩
  | succ n ih =>
    intro j ods las hr hj
    simp only [readAll, Q.run_bind', Q.run_ent, Option.bind_some] at hr
    cases h1 : (readable ch (lk s j) (F.G (lk s j))).run F.G with
    | none => rw [h1] at hr; simp at hr
    | some o =>
      rw [h1] at hr
      simp only [Option.bind_some] at hr
      cases h2 : (readAll ch s (j + 1) n).run F.G with
      | none => rw [h2] at hr; simp at hr
      | some r =>
        obtain ⟨r1, r2⟩ := r
        rw [h2] at hr
        simp only [Option.bind_some, Q.run, Option.some.injEq, Prod.mk.injEq] at hr
        obtain ⟨rfl, rfl⟩ := hr
        obtain ⟨a1, a2, a3⟩ := ih h2 (by omega)
        refine ⟨by simp [a1], by simp [a2], fun i hi1 hi2 hi3 => ?_⟩
        cases i with
        | zero =>
          have hlt : j < cs.length := by omega
          have hv : cs[j]? = some cs[j] := List.getElem?_eq_getElem hlt
          have hle := hh.2
          simp only [List.getElem_cons_zero, Nat.add_zero, Od.rd, LeafArg]
          exact readable_run h hch h1 ⟨cs, by rw [lk_div (by omega)]; exact hh, by rw [lk_mod (by omega)]; exact hv⟩ (hl j _ hv)
        | succ i =>
          simp only [List.getElem_cons_succ]
          have := a3 i (by simpa using hi1) (by simpa using hi2) (by omega)
          simpa [show j + (i + 1) = j + 1 + i by omega] using this

theorem takeAll_run (h : St F clk) {ch : List (Nat × Bool)} (hch : holds F.env ch = true) {s : Nat} {cs : List Value} (hh : F.has s cs)
    (hl : ∀ j v, cs[j]? = some v → LeafOk F (lk s j) (F.G (lk s j)).st v) : ∀ {ms : List (Option M)} {j : Nat} {ods : List Od} {las : List LA},
    (takeAll ch s j ms).run F.G = some (ods, las) → j + ms.length ≤ cs.length → las.length = ms.length ∧ ods.length = ms.length ∧
      ∀ i (h1 : i < las.length) (h2 : i < ods.length) (h3 : j + i < cs.length), LeafArg F las[i] cs[j + i] (ods[i].rd F.env) := by
  intro ms
  induction ms with
  | nil =>
    intro j ods las hr _
    simp only [takeAll, Q.run, Option.some.injEq, Prod.mk.injEq] at hr
    obtain ⟨rfl, rfl⟩ := hr
    exact ⟨rfl, rfl, fun i h => by simp at h⟩
  | cons m ms ih =>
    intro j ods las hr hj
    simp only [List.length_cons] at hj
    have hlt : j < cs.length := by omega
    have hv : cs[j]? = some cs[j] := List.getElem?_eq_getElem hlt
    have hle := hh.2
    have hcell : F.cell (lk s j) cs[j] := ⟨cs, by rw [lk_div (by omega)]; exact hh, by rw [lk_mod (by omega)]; exact hv⟩
    have hlf := hl j _ hv
    have fin : ∀ {la : LA} {r1 : List Od} {r2 : List LA}, (takeAll ch s (j + 1) ms).run F.G = some (r1, r2) → LeafArg F la cs[j] (F.env (lk s j)) → ods = .k (lk s j) :: r1 → las = la :: r2 →
        las.length = (m :: ms).length ∧ ods.length = (m :: ms).length ∧ ∀ i (h1 : i < las.length) (h2 : i < ods.length) (h3 : j + i < cs.length), LeafArg F las[i] cs[j + i] (ods[i].rd F.env) := by
      intro la r1 r2 h2 hla ho hlas
      subst ho
      subst hlas
      obtain ⟨a1, a2, a3⟩ := ih h2 (by omega)
      refine ⟨by simp [a1], by simp [a2], fun i hi1 hi2 hi3 => ?_⟩
      cases i with
      | zero => exact hla
      | succ i =>
        simp only [List.getElem_cons_succ]
        have := a3 i (by simpa using hi1) (by simpa using hi2) (by omega)
        simpa [show j + (i + 1) = j + 1 + i by omega] using this
    cases m with
    | none =>
      simp only [takeAll, Q.run_bind', Q.run_ent, Option.bind_some, Q.run_guard] at hr
      split at hr
      case isFalse => simp at hr
      rename_i hva
      have hva : (F.G (lk s j)).st = .va := by simpa using hva
      simp only [Option.bind_some] at hr
      cases h2 : (takeAll ch s (j + 1) ms).run F.G with
      | none => rw [h2] at hr; simp at hr
      | some r =>
        obtain ⟨r1, r2⟩ := r
        rw [h2] at hr
        simp only [Option.bind_some, Q.run, Option.some.injEq, Prod.mk.injEq] at hr
        refine fin h2 ?_ hr.1.symm hr.2.symm
        rw [hva] at hlf
        exact hlf
    | some m0 =>
      simp only [takeAll, Q.run_bind', Q.run_ent, Option.bind_some] at hr
      cases h2 : (takeAll ch s (j + 1) ms).run F.G with
      | none => rw [h2] at hr; simp at hr
      | some r =>
        obtain ⟨r1, r2⟩ := r
        rw [h2] at hr
        simp only [Option.bind_some] at hr
        split at hr
        · rename_i hem
          have hem : (F.G (lk s j)).st = .em := by simpa using hem
          simp only [Q.run, Option.some.injEq, Prod.mk.injEq] at hr
          refine fin h2 ?_ hr.1.symm hr.2.symm
          rw [hem] at hlf
          exact hlf
        · simp only [Q.run_bind'] at hr
          cases ho : (owner ch (lk s j) (F.G (lk s j))).run F.G with
          | none => rw [ho] at hr; simp at hr
          | some x =>
            obtain ⟨k2, m', org⟩ := x
            rw [ho] at hr
            simp only [Option.bind_some, Q.run, Option.some.injEq, Prod.mk.injEq] at hr
            refine fin h2 ?_ hr.1.symm hr.2.symm
            obtain ⟨o1, o2, o3, o4⟩ := owner_run h hch ho hcell hlf
            simp only [LeafArg]
            rw [o4]
            exact ⟨o2, o3.1, fun m2 p2 he => by rw [o1] at he; cases he; exact o3.2 p2 rfl⟩

end
end Go.Lf

/- Calls, second part: what is told of the arguments. -/
namespace Go.Lf

section
variable {F : Fr} {clk : Clk} {C : Cfg} {d : Nat} {a : Act} {w : World} {P : Program}

/-- What is told of a lent leaf: where its datum goes. -/
def LendAt (F : Fr) (d0 : Nat) : LA → Nat → Prop
  | .rd _, k' => k' = lk d0 13
  | .tk k m, k' => k' = k ∧ ∃ org, (F.G k).st = .ro m org
  | .te _ _ _ _, k' => k' = lk d0 12
  | .em, _ => False

/-- Where an entry of lent things comes from. -/
def EntFrom (F : Fr) (ver : Nat) (las : List LA) (x : Nat × Ent) : Prop :=
  (∃ m org, LA.tk x.1 m ∈ las ∧ (F.G x.1).st = .ro m org ∧ x.2 = ⟨ver, [], .ro m org⟩) ∨
  (∃ i off m mk org, LA.te x.1 i off m ∈ las ∧ (F.G x.1).st = .ro mk org ∧ x.2 = ⟨ver, [], .ro mk org⟩)

structure LendOk (F : Fr) (ver d0 : Nat) (r : Lent) : Prop where
  outs : r.outs.length = r.las.length
  at_ : ∀ i (h1 : i < r.las.length) (h2 : i < r.outs.length), LendAt F d0 r.las[i] r.outs[i]
  ents : ∀ x ∈ r.ents, EntFrom F ver r.las x
  all : ∀ la ∈ r.las, ∀ k ∈ la.taken, ∃ e, (k, e) ∈ r.ents
  post : (r.post = [] ∧ ∀ k i off m, LA.te k i off m ∉ r.las) ∨ ∃ (k i off : Nat) (m : M) (t : Ty) (j : Nat), r.las[j]? = some (LA.te k i off m) ∧ r.post = [.setE k (.k i) off [t] [.k (lk d0 12)]] ∧
    (∀ (j' k' i' off' : Nat) (m' : M), r.las[j']? = some (LA.te k' i' off' m') → j' = j)

theorem lendAll_run (h : St F clk) {ch : List (Nat × Bool)} (hch : holds F.env ch = true) {s : Nat} {cs : List Value} (hh : F.has s cs)
    (hl : ∀ j v, cs[j]? = some v → LeafOk F (lk s j) (F.G (lk s j)).st v) {ver d0 : Nat} : ∀ {ms : List (Ty × Option M)} {j : Nat} {r : Lent},
    (lendAll ch ver d0 s j ms).run F.G = some r → j + ms.length ≤ cs.length → r.las.length = ms.length ∧ r.ods.length = ms.length ∧ LendOk F ver d0 r ∧
      ∀ i (h1 : i < r.las.length) (h2 : i < r.ods.length) (h3 : j + i < cs.length), LeafArg F r.las[i] cs[j + i] (r.ods[i].rd F.env) := by
  intro ms
  induction ms with
  | nil =>
    intro j r hr _
    simp only [lendAll, Q.run, Option.some.injEq] at hr
    subst hr
    exact ⟨rfl, rfl, ⟨rfl, fun i h => by simp at h, fun x hx => by simp at hx, fun la hx => by simp at hx, .inl ⟨rfl, fun _ _ _ _ hx => by simp at hx⟩⟩, fun i h => by simp at h⟩
  | cons m ms ih =>
    intro j r hr hj
    simp only [List.length_cons] at hj
    have hlt : j < cs.length := by omega
    have hv : cs[j]? = some cs[j] := List.getElem?_eq_getElem hlt
    have hle := hh.2
    have hcell : F.cell (lk s j) cs[j] := ⟨cs, by rw [lk_div (by omega)]; exact hh, by rw [lk_mod (by omega)]; exact hv⟩
    have hlf := hl j _ hv
    -- the head put in front of what the rest gives
    have fin : ∀ {la : LA} {k' : Nat} {es : List (Nat × Ent)} {post : List I} {r2 : Lent}, (lendAll ch ver d0 s (j + 1) ms).run F.G = some r2 → LeafArg F la cs[j] (F.env (lk s j)) → LendAt F d0 la k' →
        (∀ x ∈ es, EntFrom F ver [la] x) → (∀ k ∈ la.taken, ∃ e, (k, e) ∈ es) →
        ((post = r2.post ∧ ∀ k i off m, la ≠ .te k i off m) ∨ (r2.post = [] ∧ ∃ k i off m t, la = .te k i off m ∧ post = [.setE k (.k i) off [t] [.k (lk d0 12)]])) →
        r = ⟨.k (lk s j) :: r2.ods, la :: r2.las, k' :: r2.outs, es ++ r2.ents, post⟩ →
        r.las.length = (m :: ms).length ∧ r.ods.length = (m :: ms).length ∧ LendOk F ver d0 r ∧ ∀ i (h1 : i < r.las.length) (h2 : i < r.ods.length) (h3 : j + i < cs.length), LeafArg F r.las[i] cs[j + i] (r.ods[i].rd F.env) := by
      intro la k' es post r2 h2 hla hat hes hall hpost hr
      subst hr
      obtain ⟨a1, a2, L, a3⟩ := ih h2 (by omega)
      refine ⟨by simp [a1], by simp [a2], ⟨by simp [L.outs], fun i h1 h2 => ?_, fun x hx => ?_, fun la' hla' k hk => ?_, ?_⟩, fun i hi1 hi2 hi3 => ?_⟩
      · cases i with
        | zero => exact hat
        | succ i => exact L.at_ i (by simpa using h1) (by simpa using h2)
      · rcases List.mem_append.1 hx with hx | hx
        · rcases hes x hx with ⟨m0, org, h1, h2, h3⟩ | ⟨i0, off, m0, mk, org, h1, h2, h3⟩
          · exact .inl ⟨m0, org, by simp only [List.mem_singleton] at h1; simp [h1], h2, h3⟩
          · exact .inr ⟨i0, off, m0, mk, org, by simp only [List.mem_singleton] at h1; simp [h1], h2, h3⟩
        · rcases L.ents x hx with ⟨m0, org, h1, h2, h3⟩ | ⟨i0, off, m0, mk, org, h1, h2, h3⟩
          · exact .inl ⟨m0, org, by simp [h1], h2, h3⟩
          · exact .inr ⟨i0, off, m0, mk, org, by simp [h1], h2, h3⟩
      · rcases List.mem_cons.1 hla' with rfl | hla'
        · obtain ⟨e, he⟩ := hall k hk
          exact ⟨e, List.mem_append.2 (.inl he)⟩
        · obtain ⟨e, he⟩ := L.all la' hla' k hk
          exact ⟨e, List.mem_append.2 (.inr he)⟩
      · rcases hpost with ⟨hp, hne⟩ | ⟨hp, k, i, off, m0, t, hla', hp'⟩
        · rcases L.post with ⟨h3, h4⟩ | ⟨k, i, off, m0, t, j', h3, h4, h5⟩
          · refine .inl ⟨by rw [hp, h3], fun k i off m0 hx => ?_⟩
            rcases List.mem_cons.1 hx with hx | hx
            · exact hne _ _ _ _ hx.symm
            · exact h4 _ _ _ _ hx
          · refine .inr ⟨k, i, off, m0, t, j' + 1, by simpa using h3, by rw [hp, h4], fun j2 k' i' off' m' hx => ?_⟩
            cases j2 with
            | zero => simp at hx; exact absurd hx (hne _ _ _ _)
            | succ j2 => rw [h5 j2 k' i' off' m' (by simpa using hx)]
        · rcases L.post with ⟨_, h4⟩ | ⟨_, _, _, _, _, _, _, h4, _⟩
          · refine .inr ⟨k, i, off, m0, t, 0, by simp [hla'], hp', fun j2 k' i' off' m' hx => ?_⟩
            cases j2 with
            | zero => rfl
            | succ j2 => exact absurd (List.mem_of_getElem? (by simpa using hx)) (h4 k' i' off' m')
          · rw [hp] at h4; cases h4
      · cases i with
        | zero => exact hla
        | succ i =>
          simp only [List.getElem_cons_succ]
          have := a3 i (by simpa using hi1) (by simpa using hi2) (by omega)
          simpa [show j + (i + 1) = j + 1 + i by omega] using this
    obtain ⟨t, m⟩ := m
    cases m with
    | none =>
      simp only [lendAll, Q.run_bind', Q.run_ent, Option.bind_some, Q.run_guard] at hr
      split at hr
      case isFalse => simp at hr
      rename_i hva
      have hva : (F.G (lk s j)).st = .va := by simpa using hva
      simp only [Option.bind_some] at hr
      cases h2 : (lendAll ch ver d0 s (j + 1) ms).run F.G with
      | none => rw [h2] at hr; simp at hr
      | some r2 =>
        rw [h2] at hr
        simp only [Option.bind_some, Q.run, Option.some.injEq] at hr
        refine fin (la := .rd none) (es := []) h2 (by rw [hva] at hlf; exact hlf) rfl (fun x hx => by simp at hx) (fun k hk => by simp [LA.taken] at hk) (.inl ⟨rfl, fun _ _ _ _ hx => by cases hx⟩) hr.symm
    | some m0 =>
      simp only [lendAll, Q.run_bind', Q.run_ent, Option.bind_some] at hr
      cases h2 : (lendAll ch ver d0 s (j + 1) ms).run F.G with
      | none => rw [h2] at hr; simp at hr
      | some r2 =>
        rw [h2] at hr
        simp only [Option.bind_some] at hr
        have own2 : ((owner ch (lk s j) (F.G (lk s j))).bind fun x => Q.ret (⟨.k (lk s j) :: r2.ods, .tk x.1 x.2.1 :: r2.las, x.1 :: r2.outs, (x.1, ⟨ver, [], .ro x.2.1 x.2.2⟩) :: r2.ents, r2.post⟩ : Lent)).run F.G = some r →
            r.las.length = ((t, some m0) :: ms).length ∧ r.ods.length = ((t, some m0) :: ms).length ∧ LendOk F ver d0 r ∧ ∀ i (h1 : i < r.las.length) (h2 : i < r.ods.length) (h3 : j + i < cs.length), LeafArg F r.las[i] cs[j + i] (r.ods[i].rd F.env) := by
          intro hr
          rw [Q.run_bind] at hr
          cases ho : (owner ch (lk s j) (F.G (lk s j))).run F.G with
          | none => rw [ho] at hr; simp at hr
          | some x =>
            obtain ⟨k2, m', org⟩ := x
            rw [ho] at hr
            simp only [Option.bind_some, Q.run, Option.some.injEq] at hr
            obtain ⟨o1, o2, o3, o4⟩ := owner_run h hch ho hcell hlf
            refine fin (la := .tk k2 m') (k' := k2) (es := [(k2, ⟨ver, [], .ro m' org⟩)]) h2 (by simp only [LeafArg]; rw [o4]; exact ⟨o2, o3.1, fun m2 p2 he => by rw [o1] at he; cases he; exact o3.2 p2 rfl⟩) ⟨rfl, org, o1⟩ ?_ ?_ (.inl ⟨rfl, fun _ _ _ _ hx => by cases hx⟩) hr.symm
            · intro x hx
              simp only [List.mem_singleton] at hx
              subst hx
              exact .inl ⟨m', org, by simp, o1, rfl⟩
            · intro k hk
              simp only [LA.taken, List.mem_singleton] at hk
              subst hk
              exact ⟨_, List.mem_singleton.2 rfl⟩
        cases hst : (F.G (lk s j)).st <;> rw [hst] at hr
        case ef k kv i iv off =>
          simp only [Q.run_bind'] at hr
          cases hsk : (slotK ch (k / 16)).run F.G with
          | none => rw [hsk] at hr; simp at hr
          | some e0 =>
            rw [hsk] at hr
            simp only [Option.bind_some, Q.run_ent, Q.run_guard] at hr
            split at hr
            case isFalse => simp at hr
            rename_i hg
            simp only [Bool.and_eq_true, beq_iff_eq, List.isEmpty_iff] at hg
            simp only [Option.bind_some] at hr
            cases hst2 : (F.G k).st <;> rw [hst2] at hr <;> simp only [Q.run, Q.run_bind', Q.run_guard, reduceCtorEq] at hr
            rename_i mk org
            split at hr
            case isFalse => simp at hr
            rename_i hmk
            have hmk : mk.flat[off]? = some (.sl .own m0) := by simpa using hmk
            simp only [Option.bind_some, Option.some.injEq] at hr
            -- the element
            rw [hst] at hlf
            obtain ⟨h15, n, b, o, e, c, ty, hn, hel, hlab, hH, hc, xs, x, hx, hxn, hf⟩ := hlf hg.1.1 hg.1.2
            have hA : AdrOk F (.pointer (some ⟨b, o + off, none⟩)) (.elt k kv i iv off) := ⟨hg.1.1, hg.1.2, n, b, o, e, hn, hel, rfl, fun v hv => h.leafOk hch hsk hv⟩
            obtain ⟨E⟩ := eltAt hA hst2
            have hnE : E.n = n := by
              obtain ⟨k1, h1⟩ := num_of E.num
              obtain ⟨k3, h3⟩ := num_of hn
              rw [h1] at h3
              simp only [Dyn.mk.injEq, Ty.int.injEq] at h3
              obtain ⟨rfl, h4⟩ := h3
              have h5 : (E.n : Int) = (n : Int) := eq_of_heq h4
              omega
            have hbE := E.val
            simp only [Value.pointer.injEq, Option.some.injEq, Addr.mk.injEq, and_true] at hbE
            obtain ⟨hb1, hb2⟩ := hbE
            have hoE : E.o = o := by omega
            have hcE : E.c = c := by
              have := E.heap
              rw [← hb1, hH] at this
              simp at this
              exact this.1.symm
            have heE := E.env
            rw [hx] at heE
            simp only [Dyn.mk.injEq, Ty.slice.injEq] at heE
            obtain ⟨he1, he2⟩ := heE
            have hxE : (flat E.e E.x)[off]? = some (F.env (lk s j)) := by
              have h7 := E.get
              rw [hnE] at h7
              clear hA hel
              revert h7 he2
              generalize E.xs = Xs
              generalize E.x = X
              revert Xs X
              rw [← he1]
              intro Xs X he2 h7
              have he2 := eq_of_heq he2
              subst he2
              rw [hxn] at h7
              rw [← Option.some.inj h7]
              exact hf
            refine fin (la := .te k i off m0) (k' := lk d0 12) (es := [(k, ⟨ver, [], .ro mk org⟩)]) (post := [.setE k (.k i) off [t] [.k (lk d0 12)]]) h2
              ⟨mk, org, _, hst2, hmk, E, by rw [hoE, hcE]; exact hc, hxE, fun v hv => h.leafOk hch hsk hv⟩ rfl ?_ ?_ (.inr ⟨hg.2, k, i, off, m0, t, rfl, rfl⟩) hr.symm
            · intro x hx
              simp only [List.mem_singleton] at hx
              subst hx
              exact .inr ⟨i, off, m0, mk, org, by simp, hst2, rfl⟩
            · intro k' hk
              simp only [LA.taken, List.mem_singleton] at hk
              subst hk
              exact ⟨_, List.mem_singleton.2 rfl⟩
        all_goals exact own2 hr

def boxLA (s j : Nat) : Option M → LA
  | none => .rd none
  | some m => .tk (lk s j) m

theorem lendBox_run {s : Nat} {cs : List Value} (hh : F.has s cs)
    (hl : ∀ j v, cs[j]? = some v → LeafOk F (lk s j) (F.G (lk s j)).st v) {ver : Nat} : ∀ {ms : List (Option M)} {j : Nat} {r : Lent},
    (lendBox ver s j ms).run F.G = some r → j + ms.length ≤ cs.length → r.las.length = ms.length ∧ r.ods.length = ms.length ∧ r.post = [] ∧
      (r.outs = (List.range ms.length).map fun i => lk s (j + i)) ∧ (r.ents = ms.zipIdx.map fun m => (lk s (j + m.2), ⟨ver, [], resLeaf m.1⟩)) ∧
      (∀ i (h1 : i < r.las.length) (h2 : i < ms.length), r.las[i] = boxLA s (j + i) ms[i]) ∧
      ∀ i (h1 : i < r.las.length) (h2 : i < r.ods.length) (h3 : j + i < cs.length), LeafArg F r.las[i] cs[j + i] (r.ods[i].rd F.env) := by
  intro ms
  induction ms with
  | nil =>
    intro j r hr _
    simp only [lendBox, Q.run, Option.some.injEq] at hr
    subst hr
    exact ⟨rfl, rfl, rfl, rfl, rfl, fun i h => by simp at h, fun i h => by simp at h⟩
  | cons m ms ih =>
    intro j r hr hj
    simp only [List.length_cons] at hj
    have hlt : j < cs.length := by omega
    have hv : cs[j]? = some cs[j] := List.getElem?_eq_getElem hlt
    have hlf := hl j _ hv
    have fin : ∀ {r2 : Lent}, (lendBox ver s (j + 1) ms).run F.G = some r2 → LeafArg F (boxLA s j m) cs[j] (F.env (lk s j)) →
        r = ⟨.k (lk s j) :: r2.ods, boxLA s j m :: r2.las, lk s j :: r2.outs, (lk s j, ⟨ver, [], resLeaf m⟩) :: r2.ents, []⟩ →
        r.las.length = (m :: ms).length ∧ r.ods.length = (m :: ms).length ∧ r.post = [] ∧
        (r.outs = (List.range (m :: ms).length).map fun i => lk s (j + i)) ∧ (r.ents = (m :: ms).zipIdx.map fun m => (lk s (j + m.2), ⟨ver, [], resLeaf m.1⟩)) ∧
        (∀ i (h1 : i < r.las.length) (h2 : i < (m :: ms).length), r.las[i] = boxLA s (j + i) (m :: ms)[i]) ∧
        ∀ i (h1 : i < r.las.length) (h2 : i < r.ods.length) (h3 : j + i < cs.length), LeafArg F r.las[i] cs[j + i] (r.ods[i].rd F.env) := by
      intro r2 h2 hla hr
      subst hr
      obtain ⟨a1, a2, a3, a4, a5, a6, a7⟩ := ih h2 (by omega)
      refine ⟨by simp [a1], by simp [a2], rfl, ?_, ?_, fun i h1 h2 => ?_, fun i hi1 hi2 hi3 => ?_⟩
      · simp only [List.length_cons, List.range_succ_eq_map, List.map_cons, List.map_map, a4, Nat.add_zero, List.cons.injEq, true_and]
        apply List.map_congr_left
        intro i _
        simp only [Function.comp]
        congr 1; omega
      · simp only [List.zipIdx_cons, List.map_cons, a5, Nat.add_zero, List.cons.injEq, true_and]
        rw [show 0 + 1 = 1 from rfl, List.zipIdx_succ]
        simp only [List.map_map]
        apply List.map_congr_left
        intro x _
        simp only [Function.comp]
        congr 2; omega
      · cases i with
        | zero => simp
        | succ i =>
          simp only [List.getElem_cons_succ]
          have := a6 i (by simpa using h1) (by simpa using h2)
          rw [this, show j + 1 + i = j + (i + 1) by omega]
      · cases i with
        | zero => exact hla
        | succ i =>
          simp only [List.getElem_cons_succ]
          have := a7 i (by simpa using hi1) (by simpa using hi2) (by omega)
          simpa [show j + (i + 1) = j + 1 + i by omega] using this
    cases m with
    | none =>
      simp only [lendBox, Q.run_bind', Q.run_ent, Option.bind_some, Q.run_guard] at hr
      split at hr
      case isFalse => simp at hr
      rename_i hva
      have hva : (F.G (lk s j)).st = .va := by simpa using hva
      simp only [Option.bind_some] at hr
      cases h2 : (lendBox ver s (j + 1) ms).run F.G with
      | none => rw [h2] at hr; simp at hr
      | some r2 =>
        rw [h2] at hr
        simp only [Option.bind_some, Q.run, Option.some.injEq] at hr
        exact fin h2 (by rw [hva] at hlf; exact hlf) hr.symm
    | some m0 =>
      simp only [lendBox, Q.run_bind', Q.run_ent, Option.bind_some] at hr
      cases h2 : (lendBox ver s (j + 1) ms).run F.G with
      | none => rw [h2] at hr; simp at hr
      | some r2 =>
        rw [h2] at hr
        simp only [Option.bind_some, Q.run_guard] at hr
        split at hr
        case isFalse => simp at hr
        rename_i hg
        simp only [Bool.or_eq_true, beq_iff_eq] at hg
        simp only [Option.bind_some, Q.run, Option.some.injEq] at hr
        refine fin h2 ?_ hr.symm
        have hle := hh.2
        refine ⟨⟨cs, by rw [lk_div (by omega)]; exact hh, by rw [lk_mod (by omega)]; exact hv⟩, ?_, fun m2 p2 he => by rcases hg with hg | hg <;> rw [hg] at he <;> cases he⟩
        show Rd F.H F.lab (.sl .own m0) [lk s j] [cs[j]] (F.env (lk s j)).τ (F.env (lk s j)).v
        rcases hg with hg | hg <;> rw [hg] at hlf
        · obtain ⟨ad, e, hv, he⟩ := hlf
          rw [hv, he]
          simp only [Rd]
          refine ⟨ad, 0, rfl, ?_⟩
          cases ad with
          | none => exact ⟨trivial, rfl⟩
          | some p => exact .inl ⟨trivial, rfl⟩
        · exact hlf.1

end
end Go.Lf

/- Calls, third part: every argument. -/
namespace Go.Lf

/-- Nothing is lent. -/
def Arg.Quiet (A : Arg) : Prop := A.box = none ∧ A.outs = [] ∧ A.ents = [] ∧ A.post = []

/-- What is lent, by the kind of the parameter. -/
def ArgBack (F : Fr) (ver d0 : Nat) (A : Arg) : PK → Prop
  | .io _ ms => A.box = none ∧ ∃ r : Lent, LendOk F ver d0 r ∧ A.las = r.las ∧ A.outs = [r.outs] ∧ A.ents = r.ents ∧ A.post = r.post ∧ r.las.length = ms.length
  | .q _ ms => ∃ s, A.box = some s ∧ (F.G (sk s)).st = .bx ms.length ∧ A.outs = [(List.range ms.length).map fun i => lk s i] ∧ A.ents = (ms.zipIdx.map fun m => (lk s m.2, ⟨ver, [], resLeaf m.1⟩)) ∧ A.post = [] ∧
      A.las.length = ms.length ∧ ∀ i (h1 : i < A.las.length) (h2 : i < ms.length), A.las[i] = boxLA s i ms[i]
  | _ => A.Quiet

/-- Captured pointers, one after the other. -/
def ClosAll (F : Fr) : List Ty → List Arg → List Value → List Value → Prop
  | [], [], [], cs => cs = []
  | τ :: τs, A :: As, V :: Vs, cs => ∃ c1 c2, cs = c1 ++ c2 ∧ ArgOk F (.p τ) A V c1 ∧ A.Quiet ∧ ClosAll F τs As Vs c2
  | _, _, _, _ => False

section
variable {F : Fr} {clk : Clk} {C : Cfg} {d : Nat} {a : Act} {w : World} {P : Program} {es : List (Nat × Ent)}

theorem PaOk.seen {seen : List Nat} {V : Value} {n : Nat} {cs : List Value} (h : PaOk F.H F.lab V n cs) : PaSeen F seen V n cs := by
  obtain ⟨b, off, c, ty, fr, h1, h2, h3, h4, h5⟩ := h
  exact ⟨b, off, c, ty, fr, h1, .inl h2, h3, h4, h5⟩

theorem PaSeen.len {seen : List Nat} {V : Value} {n : Nat} {cs : List Value} (h : PaSeen F seen V n cs) : cs.length = n := by
  obtain ⟨b, off, c, ty, fr, _, _, _, hz, rfl⟩ := h
  exact cut_length hz

theorem PaSeen.mono {s1 s2 : List Nat} (hs : ∀ k ∈ s1, k ∈ s2) {V : Value} {n : Nat} {cs : List Value} (h : PaSeen F s1 V n cs) : PaSeen F s2 V n cs := by
  obtain ⟨b, off, c, ty, fr, h1, h2, h3⟩ := h
  exact ⟨b, off, c, ty, fr, h1, h2.imp id fun ⟨k, hk, hl⟩ => ⟨k, hs k hk, hl⟩, h3⟩

theorem PasSeen.mono {s1 s2 : List Nat} (hs : ∀ k ∈ s1, k ∈ s2) : ∀ {Vs : List Value} {ns : List Nat} {cs : List Value}, PasSeen F s1 Vs ns cs → PasSeen F s2 Vs ns cs
  | [], [], _, h => h
  | V :: Vs, n :: ns, _, h => by
    obtain ⟨c1, c2, rfl, h1, h2⟩ := h
    exact ⟨c1, c2, rfl, h1.mono hs, PasSeen.mono hs h2⟩
  | [], _ :: _, _, h => h.elim
  | _ :: _, [], _, h => h.elim

/-- A pointer to a box, as one that is looked at. -/
theorem box_seen {s n : Nat} {cs : List Value} (hst : (F.G (sk s)).st = .bx n) (hh : F.has s cs) : PaSeen F [sk s] (F.val s) n cs := by
  have hH := hh.1
  rw [hst] at hH
  obtain ⟨b, c, ty, hv, hl, hb, rfl, hn⟩ := hH
  refine ⟨b, 0, c, ty, (0, 0), hv, .inr ⟨sk s, by simp, hl⟩, hb, by simp at hn; omega, ?_⟩
  simp [cut]
  rw [List.take_of_length_le (by omega)]

theorem argp {τ : Ty} {seen : List Nat} {V : Value} {cs : List Value} {ods : List Od} {las : List LA} (hp : PaSeen F seen V τ.n cs) (h1 : las.length = τ.n) (h2 : ods.length = τ.n)
    (hl : ∀ i (h1 : i < las.length) (h2 : i < ods.length) (h3 : 0 + i < cs.length), LeafArg F las[i] cs[0 + i] (ods[i].rd F.env)) :
    ArgOk F (.p τ) ⟨[(τ, ods)], las, seen, none, [], [], []⟩ V cs := by
  have hlen := hp.len
  refine ⟨by show las.length = _; omega, by simp [Arg.ods, h2, hlen], rfl, fun j g1 g2 g3 => ?_, hp⟩
  simp only [Arg.ods, List.flatMap_cons, List.flatMap_nil, List.append_nil] at g2 ⊢
  simpa using hl j g1 g2 (by omega)

theorem capOf_run (h : St F clk) {ch : List (Nat × Bool)} (hch : holds F.env ch = true) {τ : Ty} {s sv : Nat} {A : Arg} (hr : (capOf ch τ s sv).run F.G = some A) :
    (F.G (sk s)).ver = sv ∧ ∃ cs, ArgOk F (.p τ) A (F.val s) cs ∧ A.Quiet := by
  simp only [capOf, Q.run_bind'] at hr
  cases hs : (slotK ch s).run F.G with
  | none => rw [hs] at hr; simp at hr
  | some e =>
    rw [hs] at hr
    obtain ⟨rfl, hcl⟩ := h.slot hch hs
    simp only [Option.bind_some, Q.run_guard] at hr
    split at hr
    case isFalse => simp at hr
    rename_i hv
    have hv : (F.G (sk s)).ver = sv := by simpa using hv
    refine ⟨hv, ?_⟩
    simp only [Option.bind_some] at hr
    cases hst : (F.G (sk s)).st <;> rw [hst] at hr hcl <;> simp only [Q.run, Q.run_bind', Q.run_guard, reduceCtorEq] at hr
    case bx n =>
      split at hr
      case isFalse => simp at hr
      rename_i hn
      have hn : n = τ.n := by simpa using hn
      simp only [Option.bind_some] at hr
      cases hra : (readAll ch s 0 n).run F.G with
      | none => rw [hra] at hr; simp at hr
      | some r =>
        obtain ⟨ods, las⟩ := r
        rw [hra] at hr
        simp only [Option.bind_some, Option.some.injEq] at hr
        subst hr
        rw [claim_leafy rfl] at hcl
        obtain ⟨cs, hh, hlf⟩ := hcl
        have hc := Fr.has_cells hh
        rw [hst] at hc
        simp only [ES.cells] at hc
        obtain ⟨a1, a2, a3⟩ := readAll_run h hch hh hlf hra (by omega)
        exact ⟨cs, argp (by rw [← hn]; exact box_seen hst hh) (by omega) (by omega) a3, rfl, rfl, rfl, rfl⟩
    case pa n =>
      split at hr
      case isFalse => simp at hr
      rename_i hn
      have hn : n = τ.n := by simpa using hn
      simp only [Option.bind_some] at hr
      cases hra : (readAll ch s 0 n).run F.G with
      | none => rw [hra] at hr; simp at hr
      | some r =>
        obtain ⟨ods, las⟩ := r
        rw [hra] at hr
        simp only [Option.bind_some, Option.some.injEq] at hr
        subst hr
        rw [claim_leafy rfl] at hcl
        obtain ⟨cs, hh, hlf⟩ := hcl
        have hc := Fr.has_cells hh
        have hH := hh.1
        rw [hst] at hc hH
        simp only [ES.cells] at hc
        obtain ⟨a1, a2, a3⟩ := readAll_run h hch hh hlf hra (by omega)
        exact ⟨cs, argp (by rw [← hn]; exact PaOk.seen hH) (by omega) (by omega) a3, rfl, rfl, rfl, rfl⟩

theorem capsOf_run (h : St F clk) {ch : List (Nat × Bool)} (hch : holds F.env ch = true) : ∀ {τs : List Ty} {cs : List (Nat × Nat)} {As : List Arg}, (capsOf ch τs cs).run F.G = some As →
    (∀ c ∈ cs, (F.G (sk c.1)).ver = c.2) ∧ ∃ cells, ClosAll F τs As (cs.map fun c => F.val c.1) cells
  | [], [], As, hr => by
    simp only [capsOf, Q.run, Option.some.injEq] at hr
    subst hr
    exact ⟨fun c hc => by simp at hc, [], rfl⟩
  | τ :: τs, (s, sv) :: cs, As, hr => by
    simp only [capsOf, Q.run_bind'] at hr
    cases h1 : (capOf ch τ s sv).run F.G with
    | none => rw [h1] at hr; simp at hr
    | some A =>
      rw [h1] at hr
      simp only [Option.bind_some] at hr
      cases h2 : (capsOf ch τs cs).run F.G with
      | none => rw [h2] at hr; simp at hr
      | some As' =>
        rw [h2] at hr
        simp only [Option.bind_some, Q.run, Option.some.injEq] at hr
        subst hr
        obtain ⟨hv, c1, hA, hq⟩ := capOf_run h hch h1
        obtain ⟨hvs, c2, hAs⟩ := capsOf_run h hch h2
        refine ⟨fun c hc => ?_, c1 ++ c2, c1, c2, rfl, hA, hq, hAs⟩
        rcases List.mem_cons.1 hc with rfl | hc
        · exact hv
        · exact hvs c hc
  | [], _ :: _, _, hr => by simp [capsOf, Q.run] at hr
  | _ :: _, [], _, hr => by simp [capsOf, Q.run] at hr

theorem cpOf_run (h : St F clk) {ch : List (Nat × Bool)} (hch : holds F.env ch = true) {s : Nat} {cs : List Value} (hh : F.has s cs)
    (hl : ∀ j v, cs[j]? = some v → LeafOk F (lk s j) (F.G (lk s j)).st v) : ∀ {τs : List Ty} {j : Nat} {As : List Arg} {ps : List Value}, (cpOf ch s j τs).run F.G = some As →
    PasOk F.H F.lab ps (τs.map Ty.n) (cs.drop j) → ClosAll F τs As ps (cs.drop j)
  | [], j, As, ps, hr, hp => by
    simp only [cpOf, Q.run, Option.some.injEq] at hr
    subst hr
    cases ps with
    | nil => exact hp
    | cons p ps => exact hp.elim
  | τ :: τs, j, As, ps, hr, hp => by
    simp only [cpOf, Q.run_bind'] at hr
    cases h1 : (readAll ch s j τ.n).run F.G with
    | none => rw [h1] at hr; simp at hr
    | some r =>
      obtain ⟨ods, las⟩ := r
      rw [h1] at hr
      simp only [Option.bind_some] at hr
      cases h2 : (cpOf ch s (j + τ.n) τs).run F.G with
      | none => rw [h2] at hr; simp at hr
      | some As' =>
        rw [h2] at hr
        simp only [Option.bind_some, Q.run, Option.some.injEq] at hr
        subst hr
        cases ps with
        | nil => exact hp.elim
        | cons p ps =>
          obtain ⟨c1, c2, hc, hp1, hp2⟩ := hp
          have hp1' : PaSeen F [] p τ.n c1 := hp1.seen
          have hl1 := hp1'.len
          have hcl : (cs.drop j).length = c1.length + c2.length := by rw [hc]; simp
          simp only [List.length_drop] at hcl
          have htn := τ.n_pos
          have hc2 : cs.drop (j + τ.n) = c2 := by rw [← List.drop_drop, hc, ← hl1]; simp
          obtain ⟨a1, a2, a3⟩ := readAll_run h hch hh hl h1 (by omega)
          refine ⟨c1, c2, hc, argp hp1' (by omega) (by omega) (fun i g1 g2 g3 => ?_), ⟨rfl, rfl, rfl, rfl⟩, ?_⟩
          · have h5 := a3 i g1 g2 (by omega)
            have h6 : c1[0 + i] = cs[j + i]'(by omega) := by
              have h7 : (cs.drop j)[i]? = (c1 ++ c2)[i]? := by rw [hc]
              rw [List.getElem?_drop, List.getElem?_eq_getElem (by omega), List.getElem?_append_left (by omega), List.getElem?_eq_getElem (by omega)] at h7
              simp only [Nat.zero_add]
              exact (Option.some.inj h7).symm
            rw [h6]; exact h5
          · have := cpOf_run h hch hh hl h2 (ps := ps) (by rw [hc2]; exact hp2)
            rwa [hc2] at this

theorem closOf_run (h : Here F clk C es a w) {f : Nat} {caps : List Ty} {x : Operand} {As : List Arg} (hr : (closOf C f caps x).run F.G = some As) :
    ∃ ps cells, a.eval x = .func (.func f) #[] (ps : List Value).toArray ∧ ClosAll F caps As ps cells := by
  unfold closOf at hr
  cases x with
  | func g =>
    simp only [Q.run_bind', Q.run_guard] at hr
    split at hr
    case isFalse => simp at hr
    rename_i hg
    simp only [Bool.and_eq_true, beq_iff_eq, List.isEmpty_iff] at hg
    obtain ⟨rfl, rfl⟩ := hg
    simp only [Option.bind_some, Q.run, Option.some.injEq] at hr
    subst hr
    exact ⟨[], [], rfl, rfl⟩
  | tmp s =>
    simp only [Q.run_bind'] at hr
    cases hs : (slotK C.ch s).run F.G with
    | none => rw [hs] at hr; simp at hr
    | some e =>
      rw [hs] at hr
      obtain ⟨rfl, hcl⟩ := h.st.slot h.ch hs
      simp only [Option.bind_some] at hr
      rw [h.rel.val]
      cases hst : (F.G (sk s)).st <;> rw [hst] at hr hcl <;> simp only [Q.run, Q.run_bind', Q.run_guard, reduceCtorEq] at hr
      case cl g cs =>
        split at hr
        case isFalse => simp at hr
        rename_i hg
        have hg : g = f := by simpa using hg
        subst hg
        simp only [Option.bind_some] at hr
        obtain ⟨hv, cells, hc⟩ := capsOf_run h.st h.ch hr
        obtain ⟨ps, p1, p2, p3⟩ := hcl
        refine ⟨ps, cells, p1, ?_⟩
        have : ps = cs.map fun c => F.val c.1 := by
          apply List.ext_getElem?
          intro i
          rw [List.getElem?_map]
          cases hci : cs[i]? with
          | none =>
            have := List.getElem?_eq_none_iff.1 hci
            exact List.getElem?_eq_none (by omega)
          | some c => exact p3 i c hci (hv c (List.mem_of_getElem? hci))
        rw [this]; exact hc
      case cp g ns =>
        split at hr
        case isFalse => simp at hr
        rename_i hg
        simp only [Bool.and_eq_true, beq_iff_eq] at hg
        obtain ⟨rfl, rfl⟩ := hg
        simp only [Option.bind_some] at hr
        rw [claim_leafy rfl] at hcl
        obtain ⟨cs, hh, hlf⟩ := hcl
        have hH := hh.1
        rw [hst] at hH
        obtain ⟨ps, p1, p2⟩ := hH
        exact ⟨ps, cs, p1, by simpa using cpOf_run h.st h.ch hh hlf hr (by simpa using p2)⟩
  | _ => simp [Q.run] at hr

/-- All operands. -/
def jo (As : List Arg) : List Od := (As.flatMap Arg.data).flatMap Prod.snd

theorem jo_cons (A : Arg) (As : List Arg) : jo (A :: As) = A.ods ++ jo As := by simp [jo, Arg.ods]

theorem clos_join : ∀ {τs : List Ty} {As : List Arg} {ps cs : List Value}, ClosAll F τs As ps cs →
    PasSeen F (As.flatMap (·.seen)) ps (τs.map Ty.n) cs ∧ (As.flatMap (·.las)).length = cs.length ∧ (jo As).length = cs.length ∧ (As.flatMap (·.data)).map (·.1) = τs ∧
      ∀ j (h1 : j < (As.flatMap (·.las)).length) (h2 : j < (jo As).length) (h3 : j < cs.length), LeafArg F (As.flatMap (·.las))[j] cs[j] ((jo As)[j].rd F.env)
  | [], [], [], cs, h => by
    simp only [ClosAll] at h
    subst h
    exact ⟨rfl, rfl, rfl, rfl, fun j h => by simp at h⟩
  | τ :: τs, A :: As, V :: Vs, cs, h => by
    obtain ⟨c1, c2, rfl, hA, hq, hr⟩ := h
    obtain ⟨g1, g2, g3, g4, g5⟩ := clos_join hr
    have hl := hA.len
    have ho := hA.ods
    have ht := hA.tys
    refine ⟨⟨c1, c2, rfl, PaSeen.mono (fun k hk => by simp [hk]) (show PaSeen F A.seen V τ.n c1 from hA.kind), g1.mono (fun k hk => by simp only [List.flatMap_cons, List.mem_append]; exact .inr hk)⟩,
      by simp only [List.flatMap_cons, List.length_append]; omega, ?_, ?_, fun j h1 h2 h3 => ?_⟩
    · rw [jo_cons, List.length_append, List.length_append, g3]
      omega
    · simp only [List.flatMap_cons, List.map_append, g4, ht]; rfl
    · by_cases hj : j < c1.length
      · have := hA.leaf j (by omega) (by omega) hj
        have h9 : (jo (A :: As))[j]'h2 = A.ods[j]'(by omega) := by
          simp only [jo_cons]
          rw [List.getElem_append_left (by omega)]
        rw [h9]
        simp only [List.flatMap_cons]
        rw [List.getElem_append_left (by omega), List.getElem_append_left hj]
        exact this
      · have h2' := h2
        have h1' := h1
        simp only [List.length_append] at h3
        simp only [jo_cons, List.length_append] at h2'
        simp only [List.flatMap_cons, List.length_append] at h1'
        have := g5 (j - c1.length) (by omega) (by omega) (by omega)
        have h9 : (jo (A :: As))[j]'h2 = (jo As)[j - c1.length]'(by omega) := by
          simp only [jo_cons]
          rw [List.getElem_append_right (by omega)]
          congr 1; omega
        rw [h9]
        simp only [List.flatMap_cons]
        rw [List.getElem_append_right (by omega), List.getElem_append_right (by omega)]
        simpa [hl] using this
  | [], _ :: _, _, _, h => by cases ‹List Value› <;> exact h.elim
  | [], [], _ :: _, _, h => h.elim
  | _ :: _, [], _, _, h => by cases ‹List Value› <;> exact h.elim
  | _ :: _, _ :: _, [], _, h => h.elim

end
end Go.Lf

/- Calls, fourth part: argument by argument. -/
namespace Go.Lf

/-- All arguments of a call. -/
def ArgsAll (F : Fr) (ver d0 : Nat) : List PK → List Arg → List Value → List (List Value) → Prop
  | [], [], [], [] => True
  | p :: ps, A :: As, V :: Vs, cs :: css => ArgOk F p A V cs ∧ ArgBack F ver d0 A p ∧ ArgsAll F ver d0 ps As Vs css
  | _, _, _, _ => False

section
variable {F : Fr} {clk : Clk} {C : Cfg} {d : Nat} {a : Act} {w : World} {P : Program} {es : List (Nat × Ent)}

theorem cst_leaf (c : Cst) : LeafArg F (cstLA c) c.val c.dyn := by
  cases c <;> simp [cstLA, LeafArg, RdOf, Cst.val, Cst.dyn, Ty.shr, Rd]

theorem cstArg_ok {τ : Ty} {v : Value} {cs : List Cst} (h : cstLeaves τ v = some cs) {pk : PK} (hp : pk.tys = [τ]) (hk : ∀ V cs', KindArg F (cstArg τ cs) V cs' pk ↔ (V = mkVal τ.isPair cs' ∧ cs'.length = τ.n)) :
    ArgOk F pk (cstArg τ cs) v (cs.map Cst.val) := by
  obtain ⟨h1, h2⟩ := cstLeaves_val h
  refine ⟨by simp [cstArg], by simp [Arg.ods, cstArg], by simp [cstArg, hp], fun j g1 g2 g3 => ?_, (hk _ _).2 ⟨h1, by simp [h2]⟩⟩
  have hj : j < cs.length := by simpa using g3
  simp only [Arg.ods, cstArg, List.flatMap_cons, List.flatMap_nil, List.append_nil, List.getElem_map, Od.rd]
  exact cst_leaf _

theorem argv {s : Nat} {τ : Ty} {pk : PK} {V : Value} {cs : List Value} {A : Arg} {ods : List Od} (hV : V = mkVal τ.isPair cs) (hn : cs.length = τ.n) (hp : pk.tys = [τ]) (hk : ∀ V cs', KindArg F A V cs' pk ↔ (V = mkVal τ.isPair cs' ∧ cs'.length = τ.n))
    (hA : A.data = [(τ, ods)]) (h1 : A.las.length = τ.n) (h2 : ods.length = τ.n)
    (hl : ∀ i (h1 : i < A.las.length) (h2 : i < ods.length) (h3 : 0 + i < cs.length), LeafArg F A.las[i] cs[0 + i] (ods[i].rd F.env)) : ArgOk F pk A V cs := by
  have ho : A.ods = ods := by simp [Arg.ods, hA]
  refine ⟨by omega, by rw [ho]; omega, by simp [hA, hp], fun j g1 g2 g3 => ?_, (hk _ _).2 ⟨hV, hn⟩⟩
  have := hl j g1 (by omega) (by omega)
  simp only [Nat.zero_add] at this
  simpa only [ho] using this

theorem argOf_run (h : Here F clk C es a w) {pk : PK} {x : Operand} {A : Arg} (hr : (argOf C d pk x).run F.G = some A) : ∃ cs, ArgOk F pk A (a.eval x) cs ∧ ArgBack F C.ver d A pk := by
  have plain : ∀ {s : Nat} {τ : Ty}, x = .tmp s → ∀ {e : Ent}, (slotK C.ch s).run F.G = some e → e.st = .pl τ.n τ.isPair →
      ∃ cs, F.has s cs ∧ a.eval x = mkVal τ.isPair cs ∧ cs.length = τ.n ∧ ∀ j v, cs[j]? = some v → LeafOk F (lk s j) (F.G (lk s j)).st v := by
    intro s τ hx e hs he
    subst hx
    obtain ⟨rfl, hcl⟩ := h.st.slot h.ch hs
    rw [he] at hcl
    obtain ⟨cs, hh, hlf⟩ := hcl
    have hH := hh.1
    rw [he] at hH
    exact ⟨cs, hh, by rw [h.rel.val]; exact hH.1, hH.2.1, hlf⟩
  cases pk with
  | v τ =>
    unfold argOf at hr
    cases x <;> simp only [Q.run, Q.run_bind', Q.run_ofOption, reduceCtorEq] at hr
    case const v =>
      cases hc : cstLeaves τ v with
      | none => rw [hc] at hr; simp at hr
      | some cs =>
        rw [hc] at hr
        simp only [Option.bind_some, Option.some.injEq] at hr
        subst hr
        exact ⟨_, cstArg_ok hc rfl (fun _ _ => Iff.rfl), rfl, rfl, rfl, rfl⟩
    case tmp s =>
      cases hs : (slotK C.ch s).run F.G with
      | none => rw [hs] at hr; simp at hr
      | some e =>
        rw [hs] at hr
        simp only [Option.bind_some, Q.run_guard] at hr
        split at hr
        case isFalse => simp at hr
        rename_i he
        have he : e.st = .pl τ.n τ.isPair := by simpa using he
        simp only [Option.bind_some] at hr
        cases hra : (readAll C.ch s 0 τ.n).run F.G with
        | none => rw [hra] at hr; simp at hr
        | some r =>
          obtain ⟨ods, las⟩ := r
          rw [hra] at hr
          simp only [Option.bind_some, Option.some.injEq] at hr
          subst hr
          obtain ⟨cs, hh, hV, hn, hlf⟩ := plain rfl hs he
          obtain ⟨a1, a2, a3⟩ := readAll_run h.st h.ch hh hlf hra (by omega)
          exact ⟨cs, argv (s := s) hV hn rfl (fun _ _ => Iff.rfl) rfl a1 a2 a3, rfl, rfl, rfl, rfl⟩
  | p τ =>
    unfold argOf at hr
    simp only [Q.run_bind'] at hr
    cases hA : (adrOf C.ch x).run F.G with
    | none => rw [hA] at hr; simp at hr
    | some A0 =>
      rw [hA] at hr
      have hA' := adrOf_run h.st h.ch h.rel hA
      simp only [Option.bind_some] at hr
      cases A0 with
      | box s sv off n =>
        cases off with
        | succ o => simp [Q.run] at hr
        | zero =>
          simp only [Q.run_bind', Q.run_guard] at hr
          split at hr
          case isFalse => simp at hr
          rename_i hn
          have hn : n = τ.n := by simpa using hn
          simp only [Option.bind_some] at hr
          cases hra : (readAll C.ch s 0 n).run F.G with
          | none => rw [hra] at hr; simp at hr
          | some r =>
            obtain ⟨ods, las⟩ := r
            rw [hra] at hr
            simp only [Option.bind_some, Q.run, Option.some.injEq] at hr
            subst hr
            obtain ⟨h1, h2, h3, b, h4, h5⟩ := hA'
            obtain ⟨cs, hh, hlf⟩ := h3
            have hc := Fr.has_cells hh
            rw [h2] at hc
            simp only [ES.cells] at hc
            obtain ⟨a1, a2, a3⟩ := readAll_run h.st h.ch hh hlf hra (by omega)
            refine ⟨cs, argp ?_ (by omega) (by omega) a3, rfl, rfl, rfl, rfl⟩
            rw [h5, ← h4, ← hn]
            exact box_seen h2 hh
      | shr s n =>
        simp only [Q.run_bind', Q.run_guard] at hr
        split at hr
        case isFalse => simp at hr
        rename_i hn
        have hn : n = τ.n := by simpa using hn
        simp only [Option.bind_some] at hr
        cases hra : (readAll C.ch s 0 n).run F.G with
        | none => rw [hra] at hr; simp at hr
        | some r =>
          obtain ⟨ods, las⟩ := r
          rw [hra] at hr
          simp only [Option.bind_some, Q.run, Option.some.injEq] at hr
          subst hr
          obtain ⟨h1, h2, h3⟩ := hA'
          obtain ⟨cs, hh, hlf⟩ := h2
          have hc := Fr.has_cells hh
          have hH := hh.1
          rw [h1] at hc hH
          simp only [ES.cells] at hc
          obtain ⟨a1, a2, a3⟩ := readAll_run h.st h.ch hh hlf hra (by omega)
          refine ⟨cs, argp ?_ (by omega) (by omega) a3, rfl, rfl, rfl, rfl⟩
          rw [← h3, ← hn]
          exact PaOk.seen hH
      | elt k kv i iv off => simp [Q.run] at hr
  | m τ ms =>
    unfold argOf at hr
    cases x <;> simp only [Q.run, Q.run_bind', Q.run_ofOption, reduceCtorEq] at hr
    case const v =>
      cases hc : cstLeaves τ v with
      | none => rw [hc] at hr; simp at hr
      | some cs =>
        rw [hc] at hr
        simp only [Option.bind_some, Option.some.injEq] at hr
        subst hr
        exact ⟨_, cstArg_ok hc rfl (fun _ _ => Iff.rfl), rfl, rfl, rfl, rfl⟩
    case tmp s =>
      cases hs : (slotK C.ch s).run F.G with
      | none => rw [hs] at hr; simp at hr
      | some e =>
        rw [hs] at hr
        simp only [Option.bind_some, Q.run_guard] at hr
        split at hr
        case isFalse => simp at hr
        rename_i he
        simp only [Bool.and_eq_true, beq_iff_eq] at he
        simp only [Option.bind_some] at hr
        cases hra : (takeAll C.ch s 0 ms).run F.G with
        | none => rw [hra] at hr; simp at hr
        | some r =>
          obtain ⟨ods, las⟩ := r
          rw [hra] at hr
          simp only [Option.bind_some, Option.some.injEq] at hr
          subst hr
          obtain ⟨cs, hh, hV, hn, hlf⟩ := plain rfl hs he.1
          obtain ⟨a1, a2, a3⟩ := takeAll_run h.st h.ch hh hlf hra (by omega)
          exact ⟨cs, argv (s := s) hV hn rfl (fun _ _ => Iff.rfl) rfl (by show las.length = _; omega) (by omega) a3, rfl, rfl, rfl, rfl⟩
  | io τ ms =>
    unfold argOf at hr
    cases x <;> simp only [Q.run, Q.run_bind', Q.run_ofOption, reduceCtorEq] at hr
    case tmp s =>
      cases hs : (slotK C.ch s).run F.G with
      | none => rw [hs] at hr; simp at hr
      | some e =>
        rw [hs] at hr
        simp only [Option.bind_some, Q.run_guard] at hr
        split at hr
        case isFalse => simp at hr
        rename_i he
        simp only [Bool.and_eq_true, beq_iff_eq] at he
        simp only [Option.bind_some] at hr
        cases hra : (lendAll C.ch C.ver d s 0 (τ.leaves.zip ms)).run F.G with
        | none => rw [hra] at hr; simp at hr
        | some r =>
          rw [hra] at hr
          simp only [Option.bind_some, Option.some.injEq] at hr
          subst hr
          obtain ⟨cs, hh, hV, hn, hlf⟩ := plain rfl hs he.1
          have hz : (τ.leaves.zip ms).length = τ.n := by simp [Ty.leaves_len, he.2]
          obtain ⟨a1, a2, aL, a3⟩ := lendAll_run h.st h.ch hh hlf hra (by omega)
          refine ⟨cs, argv (s := s) hV hn rfl (fun _ _ => Iff.rfl) rfl (by show r.las.length = _; omega) (by omega) a3, rfl, r, aL, rfl, rfl, rfl, rfl, by omega⟩
  | q τ ms =>
    unfold argOf at hr
    simp only [Q.run_bind'] at hr
    cases hA : (adrOf C.ch x).run F.G with
    | none => rw [hA] at hr; simp at hr
    | some A0 =>
      rw [hA] at hr
      have hA' := adrOf_run h.st h.ch h.rel hA
      simp only [Option.bind_some] at hr
      cases A0 with
      | box s sv off n =>
        cases off with
        | succ o => simp [Q.run] at hr
        | zero =>
          simp only [Q.run_bind', Q.run_guard] at hr
          split at hr
          case isFalse => simp at hr
          rename_i hn
          simp only [Bool.and_eq_true, beq_iff_eq] at hn
          simp only [Option.bind_some] at hr
          cases hra : (lendBox C.ver s 0 ms).run F.G with
          | none => rw [hra] at hr; simp at hr
          | some r =>
            rw [hra] at hr
            simp only [Option.bind_some, Q.run, Option.some.injEq] at hr
            subst hr
            obtain ⟨h1, h2, h3, b, h4, h5⟩ := hA'
            obtain ⟨cs, hh, hlf⟩ := h3
            have hc := Fr.has_cells hh
            have hH := hh.1
            rw [h2] at hc hH
            simp only [ES.cells] at hc
            obtain ⟨a1, a2, a3, a4, a5, a6, a7⟩ := lendBox_run hh hlf hra (by omega)
            obtain ⟨b', c, ty, hv, hlab, hb, hcs, hcn⟩ := hH
            rw [h4] at hv
            simp only [Value.pointer.injEq, Option.some.injEq, Addr.mk.injEq, and_true] at hv
            subst hv
            refine ⟨cs, ⟨by show r.las.length = _; omega, by simp [Arg.ods]; omega, rfl, fun j g1 g2 g3 => ?_, ⟨s, b, c, ty, rfl, h5, by rw [h4, h5], hlab, hb, hcs, by omega⟩⟩, s, rfl, by rw [h2]; congr 1; omega, ?_, ?_, rfl, by show r.las.length = _; omega, fun i g1 g2 => ?_⟩
            · simp only [Arg.ods, List.flatMap_cons, List.flatMap_nil, List.append_nil] at g2 ⊢
              simpa using a7 j g1 g2 (by omega)
            · simp only [a4, Nat.zero_add]
            · simp only [a5, Nat.zero_add]
            · have := a6 i g1 g2
              simpa using this
      | shr s n => simp [Q.run] at hr
      | elt k kv i iv off => simp [Q.run] at hr
  | c f caps =>
    unfold argOf at hr
    simp only [Q.run_bind'] at hr
    cases hcl : (closOf C f caps x).run F.G with
    | none => rw [hcl] at hr; simp at hr
    | some As =>
      rw [hcl] at hr
      simp only [Option.bind_some, Q.run, Option.some.injEq] at hr
      subst hr
      obtain ⟨ps, cells, hV, hall⟩ := closOf_run h hcl
      obtain ⟨g1, g2, g3, g4, g5⟩ := clos_join hall
      exact ⟨cells, ⟨g2, g3, g4, g5, ps, hV, g1⟩, rfl, rfl, rfl, rfl⟩

theorem argsOf_run (h : Here F clk C es a w) : ∀ {ps : List PK} {xs : List Operand} {As : List Arg}, (argsOf C d ps xs).run F.G = some As → ∃ css, ArgsAll F C.ver d ps As (xs.map a.eval) css
  | [], [], As, hr => by
    simp only [argsOf, Q.run, Option.some.injEq] at hr
    subst hr
    exact ⟨[], trivial⟩
  | p :: ps, x :: xs, As, hr => by
    simp only [argsOf, Q.run_bind'] at hr
    cases h1 : (argOf C d p x).run F.G with
    | none => rw [h1] at hr; simp at hr
    | some A =>
      rw [h1] at hr
      simp only [Option.bind_some] at hr
      cases h2 : (argsOf C d ps xs).run F.G with
      | none => rw [h2] at hr; simp at hr
      | some As' =>
        rw [h2] at hr
        simp only [Option.bind_some, Q.run, Option.some.injEq] at hr
        subst hr
        obtain ⟨cs, g1, g2⟩ := argOf_run h h1
        obtain ⟨css, g3⟩ := argsOf_run h h2
        exact ⟨cs :: css, g1, g2, g3⟩
  | [], _ :: _, _, hr => by simp [argsOf, Q.run] at hr
  | _ :: _, [], _, hr => by simp [argsOf, Q.run] at hr

/-- Captured pointers as parameters of their own. -/
theorem clos_args {ver d0 : Nat} : ∀ {rest : List PK} {caps : List Ty} {As : List Arg} {Vs cs : List Value}, mapOpt PK.ptr rest = some caps → ClosAll F caps As Vs cs →
    ∃ css, ArgsAll F ver d0 rest As Vs css
  | [], caps, As, Vs, cs, hm, hc => by
    simp only [mapOpt, Option.some.injEq] at hm
    subst hm
    cases As with
    | nil => cases Vs with
      | nil => exact ⟨[], trivial⟩
      | cons _ _ => exact hc.elim
    | cons _ _ => cases Vs <;> exact hc.elim
  | p :: rest, caps, As, Vs, cs, hm, hc => by
    simp only [mapOpt] at hm
    split at hm
    · rename_i τ hτ
      split at hm
      · rename_i τs hτs
        simp only [Option.some.injEq] at hm
        subst hm
        have hp : p = .p τ := by cases p <;> simp [PK.ptr] at hτ; rw [hτ]
        subst hp
        cases As with
        | nil => cases Vs <;> exact hc.elim
        | cons A As =>
          cases Vs with
          | nil => exact hc.elim
          | cons V Vs =>
            obtain ⟨c1, c2, rfl, hA, hq, hr⟩ := hc
            obtain ⟨css, g⟩ := clos_args (ver := ver) (d0 := d0) hτs hr
            exact ⟨c1 :: css, hA, hq, g⟩
      · cases hm
    · cases hm

theorem ArgsAll.append {ver d0 : Nat} : ∀ {p1 p2 : List PK} {A1 A2 : List Arg} {V1 V2 : List Value} {c1 c2 : List (List Value)}, ArgsAll F ver d0 p1 A1 V1 c1 → ArgsAll F ver d0 p2 A2 V2 c2 → ArgsAll F ver d0 (p1 ++ p2) (A1 ++ A2) (V1 ++ V2) (c1 ++ c2)
  | [], p2, [], A2, [], V2, [], c2, _, h => h
  | p :: p1, p2, A :: A1, A2, V :: V1, V2, c :: c1, c2, h1, h2 => ⟨h1.1, h1.2.1, h1.2.2.append h2⟩
  | [], _, _ :: _, _, _, _, _, _, h, _ => by simp [ArgsAll] at h
  | [], _, [], _, _ :: _, _, _, _, h, _ => by simp [ArgsAll] at h
  | [], _, [], _, [], _, _ :: _, _, h, _ => by simp [ArgsAll] at h
  | _ :: _, _, [], _, _, _, _, _, h, _ => by simp [ArgsAll] at h
  | _ :: _, _, _ :: _, _, [], _, _, _, h, _ => by simp [ArgsAll] at h
  | _ :: _, _, _ :: _, _, _ :: _, _, [], _, h, _ => by simp [ArgsAll] at h

end
end Go.Lf

/- Calls, fifth part: the labels that the callee sees, and the leaves of its parameters. -/
namespace Go.Lf

/-- What is handed over, with the callee's keys. -/
def handed : Nat → List Arg → List (Nat × LA)
  | _, [] => []
  | i, A :: As => (A.box.map fun s => (sk i, LA.tk (sk s) .sc)).toList ++ (A.las.zipIdx.map fun p => (lk i p.2, p.1)) ++ handed (i + 1) As

/-- Where a part of an element lies below its owner. -/
def tePath (env : Env) (k i off : Nat) : List Nat :=
  match env i, env k with
  | ⟨.int _, z⟩, ⟨.slice e, _⟩ => Int.toNat z :: (e.paths[off]?).getD []
  | _, _ => []

def inLab (env : Env) : List (Nat × LA) → Nat → List Nat → Option (List Nat)
  | [], _, _ => none
  | (kc, .tk k' _) :: r, k, q => if k = k' then some (kc :: q) else inLab env r k q
  | (kc, .te k' i off _) :: r, k, q => if k = k' then (if (tePath env k' i off).isPrefixOf q then some (kc :: q.drop (tePath env k' i off).length) else none) else inLab env r k q
  | (_, .rd _) :: r, k, q => inLab env r k q
  | (_, .em) :: r, k, q => inLab env r k q

/-- The labels at the start of the callee. -/
def lab0 (F : Fr) (prs : List (Nat × LA)) (looked : List Nat) (seen : List Nat) (b : Nat) : Lab :=
  match F.lab b with
  | .own (k :: q) =>
    match inLab F.env prs k q with
    | some p => .own p
    | none => if k ∈ looked then .imm else .own []
  | .own [] => .own []
  | _ => .imm

def takenOf (prs : List (Nat × LA)) : List Nat := prs.flatMap fun p => p.2.taken

theorem inLab_none {env : Env} : ∀ {prs : List (Nat × LA)} {k : Nat} {q : List Nat}, k ∉ takenOf prs → inLab env prs k q = none
  | [], _, _, _ => rfl
  | (kc, .tk k' m) :: r, k, q, h => by
    simp only [takenOf, List.flatMap_cons, LA.taken, List.mem_append, List.mem_singleton, not_or] at h
    simp only [inLab, if_neg h.1]
    exact inLab_none h.2
  | (kc, .te k' i off m) :: r, k, q, h => by
    simp only [takenOf, List.flatMap_cons, LA.taken, List.mem_append, List.mem_singleton, not_or] at h
    simp only [inLab, if_neg h.1]
    exact inLab_none h.2
  | (kc, .rd o) :: r, k, q, h => by
    simp only [takenOf, List.flatMap_cons, LA.taken, List.nil_append] at h
    simp only [inLab]
    exact inLab_none h
  | (kc, .em) :: r, k, q, h => by
    simp only [takenOf, List.flatMap_cons, LA.taken, List.nil_append] at h
    simp only [inLab]
    exact inLab_none h

theorem mem_takenOf {prs : List (Nat × LA)} {p : Nat × LA} {k : Nat} (hp : p ∈ prs) (hk : k ∈ p.2.taken) : k ∈ takenOf prs := List.mem_flatMap.2 ⟨p, hp, hk⟩

theorem inLab_tk {env : Env} : ∀ {prs : List (Nat × LA)} {kc k : Nat} {m : M} {q : List Nat}, (takenOf prs).Nodup → (kc, LA.tk k m) ∈ prs → inLab env prs k q = some (kc :: q)
  | [], _, _, _, _, _, h => by simp at h
  | p :: r, kc, k, m, q, hn, h => by
    have hn' : (p.2.taken ++ takenOf r).Nodup := by simpa [takenOf] using hn
    obtain ⟨_, hnr, hdis⟩ := List.nodup_append.1 hn'
    rcases List.mem_cons.1 h with rfl | h
    · simp [inLab]
    · have hk := mem_takenOf h (show k ∈ (LA.tk k m).taken by simp [LA.taken])
      have ih := inLab_tk (env := env) (q := q) hnr h
      obtain ⟨kc', la⟩ := p
      cases la with
      | tk k' m' =>
        have : k ≠ k' := by rintro rfl; exact hdis k (by simp [LA.taken]) k hk rfl
        simp only [inLab, if_neg this]; exact ih
      | te k' i off m' =>
        have : k ≠ k' := by rintro rfl; exact hdis k (by simp [LA.taken]) k hk rfl
        simp only [inLab, if_neg this]; exact ih
      | rd o => exact ih
      | em => exact ih

theorem inLab_te {env : Env} : ∀ {prs : List (Nat × LA)} {kc k i off : Nat} {m : M} {q : List Nat}, (takenOf prs).Nodup → (kc, LA.te k i off m) ∈ prs →
    inLab env prs k q = (if (tePath env k i off).isPrefixOf q then some (kc :: q.drop (tePath env k i off).length) else none)
  | [], _, _, _, _, _, _, _, h => by simp at h
  | p :: r, kc, k, i, off, m, q, hn, h => by
    have hn' : (p.2.taken ++ takenOf r).Nodup := by simpa [takenOf] using hn
    obtain ⟨_, hnr, hdis⟩ := List.nodup_append.1 hn'
    rcases List.mem_cons.1 h with rfl | h
    · simp only [inLab, if_pos]
    · have hk := mem_takenOf h (show k ∈ (LA.te k i off m).taken by simp [LA.taken])
      have ih := inLab_te (env := env) (q := q) hnr h
      obtain ⟨kc', la⟩ := p
      cases la with
      | tk k' m' =>
        have : k ≠ k' := by rintro rfl; exact hdis k (by simp [LA.taken]) k hk rfl
        simp only [inLab, if_neg this]; exact ih
      | te k' i' off' m' =>
        have : k ≠ k' := by rintro rfl; exact hdis k (by simp [LA.taken]) k hk rfl
        simp only [inLab, if_neg this]; exact ih
      | rd o => exact ih
      | em => exact ih

section
variable {F F0 : Fr} {prs : List (Nat × LA)} {looked seen : List Nat}

theorem lab0_shared {b : Nat} (h : (F.lab b).shared) : lab0 F prs looked seen b = .imm := by
  unfold lab0
  cases hl : F.lab b with
  | imm => rfl
  | own p => rw [hl] at h; exact h.elim

theorem lab0_frn {b : Nat} (h : F.lab b = .own []) : lab0 F prs looked seen b = .own [] := by simp [lab0, h]

theorem lab0_looked {b k : Nat} {q : List Nat} (h : F.lab b = .own (k :: q)) (hk : k ∈ looked) (ht : k ∉ takenOf prs) : lab0 F prs looked seen b = .imm := by
  simp [lab0, h, inLab_none ht, hk]

theorem lab0_tk {b k kc : Nat} {m : M} {q : List Nat} (hn : (takenOf prs).Nodup) (h : F.lab b = .own (k :: q)) (hp : (kc, LA.tk k m) ∈ prs) : lab0 F prs looked seen b = .own (kc :: q) := by
  simp [lab0, h, inLab_tk hn hp]

theorem lab0_te {b k kc i off : Nat} {m : M} {q : List Nat} (hn : (takenOf prs).Nodup) (hp : (kc, LA.te k i off m) ∈ prs) (h : F.lab b = .own (k :: (tePath F.env k i off ++ q))) : lab0 F prs looked seen b = .own (kc :: q) := by
  simp only [lab0, h, inLab_te hn hp]
  rw [if_pos (by rw [List.isPrefixOf_iff_prefix]; exact List.prefix_append _ _)]
  simp

theorem te_path {k i off : Nat} {mk : M} {V : Value} (E : EltAt F k i mk V off) (ho : off < E.e.n) : tePath F.env k i off = E.n :: E.e.paths[off]'(by rw [Ty.paths_len]; exact ho) := by
  obtain ⟨kd, hkd⟩ := num_of E.num
  unfold tePath
  rw [hkd, E.env]
  simp only [Int.toNat_natCast]
  rw [List.getElem?_eq_getElem (by rw [Ty.paths_len]; exact ho)]
  rfl

/-- The leaf at its place below the owner. -/
theorem te_rd {k i off : Nat} {m : M} {v : Value} {y : Dyn} (h : LeafArg F (.te k i off m) v y) : Rd F.H F.lab (.sl .own m) (k :: tePath F.env k i off) [v] y.τ y.v := by
  obtain ⟨mk, org, V, h1, h2, E, h3, h4, _⟩ := h
  have ho : off < E.e.n := by have := (List.getElem?_eq_some_iff.1 h4).1; rw [flat_length] at this; exact this
  have hcv : (cut E.c E.o E.e.n)[off]? = some v := by
    simp only [cut]
    rw [List.getElem?_take_of_lt ho, List.getElem?_drop]
    simpa using h3
  obtain ⟨y', m', pos', g1, g2, g3, q, g4, g5⟩ := E.rd.leaf hcv
  rw [h4] at g1
  have g1' := Option.some.inj g1
  subst g1'
  rw [h2] at g2
  have g2' := Option.some.inj g2
  subst g2'
  rw [te_path E ho]
  rw [List.getElem?_eq_getElem (by rw [Ty.paths_len]; exact ho)] at g5
  rw [Option.some.inj g5]
  rw [g4] at g3
  simpa using g3

/-- A leaf at the start of the callee. -/
theorem entry_leaf {kc : Nat} {la : LA} {st : ES} {v : Value} {y : Dyn} (hH : F0.H = F.H) (hL : ∀ b, F0.lab b = lab0 F prs looked seen b) (hn : (takenOf prs).Nodup) (hp : (kc, la) ∈ prs)
    (hlk : ∀ k ∈ la.seen, k ∈ looked ∧ k ∉ takenOf prs) (hfit : fitsLA st la = true) (hla : LeafArg F la v y) (henv : F0.env kc = y) (horg : ∀ p m, st = .ro m (some p) → v = F0.org p) : LeafOk F0 kc st v := by
  have hsh : ∀ (b : Nat) (o : Obj), F.H[b]? = some o → (F.lab b).shared → F0.H[b]? = some o ∧ (F0.lab b).shared := by
    intro b o ho hl
    rw [hH, hL, lab0_shared hl]
    exact ⟨ho, trivial⟩
  have em : ∀ {m : M} {pos : List Nat} {md : Md}, (∃ a e, v = .slice a 0 0 ∧ y = ⟨.slice e, []⟩) → Rd F0.H F0.lab (.sl md m) pos [v] y.τ y.v := by
    rintro m pos md ⟨a, e, rfl, rfl⟩
    simp only [Rd]
    refine ⟨a, 0, rfl, ?_⟩
    cases a with
    | none => exact ⟨trivial, rfl⟩
    | some p => exact .inl ⟨trivial, rfl⟩
  cases st <;> cases la <;> (try simp only [fitsLA, Bool.false_eq_true, beq_iff_eq] at hfit)
  case va.rd o =>
    simp only [LeafOk]
    rw [henv]
    cases o with
    | none => exact Rd.shared hsh hla
    | some k =>
      obtain ⟨m, q, hR⟩ := hla
      obtain ⟨h1, h2⟩ := hlk k (by simp [LA.seen])
      refine hR.share ⟨fun b o s ho hl => ?_, hsh⟩
      rw [hH, hL, lab0_looked (k := k) (q := q ++ s) (by simpa using hl) h1 h2]
      exact ⟨ho, trivial⟩
  case va.em =>
    simp only [LeafOk]
    rw [henv]
    have hla' := hla
    obtain ⟨a, e, _, rfl⟩ := hla'
    exact em hla
  case ro.em m org =>
    refine ⟨by rw [henv]; exact em hla, fun p hp => horg p m (by rw [hp])⟩
  case ro.tk m org k m' =>
    subst hfit
    refine ⟨?_, fun p hp => horg p m (by rw [hp])⟩
    rw [henv]
    refine Rd.carry ⟨fun b o s ho hl => ?_, hsh⟩ hla.2.1
    rw [hH, hL, lab0_tk hn (by simpa using hl) hp]
    exact ⟨ho, rfl⟩
  case ro.te m org k i off m' =>
    cases org with
    | none => simp at hfit
    | some oo =>
    have hfit : m = m' := by simpa using hfit
    subst hfit
    refine ⟨?_, fun p hp => horg p m (by rw [hp])⟩
    rw [henv]
    refine Rd.carry ⟨fun b o s ho hl => ?_, hsh⟩ (te_rd hla)
    rw [hH, hL, lab0_te hn hp (by simpa using hl)]
    exact ⟨ho, rfl⟩

end
end Go.Lf

/- Calls, sixth part: the data at the start of the callee. -/
namespace Go.Lf

theorem flat_unflat : ∀ {τ : Ty} {ds rest : List Dyn} {x : τ.T}, unflat τ ds = some (x, rest) → ds = flat τ x ++ rest := by
  intro τ
  induction τ with
  | pair a b iha ihb =>
    intro ds rest x h
    simp only [unflat] at h
    split at h
    case h_2 => simp at h
    rename_i xa l1 ha
    split at h
    case h_2 => simp at h
    rename_i xb l2 hb
    simp only [Option.some.injEq, Prod.mk.injEq] at h
    obtain ⟨rfl, rfl⟩ := h
    rw [iha ha, ihb hb]
    simp [flat]
  | _ =>
    intro ds rest x h
    cases ds with
    | nil => simp [unflat] at h
    | cons dd ds =>
      simp only [unflat] at h
      split at h
      case isFalse => simp at h
      rename_i ht
      simp only [Option.some.injEq, Prod.mk.injEq] at h
      obtain ⟨rfl, rfl⟩ := h
      obtain ⟨τ, v⟩ := dd
      simp only at ht
      subst ht
      rfl

theorem build_flat {τ : Ty} {ds : List Dyn} {x : τ.T} (h : build τ ds = some x) : ds = flat τ x := by
  unfold build at h
  split at h
  · rename_i z hz
    simp only [Option.some.injEq] at h
    subst h
    simpa using flat_unflat hz
  · cases h

theorem argsD_append {env : Env} : ∀ {a b : List (Ty × List Od)} {l : List Dyn}, argsD env (a ++ b) = some l → ∃ l1 l2, argsD env a = some l1 ∧ argsD env b = some l2 ∧ l = l1 ++ l2
  | [], b, l, h => ⟨[], l, rfl, h, rfl⟩
  | (τ, ods) :: a, b, l, h => by
    simp only [List.cons_append, argsD] at h
    split at h
    case h_2 => simp at h
    rename_i x hx
    split at h
    case h_2 => simp at h
    rename_i xs hxs
    simp only [Option.some.injEq] at h
    obtain ⟨l1, l2, h1, h2, rfl⟩ := argsD_append hxs
    exact ⟨⟨τ, x⟩ :: l1, l2, by simp only [argsD, hx, h1], h2, by rw [← h]; rfl⟩

theorem ks_len (d : Nat) : ∀ n j, (ks d j n).length = n := by
  intro n
  induction n with
  | zero => intro j; rfl
  | succ n ih => intro j; simp [ks, ih]

theorem puts_some : ∀ {ks : List Nat} {l : List Dyn} {env : Env}, ks.length = l.length → ∃ e, env.puts ks l = some e
  | [], [], env, _ => ⟨env, rfl⟩
  | k :: ks, x :: l, env, h => by
    simp only [Env.puts]
    exact puts_some (by simpa using h)
  | [], _ :: _, _, h => by simp at h
  | _ :: _, [], _, h => by simp at h

/-- One parameter's data. -/
theorem entry1_run {env : Env} {i : Nat} : ∀ {data : List (Ty × List Od)} {j : Nat} {l rest : List Dyn} {env1 : Env}, argsD env data = some l → j + (data.flatMap Prod.snd).length ≤ 15 →
    ∃ e, entry1 i j (data.map (·.1)) (l ++ rest) env1 = some (rest, e) ∧ (∀ k, (∀ jj, jj < (data.flatMap Prod.snd).length → k ≠ lk i (j + jj)) → e k = env1 k) ∧
      ∀ jj (h : jj < (data.flatMap Prod.snd).length), e (lk i (j + jj)) = ((data.flatMap Prod.snd)[jj]).rd env
  | [], j, l, rest, env1, h, _ => by
    simp only [argsD, Option.some.injEq] at h
    subst h
    exact ⟨env1, rfl, fun _ _ => rfl, fun jj h => by simp at h⟩
  | (τ, ods) :: data, j, l, rest, env1, h, hlen => by
    simp only [argsD] at h
    split at h
    case h_2 => simp at h
    rename_i x hx
    split at h
    case h_2 => simp at h
    rename_i xs hxs
    simp only [Option.some.injEq] at h
    subst h
    have hfl := build_flat hx
    have hol : ods.length = τ.n := by have := congrArg List.length hfl; simpa [flat_length] using this
    simp only [List.flatMap_cons, List.length_append] at hlen
    obtain ⟨e1, he1⟩ := puts_some (ks := ks i j τ.n) (l := flat τ x) (env := env1) (by rw [ks_len, flat_length])
    obtain ⟨p1, p2, p3⟩ := puts_ks he1
    obtain ⟨e, g1, g2, g3⟩ := entry1_run (i := i) (j := j + τ.n) (rest := rest) (env1 := e1) hxs (by omega)
    refine ⟨e, ?_, fun k hk => ?_, fun jj hjj => ?_⟩
    · simp only [List.map_cons, List.cons_append, entry1, if_true, he1]
      exact g1
    · simp only [List.flatMap_cons, List.length_append] at hk
      rw [g2 k (fun jj hjj => by have := hk (τ.n + jj) (by omega); rwa [← Nat.add_assoc] at this), p2 k (fun jj hjj => hk jj (by omega))]
    · simp only [List.flatMap_cons, List.length_append] at hjj
      by_cases hlt : jj < τ.n
      · rw [g2 _ (fun j2 _ he => by have := (lk_inj (s := i) (s' := i) (by omega) (by omega)).1 he; omega), p3 (by omega) jj (by rw [p1]; exact hlt)]
        simp only [List.flatMap_cons]
        rw [List.getElem_append_left (by omega)]
        have : (flat τ x)[jj]'(by rw [p1]; exact hlt) = (ods.map (Od.rd env))[jj]'(by simp; omega) := by simp only [hfl]
        rw [this]; simp
      · have := g3 (jj - τ.n) (by omega)
        rw [show j + τ.n + (jj - τ.n) = j + jj by omega] at this
        rw [this]
        simp only [List.flatMap_cons]
        rw [List.getElem_append_right (by omega)]
        congr 2; rw [hol]

/-- All parameters' data. -/
theorem entryEnv_run {env : Env} : ∀ {ps : List PK} {As : List Arg} {i : Nat} {l : List Dyn} {env1 : Env}, argsD env (As.flatMap Arg.data) = some l → ps.length = As.length →
    (∀ q (h1 : q < ps.length) (h2 : q < As.length), (As[q].data.map (·.1) = ps[q].tys) ∧ As[q].ods.length ≤ 15) →
    ∃ e, entryEnv i ps l env1 = some e ∧ (∀ k, k / 16 < i → e k = env1 k) ∧ ∀ q (h : q < As.length) j (hj : j < As[q].ods.length), e (lk (i + q) j) = (As[q].ods[j]).rd env
  | [], [], i, l, env1, h, _, _ => by
    simp only [List.flatMap_nil, argsD, Option.some.injEq] at h
    subst h
    exact ⟨env1, rfl, fun _ _ => rfl, fun q h => by simp at h⟩
  | p :: ps, A :: As, i, l, env1, h, hl, ht => by
    simp only [List.flatMap_cons] at h
    obtain ⟨l1, l2, h1, h2, rfl⟩ := argsD_append h
    have ht0 := ht 0 (by simp) (by simp)
    simp only [List.getElem_cons_zero] at ht0
    have ho : A.ods.length ≤ 15 := ht0.2
    obtain ⟨e1, g1, g2, g3⟩ := entry1_run (i := i) (j := 0) (rest := l2) (env1 := env1) h1 (by have : (A.data.flatMap Prod.snd).length = A.ods.length := rfl; omega)
    obtain ⟨e, k1, k2, k3⟩ := entryEnv_run (ps := ps) (i := i + 1) (env1 := e1) h2 (by simpa using hl) (fun q h1 h2 => ht (q + 1) (by simpa using h1) (by simpa using h2))
    refine ⟨e, ?_, fun k hk => ?_, fun q hq j hj => ?_⟩
    · simp only [entryEnv]
      rw [← ht0.1, g1]
      exact k1
    · rw [k2 k (by omega), g2 k (fun jj hjj he => by
        have hjj' : jj < A.ods.length := hjj
        rw [he, lk_div (by omega)] at hk; omega)]
    · cases q with
      | zero =>
        simp only [List.getElem_cons_zero, Nat.add_zero] at hj ⊢
        rw [k2 _ (by rw [lk_div (by omega)]; omega)]
        have := g3 j hj
        rw [Nat.zero_add] at this
        exact this
      | succ q =>
        simp only [List.getElem_cons_succ] at hj ⊢
        have := k3 q (by simpa using hq) j hj
        rw [show i + 1 + q = i + (q + 1) by omega] at this
        exact this
  | [], _ :: _, _, _, _, _, h, _ => by simp at h
  | _ :: _, [], _, _, _, _, h, _ => by simp at h

end Go.Lf

/- Calls, seventh part: the state at the start of the callee. -/
namespace Go.Lf

theorem nodupB_nodup : ∀ {l : List Nat}, nodupB l = true → l.Nodup
  | [], _ => List.nodup_nil
  | k :: l, h => List.nodup_cons.2 ⟨(nodupB_cons h).1, nodupB_nodup (nodupB_cons h).2⟩

theorem takenOf_handed : ∀ {As : List Arg} {i : Nat}, takenOf (handed i As) = As.flatMap Arg.taken
  | [], _ => rfl
  | A :: As, i => by
    have ih := takenOf_handed (As := As) (i := i + 1)
    have h2 : ((A.las.zipIdx.map fun p => (lk i p.2, p.1)).flatMap fun p => p.2.taken) = A.las.flatMap LA.taken := by
      rw [List.flatMap_map]
      show (A.las.zipIdx.flatMap fun p => p.1.taken) = _
      have : ∀ (l : List LA) (n : Nat), ((l.zipIdx n).flatMap fun p => p.1.taken) = l.flatMap LA.taken := by
        intro l
        induction l with
        | nil => intro n; rfl
        | cons x l ih => intro n; simp [ih]
      exact this _ _
    unfold takenOf at ih ⊢
    simp only [handed, List.flatMap_append, ih, h2, List.flatMap_cons, Arg.taken]
    congr 1
    congr 1
    cases A.box <;> simp [LA.taken]

theorem mem_handed {A : Arg} : ∀ {As : List Arg} {i0 q : Nat}, As[q]? = some A → (∀ j la, A.las[j]? = some la → (lk (i0 + q) j, la) ∈ handed i0 As) ∧ (∀ s, A.box = some s → (sk (i0 + q), LA.tk (sk s) .sc) ∈ handed i0 As)
  | [], i0, q, h => by simp at h
  | B :: As, i0, q, h => by
    cases q with
    | zero =>
      simp at h
      subst h
      refine ⟨fun j la hj => ?_, fun s hs => ?_⟩
      · simp only [handed, List.mem_append]
        refine .inl (.inr (List.mem_map.2 ⟨(la, j), ?_, rfl⟩))
        exact List.mem_zipIdx_iff_getElem?.2 hj
      · simp only [handed, List.mem_append]
        refine .inl (.inl ?_)
        simp [hs]
    | succ q =>
      obtain ⟨h1, h2⟩ := mem_handed (As := As) (i0 := i0 + 1) (q := q) (by simpa using h)
      refine ⟨fun j la hj => ?_, fun s hs => ?_⟩
      · have := h1 j la hj
        rw [show i0 + 1 + q = i0 + (q + 1) by omega] at this
        simp only [handed, List.mem_append]
        exact .inr this
      · have := h2 s hs
        rw [show i0 + 1 + q = i0 + (q + 1) by omega] at this
        simp only [handed, List.mem_append]
        exact .inr this

section
variable {F : Fr} {clk : Clk} {C : Cfg} {d : Nat} {a : Act} {w : World} {P : Program} {es : List (Nat × Ent)}

theorem ArgsAll.get {ver d0 : Nat} : ∀ {ps : List PK} {As : List Arg} {Vs : List Value} {css : List (List Value)}, ArgsAll F ver d0 ps As Vs css → As.length = ps.length ∧ Vs.length = ps.length ∧ css.length = ps.length ∧
    ∀ i (h1 : i < ps.length) (h2 : i < As.length) (h3 : i < Vs.length) (h4 : i < css.length), ArgOk F ps[i] As[i] Vs[i] css[i] ∧ ArgBack F ver d0 As[i] ps[i]
  | [], [], [], [], _ => ⟨rfl, rfl, rfl, fun i h => by simp at h⟩
  | p :: ps, A :: As, V :: Vs, c :: css, h => by
    obtain ⟨a1, a2, a3, a4⟩ := ArgsAll.get h.2.2
    refine ⟨by simp [a1], by simp [a2], by simp [a3], fun i h1 h2 h3 h4 => ?_⟩
    cases i with
    | zero => exact ⟨h.1, h.2.1⟩
    | succ i => exact a4 i (by simpa using h1) (by simpa using h2) (by simpa using h3) (by simpa using h4)
  | [], _ :: _, _, _, h => by simp [ArgsAll] at h
  | [], [], _ :: _, _, h => by simp [ArgsAll] at h
  | [], [], [], _ :: _, h => by simp [ArgsAll] at h
  | _ :: _, [], _, _, h => by simp [ArgsAll] at h
  | _ :: _, _ :: _, [], _, h => by simp [ArgsAll] at h
  | _ :: _, _ :: _, _ :: _, [], h => by simp [ArgsAll] at h

theorem fitsLAs_get : ∀ {es : List ES} {ls : List LA}, fitsLAs es ls = true → es.length = ls.length ∧ ∀ i (h1 : i < es.length) (h2 : i < ls.length), fitsLA es[i] ls[i] = true
  | [], [], _ => ⟨rfl, fun i h => by simp at h⟩
  | e :: es, l :: ls, h => by
    simp only [fitsLAs, Bool.and_eq_true] at h
    obtain ⟨a, b⟩ := fitsLAs_get h.2
    refine ⟨by simp [a], fun i h1 h2 => ?_⟩
    cases i with
    | zero => exact h.1
    | succ i => exact b i (by simpa using h1) (by simpa using h2)
  | [], _ :: _, h => by simp [fitsLAs] at h
  | _ :: _, [], h => by simp [fitsLAs] at h

theorem fitsArgs_get : ∀ {ps : List PK} {As : List Arg} {i0 : Nat}, fitsArgs i0 ps As = true → ∀ i (h1 : i < ps.length) (h2 : i < As.length), fitsLAs (ps[i].sts (i0 + i)) As[i].las = true ∧ As[i].las.length ≤ 14
  | [], [], _, _, i, h, _ => by simp at h
  | p :: ps, A :: As, i0, h, i, h1, h2 => by
    simp only [fitsArgs, Bool.and_eq_true, decide_eq_true_eq] at h
    cases i with
    | zero => exact ⟨h.1.1, h.1.2⟩
    | succ i =>
      have := fitsArgs_get h.2 i (by simpa using h1) (by simpa using h2)
      rw [show i0 + 1 + i = i0 + (i + 1) by omega] at this
      exact this
  | [], _ :: _, _, h, _, _, _ => by simp [fitsArgs] at h
  | _ :: _, [], _, h, _, _, _ => by simp [fitsArgs] at h

theorem sts_org {p : PK} {i j : Nat} {m : M} {q : Nat} (h : (p.sts i)[j]? = some (.ro m (some q))) : q = lk i j := by
  cases p <;> simp only [PK.sts] at h
  case v τ => exact absurd (List.eq_of_mem_replicate (List.mem_of_getElem? h)) (by simp)
  case p τ => exact absurd (List.eq_of_mem_replicate (List.mem_of_getElem? h)) (by simp)
  case c f caps => exact absurd (List.eq_of_mem_replicate (List.mem_of_getElem? h)) (by simp)
  case m τ ms =>
    simp only [List.getElem?_map, Option.map_eq_some_iff] at h
    obtain ⟨x, _, hx⟩ := h
    cases x <;> simp [resLeaf] at hx
  case q τ ms =>
    simp only [List.getElem?_map, Option.map_eq_some_iff] at h
    obtain ⟨x, _, hx⟩ := h
    cases x <;> simp [resLeaf] at hx
  case io τ ms =>
    simp only [List.getElem?_map, Option.map_eq_some_iff] at h
    obtain ⟨⟨x, n⟩, hz, hx⟩ := h
    have hn : n = j := by
      have := List.getElem?_zipIdx (l := ms) (i := 0) (j := j)
      rw [this] at hz
      simp only [Option.map_eq_some_iff] at hz
      obtain ⟨y, _, hy⟩ := hz
      simp at hy
      omega
    subst hn
    cases x <;> simp at hx
    exact hx.2.symm

/-- The state at the start of the callee. -/
theorem entry_ok (h : Here F clk C es a w) {s : Sig} {ver d0 : Nat} {As : List Arg} {Vs : List Value} {css : List (List Value)} {l : List Dyn} (hall : ArgsAll F ver d0 s.ps As Vs css) (hfit : fitsArgs 0 s.ps As = true)
    (hnd : (As.flatMap Arg.taken).Nodup) (hlk : ∀ k ∈ As.flatMap Arg.looked, k ∉ As.flatMap Arg.taken) (hseen : ∀ k ∈ As.flatMap (·.seen), k ∉ As.flatMap Arg.taken) (hl : argsD F.env (As.flatMap Arg.data) = some l) :
    ∃ F0 : Fr, Entry s F0 w l ∧ F0.tmps = Vs.toArray ∧ F0.lab = lab0 F (handed 0 As) (As.flatMap Arg.looked) [] ∧
      ∀ i (h1 : i < css.length) j (h2 : j < (css[i]).length), F0.cell (lk i j) (css[i])[j] := by
  obtain ⟨l1, l2, l3, hget⟩ := hall.get
  have hfits := fitsArgs_get hfit
  obtain ⟨env0, e1, _, e3⟩ := entryEnv_run (ps := s.ps) (i := 0) (env1 := fun _ => ⟨.bool, false⟩) hl l1.symm (fun q h1 h2 => by
    obtain ⟨hA, _⟩ := hget q h1 h2 (by omega) (by omega)
    refine ⟨hA.tys, ?_⟩
    have := (hfits q h1 h2).2
    have h3 := hA.len
    have h4 := hA.ods
    omega)
  let F0 : Fr := { tmps := Vs.toArray, H := F.H, lab := lab0 F (handed 0 As) (As.flatMap Arg.looked) [], env := env0, G := entryG s.ps, org := fun k => ((css[k / 16]?).bind (·[k % 16]?)).getD default }
  have hnd' : (takenOf (handed 0 As)).Nodup := by rw [takenOf_handed]; exact hnd
  have hGs : ∀ i (h1 : i < s.ps.length), F0.G (sk i) = ⟨0, [], s.ps[i].kind⟩ := by
    intro i h1
    show entryG s.ps (sk i) = _
    unfold entryG
    rw [sk_div, List.getElem?_eq_getElem h1]
    simp only
    rw [if_pos (by unfold sk; omega)]
  have hGl : ∀ i (h1 : i < s.ps.length) j (h2 : j < 15) (h3 : j < (s.ps[i].sts i).length), F0.G (lk i j) = ⟨0, [], (s.ps[i].sts i)[j]⟩ := by
    intro i h1 j h2 h3
    show entryG s.ps (lk i j) = _
    unfold entryG
    rw [lk_div (by omega), lk_mod (by omega), List.getElem?_eq_getElem h1]
    simp only
    rw [if_neg (by omega), List.getElem?_eq_getElem h3]
    rfl
  have hGn : ∀ i, s.ps.length ≤ i → F0.G (sk i) = ⟨0, [], .no⟩ := by
    intro i h1
    show entryG s.ps (sk i) = _
    unfold entryG
    rw [sk_div, List.getElem?_eq_none h1]
  have hval : ∀ i (h1 : i < s.ps.length), F0.val i = Vs[i]'(by omega) := by
    intro i h1
    have : i < Vs.length := by omega
    simp [Fr.val, F0, this]
  have still : ∀ {V : Value} {n : Nat} {cs : List Value} {seen : List Nat}, (∀ k ∈ seen, k ∉ As.flatMap Arg.taken) → PaSeen F seen V n cs → PaOk F0.H F0.lab V n cs := by
    rintro V n cs seen hs ⟨b, off, c, ty, fr, h1, h2, h3, h4, h5⟩
    refine ⟨b, off, c, ty, fr, h1, ?_, h3, h4, h5⟩
    show (lab0 F (handed 0 As) (As.flatMap Arg.looked) [] b).still
    rcases h2 with h2 | ⟨k, hk, h2⟩
    · rcases Lab.still_iff.1 h2 with h2 | h2
      · rw [lab0_shared h2]; trivial
      · rw [lab0_frn h2]; trivial
    · have hn := hs k hk
      rw [← takenOf_handed (i := 0)] at hn
      simp only [lab0, h2, inLab_none hn]
      split <;> trivial
  have hcl : ∀ i (h1 : i < s.ps.length) (h4 : i < css.length), F0.has i css[i] ∧ ∀ j v, (css[i])[j]? = some v → LeafOk F0 (lk i j) (F0.G (lk i j)).st v := by
    intro i h1 h4
    obtain ⟨hA, hB⟩ := hget i h1 (by omega) (by omega) h4
    obtain ⟨f1, f2⟩ := hfits i h1 (by omega)
    rw [Nat.zero_add] at f1
    obtain ⟨f3, f4⟩ := fitsLAs_get f1
    have hAl := hA.len
    have hAo := hA.ods
    have hseenA : ∀ k ∈ (As[i]'(by omega)).seen, k ∉ As.flatMap Arg.taken := fun k hk => hseen k (List.mem_flatMap.2 ⟨_, List.getElem_mem _, hk⟩)
    have hAq : As[i]? = some (As[i]'(by omega)) := List.getElem?_eq_getElem _
    obtain ⟨mh1, mh2⟩ := mem_handed (i0 := 0) hAq
    rw [Nat.zero_add] at mh1 mh2
    refine ⟨⟨?_, by omega⟩, fun j v hj => ?_⟩
    · rw [hGs i h1, hval i h1]
      have hk := hA.kind
      generalize s.ps[i] = p at hk
      generalize css[i] = cs at hk
      cases p <;> simp only [KindArg] at hk <;> simp only [PK.kind, Has]
      case v τ => exact ⟨hk.1, hk.2, fun hp => Ty.n_one hp⟩
      case m τ ms => exact ⟨hk.1, hk.2, fun hp => Ty.n_one hp⟩
      case io τ ms => exact ⟨hk.1, hk.2, fun hp => Ty.n_one hp⟩
      case p τ => exact still hseenA hk
      case q τ ms =>
        obtain ⟨s', b, c, ty, hb, hV, _, hlab, hH, hcs, hn⟩ := hk
        exact ⟨b, c, ty, hV, lab0_tk (looked := As.flatMap Arg.looked) (seen := []) hnd' hlab (mh2 s' hb), hH, hcs, hn⟩
      case c f caps =>
        obtain ⟨ps, hV, hps⟩ := hk
        refine ⟨ps, hV, ?_⟩
        have : ∀ {Vs : List Value} {ns : List Nat} {cs : List Value}, PasSeen F (As[i]'(by omega)).seen Vs ns cs → PasOk F0.H F0.lab Vs ns cs := by
          intro Vs
          induction Vs with
          | nil => intro ns cs h; cases ns <;> exact h
          | cons V Vs ih =>
            intro ns cs h
            cases ns with
            | nil => exact h.elim
            | cons n ns =>
              obtain ⟨c1, c2, h1, h2, h3⟩ := h
              exact ⟨c1, c2, h1, still hseenA h2, ih h3⟩
        exact this hps
    · have hjl : j < (css[i]).length := (List.getElem?_eq_some_iff.1 hj).1
      have hjv : (css[i])[j] = v := (List.getElem?_eq_some_iff.1 hj).2
      have hjs : j < (s.ps[i].sts i).length := by omega
      rw [hGl i h1 j (by omega) hjs]
      have hleaf := hA.leaf j (by omega) (by omega) hjl
      rw [hjv] at hleaf
      have hjA : j < (As[i]'(by omega)).las.length := by omega
      refine entry_leaf (F := F) (prs := handed 0 As) (looked := As.flatMap Arg.looked) (seen := []) rfl (fun _ => rfl) hnd' (mh1 j _ (List.getElem?_eq_getElem hjA)) (fun k hk => ?_) (f4 j hjs hjA) hleaf ?_ (fun p m hp => ?_)
      · have hkl : k ∈ As.flatMap Arg.looked := List.mem_flatMap.2 ⟨_, List.getElem_mem (by omega : i < As.length), List.mem_flatMap.2 ⟨_, List.getElem_mem hjA, hk⟩⟩
        exact ⟨hkl, by rw [takenOf_handed]; exact hlk k hkl⟩
      · have := e3 i (by omega) j (by omega)
        rw [Nat.zero_add] at this
        exact this
      · have hq := sts_org (p := s.ps[i]) (i := i) (j := j) (m := m) (q := p) (by rw [List.getElem?_eq_getElem hjs]; exact congrArg some hp)
        subst hq
        show v = ((css[lk i j / 16]?).bind (·[lk i j % 16]?)).getD default
        rw [lk_div (by omega), lk_mod (by omega), List.getElem?_eq_getElem h4]
        simp only [Option.bind_some, hj, Option.getD_some]
  have hleafy : ∀ p : PK, p.kind.leafy = true := by intro p; cases p <;> rfl
  refine ⟨F0, ⟨h.rel.H, rfl, ⟨fun i => ?_, fun k => ?_, fun k => ?_, fun b hb => ?_⟩, by simp [F0, l2], e1, fun k v hc => ?_⟩, rfl, rfl, fun i h1 j h2 => ?_⟩
  · unfold SlotOk
    by_cases hi : i < s.ps.length
    · rw [hGs i hi]
      rw [if_pos (by rfl)]
      obtain ⟨hh, hlf⟩ := hcl i hi (by omega)
      rw [claim_leafy (hleafy _)]
      exact ⟨_, hh, hlf⟩
    · rw [hGn i (by omega), if_pos (by rfl)]
      trivial
  · show ((entryG s.ps k).st).older (· = 0)
    unfold entryG
    split
    · trivial
    · rename_i p hp
      split
      · cases p <;> trivial
      · cases hst : (p.sts (k / 16))[k % 16]? with
        | none => trivial
        | some st =>
          simp only [Option.getD_some]
          have : ∀ st ∈ p.sts (k / 16), st.older (· = 0) := by
            intro st hst
            cases p <;> simp only [PK.sts] at hst
            case v τ => rw [List.eq_of_mem_replicate hst]; trivial
            case p τ => rw [List.eq_of_mem_replicate hst]; trivial
            case c f caps => rw [List.eq_of_mem_replicate hst]; trivial
            case m τ ms => obtain ⟨x, _, rfl⟩ := List.mem_map.1 hst; cases x <;> trivial
            case q τ ms => obtain ⟨x, _, rfl⟩ := List.mem_map.1 hst; cases x <;> trivial
            case io τ ms => obtain ⟨⟨x, n⟩, _, rfl⟩ := List.mem_map.1 hst; cases x <;> trivial
          exact this st (List.mem_of_getElem? hst)
  · show (entryG s.ps k).ver = 0
    unfold entryG
    split
    · rfl
    · split <;> rfl
  · show lab0 F (handed 0 As) (As.flatMap Arg.looked) [] b = .imm
    exact lab0_shared (by rw [h.st.labs b hb]; trivial)
  · obtain ⟨cs, hh, hv⟩ := hc
    show ((css[k / 16]?).bind (·[k % 16]?)).getD default = v
    by_cases hi : k / 16 < s.ps.length
    · obtain ⟨hh', _⟩ := hcl (k / 16) hi (by omega)
      rw [Fr.has_fun hh hh'] at hv
      rw [List.getElem?_eq_getElem (by omega)]
      simp only [Option.bind_some, hv, Option.getD_some]
    · have hH := hh.1
      rw [hGn _ (by omega)] at hH
      simp only [Has] at hH
      subst hH
      simp at hv
  · obtain ⟨hh, _⟩ := hcl i (by omega) h1
    have := hh.2
    exact ⟨_, by rw [lk_div (by omega)]; exact hh, by rw [lk_mod (by omega)]; exact List.getElem?_eq_getElem h2⟩

end
end Go.Lf

/- Calls, eighth part: the labels behind the call. -/
namespace Go.Lf

/-- Where a key of the callee lies in the caller. -/
def outLab (env : Env) : List (Nat × LA) → Nat → Option (List Nat)
  | [], _ => none
  | (kc, .tk k _) :: r, x => if x = kc then some [k] else outLab env r x
  | (kc, .te k i off _) :: r, x => if x = kc then some (k :: tePath env k i off) else outLab env r x
  | (_, .rd _) :: r, x => outLab env r x
  | (_, .em) :: r, x => outLab env r x

/-- The labels behind the call. -/
def lab1 (F : Fr) (prs : List (Nat × LA)) (looked : List Nat) (d : Nat) (lab' : Nat → Lab) (b : Nat) : Lab :=
  match lab0 F prs looked [] b with
  | .own (_ :: _) => back
  | _ => if b < F.H.size then F.lab b else back
where
  back : Lab :=
    match lab' b with
    | .own (kc :: q) =>
      if kc / 16 = rb then .own (lk d (kc % 16) :: q)
      else match outLab F.env prs kc with
        | some p => .own (p ++ q)
        | none => .imm
    | _ => .imm

theorem outLab_of {env : Env} : ∀ {prs : List (Nat × LA)} {kc : Nat} {la : LA} {p : List Nat}, (prs.map (·.1)).Nodup → (kc, la) ∈ prs → (match la with | .tk k _ => p = [k] | .te k i off _ => p = k :: tePath env k i off | _ => False) → outLab env prs kc = some p
  | [], _, _, _, _, h, _ => by simp at h
  | (kc', la') :: r, kc, la, p, hn, h, hp => by
    simp only [List.map_cons, List.nodup_cons] at hn
    rcases List.mem_cons.1 h with he | hm
    · simp only [Prod.mk.injEq] at he
      obtain ⟨rfl, rfl⟩ := he
      cases la <;> simp only at hp
      · subst hp; simp [outLab]
      · subst hp; simp [outLab]
    · have hne : kc ≠ kc' := by rintro rfl; exact hn.1 (List.mem_map.2 ⟨(kc, la), hm, rfl⟩)
      have ih := outLab_of hn.2 hm hp
      cases la' with
      | tk k m => simp only [outLab, if_neg hne]; exact ih
      | te k i off m => simp only [outLab, if_neg hne]; exact ih
      | rd o => exact ih
      | em => exact ih

theorem handed_keys : ∀ {As : List Arg} {i : Nat}, (∀ A ∈ As, A.las.length ≤ 15) → ((handed i As).map (·.1)).Nodup ∧ ∀ k ∈ (handed i As).map (·.1), i ≤ k / 16 ∧ k / 16 < i + As.length
  | [], i, _ => by simp [handed]
  | A :: As, i, h => by
    obtain ⟨h1, h2⟩ := handed_keys (As := As) (i := i + 1) (fun A hA => h A (by simp [hA]))
    have hA := h A (by simp)
    have hl : (A.las.zipIdx.map fun p => (lk i p.2, p.1)).map (·.1) = (List.range A.las.length).map (lk i) := by
      simp only [List.map_map]
      have : ((fun x : Nat × LA => x.1) ∘ fun p : LA × Nat => (lk i p.2, p.1)) = fun p : LA × Nat => lk i p.2 := rfl
      rw [this]
      apply List.ext_getElem?
      intro j
      simp only [List.getElem?_map, List.getElem?_zipIdx, Nat.zero_add]
      by_cases hj : j < A.las.length
      · simp [hj]
      · simp [hj]
    have hb : ∀ k ∈ (A.box.map fun s => (sk i, LA.tk (sk s) .sc)).toList.map (·.1), k = sk i := by
      intro k hk
      cases hbx : A.box with
      | none => rw [hbx] at hk; simp at hk
      | some s => rw [hbx] at hk; simpa using hk
    have hbn : ((A.box.map fun s => (sk i, LA.tk (sk s) .sc)).toList.map (·.1)).Nodup := by
      cases A.box <;> simp
    have hln : ((List.range A.las.length).map (lk i)).Nodup := by
      refine List.Pairwise.map _ (fun x y hxy => ?_) List.nodup_range
      intro he; apply hxy; unfold lk at he; omega
    refine ⟨?_, fun k hk => ?_⟩
    · simp only [handed, List.map_append, hl]
      rw [List.nodup_append, List.nodup_append]
      refine ⟨⟨hbn, hln, fun x hx y hy he => ?_⟩, h1, fun x hx y hy he => ?_⟩
      · rw [hb x hx] at he
        obtain ⟨j, hj, rfl⟩ := List.mem_map.1 hy
        simp at hj
        exact lk_sk (by omega) he.symm
      · have hy2 := (h2 y hy).1
        have hx2 : x / 16 = i := by
          rcases List.mem_append.1 hx with hx | hx
          · rw [hb x hx, sk_div]
          · obtain ⟨j, hj, rfl⟩ := List.mem_map.1 hx
            simp at hj
            exact lk_div (by omega)
        rw [he] at hx2
        omega
    · simp only [handed, List.map_append, hl, List.mem_append] at hk
      simp only [List.length_cons]
      rcases hk with (hk | hk) | hk
      · rw [hb k hk, sk_div]; omega
      · obtain ⟨j, hj, rfl⟩ := List.mem_map.1 hk
        simp at hj
        rw [lk_div (by omega)]; omega
      · have := h2 k hk
        omega

end Go.Lf

/- Calls, ninth part: data that come back. -/
namespace Go.Lf

def Dyn.leaves (y : Dyn) : List Dyn := flat y.τ y.v

theorem puts_append : ∀ {k1 k2 : List Nat} {l1 l2 : List Dyn} {env : Env}, k1.length = l1.length → env.puts (k1 ++ k2) (l1 ++ l2) = (env.puts k1 l1).bind fun e => e.puts k2 l2
  | [], k2, [], l2, env, _ => rfl
  | k :: k1, k2, x :: l1, l2, env, h => by
    simp only [List.cons_append, Env.puts]
    exact puts_append (by simpa using h)
  | [], _, _ :: _, _, _, h => by simp at h
  | _ :: _, _, [], _, _, h => by simp at h

theorem puts_length : ∀ {k : List Nat} {l : List Dyn} {env e : Env}, env.puts k l = some e → k.length = l.length
  | [], [], _, _, _ => rfl
  | _ :: _, _ :: _, _, _, h => by simp only [Env.puts] at h; simp [puts_length h]
  | [], _ :: _, _, _, h => by simp [Env.puts] at h
  | _ :: _, [], _, _, h => by simp [Env.puts] at h

/-- All data that come back, leaf by leaf. -/
theorem outs_puts : ∀ {O : List (List Nat)} {r : List Dyn} {env e : Env}, env.outs O r = some e → O.length = r.length ∧ env.puts O.flatten (r.flatMap Dyn.leaves) = some e ∧
    ∀ i (h1 : i < O.length) (h2 : i < r.length), (O[i]).length = (r[i].leaves).length
  | [], [], env, e, h => by
    simp only [Env.outs] at h
    exact ⟨rfl, h, fun i h => by simp at h⟩
  | ks :: O, y :: r, env, e, h => by
    simp only [Env.outs] at h
    split at h
    case h_2 => simp at h
    rename_i e1 he1
    obtain ⟨h1, h2, h3⟩ := outs_puts h
    have hl := puts_length he1
    refine ⟨by simp [h1], ?_, fun i g1 g2 => ?_⟩
    · simp only [List.flatten_cons, List.flatMap_cons]
      have hl' : ks.length = y.leaves.length := hl
      rw [puts_append hl']
      have : env.puts ks y.leaves = some e1 := he1
      rw [this]
      exact h2
    · cases i with
      | zero => exact hl
      | succ i => exact h3 i (by simpa using g1) (by simpa using g2)
  | [], _ :: _, _, _, h => by simp [Env.outs] at h
  | _ :: _, [], _, _, h => by simp [Env.outs] at h

theorem puts_get : ∀ {k : List Nat} {l : List Dyn} {env e : Env}, env.puts k l = some e →
    (∀ x, x ∉ k → e x = env x) ∧ ∀ i (h1 : i < k.length) (h2 : i < l.length), (∀ j (h3 : j < k.length), i < j → k[j] ≠ k[i]) → e k[i] = l[i]
  | [], [], env, e, h => by
    simp only [Env.puts, Option.some.injEq] at h
    subst h
    exact ⟨fun _ _ => rfl, fun i h => by simp at h⟩
  | k :: ks, x :: l, env, e, h => by
    simp only [Env.puts] at h
    obtain ⟨g1, g2⟩ := puts_get h
    refine ⟨fun y hy => ?_, fun i h1 h2 hlast => ?_⟩
    · simp only [List.mem_cons, not_or] at hy
      rw [g1 y hy.2, Env.set_ne _ _ hy.1]
    · cases i with
      | zero =>
        simp only [List.getElem_cons_zero] at hlast ⊢
        have hn : k ∉ ks := by
          intro hm
          obtain ⟨j, hj, he⟩ := List.mem_iff_getElem.1 hm
          exact hlast (j + 1) (by simpa using hj) (by omega) (by simpa using he)
        rw [g1 k hn, Env.set_same]
      | succ i =>
        simp only [List.getElem_cons_succ] at hlast ⊢
        exact g2 i (by simpa using h1) (by simpa using h2) fun j hj hij => hlast (j + 1) (by simpa using hj) (by omega)
  | [], _ :: _, _, _, h => by simp [Env.puts] at h
  | _ :: _, [], _, _, h => by simp [Env.puts] at h

theorem ks_get (d : Nat) : ∀ (n j i : Nat) (h : i < (ks d j n).length), (ks d j n)[i] = lk d (j + i) := by
  intro n
  induction n with
  | zero => intro j i h; simp [ks] at h
  | succ n ih =>
    intro j i h
    cases i with
    | zero => rfl
    | succ i =>
      simp only [ks, List.getElem_cons_succ]
      rw [ih (j + 1) i]
      congr 1; omega

theorem ks_append (d : Nat) : ∀ (a j b : Nat), ks d j a ++ ks d (j + a) b = ks d j (a + b) := by
  intro a
  induction a with
  | zero => intro j b; simp [ks]
  | succ a ih =>
    intro j b
    rw [show a + 1 + b = (a + b) + 1 by omega]
    simp only [ks, List.cons_append]
    rw [← ih (j + 1) b, show j + 1 + a = j + (a + 1) by omega]

theorem resKeys_flat (d : Nat) : ∀ (rs : List (Ty × List (Option M))) (j : Nat), (resKeys d j rs).flatten = ks d j ((rs.map fun r => r.1.n).foldr (· + ·) 0) := by
  intro rs
  induction rs with
  | nil => intro j; rfl
  | cons r rs ih =>
    intro j
    simp only [resKeys, List.flatten_cons, List.map_cons, List.foldr_cons, ih]
    exact ks_append d _ _ _

theorem resKeys_len (d : Nat) : ∀ (rs : List (Ty × List (Option M))) (j : Nat), (resKeys d j rs).length = rs.length := by
  intro rs
  induction rs with
  | nil => intro j; rfl
  | cons r rs ih => intro j; simp [resKeys, ih]

end Go.Lf

/- Calls, tenth part: what the compiled call is made of; facts on the labels behind it. -/
namespace Go.Lf

section
variable {F : Fr} {clk : Clk} {C : Cfg} {d : Nat} {a : Act} {w : World} {P : Program} {es : List (Nat × Ent)} {is : List I}

def goneOf (ver : Nat) (taken : List Nat) (ents : List (Nat × Ent)) : List (Nat × Ent) :=
  taken.filterMap fun k => if ents.any (fun e => e.1 == k) || k % 16 == 15 then none else some (k, (⟨ver, [], .no⟩ : Ent))

/-- The parts of a compiled call. -/
structure CallOut (F : Fr) (C : Cfg) (d : Nat) (ann : Ann) (f : Nat) (s : Sig) (As : List Arg) (es : List (Nat × Ent)) (is : List I) : Prop where
  sig : C.sigs ann.spec = some s
  f_eq : s.f = f
  fits : fitsArgs 0 s.ps As = true
  nodup : (As.flatMap Arg.taken).Nodup
  apart : ∀ k ∈ As.flatMap Arg.taken, k / 16 ≠ d
  calm : C.ch = [] ∨ As.flatMap Arg.taken = []
  looked : ∀ k ∈ As.flatMap Arg.looked, k ∉ As.flatMap Arg.taken
  seen : ∀ k ∈ As.flatMap (·.seen), k ∉ As.flatMap Arg.taken
  deep : As.flatMap Arg.looked = [] ∨ s.deep = true
  one : (As.flatMap (·.post)).length ≤ 1
  room : (resLeaves s.rs).length ≤ 12 ∨ As.flatMap (·.outs) = []
  few : s.ps.length ≤ 1000
  lent : lentOk d As (As.flatMap (·.post)) = true
  gen : GenOut F C d (resKind s.rs) (goneOf C.ver (As.flatMap Arg.taken) (As.flatMap (·.ents)) ++ As.flatMap (·.ents) ++ [(lk d 12, ⟨C.ver, [], .no⟩), (lk d 13, ⟨C.ver, [], .no⟩)]) (resLeaves s.rs) es
  is_eq : is = .call ann.spec (As.flatMap Arg.data) (resKeys d 0 s.rs ++ As.flatMap (·.outs)) :: As.flatMap (·.post)

/-- Entries of lent things: which keys, which version. -/
theorem back_ents {ver d0 : Nat} {A : Arg} {p : PK} {V : Value} {cs : List Value} (hA : ArgOk F p A V cs) (h14 : A.las.length ≤ 14) (hB : ArgBack F ver d0 A p) : ∀ x ∈ A.ents, x.2.ver = ver ∧ x.1 % 16 < 15 ∧ ∀ c, x.2.st.older c := by
  intro x hx
  cases p with
  | io τ ms =>
    obtain ⟨_, r, L, hlas, _, he, _, _⟩ := hB
    rw [he] at hx
    have key : ∀ la ∈ A.las, ∀ k ∈ la.taken, k % 16 < 15 := by
      intro la hla k hk
      obtain ⟨j, hj, rfl⟩ := List.mem_iff_getElem.1 hla
      have hlen := hA.len
      have hods := hA.ods
      have hlf := hA.leaf j hj (by omega) (by omega)
      cases hq : A.las[j] with
      | rd o => rw [hq] at hk; simp [LA.taken] at hk
      | em => rw [hq] at hk; simp [LA.taken] at hk
      | tk k' m =>
        rw [hq] at hk hlf
        simp only [LA.taken, List.mem_singleton] at hk
        subst hk
        exact hlf.1.lt
      | te k' i off m =>
        rw [hq] at hk hlf
        simp only [LA.taken, List.mem_singleton] at hk
        subst hk
        obtain ⟨_, _, _, _, _, E, _⟩ := hlf
        exact E.leaf
    rcases L.ents x hx with ⟨m, org, h1, h2, h3⟩ | ⟨i, off, m, mk, org, h1, h2, h3⟩
    · rw [h3]; exact ⟨rfl, key _ (by rw [hlas]; exact h1) _ (by simp [LA.taken]), fun _ => trivial⟩
    · rw [h3]; exact ⟨rfl, key _ (by rw [hlas]; exact h1) _ (by simp [LA.taken]), fun _ => trivial⟩
  | q τ ms =>
    obtain ⟨s, _, _, _, he, _, hl, _⟩ := hB
    rw [he] at hx
    obtain ⟨⟨m, j⟩, hm, rfl⟩ := List.mem_map.1 hx
    have hj : j < ms.length := by
      have := List.mem_zipIdx_iff_getElem?.1 hm
      exact (List.getElem?_eq_some_iff.1 this).1
    refine ⟨rfl, ?_, fun c => ?_⟩
    · rw [lk_mod (by omega)]; omega
    · cases m <;> trivial
  | v τ => obtain ⟨_, _, he, _⟩ := hB; rw [he] at hx; simp at hx
  | p τ => obtain ⟨_, _, he, _⟩ := hB; rw [he] at hx; simp at hx
  | m τ ms => obtain ⟨_, _, he, _⟩ := hB; rw [he] at hx; simp at hx
  | c f caps => obtain ⟨_, _, he, _⟩ := hB; rw [he] at hx; simp at hx

end
end Go.Lf

/- Calls, eleventh part: a compiled call, taken apart. -/
namespace Go.Lf

section
variable {F : Fr} {clk : Clk} {C : Cfg} {d : Nat} {a : Act} {w : World} {P : Program} {es : List (Nat × Ent)} {is : List I}

/-- Entries of all lent things. -/
theorem back_all {ver d0 : Nat} {ps : List PK} {As : List Arg} {Vs : List Value} {css : List (List Value)} {i0 : Nat} (hall : ArgsAll F ver d0 ps As Vs css) (hfit : fitsArgs i0 ps As = true) :
    ∀ x ∈ As.flatMap (·.ents), x.2.ver = ver ∧ x.1 % 16 < 15 ∧ ∀ c, x.2.st.older c := by
  intro x hx
  obtain ⟨A, hA, hxA⟩ := List.mem_flatMap.1 hx
  obtain ⟨q, hq, rfl⟩ := List.mem_iff_getElem.1 hA
  obtain ⟨l1, l2, l3, hget⟩ := hall.get
  obtain ⟨hOk, hB⟩ := hget q (by omega) hq (by omega) (by omega)
  exact back_ents hOk (fitsArgs_get hfit q (by omega) hq).2 hB x hxA

theorem callOp_run (h : Here F clk C es a w) {ann : Ann} {f : Nat} {args : List Operand} {extra : Option Operand} (hr : (callOp C d ann f args extra).run F.G = some (es, is))
    {xv : List Value} (hx : match extra with | none => xv = [] | some x => a.eval x = .func (.func f) #[] xv.toArray) :
    ∃ s As css, ArgsAll F C.ver d s.ps As (args.map a.eval ++ xv) css ∧ CallOut F C d ann f s As es is := by
  simp only [callOp, Q.run_bind', Q.run_ofOption] at hr
  cases hs : C.sigs ann.spec with
  | none => rw [hs] at hr; simp at hr
  | some s =>
    rw [hs] at hr
    simp only [Option.bind_some, Q.run_guard] at hr
    split at hr
    case isFalse => simp at hr
    rename_i hf
    have hf : s.f = f := by simpa using hf
    simp only [Option.bind_some] at hr
    cases h1 : (argsOf C d (s.ps.take args.length) args).run F.G with
    | none => rw [h1] at hr; simp at hr
    | some A1 =>
      rw [h1] at hr
      simp only [Option.bind_some] at hr
      cases h2 : (extraOf C f (s.ps.drop args.length) extra).run F.G with
      | none => rw [h2] at hr; simp at hr
      | some A2 =>
        rw [h2] at hr
        simp only [Option.bind_some] at hr
        split at hr
        case isFalse => simp at hr
        rename_i g1
        simp only [Option.bind_some] at hr
        split at hr
        case isFalse => simp at hr
        rename_i g2
        simp only [Option.bind_some] at hr
        split at hr
        case isFalse => simp at hr
        rename_i g3
        simp only [Option.bind_some] at hr
        split at hr
        case isFalse => simp at hr
        rename_i g4
        simp only [Option.bind_some] at hr
        cases hse : (slotEnts C d (resKind s.rs) (resLeaves s.rs)).run F.G with
        | none => rw [hse] at hr; simp at hr
        | some es' =>
          rw [hse] at hr
          simp only [Option.bind_some, Q.run, Option.some.injEq, Prod.mk.injEq] at hr
          obtain ⟨hes, his⟩ := hr
          obtain ⟨c1, hall1⟩ := argsOf_run h h1
          have hex : ∃ c2, ArgsAll F C.ver d (s.ps.drop args.length) A2 xv c2 := by
            cases extra with
            | none =>
              simp only [extraOf, Q.run_bind', Q.run_guard] at h2
              split at h2
              case isFalse => simp at h2
              rename_i he
              simp only [Option.bind_some, Q.run, Option.some.injEq] at h2
              subst h2
              simp only at hx
              subst hx
              have : s.ps.drop args.length = [] := by simpa using he
              rw [this]
              exact ⟨[], trivial⟩
            | some x =>
              simp only [extraOf, Q.run_bind', Q.run_ofOption] at h2
              cases hm : mapOpt PK.ptr (s.ps.drop args.length) with
              | none => rw [hm] at h2; simp at h2
              | some caps =>
                rw [hm] at h2
                simp only [Option.bind_some] at h2
                obtain ⟨ps, cells, hV, hcl⟩ := closOf_run h h2
                simp only at hx
                rw [hx] at hV
                have : xv = ps := by simpa using hV
                rw [this]
                exact clos_args hm hcl
          obtain ⟨c2, hall2⟩ := hex
          have hall := hall1.append hall2
          rw [List.take_append_drop] at hall
          simp only [Bool.and_eq_true, List.all_eq_true, bne_iff_ne, ne_eq, Bool.or_eq_true, List.isEmpty_iff, decide_eq_true_eq, Bool.not_eq_true', List.contains_eq_mem, decide_eq_false_iff_not] at g1 g2 g3
          simp only [Bool.and_eq_true, decide_eq_true_eq] at g4
          have hb := back_all hall g1.1.1.1
          refine ⟨s, A1 ++ A2, c1 ++ c2, hall, ⟨hs, hf, g1.1.1.1, nodupB_nodup g1.1.1.2, g1.1.2, g1.2, fun k hk => g2.1.1 k (List.mem_append.2 (.inl hk)), fun k hk => g2.1.1 k (List.mem_append.2 (.inr hk)), g2.1.2, g2.2, g3, g4.1, g4.2, ?_, his.symm⟩⟩
          have p := slotEnts_gen hse (goneOf C.ver ((A1 ++ A2).flatMap Arg.taken) ((A1 ++ A2).flatMap (·.ents)) ++ (A1 ++ A2).flatMap (·.ents) ++ [(lk d 12, ⟨C.ver, [], .no⟩), (lk d 13, ⟨C.ver, [], .no⟩)]) (fun x hx => ?_) (fun k hk => ?_)
          · rw [← hes]; exact p
          · rcases List.mem_append.1 hx with hx | hx
            · rcases List.mem_append.1 hx with hx | hx
              · obtain ⟨k, _, hk⟩ := List.mem_filterMap.1 hx
                split at hk
                · cases hk
                · simp at hk; rw [← hk]
              · exact (hb x hx).1
            · simp at hx; rcases hx with rfl | rfl <;> rfl
          · obtain ⟨x, hx, rfl⟩ := List.mem_map.1 hk
            rcases List.mem_append.1 hx with hx | hx
            · rcases List.mem_append.1 hx with hx | hx
              · obtain ⟨k, _, hk⟩ := List.mem_filterMap.1 hx
                split at hk
                · cases hk
                · rename_i hn
                  simp at hk
                  rw [← hk]
                  simp at hn
                  omega
              · exact (hb x hx).2.1
            · simp at hx; rcases hx with rfl | rfl <;> (rw [lk_mod (by omega)]; omega)

end
end Go.Lf

/- Calls, twelfth part: labels behind the call, fact by fact. -/
namespace Go.Lf

section
variable {F : Fr} {prs : List (Nat × LA)} {looked : List Nat} {d : Nat} {lab' : Nat → Lab} {w w' : World}

/-- What was not handed over keeps its label. -/
theorem lab1_keep {b : Nat} (hb : b < F.H.size) (h0 : lab0 F prs looked [] b = .imm ∨ lab0 F prs looked [] b = .own []) : lab1 F prs looked d lab' b = F.lab b := by
  unfold lab1
  rcases h0 with h0 | h0 <;> rw [h0] <;> simp only [hb, if_true]

theorem lab1_new {b : Nat} (hb : F.H.size ≤ b) (himm : F.lab b = .imm) : lab1 F prs looked d lab' b = lab1.back F prs d lab' b := by
  unfold lab1
  rw [lab0_shared (by rw [himm]; trivial)]
  simp only
  rw [if_neg (by omega)]

theorem lab1_handed {b kc : Nat} {q : List Nat} (h0 : lab0 F prs looked [] b = .own (kc :: q)) : lab1 F prs looked d lab' b = lab1.back F prs d lab' b := by
  unfold lab1
  rw [h0]

theorem back_imm {b : Nat} (h : lab' b = .imm) : lab1.back F prs d lab' b = .imm := by simp [lab1.back, h]

theorem back_res {b j : Nat} {q : List Nat} (hj : j < 15) (h : lab' b = .own (lk rb j :: q)) : lab1.back F prs d lab' b = .own (lk d j :: q) := by
  simp only [lab1.back, h]
  rw [lk_div (by omega), lk_mod (by omega), if_pos rfl]

theorem back_out {b kc : Nat} {p q : List Nat} (hkc : kc / 16 ≠ rb) (ho : outLab F.env prs kc = some p) (h : lab' b = .own (kc :: q)) : lab1.back F prs d lab' b = .own (p ++ q) := by
  simp only [lab1.back, h, if_neg hkc, ho]

/-- Every block is either kept as it was, or labelled anew from the callee's labels. -/
theorem lab1_cases (b : Nat) (himm : ∀ b, F.H.size ≤ b → F.lab b = .imm) :
    (b < F.H.size ∧ (lab0 F prs looked [] b = .imm ∨ lab0 F prs looked [] b = .own []) ∧ lab1 F prs looked d lab' b = F.lab b) ∨
    ((F.H.size ≤ b ∨ ∃ kc q, lab0 F prs looked [] b = .own (kc :: q)) ∧ lab1 F prs looked d lab' b = lab1.back F prs d lab' b) := by
  by_cases hb : b < F.H.size
  · cases h0 : lab0 F prs looked [] b with
    | imm => exact .inl ⟨hb, .inl rfl, lab1_keep hb (.inl h0)⟩
    | own p =>
      cases p with
      | nil => exact .inl ⟨hb, .inr rfl, lab1_keep hb (.inr h0)⟩
      | cons kc q => exact .inr ⟨.inr ⟨kc, q, rfl⟩, lab1_handed h0⟩
  · exact .inr ⟨.inl (by omega), lab1_new (by omega) (himm b (by omega))⟩

end
end Go.Lf

/- Calls, thirteenth part: what comes back, read with the caller's labels. -/
namespace Go.Lf

/-- What is owned through and through is carried without a word on what is shared. -/
theorem Rd.carryOwn {H H' : Array Obj} {lab lab' : Nat → Lab} : ∀ {m : M} {p p' : List Nat} {cs : List Value} {τ : Ty} {x : τ.T}, m.isOwn = true →
    (∀ b o s, H[b]? = some o → lab b = .own (p ++ s) → H'[b]? = some o ∧ lab' b = .own (p' ++ s)) → Rd H lab m p cs τ x → Rd H' lab' m p' cs τ x := by
  intro m
  induction m with
  | sc => intro p p' cs τ x _ _ h; cases τ <;> simp [Rd] at h ⊢ <;> exact h
  | pair ma mb iha ihb =>
    intro p p' cs τ x ho hc h
    simp only [M.isOwn, Bool.and_eq_true] at ho
    cases τ <;> simp [Rd] at h ⊢
    exact ⟨iha ho.1 (fun b o s hb hl => by simpa using hc b o (0 :: s) hb (by simpa using hl)) h.1, ihb ho.2 (fun b o s hb hl => by simpa using hc b o (1 :: s) hb (by simpa using hl)) h.2⟩
  | sl md m ih =>
    intro p p' cs τ x ho hc h
    simp only [M.isOwn, Bool.and_eq_true, beq_iff_eq] at ho
    obtain ⟨rfl, ho⟩ := ho
    cases τ <;> simp only [Rd] at h ⊢
    obtain ⟨ad, cap, rfl, h⟩ := h
    refine ⟨ad, cap, rfl, ?_⟩
    cases ad with
    | none => exact h
    | some q =>
      rcases h with h | h
      · exact .inl h
      refine .inr ?_
      obtain ⟨hs, hm, hl, c, ty, fr, hb, hsz, hfr, hel⟩ := h
      have key := hc _ _ [] hb (by simpa [MdOk] using hm)
      exact ⟨hs, by simpa [MdOk] using key.2, hl, c, ty, fr, key.1, hsz, hfr, fun i hi => ih ho (fun b o s hb hl => by simpa using hc b o (i :: s) hb (by simpa using hl)) (hel i hi)⟩

section
variable {F F0 : Fr} {prs : List (Nat × LA)} {looked : List Nat} {d : Nat} {lab' : Nat → Lab} {w w' : World} {s : Sig} {r : List Dyn} {V : Value}

/-- The labels behind the call, and what they keep. -/
structure Back (F F0 : Fr) (prs : List (Nat × LA)) (looked : List Nat) (d : Nat) (lab' : Nat → Lab) (w' : World) : Prop where
  imms : ∀ b, F.H.size ≤ b → F.lab b = .imm
  imm : ∀ (b : Nat) (o : Obj), F.H[b]? = some o → lab0 F prs looked [] b = .imm → w'.heap[b]? = some o ∧ lab' b = .imm
  frn : ∀ (b : Nat) (o : Obj), F.H[b]? = some o → lab0 F prs looked [] b = .own [] → w'.heap[b]? = some o ∧ lab' b = .own []

theorem Back.own (B : Back F F0 prs looked d lab' w') {b kc : Nat} {q : List Nat} (h : lab' b = .own (kc :: q)) : lab1 F prs looked d lab' b = lab1.back F prs d lab' b := by
  rcases lab1_cases (prs := prs) (looked := looked) (d := d) (lab' := lab') b B.imms with ⟨hb, h0, _⟩ | ⟨_, h1⟩
  · have hob : F.H[b]? = some F.H[b] := Array.getElem?_eq_getElem hb
    rcases h0 with h0 | h0
    · have := (B.imm b _ hob h0).2; rw [h] at this; cases this
    · have := (B.frn b _ hob h0).2; rw [h] at this; simp at this
  · exact h1

theorem Back.shared (B : Back F F0 prs looked d lab' w') (hlk : looked = []) {b : Nat} (h : (lab' b).shared) : (lab1 F prs looked d lab' b).shared := by
  have himm : lab' b = .imm := by cases hl : lab' b with | imm => rfl | own p => rw [hl] at h; exact h.elim
  rcases lab1_cases (prs := prs) (looked := looked) (d := d) (lab' := lab') b B.imms with ⟨hb, h0, h1⟩ | ⟨_, h1⟩
  · rw [h1]
    have hob : F.H[b]? = some F.H[b] := Array.getElem?_eq_getElem hb
    rcases h0 with h0 | h0
    · unfold lab0 at h0
      cases hl : F.lab b with
      | imm => trivial
      | own p =>
        rw [hl] at h0
        cases p with
        | nil => simp at h0
        | cons k q =>
          simp only [hlk] at h0
          split at h0 <;> simp at h0
    · have := (B.frn b _ hob h0).2; rw [himm] at this; cases this
  · rw [h1, back_imm himm]; trivial

/-- A leaf that comes back to a place of the caller. -/
theorem Back.leaf (B : Back F F0 prs looked d lab' w') {kc : Nat} {p : List Nat} {m : M} {v : Value} {z : Dyn} (hk : ∀ q b, lab' b = .own (kc :: q) → lab1.back F prs d lab' b = .own (p ++ q)) (hdeep : looked = [] ∨ m.isOwn = true)
    (h : Rd w'.heap lab' (.sl .own m) [kc] [v] z.τ z.v) : Rd w'.heap (lab1 F prs looked d lab') (.sl .own m) p [v] z.τ z.v := by
  have own : ∀ b (o : Obj) s, w'.heap[b]? = some o → lab' b = .own ([kc] ++ s) → w'.heap[b]? = some o ∧ lab1 F prs looked d lab' b = .own (p ++ s) := by
    intro b o s ho hl
    have hl' : lab' b = .own (kc :: s) := by simpa using hl
    exact ⟨ho, by rw [B.own hl']; exact hk s b hl'⟩
  rcases hdeep with hd | hd
  · exact h.carry ⟨own, fun b o ho hl => ⟨ho, B.shared hd hl⟩⟩
  · exact Rd.carryOwn (m := .sl .own m) (by simp [M.isOwn, hd]) own h

/-- A shared leaf that comes back. -/
theorem Back.shr (B : Back F F0 prs looked d lab' w') {v : Value} {z : Dyn} (hdeep : looked = [] ∨ ∀ e, z.τ ≠ .slice e) (h : Rd w'.heap lab' z.τ.shr [] [v] z.τ z.v) : Rd w'.heap (lab1 F prs looked d lab') z.τ.shr [] [v] z.τ z.v := by
  rcases hdeep with hd | hd
  · exact h.shared fun b o ho hl => ⟨ho, B.shared hd hl⟩
  · obtain ⟨τ, x⟩ := z
    cases τ with
    | slice e => exact absurd rfl (hd e)
    | pair a b =>
      have := h.length
      have h1 := a.n_pos
      have h2 := b.n_pos
      simp [Ty.n] at this
      omega
    | _ => simpa [Ty.shr, Rd] using h

end
end Go.Lf
