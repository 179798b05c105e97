/- The core of the lifting, part 4 of 4: a compiler of Go functions to functions of data, and its soundness. -/
import Derived.Test.YtjffopklnampaaaLc
import Derived.ProofKit
import Derived.Below
import Derived.OpenShut
import Derived.JoinedCond
import Derived.Carry
import Derived.Shelf.SlicesE.Clone
import Derived.Shelf.SlLaysE0
import Derived.Shelf.RegionOpenPlain
import Derived.WalkKit
import Derived.Deep.LoopGhost
import Derived.Lib.Walk
import Derived.Lib.SliceRun
set_option linter.unusedVariables false
set_option linter.unusedSimpArgs false
/- A law's run: what the arguments read as, as data; old memory stays. -/
namespace Go.Lf

/-- Numbers are in their kinds' range. -/
def WfT : (τ : Ty) → τ.T → Prop
  | .int k, x => (Lit.int k x).wf = true
  | .bool, _ => True
  | .str, _ => True
  | .pair a b, x => WfT a x.1 ∧ WfT b x.2
  | .slice e, l => ∀ x ∈ (l : List e.T), WfT e x

/-- How many values and letters. -/
def bulkT : (τ : Ty) → τ.T → Nat
  | .int _, _ => 1
  | .bool, _ => 1
  | .str, s => (s : ByteArray).size + 1
  | .pair a b, x => bulkT a x.1 + bulkT b x.2
  | .slice e, l => ((l : List e.T).map (bulkT e)).sum + 1

/-- The bulk of a reading. -/
structure Bulk (H : Type) (b : DataW H → Nat) (bs : List (DataW H) → Nat) : Prop where
  str : ∀ s, s.length + 1 ≤ b (.lit (.string s))
  sl : ∀ e s, bs e + bs s + 1 ≤ b (.slice e s)
  ag : ∀ p, bs p ≤ b (.agg p)
  nil : bs [] = 0
  cons : ∀ d r, bs (d :: r) = b d + bs r
  one : ∀ d, 1 ≤ b d

def immLab : Nat → Lab := fun _ => .imm

theorem exists_list {α : Type} {n : Nat} {p : Nat → α → Prop} (h : ∀ i, i < n → ∃ x, p i x) : ∃ l : List α, l.length = n ∧ ∀ (i : Nat) (x : α), l[i]? = some x → p i x := by
  induction n with
  | zero => exact ⟨[], rfl, fun i x hx => by simp at hx⟩
  | succ n ih =>
    obtain ⟨l, h1, h2⟩ := ih fun i hi => h i (by omega)
    obtain ⟨x, hx⟩ := h n (by omega)
    refine ⟨l ++ [x], by simp [h1], fun i y hy => ?_⟩
    by_cases hi : i < n
    · rw [List.getElem?_append_left (by omega)] at hy; exact h2 i y hy
    · rw [List.getElem?_append_right (by omega)] at hy
      by_cases hin : i = n
      · subst hin; simp [h1] at hy; subst hy; exact hx
      · rw [List.getElem?_eq_none (by simp; omega)] at hy; cases hy

theorem sum_le {α : Type} {H : Type} {b : DataW H → Nat} {bs : List (DataW H) → Nat} (B : Bulk H b bs) (g : α → Nat) : ∀ {l : List α} {ds : List (DataW H)}, l.length = ds.length → (∀ (i : Nat) (x : α) (d : DataW H), l[i]? = some x → ds[i]? = some d → g x ≤ b d) → (l.map g).sum ≤ bs ds
  | [], [], _, _ => by simp [B.nil]
  | x :: l, d :: ds, hl, h => by
    rw [B.cons]
    simp only [List.map_cons, List.sum_cons]
    have h1 := h 0 x d rfl rfl
    have h2 := sum_le B g (l := l) (ds := ds) (by simpa using hl) fun i x d hx hd => h (i + 1) x d (by simpa using hx) (by simpa using hd)
    omega
  | [], _ :: _, hl, _ => by simp at hl
  | _ :: _, [], hl, _ => by simp at hl

theorem cell_heap {w : World} {b off : Nat} {v : Value} {sp : Option _} (h : w.cell? ⟨b, off, sp⟩ = some v) : sp = none ∧ ∃ c ty fr, w.heap[b]? = some (.cells c ty fr) ∧ c[off]? = some v := by
  have hs := World.cell?_spot h
  simp only at hs
  subst hs
  unfold World.cell? at h
  split at h
  · rename_i c ty fr hc
    simp only [Option.isSome_none, Bool.false_eq_true, if_false] at h
    exact ⟨rfl, c, ty, fr, hc, h⟩
  · cases h

section
variable {H : Type} {enc : TypeId × Value → H} {P : Program} {w : World} {b : DataW H → Nat} {bs : List (DataW H) → Nat}

/-- WHAT A READING TELLS, as data. -/
theorem trod_rd (B : Bulk H b bs) : ∀ (fuel : Nat) {t : TypeId} {cs : List Value} {d : DataW H} {ps : List MemPlace} {τ : Ty} {f : Nat}, tyOf P f t = some τ → DataW.trod enc P w 0 (fun _ => true) true fuel t cs = some (d, ps) →
    ∀ pos, ∃ x : τ.T, Rd w.heap immLab τ.shr pos cs τ x ∧ WfT τ x ∧ bulkT τ x ≤ b d := by
  intro fuel
  induction fuel with
  | zero => intro t cs d ps τ f _ h; simp [DataW.trod] at h
  | succ fuel ih =>
    intro t cs d ps τ f hty h pos
    have hrow := tyOf_row hty
    rcases hrow.desc with ⟨fs, ts, hu, h2, hpu, hfit, f', hts⟩ | ⟨k, hu, rfl⟩ | ⟨hu, rfl⟩ | ⟨hu, rfl⟩ | ⟨e, σ, hu, rfl⟩
    · -- a struct
      obtain ⟨xs, n0, hn0, hx, hlen, hxl, hall⟩ := DataW.trod_struct hu h
      have hn0 : fuel = n0 := by omega
      subst hn0
      simp only [Prod.mk.injEq] at hx
      obtain ⟨rfl, rfl⟩ := hx
      have hcells := hrow.cells
      have key : ∀ (fl : List Field) (tl : List Ty) (off : Nat) (τ' : Ty) (ys : List (DataW H × List MemPlace)) (pos : List Nat), fieldsFit P off fl tl = true → mapOpt (fun f => tyOf P f' f.type) fl = some tl → pairUp tl = some τ' →
          (∀ (i : Nat) (f : Field), fl[i]? = some f → DataW.trod enc P w 0 (fun _ => true) true fuel f.type ((cs.drop f.offset).take (P.cellsOf f.type)) = ys[i]?) → ys.length = fl.length → (cs.drop off).length = τ'.n →
          ∃ x : τ'.T, Rd w.heap immLab τ'.shr pos (cs.drop off) τ' x ∧ WfT τ' x ∧ bulkT τ' x ≤ bs (ys.map (·.1)) := by
        intro fl
        induction fl with
        | nil => intro tl off τ' ys pos h1 h2 h3; simp [mapOpt] at h2; subst h2; simp [pairUp] at h3
        | cons fd fl ihf =>
          intro tl off τ' ys pos h1 h2 h3 h4 h4l h5
          simp only [mapOpt] at h2
          split at h2
          case h_2 => simp at h2
          rename_i t0 ht0
          split at h2
          case h_2 => simp at h2
          rename_i tl' htl'
          simp only [Option.some.injEq] at h2
          subst h2
          simp only [fieldsFit, Bool.and_eq_true, beq_iff_eq] at h1
          obtain ⟨⟨ho, hc⟩, hrest⟩ := h1
          cases ys with
          | nil => simp at h4l
          | cons y ys' =>
              have hy := h4 0 fd rfl
              simp only [List.getElem?_cons_zero] at hy
              have hys : ∀ (i : Nat) (f : Field), fl[i]? = some f → DataW.trod enc P w 0 (fun _ => true) true fuel f.type ((cs.drop f.offset).take (P.cellsOf f.type)) = ys'[i]? := fun i f hf => h4 (i + 1) f (by simpa using hf)
              obtain ⟨dy, py⟩ := y
              rw [ho, hc] at hy
              cases tl' with
              | nil =>
                simp only [pairUp, Option.some.injEq] at h3
                subst h3
                have hfull : (cs.drop off).take t0.n = cs.drop off := List.take_of_length_le (by omega)
                rw [hfull] at hy
                obtain ⟨x, g1, g2, g3⟩ := ih ht0 hy pos
                refine ⟨x, g1, g2, ?_⟩
                simp only [List.map_cons, B.cons]
                omega
              | cons t1 tl'' =>
                simp only [pairUp, Option.map_eq_some_iff] at h3
                obtain ⟨τr, hτr, rfl⟩ := h3
                simp only [Ty.n] at h5
                obtain ⟨x, g1, g2, g3⟩ := ih ht0 hy (pos ++ [0])
                obtain ⟨y, k1, k2, k3⟩ := ihf (t1 :: tl'') (off + t0.n) τr ys' (pos ++ [1]) hrest htl' hτr hys (by simpa using h4l) (by simp at h5 ⊢; omega)
                refine ⟨(x, y), ?_, ⟨g2, k2⟩, ?_⟩
                · simp only [Ty.shr, Rd, List.drop_drop]
                  exact ⟨g1, by rw [show off + t0.n = off + t0.n from rfl] at k1; exact k1⟩
                · simp only [List.map_cons, B.cons, bulkT]
                  omega
      have hn : (cs.drop 0).length = τ.n := by simp; rw [hlen, hcells]
      obtain ⟨x, g1, g2, g3⟩ := key fs.toList ts 0 τ xs pos hfit hts hpu (fun i f hf => hall i f (by simpa using hf)) (by simpa using hxl) hn
      exact ⟨x, by simpa using g1, g2, Nat.le_trans g3 (B.ag _)⟩
    · obtain ⟨n, rfl, hx, hwf⟩ := DataW.trod_int hu h
      simp only [Prod.mk.injEq] at hx
      obtain ⟨rfl, _⟩ := hx
      exact ⟨n, by simp [Ty.shr, Rd], hwf, B.one _⟩
    · obtain ⟨x, rfl, hx⟩ := DataW.trod_bool hu h
      simp only [Prod.mk.injEq] at hx
      obtain ⟨rfl, _⟩ := hx
      exact ⟨x, by simp [Ty.shr, Rd], trivial, B.one _⟩
    · obtain ⟨s, rfl, hx, _⟩ := DataW.trod_string hu h
      simp only [Prod.mk.injEq] at hx
      obtain ⟨rfl, _⟩ := hx
      refine ⟨s, by simp [Ty.shr, Rd], trivial, ?_⟩
      have := B.str s.data.toList
      simpa [bulkT] using this
    · obtain ⟨σ', f', hσ, hty'⟩ := hrow.slice e hu
      simp only [Ty.slice.injEq] at hσ
      subst hσ
      have hn : P.cellsOf e = σ.n := (tyOf_row hty').cells
      have hpos := σ.n_pos
      rcases DataW.trod_slice hu h with ⟨rfl, hx⟩ | ⟨a, len, cap, elems, rest, n0, hn0, rfl, hx, hbase, hlc, hcm, hel, helem, hsp, _⟩
      · simp only [Prod.mk.injEq] at hx
        obtain ⟨rfl, _⟩ := hx
        refine ⟨[], ?_, fun x hx => by simp at hx, ?_⟩
        · simp only [Ty.shr, Rd]
          exact ⟨none, 0, rfl, trivial, rfl⟩
        · simp only [bulkT, List.map_nil, List.sum_nil]
          exact B.one _
      · have hn0 : fuel = n0 := by omega
        subst hn0
        simp only [Prod.mk.injEq] at hx
        obtain ⟨rfl, _⟩ := hx
        obtain ⟨hrl, hrest⟩ := hsp rfl
        rw [hn] at helem hrest
        obtain ⟨ab, ao, asp⟩ := a
        -- one reading at each place
        have each : ∀ i, i < cap → ∃ csi di pi, w.cells? 0 ((⟨ab, ao, asp⟩ : Addr).add (i * σ.n)) σ.n = some csi ∧ DataW.trod enc P w 0 (fun _ => true) true fuel e csi = some (di, pi) ∧ (i < len → elems[i]? = some (di, pi)) := by
          intro i hi
          by_cases hil : i < len
          · have h1 := helem i hil
            rw [List.getElem?_eq_getElem (by omega : i < elems.length)] at h1
            obtain ⟨csi, h2, h3⟩ := Option.bind_eq_some_iff.1 h1
            exact ⟨csi, _, _, h2, h3, fun _ => List.getElem?_eq_getElem (by omega)⟩
          · have h1 := hrest (i - len) (by omega)
            rw [List.getElem?_eq_getElem (by omega : i - len < rest.length), show len + (i - len) = i by omega] at h1
            obtain ⟨csi, h2, h3⟩ := Option.bind_eq_some_iff.1 h1
            exact ⟨csi, _, _, h2, h3, fun h => absurd h hil⟩
        by_cases hc0 : cap = 0
        · have hl0 : len = 0 := by omega
          subst hl0
          refine ⟨[], ?_, fun x hx => by simp at hx, ?_⟩
          · simp only [Ty.shr, Rd]
            exact ⟨some ⟨ab, ao, asp⟩, cap, rfl, .inl ⟨trivial, hc0⟩⟩
          · simp only [bulkT, List.map_nil, List.sum_nil]
            exact B.one _
        · -- the block
          have hcellAt : ∀ i, i < cap → ∀ j, j < σ.n → ∃ csi v, w.cells? 0 ((⟨ab, ao, asp⟩ : Addr).add (i * σ.n)) σ.n = some csi ∧ csi[j]? = some v ∧ w.cell? (((⟨ab, ao, asp⟩ : Addr).add (i * σ.n)).add j) = some v := by
            intro i hi j hj
            obtain ⟨csi, di, pi, h1, _, _⟩ := each i hi
            obtain ⟨_, hl1, hl2⟩ := World.cells?_some h1
            have : csi[j]? = some (csi[j]'(by omega)) := List.getElem?_eq_getElem (by omega)
            exact ⟨csi, _, h1, this, by rw [hl2 j hj, this]⟩
          have hsp0 : asp = none := by
            obtain ⟨csi, v, _, _, h3⟩ := hcellAt 0 (by omega) 0 hpos
            simpa [Addr.add] using World.cell?_spot h3
          subst hsp0
          have hadd : ∀ i j, ((⟨ab, ao, none⟩ : Addr).add i).add j = ⟨ab, ao + i + j, none⟩ := by
            intro i j
            unfold Addr.add
            split <;> split <;> simp_all
          obtain ⟨csl, vl, _, _, h3⟩ := hcellAt (cap - 1) (by omega) (σ.n - 1) (by omega)
          rw [hadd] at h3
          obtain ⟨_, c, ty, fr, hblk, hcl⟩ := cell_heap h3
          have hsz : ao + cap * σ.n ≤ c.size := by
            have h4 := (Array.getElem?_eq_some_iff.1 hcl).1
            have h5 : (cap - 1) * σ.n + σ.n = cap * σ.n := by
              rw [← Nat.succ_mul]; congr 1; omega
            omega
          have hcut : ∀ i, i < cap → ∀ csi, w.cells? 0 ((⟨ab, ao, none⟩ : Addr).add (i * σ.n)) σ.n = some csi → csi = cut c (ao + i * σ.n) σ.n := by
            intro i hi csi hcsi
            obtain ⟨_, hl1, hl2⟩ := World.cells?_some hcsi
            apply List.ext_getElem?
            intro j
            by_cases hj : j < σ.n
            · rw [← hl2 j hj, hadd]
              simp only [cut]
              rw [List.getElem?_take_of_lt hj, List.getElem?_drop]
              simp [World.cell?, hblk]
            · rw [List.getElem?_eq_none (by omega), List.getElem?_eq_none (by simp [cut]; omega)]
          obtain ⟨xs, hxl, hxs⟩ := exists_list (n := len) (p := fun i (x : σ.T) => Rd w.heap immLab σ.shr (pos ++ [i]) (cut c (ao + i * σ.n) σ.n) σ x ∧ WfT σ x ∧ ∀ di pi, elems[i]? = some (di, pi) → bulkT σ x ≤ b di) (fun i hi => by
            obtain ⟨csi, di, pi, h1, h2, h3⟩ := each i (by omega)
            rw [hcut i (by omega) csi h1] at h2
            obtain ⟨x, g1, g2, g3⟩ := ih hty' h2 (pos ++ [i])
            refine ⟨x, g1, g2, fun di' pi' he => ?_⟩
            rw [h3 hi] at he
            simp only [Option.some.injEq, Prod.mk.injEq] at he
            rw [← he.1]; exact g3)
          refine ⟨xs, ?_, fun x hx => ?_, ?_⟩
          · simp only [Ty.shr, Rd]
            refine ⟨some ⟨ab, ao, none⟩, cap, by rw [hxl], .inr ⟨rfl, trivial, by omega, c, ty, fr, hblk, hsz, by simp, fun i hi => ?_⟩⟩
            exact (hxs i _ (List.getElem?_eq_getElem hi)).1
          · obtain ⟨i, hi, rfl⟩ := List.mem_iff_getElem.1 hx
            exact (hxs i _ (List.getElem?_eq_getElem hi)).2.1
          · have h1 := sum_le B (bulkT σ) (l := xs) (ds := elems.map (·.1)) (by simp [hxl, hel]) (fun i x d hx hd => by
              rw [List.getElem?_map] at hd
              obtain ⟨y, hy, rfl⟩ := Option.map_eq_some_iff.1 hd
              exact (hxs i x hx).2.2 y.1 y.2 hy)
            have h2 := B.sl (elems.map (·.1)) (rest.map (·.1))
            simp only [bulkT]
            omega

end

theorem unflat_flat : ∀ (τ : Ty) (x : τ.T) (rest : List Dyn), unflat τ (flat τ x ++ rest) = some (x, rest)
  | .pair a b, x, rest => by
    simp only [flat, unflat, List.append_assoc, unflat_flat a x.1, unflat_flat b x.2]
  | .int k, x, rest => by simp [flat, unflat]
  | .bool, x, rest => by simp [flat, unflat]
  | .str, x, rest => by simp [flat, unflat]
  | .slice e, x, rest => by simp [flat, unflat]

theorem build_of_flat (τ : Ty) (x : τ.T) : build τ (flat τ x) = some x := by
  have := unflat_flat τ x []
  rw [List.append_nil] at this
  unfold build
  rw [this]

/-- Values that read as data. -/
def ArgsRd (W : World) : List Dyn → List Value → Prop
  | [], [] => True
  | y :: l, V :: Vs => (∃ cs, V = mkVal y.τ.isPair cs ∧ cs.length = y.τ.n ∧ Rd W.heap immLab y.τ.shr [] cs y.τ y.v) ∧ ArgsRd W l Vs
  | _, _ => False

def lawEnv (l : List Dyn) : Env := fun k =>
  match l[k / 16]? with
  | some y => (flat y.τ y.v).getD (k % 16) ⟨.bool, false⟩
  | none => ⟨.bool, false⟩

def lawFr (W : World) (l : List Dyn) : Fr := { tmps := #[], H := W.heap, lab := immLab, env := lawEnv l, G := fun _ => noEnt, org := fun _ => default }

def lawArg (i : Nat) (y : Dyn) : Arg := ⟨[(y.τ, (List.range y.τ.n).map fun j => Od.k (lk i j))], List.replicate y.τ.n (.rd none), [], none, [], [], []⟩

def lawArgs : Nat → List Dyn → List Arg
  | _, [] => []
  | i, y :: l => lawArg i y :: lawArgs (i + 1) l

theorem rd_leaf {H : Array Obj} {lab : Nat → Lab} {τ : Ty} {x : τ.T} {pos : List Nat} {cs : List Value} (h : Rd H lab τ.shr pos cs τ x) {j : Nat} {v : Value} (hv : cs[j]? = some v) :
    ∃ y, (flat τ x)[j]? = some y ∧ Rd H lab y.τ.shr [] [v] y.τ y.v := by
  obtain ⟨y, m', pos', h1, h2, h3, q, _, _⟩ := h.leaf hv
  refine ⟨y, h1, ?_⟩
  have key : ∀ (τ : Ty) (x : τ.T) (j : Nat) (y : Dyn) (m : M), (flat τ x)[j]? = some y → τ.shr.flat[j]? = some m → m = y.τ.shr := by
    intro τ
    induction τ with
    | pair a b iha ihb =>
      intro x j y m h1 h2
      simp only [flat, Ty.shr, M.flat] at h1 h2
      have hl : (flat a x.1).length = a.shr.flat.length := by
        rw [flat_length]
        have : ∀ t : Ty, t.shr.flat.length = t.n := by
          intro t
          induction t with
          | pair a b iha ihb => simp [Ty.shr, M.flat, Ty.n, iha, ihb]
          | _ => simp [Ty.shr, M.flat, Ty.n]
        rw [this]
      by_cases hj : j < (flat a x.1).length
      · rw [List.getElem?_append_left hj] at h1
        rw [List.getElem?_append_left (by omega)] at h2
        exact iha _ _ _ _ h1 h2
      · rw [List.getElem?_append_right (by omega)] at h1
        rw [List.getElem?_append_right (by omega), ← hl] at h2
        exact ihb _ _ _ _ h1 h2
    | _ =>
      intro x j y m h1 h2
      cases j with
      | zero => simp [flat, Ty.shr, M.flat] at h1 h2; subst h1; subst h2; rfl
      | succ j => simp [flat] at h1
  rw [key τ x j y m' h1 h2] at h3
  exact Rd.shared (fun b o h1 h2 => ⟨h1, h2⟩) h3

theorem law_entry {s : Sig} {W : World} {l : List Dyn} {Vs : List Value} (hps : s.ps = l.map fun y => PK.v y.τ) (h14 : ∀ y ∈ l, y.τ.n ≤ 14) (h : ArgsRd W l Vs) :
    ∃ F0 : Fr, Entry s F0 W l ∧ F0.tmps = Vs.toArray ∧ F0.lab = immLab := by
  let F := lawFr W l
  have hst : St F (· = 0) := ⟨fun s => by unfold SlotOk; show (if holds _ [] = true then Claim F s .no else _); rw [if_pos (by rfl)]; trivial, fun _ => trivial, fun _ => rfl, fun _ _ => rfl⟩
  have hrel : Rel F ⟨#[], []⟩ W 0 := ⟨rfl, rfl, rfl, rfl⟩
  -- all arguments
  have key : ∀ (l' : List Dyn) (i : Nat) (Vs' : List Value), l.drop i = l' → ArgsRd W l' Vs' → ∃ css, ArgsAll F 0 0 (l'.map fun y => PK.v y.τ) (lawArgs i l') Vs' css ∧ fitsArgs i (l'.map fun y => PK.v y.τ) (lawArgs i l') = true ∧
      (lawArgs i l').flatMap Arg.taken = [] ∧ (lawArgs i l').flatMap Arg.looked = [] ∧ (lawArgs i l').flatMap (·.seen) = [] ∧ argsD F.env ((lawArgs i l').flatMap Arg.data) = some l' := by
    intro l'
    induction l' with
    | nil =>
      intro i Vs' _ h
      cases Vs' with
      | nil => exact ⟨[], trivial, rfl, rfl, rfl, rfl, rfl⟩
      | cons _ _ => exact h.elim
    | cons y l' ih =>
      intro i Vs' hd h
      cases Vs' with
      | nil => exact h.elim
      | cons V Vs' =>
        obtain ⟨⟨cs, hV, hn, hR⟩, h2⟩ := h
        have hil : i < l.length := by
          rcases Nat.lt_or_ge i l.length with hh | hh
          · exact hh
          · rw [List.drop_eq_nil_of_le hh] at hd; cases hd
        have hyi : l[i]? = some y := by
          have := List.drop_eq_getElem_cons hil
          rw [hd] at this
          simp only [List.cons.injEq] at this
          rw [List.getElem?_eq_getElem hil, this.1]
        have hd' : l.drop (i + 1) = l' := by
          have := List.drop_eq_getElem_cons hil
          rw [hd] at this
          simp only [List.cons.injEq] at this
          exact this.2.symm
        have hy14 := h14 y (List.mem_of_getElem? hyi)
        obtain ⟨css, a1, a2, a3, a4, a5, a6⟩ := ih (i + 1) Vs' hd' h2
        have henv : ∀ j (hj : j < y.τ.n), F.env (lk i j) = (flat y.τ y.v)[j]'(by rw [flat_length]; exact hj) := by
          intro j hj
          show lawEnv l (lk i j) = _
          unfold lawEnv
          rw [lk_div (by omega), lk_mod (by omega), hyi]
          simp only
          rw [List.getD_eq_getElem?_getD, List.getElem?_eq_getElem (by rw [flat_length]; omega)]
          rfl
        have hods : (lawArg i y).ods = (List.range y.τ.n).map fun j => Od.k (lk i j) := by simp [Arg.ods, lawArg]
        refine ⟨cs :: css, ⟨⟨?_, ?_, ?_, ?_, ?_⟩, ⟨rfl, rfl, rfl, rfl⟩, a1⟩, ?_, ?_, ?_, ?_, ?_⟩
        · simp [lawArg, hn]
        · rw [hods]; simp [hn]
        · rfl
        · intro j g1 g2 g3
          have hj : j < y.τ.n := by rw [← hn]; exact g3
          obtain ⟨z, hz, hzR⟩ := rd_leaf hR (List.getElem?_eq_getElem g3)
          have hla : (lawArg i y).las[j] = .rd none := by simp [lawArg]
          rw [hla]
          have hod : (lawArg i y).ods[j].rd F.env = z := by
            simp only [hods, List.getElem_map, List.getElem_range, Od.rd]
            rw [henv j hj]
            rw [List.getElem?_eq_getElem (show j < (flat y.τ y.v).length by rw [flat_length]; exact hj)] at hz
            exact Option.some.inj hz
          rw [hod]
          exact hzR
        · exact ⟨hV, hn⟩
        · simp only [List.map_cons, lawArgs, fitsArgs, Bool.and_eq_true, decide_eq_true_eq]
          refine ⟨⟨?_, by simp [lawArg]; exact hy14⟩, a2⟩
          simp only [PK.sts, lawArg]
          have : ∀ n, fitsLAs (List.replicate n .va) (List.replicate n (.rd none)) = true := by
            intro n
            induction n with
            | zero => rfl
            | succ n ih => simp only [List.replicate_succ, fitsLAs, fitsLA, Bool.true_and]; exact ih
          exact this _
        · simp only [lawArgs, List.flatMap_cons, a3, List.append_nil]
          have : ∀ n, (List.replicate n (LA.rd none)).flatMap LA.taken = [] := by
            intro n
            induction n with
            | zero => rfl
            | succ n ih => simp only [List.replicate_succ, List.flatMap_cons, ih]; rfl
          simp [Arg.taken, lawArg, this]
        · simp only [lawArgs, List.flatMap_cons, a4, List.append_nil]
          have : ∀ n, (List.replicate n (LA.rd none)).flatMap LA.seen = [] := by
            intro n
            induction n with
            | zero => rfl
            | succ n ih => simp only [List.replicate_succ, List.flatMap_cons, ih]; rfl
          simp [Arg.looked, lawArg, this]
        · simp only [lawArgs, List.flatMap_cons, a5, List.append_nil]; rfl
        · simp only [lawArgs, List.flatMap_cons, lawArg, List.singleton_append, argsD, a6]
          have : ((List.range y.τ.n).map fun j => Od.k (lk i j)).map (Od.rd F.env) = flat y.τ y.v := by
            apply List.ext_getElem
            · simp [flat_length]
            · intro j h1 h2
              simp only [List.getElem_map, List.getElem_range, Od.rd]
              exact henv j (by rw [flat_length] at h2; exact h2)
          rw [this, build_of_flat]
  obtain ⟨css, a1, a2, a3, a4, a5, a6⟩ := key l 0 Vs rfl h
  rw [← hps] at a1 a2
  obtain ⟨F0, e1, e2, e3, _⟩ := entry_ok (F := F) (clk := (· = 0)) (C := ⟨default, fun _ => none, 1, [], 0⟩) (es := []) (a := ⟨#[], []⟩) (w := W) (s := s) ⟨hst, by simp, rfl, fun s _ c hc => by simp [F, lawFr, noEnt] at hc, fun c hc => by simp at hc, hrel⟩ a1 a2 (by rw [a3]; exact List.nodup_nil) (by rw [a4]; simp) (by rw [a5]; simp) a6
  refine ⟨F0, e1, e2, ?_⟩
  rw [e3]
  funext b
  exact lab0_shared trivial

/-- A LAW's RUN. -/
theorem law_run {P : Program} {c : Fn} (hg : Good P c) {W : World} {l : List Dyn} {Vs : List Value} (hps : c.s.ps = l.map fun y => PK.v y.τ) (hrs : c.s.rs = [(.bool, [none])]) (h14 : ∀ y ∈ l, y.τ.n ≤ 14) (h : ArgsRd W l Vs)
    (hl : wrapD c.ts c.ρs c.f l = some [⟨.bool, true⟩]) : Calls P c.s.f Vs.toArray W fun e W' => e = .returned (.bool true) ∧ RowKit.Below W.heap.size W W' := by
  obtain ⟨F0, hent, htmps, hlab⟩ := law_entry hps h14 h
  have := hg.keeps F0 W l _ hent hl
  rw [htmps] at this
  refine this.mono ?_
  rintro e W' ⟨V, lab', rfl, g⟩
  obtain ⟨rs, ls, cs, hr, hτ, hhas, hres, hlen, _⟩ := g.res
  rw [hrs] at hτ hhas hres hlen
  refine ⟨?_, g.os, g.tape, g.output, g.size, fun k hk => ?_⟩
  · have hrl : rs.length = 1 := by have := congrArg List.length hτ; simpa using this
    match rs, hrl, hr, hτ with
    | [y], _, hr, hτ =>
      simp only [List.singleton_append, List.cons.injEq] at hr
      obtain ⟨rfl, _⟩ := hr
      obtain ⟨hV, hn, _⟩ := hhas
      match cs, hn, hV with
      | [v], _, hV =>
        obtain ⟨z, hz, hR⟩ := hres 0 none v rfl rfl
        simp [flat] at hz
        subst hz
        simp only [Ty.shr, Rd] at hR
        simp only [List.cons.injEq, and_true] at hR
        rw [hV, hR]
        rfl
  · have hk' : W.heap[k]? = some W.heap[k] := Array.getElem?_eq_getElem hk
    rw [(g.imm k _ hk' (by rw [hlab]; rfl)).1, hk']

end Go.Lf

/- A law's row: what the row asks of the run. -/
namespace Go.Lf
open Go.RowKit

section
variable {H : Type} {enc : TypeId × Value → H} {P : Program}

theorem trodAll_args {W : World} {b : DataW H → Nat} {bs : List (DataW H) → Nat} (B : Bulk H b bs) : ∀ {tids : List TypeId} {τs : List Ty} {Vs : List Value} {ds : List (DataW H)} {ps : List MemPlace},
    tids.map (tyOf P deep) = τs.map some → DataW.TrodAll enc P W 0 (fun _ => true) true tids Vs ds ps →
    (∀ (j : Nat) (t : TypeId) (v : Value), tids[j]? = some t → Vs[j]? = some v → Value.okWide P W .any 0 t v ∨ ∃ r base, Value.okWide P W r base t v) →
    ∃ l : List Dyn, l.map Dyn.τ = τs ∧ ArgsRd W l Vs ∧ (∀ y ∈ l, WfT y.τ y.v) ∧ (l.map fun y => bulkT y.τ y.v).sum ≤ bs ds
  | [], [], [], [], ps, _, _, _ => ⟨[], rfl, trivial, fun y hy => by simp at hy, by simp [B.nil]⟩
  | t :: ts, τ :: τs, v :: vs, d :: ds, ps, hty, h, hv => by
    simp only [List.map_cons, List.cons.injEq] at hty
    obtain ⟨p, q, ⟨fuel, h1⟩, h2, rfl⟩ := h
    have hrow := tyOf_row hty.1
    obtain ⟨l, g1, g2, g3, g4⟩ := trodAll_args B hty.2 h2 fun j t v ht hv' => hv (j + 1) t v (by simpa using ht) (by simpa using hv')
    obtain ⟨x, k1, k2, k3⟩ := trod_rd B fuel hty.1 h1 []
    refine ⟨⟨τ, x⟩ :: l, by simp [g1], ⟨⟨v.cells.toList, ?_, ?_, k1⟩, g2⟩, ?_, ?_⟩
    · -- the value is its cells
      have hval : ∃ r base, Value.okWide P W r base t v := by
        rcases hv 0 t v rfl rfl with h | h
        · exact ⟨_, _, h⟩
        · exact h
      obtain ⟨r, base, hval⟩ := hval
      obtain ⟨dsc, hu, hp⟩ := hrow.under
      have hlen := k1.length
      cases hpp : τ.isPair with
      | true =>
        rw [hpp] at hp
        have : ∃ cs, v = .agg cs := by
          unfold Value.okWide at hval
          rw [hu] at hval
          cases dsc <;> simp at hp
          all_goals (obtain ⟨cs, hcs, _⟩ := hval; exact ⟨cs, hcs⟩)
        obtain ⟨cs, rfl⟩ := this
        simp [mkVal, Value.cells, hpp]
      | false =>
        have h1n := Ty.n_one hpp
        rw [h1n] at hlen
        have hone : ∀ cs, v ≠ .agg cs := by
          rintro cs rfl
          rw [hpp] at hp
          unfold Value.okWide at hval
          rw [hu] at hval
          cases τ with
          | pair a b => simp [Ty.isPair] at hpp
          | int k => simp only [Ty.shr, Rd] at k1; rcases hrow.desc with ⟨fs, ts, hu', h2, hpu, _⟩ | ⟨k', hu', _⟩ | ⟨_, he⟩ | ⟨_, he⟩ | ⟨_, _, _, he⟩
                     · have := pairUp_pair h2 hpu; simp [Ty.isPair] at this
                     · rw [hu] at hu'; cases hu'; simp [Cell.okWide, Cell.ok] at hval
                     all_goals cases he
          | bool => rcases hrow.desc with ⟨fs, ts, hu', h2, hpu, _⟩ | ⟨k', hu', he⟩ | ⟨hu', _⟩ | ⟨_, he⟩ | ⟨_, _, _, he⟩
                    · have := pairUp_pair h2 hpu; simp [Ty.isPair] at this
                    · cases he
                    · rw [hu] at hu'; cases hu'; simp [Cell.okWide, Cell.ok] at hval
                    all_goals cases he
          | str => rcases hrow.desc with ⟨fs, ts, hu', h2, hpu, _⟩ | ⟨k', hu', he⟩ | ⟨hu', he⟩ | ⟨hu', _⟩ | ⟨_, _, _, he⟩
                   · have := pairUp_pair h2 hpu; simp [Ty.isPair] at this
                   · cases he
                   · cases he
                   · rw [hu] at hu'; cases hu'; simp [Cell.okWide, Cell.ok] at hval
                   · cases he
          | slice e => rcases hrow.desc with ⟨fs, ts, hu', h2, hpu, _⟩ | ⟨k', hu', he⟩ | ⟨hu', he⟩ | ⟨hu', he⟩ | ⟨_, _, hu', _⟩
                       · have := pairUp_pair h2 hpu; simp [Ty.isPair] at this
                       · cases he
                       · cases he
                       · cases he
                       · rw [hu] at hu'; cases hu'; simp [Cell.okWide, Cell.ok] at hval
        rw [mkVal, if_neg (by simp [hpp])]
        cases v <;> first | rfl | exact absurd rfl (hone _)
    · exact k1.length
    · intro y hy
      rcases List.mem_cons.1 hy with rfl | hy
      · exact k2
      · exact g3 y hy
    · simp only [List.map_cons, List.sum_cons, B.cons]
      omega
  | [], [], _ :: _, _, _, _, h, _ => by cases h
  | [], [], [], _ :: _, _, _, h, _ => by cases h
  | [], _ :: _, _, _, _, h, _, _ => by simp at h
  | _ :: _, [], _, _, _, h, _, _ => by simp at h
  | _ :: _, _ :: _, [], _, _, _, h, _ => by cases h
  | _ :: _, _ :: _, _ :: _, [], _, _, h, _ => by cases h

theorem trodAll_below {W W' : World} (hl : laidOutB P = true) (hb : Below W.heap.size W W') : ∀ {tids : List TypeId} {Vs : List Value} {ds : List (DataW H)} {ps : List MemPlace}, (∀ t ∈ tids, P.readableRec t = true ∧ t < P.types.size) →
    DataW.TrodAll enc P W 0 (fun _ => true) true tids Vs ds ps → (∀ p ∈ ps, p.block < W.heap.size) → DataW.TrodAll enc P W' 0 (fun b => decide (b < W.heap.size)) true tids Vs ds ps
  | [], [], [], _, _, h, _ => h
  | t :: ts, v :: vs, d :: ds, _, hr, ⟨p, q, h1, h2, e⟩, hp =>
    ⟨p, q, Below.trod hl (hr t (by simp)).1 (hr t (by simp)).2 h1 hb (fun x hx => hp x (by rw [e]; exact List.mem_append_left _ hx)), trodAll_below hl hb (fun t ht => hr t (by simp [ht])) h2 (fun x hx => hp x (by rw [e]; exact List.mem_append_right _ hx)), e⟩

/-- A law's function answers true. -/
def AllT (N : Nat) : (τs : List Ty) → ArgF τs (Option (Outs [.bool])) → Nat → Prop
  | [], f, b => b ≤ N → f = some true
  | τ :: τs, f, b => ∀ x : τ.T, WfT τ x → AllT N τs (f x) (b + bulkT τ x)

theorem law_of_all {N : Nat} : ∀ {τs : List Ty} {f : ArgF τs (Option (Outs [.bool]))} {b : Nat}, AllT N τs f b → ∀ l : List Dyn, l.map Dyn.τ = τs → (∀ y ∈ l, WfT y.τ y.v) → b + (l.map fun y => bulkT y.τ y.v).sum ≤ N → wrapD τs [.bool] f l = some [⟨.bool, true⟩]
  | [], f, b, h, [], _, _, hb => by
    have := h (by simpa using hb)
    subst this
    rfl
  | τ :: τs, f, b, h, x :: l, hm, hw, hb => by
    obtain ⟨t, x⟩ := x
    simp only [List.map_cons, List.cons.injEq] at hm
    obtain ⟨rfl, hm⟩ := hm
    have := law_of_all (h x (hw ⟨t, x⟩ (by simp))) l hm (fun y hy => hw y (by simp [hy])) (by simp only [List.map_cons, List.sum_cons] at hb; omega)
    rw [← this]
    simp only [wrapD, wrapK, applyD, castD, dif_pos, Option.bind_some]
  | [], _, _, _, _ :: _, hm, _, _ => by simp at hm
  | _ :: _, _, _, _, [], hm, _, _ => by simp at hm

/-- A LAW's CONTRACT. -/
theorem law_contract {fn : Func} {c : Fn} (hg : Good P c) {tids : List TypeId} {τs : List Ty} (htids : fn.params.toList = tids) (htys : tids.map (tyOf P deep) = τs.map some) (hps : c.s.ps = τs.map PK.v) (hrs : c.s.rs = [(.bool, [none])])
    (h14 : ∀ τ ∈ τs, τ.n ≤ 14) (hl : laidOutB P = true) (hread : ∀ t ∈ tids, P.readableRec t = true ∧ t < P.types.size) {tb : TypeId} (hresT : fn.resultTypes = #[tb]) (htb : P.underlying tb = some .bool)
    {s : ChangeSpec} (hvars : s.vars = []) (hspec : ∀ ds : List (DataW H), ds.length = tids.length → s.fn H ds = { results := [.lit (.bool true)], args := ds })
    {b : DataW H → Nat} {bs : List (DataW H) → Nat} (B : Bulk H b bs) {N : Nat}
    (law : ∀ l : List Dyn, l.map Dyn.τ = τs → (∀ y ∈ l, WfT y.τ y.v) → (l.map fun y => bulkT y.τ y.v).sum ≤ N → wrapD c.ts c.ρs c.f l = some [⟨.bool, true⟩])
    (W : World) (base : Nat) (args : Array Value) (ds gs : List (DataW H)) (before : List MemPlace)
    (hval : ∀ (j : Nat) t v, fn.params[j]? = some t → args[j]? = some v → Value.okWide P W .any base t v) (hW : DataW.Whole enc P fn.params.toList s.vars false W args.toList ds gs before) (hk : bs (ds ++ gs) ≤ N) :
    Calls P c.s.f args W fun e W' => ∃ v, e = .returned v ∧ s.post enc P fn false true false false W args v W' := by
  have hW' := hW
  obtain ⟨p, q, hA, hV, rfl, _, _⟩ := hW
  rw [hvars] at hV
  have hgs : gs = [] ∧ q = [] := by
    cases gs with
    | nil => exact ⟨rfl, hV⟩
    | cons _ _ => exact hV.elim
  obtain ⟨rfl, rfl⟩ := hgs
  rw [List.append_nil] at hk hW'
  have hA' := hA
  rw [htids] at hA
  obtain ⟨l, g1, g2, g3, g4⟩ := trodAll_args B htys hA fun j t v ht hv => .inr ⟨_, _, hval j t v (by rw [← htids] at ht; simpa using ht) (by simpa using hv)⟩
  have hlen : ds.length = tids.length := by
    have key : ∀ {ts : List TypeId} {vs : List Value} {ds : List (DataW H)} {ps : List MemPlace}, DataW.TrodAll enc P W 0 (fun _ => true) true ts vs ds ps → ds.length = ts.length := by
      intro ts
      induction ts with
      | nil => intro vs ds ps h; cases vs <;> cases ds <;> first | rfl | cases h
      | cons t ts ih =>
        intro vs ds ps h
        cases vs with
        | nil => cases h
        | cons v vs => cases ds with
          | nil => cases h
          | cons d ds => obtain ⟨_, _, _, h2, _⟩ := h; simp [ih h2]
    exact key hA
  have hrun := law_run hg (W := W) (l := l) (Vs := args.toList) (by rw [hps, ← g1]; simp) hrs (fun y hy => h14 y.τ (by rw [← g1]; exact List.mem_map.2 ⟨y, hy, rfl⟩)) g2 (law l g1 g3 (by omega))
  rw [Array.toArray_toList] at hrun
  refine hrun.mono fun e W' ⟨he, hb⟩ => ?_
  subst he
  have hsp := hspec ds hlen
  refine ⟨_, rfl, ds, [], p, [], p, [], hW', ?_, ?_, ?_, hb.frame _, fun h => by cases h⟩
  · rw [List.append_nil, hsp, hresT]
    exact trodAll_cons_mk (p := []) ⟨1, by simp [DataW.trod, Value.cells, htb]⟩ rfl
  · rw [List.append_nil, hsp, htids]
    exact trodAll_below hl hb hread hA fun x hx => hW'.lt x hx
  · rw [List.append_nil, hsp, hvars]; rfl

end
end Go.Lf

/- Loops over lists; small data. -/
namespace Go.Lf

theorem wrap64' (x : Int) : IntKind.wrap .i64 x = (x + 9223372036854775808) % 18446744073709551616 - 9223372036854775808 := by
  simp only [IntKind.wrap, IntKind.bits, IntKind.signed]; simp; split <;> omega
theorem wr {x : Int} (h : -9223372036854775808 ≤ x) (h' : x < 9223372036854775808) : IntKind.wrap .i64 x = x := by
  rw [wrap64']; omega
theorem at_mid {α : Type} (pre post : List α) (a : α) : at? (pre ++ a :: post) (pre.length : Int) = some a := by
  simp [at?]
theorem at_nat {α : Type} (l : List α) (n : Nat) : at? l (n : Int) = l[n]? := by
  simp [at?]
theorem at_neg {α : Type} (l : List α) {n : Int} (h : n < 0) : at? l n = none := by
  simp [at?]; omega
theorem mkOk_of {n : Nat} (h : n < 68719476736) : mkOk (n : Int) = true := by
  rw [mkOk_eq, decide_eq_true_eq]; unfold room; omega
theorem fits_of {n : Nat} (h : n < 68719476736) : fits n = true := by
  rw [fits_eq, decide_eq_true_eq]; unfold room; omega
/-- A loop over a list. -/
theorem scan {α σ R : Type} {xs : List α} {L : Int → σ → Option R} {T : List α → σ → Option R} (hb : xs.length < 4611686018427387904)
    (hnil : ∀ s, L (xs.length : Int) s = T [] s)
    (hcons : ∀ (pre : List α) (a : α) (post : List α) (s : σ), xs = pre ++ a :: post → at? xs (pre.length : Int) = some a → decide ((pre.length : Int) < (xs.length : Int)) = true → IntKind.wrap .i64 ((pre.length : Int) + 1) = ((pre.length : Int) + 1) →
      (∀ s, L ((pre.length : Int) + 1) s = T post s) → L (pre.length : Int) s = T (a :: post) s) : ∀ s, L 0 s = T xs s := by
  have key : ∀ (post pre : List α), xs = pre ++ post → ∀ s, L (pre.length : Int) s = T post s := by
    intro post
    induction post with
    | nil => intro pre h s; rw [← hnil s, h, List.append_nil]
    | cons a post ih =>
      intro pre h s
      have hlen : pre.length < xs.length := by rw [h]; simp
      refine hcons pre a post s h (by rw [h]; exact at_mid pre post a) (by simp; omega) (wr (by omega) (by omega)) fun s' => ?_
      have := ih (pre ++ [a]) (by rw [h]; simp) s'
      simpa using this
  exact fun s => key xs [] rfl s
/-- Lists that are read and put back. -/
theorem scan_copy {α β : Type} {xs : List α} {g : α → β} {z : β} {L : Int → List β → Option (List β)} (hb : xs.length < 4611686018427387904)
    (hnil : ∀ s, L (xs.length : Int) s = some s)
    (hcons : ∀ (i : Nat) (a : α) (s : List β), at? xs (i : Int) = some a → decide ((i : Int) < (xs.length : Int)) = true → IntKind.wrap .i64 ((i : Int) + 1) = ((i : Int) + 1) → s.length = xs.length → (∃ b, at? s (i : Int) = some b) →
      L (i : Int) s = L ((i : Int) + 1) (s.set i (g a))) : L 0 (List.replicate xs.length z) = some (xs.map g) := by
  have key : ∀ (post pre : List α) (r : List β), xs = pre ++ post → r.length = post.length → L (pre.length : Int) (pre.map g ++ r) = some (xs.map g) := by
    intro post
    induction post with
    | nil =>
      intro pre r h hr
      have : r = [] := by cases r <;> simp_all
      subst this
      have := hnil (pre.map g ++ [])
      rw [h] at this ⊢
      simpa using this
    | cons a post ih =>
      intro pre r h hr
      have hlen : pre.length < xs.length := by rw [h]; simp
      cases r with
      | nil => simp at hr
      | cons b r =>
        rw [hcons pre.length a (pre.map g ++ b :: r) (by rw [h]; exact at_mid pre post a) (by simp; omega) (wr (by omega) (by omega)) (by rw [h]; simp_all)
          ⟨b, by have := at_mid (pre.map g) r b; simpa using this⟩]
        have := ih (pre ++ [a]) r (by rw [h]; simp) (by simpa using hr)
        have e : (pre.map g ++ b :: r).set pre.length (g a) = (pre ++ [a]).map g ++ r := by
          rw [List.set_append_right _ _ (by simp)]
          simp
        rw [e]
        simpa using this
  have := key xs [] (List.replicate xs.length z) rfl (by simp)
  simpa using this
/-- Small data: no slice is longer than 1048576. -/
def SmallT : (τ : Ty) → τ.T → Prop
  | .int _, _ => True
  | .bool, _ => True
  | .str, s => (s : ByteArray).size ≤ 1048576
  | .pair a b, x => SmallT a x.1 ∧ SmallT b x.2
  | .slice e, l => (l : List e.T).length ≤ 1048576 ∧ ∀ x ∈ (l : List e.T), SmallT e x
theorem bulk_pos : ∀ (τ : Ty) (x : τ.T), 1 ≤ bulkT τ x
  | .int _, _ => Nat.le_refl _
  | .bool, _ => Nat.le_refl _
  | .str, s => by simp [bulkT]
  | .pair a b, x => by have := bulk_pos a x.1; simp only [bulkT]; omega
  | .slice e, l => by simp [bulkT]
theorem sum_len {α : Type} (f : α → Nat) (h : ∀ x, 1 ≤ f x) : ∀ l : List α, l.length ≤ (l.map f).sum
  | [] => Nat.le_refl _
  | x :: l => by have := sum_len f h l; have := h x; simp only [List.length_cons, List.map_cons, List.sum_cons]; omega
theorem le_sum {α : Type} (f : α → Nat) : ∀ (l : List α) (x : α), x ∈ l → f x ≤ (l.map f).sum
  | y :: l, x, h => by
    simp only [List.map_cons, List.sum_cons]
    rcases List.mem_cons.1 h with rfl | h
    · omega
    · have := le_sum f l x h; omega
theorem small_of : ∀ (τ : Ty) (x : τ.T), bulkT τ x ≤ 1048576 → SmallT τ x
  | .int _, _, _ => trivial
  | .bool, _, _ => trivial
  | .str, s, h => by simp only [bulkT] at h; simp only [SmallT]; omega
  | .pair a b, x, h => by
    simp only [bulkT] at h
    exact ⟨small_of a x.1 (by omega), small_of b x.2 (by omega)⟩
  | .slice e, l, h => by
    simp only [bulkT] at h
    have h1 := sum_len (bulkT e) (bulk_pos e) l
    exact ⟨Nat.le_trans h1 (by omega), fun x hx => small_of e x (by have := le_sum (bulkT e) l x hx; omega)⟩
theorem sum_mono {α : Type} {f g : α → Nat} : ∀ {l : List α}, (∀ a ∈ l, f a ≤ g a) → (l.map f).sum ≤ (l.map g).sum
  | [], _ => Nat.le_refl _
  | a :: l, h => by
    have := sum_mono (f := f) (g := g) (l := l) fun a ha => h a (by simp [ha])
    have := h a (by simp)
    simp only [List.map_cons, List.sum_cons]; omega
theorem bulk_len {e : Ty} (l : List e.T) : l.length + 1 ≤ bulkT (.slice e) l := by
  have := sum_len (bulkT e) (bulk_pos e) l
  simp only [bulkT]; exact Nat.succ_le_succ this
theorem bulk_sum {e : Ty} (l : List e.T) : bulkT (.slice e) l = (l.map (bulkT e)).sum + 1 := rfl
theorem bulk_pair {a b : Ty} (x : a.T × b.T) : bulkT (.pair a b) x = bulkT a x.1 + bulkT b x.2 := rfl
theorem any_loop {α : Type} {xs : List α} {L : Int → Option Bool} {p : α → Bool} (hb : xs.length < 4611686018427387904)
    (hnil : L (xs.length : Int) = some false)
    (hcons : ∀ (i : Nat) (a : α), a ∈ xs → at? xs (i : Int) = some a → decide ((i : Int) < (xs.length : Int)) = true → IntKind.wrap .i64 ((i : Int) + 1) = ((i : Int) + 1) → L (i : Int) = bif p a then some true else L ((i : Int) + 1)) : L 0 = some (xs.any p) := by
  refine scan (L := fun i (_ : Unit) => L i) (T := fun l _ => some (l.any p)) hb (fun _ => hnil) (fun pre a post s hx h1 h2 h3 ih => ?_) ()
  have h4 := hcons pre.length a (by rw [hx]; simp) h1 h2 h3
  have h5 := ih ()
  simp only [List.any_cons] at h5 ⊢
  rw [h4, h5]
  cases p a <;> rfl
theorem all_loop {α : Type} {xs : List α} {L : Int → Option Bool} {p : α → Bool} (hb : xs.length < 4611686018427387904)
    (hnil : L (xs.length : Int) = some true)
    (hcons : ∀ (i : Nat) (a : α), a ∈ xs → at? xs (i : Int) = some a → decide ((i : Int) < (xs.length : Int)) = true → IntKind.wrap .i64 ((i : Int) + 1) = ((i : Int) + 1) → L (i : Int) = bif p a then L ((i : Int) + 1) else some false) : L 0 = some (xs.all p) := by
  refine scan (L := fun i (_ : Unit) => L i) (T := fun l _ => some (l.all p)) hb (fun _ => hnil) (fun pre a post s hx h1 h2 h3 ih => ?_) ()
  have h4 := hcons pre.length a (by rw [hx]; simp) h1 h2 h3
  have h5 := ih ()
  simp only [List.all_cons] at h5 ⊢
  rw [h4, h5]
  cases p a <;> rfl
theorem fold_loop {α σ R : Type} {xs : List α} {L : Int → σ → Option R} {g : σ → α → σ} {f : σ → Option R} (hb : xs.length < 4611686018427387904)
    (hnil : ∀ s, L (xs.length : Int) s = f s)
    (hcons : ∀ (i : Nat) (a : α) (s : σ), a ∈ xs → at? xs (i : Int) = some a → decide ((i : Int) < (xs.length : Int)) = true → IntKind.wrap .i64 ((i : Int) + 1) = ((i : Int) + 1) → L (i : Int) s = L ((i : Int) + 1) (g s a)) (s : σ) : L 0 s = f (xs.foldl g s) := by
  refine scan (L := L) (T := fun l s => f (l.foldl g s)) hb hnil (fun pre a post s hx h1 h2 h3 ih => ?_) s
  rw [hcons pre.length a s (by rw [hx]; simp) h1 h2 h3, ih]
  rfl
/-- A loop that counts. -/
theorem count_loop {α R : Type} {xs : List α} {L : Int → Int → Option R} {p : α → Bool} {f : Int → Option R} (hb : xs.length < 4611686018427387904)
    (hnil : ∀ s, L (xs.length : Int) s = f s)
    (hcons : ∀ (i : Nat) (a : α) (s : Int), a ∈ xs → at? xs (i : Int) = some a → decide ((i : Int) < (xs.length : Int)) = true → IntKind.wrap .i64 ((i : Int) + 1) = ((i : Int) + 1) → 0 ≤ s → s < 4611686018427387904 →
      L (i : Int) s = L ((i : Int) + 1) (bif p a then s + 1 else s)) : L 0 0 = f (xs.countP p : Int) := by
  have key : ∀ (post pre : List α), xs = pre ++ post → L (pre.length : Int) (pre.countP p : Int) = f (xs.countP p : Int) := by
    intro post
    induction post with
    | nil => intro pre h; rw [← hnil, h, List.append_nil]
    | cons a post ih =>
      intro pre h
      have hlen : pre.length < xs.length := by rw [h]; simp
      have hc := List.countP_le_length (p := p) (l := pre)
      rw [hcons pre.length a _ (by rw [h]; simp) (by rw [h]; exact at_mid pre post a) (by simp; omega) (wr (by omega) (by omega)) (by omega) (by omega)]
      have := ih (pre ++ [a]) (by rw [h]; simp)
      simp only [List.length_append, List.length_cons, List.length_nil, List.countP_append, List.countP_cons, List.countP_nil] at this
      rw [← this]
      cases p a <;> simp
  exact key xs [] rfl
/-- A loop that adds. -/
theorem sum_loop {α R : Type} {xs : List α} {L : Int → Int → Option R} {g : α → Nat} {f : Int → Option R} (hb : xs.length < 4611686018427387904)
    (hnil : ∀ s, L (xs.length : Int) s = f s)
    (hcons : ∀ (i : Nat) (a : α) (s : Int), a ∈ xs → at? xs (i : Int) = some a → decide ((i : Int) < (xs.length : Int)) = true → IntKind.wrap .i64 ((i : Int) + 1) = ((i : Int) + 1) → 0 ≤ s → s + g a < 4611686018427387904 →
      L (i : Int) s = L ((i : Int) + 1) (s + g a)) (s : Int) (h0 : 0 ≤ s) (h1 : s + ((xs.map g).sum : Nat) < 4611686018427387904) : L 0 s = f (s + ((xs.map g).sum : Nat)) := by
  have key : ∀ (post pre : List α) (s : Int), xs = pre ++ post → 0 ≤ s → s + ((post.map g).sum : Nat) < 4611686018427387904 → L (pre.length : Int) s = f (s + ((post.map g).sum : Nat)) := by
    intro post
    induction post with
    | nil => intro pre s h h0 h1; rw [h, List.append_nil] at hnil; simp [hnil]
    | cons a post ih =>
      intro pre s h h0 h1
      have hlen : pre.length < xs.length := by rw [h]; simp
      simp only [List.map_cons, List.sum_cons, Int.natCast_add] at h1 ⊢
      rw [hcons pre.length a _ (by rw [h]; simp) (by rw [h]; exact at_mid pre post a) (by simp; omega) (wr (by omega) (by omega)) h0 (by omega)]
      have := ih (pre ++ [a]) (s + g a) (by rw [h]; simp) (by omega) (by omega)
      simp only [List.length_append, List.length_cons, List.length_nil] at this
      rw [show s + ((g a : Int) + ((post.map g).sum : Nat)) = s + g a + ((post.map g).sum : Nat) by omega, ← this]
      simp
  exact key xs [] s rfl h0 h1
theorem sum_count {α : Type} (p : α → Bool) : ∀ l : List α, (l.map fun a => bif p a then 1 else 0).sum = l.countP p
  | [] => rfl
  | a :: l => by
    rw [List.map_cons, List.sum_cons, sum_count p l, List.countP_cons]
    cases p a <;> simp <;> omega
theorem beq_dec {α : Type} [BEq α] [LawfulBEq α] [DecidableEq α] (a b : α) : (a == b) = decide (a = b) := by
  rw [Bool.eq_iff_iff]; simp
theorem bne_dec {α : Type} [BEq α] [LawfulBEq α] [DecidableEq α] (a b : α) : (a != b) = !decide (a = b) := by
  rw [bne, beq_dec]
theorem bne_len {α β : Type} (x : List α) (y : List β) : ((x.length : Int) != (y.length : Int)) = !decide (x.length = y.length) := by
  rw [bne_dec]; congr 1; rw [Bool.eq_iff_iff]; simp only [decide_eq_true_eq]; omega
theorem ne_of_len {α : Type} [DecidableEq α] {x y : List α} (h : ¬ x.length = y.length) : decide (x = y) = false := by
  rw [decide_eq_false_iff_not]; intro e; rw [e] at h; exact h rfl
theorem pair_dec {α β : Type} [DecidableEq α] [DecidableEq β] (a b : α × β) : decide (a = b) = (decide (a.1 = b.1) && decide (a.2 = b.2)) := by
  rw [Bool.eq_iff_iff]; simp [Prod.ext_iff]
/-- Two lists, place by place. -/
theorem eq_loop {α : Type} [DecidableEq α] {xs ys : List α} {L : Int → Option Bool} (hb : xs.length < 4611686018427387904) (hlen : xs.length = ys.length)
    (hnil : L (xs.length : Int) = some true)
    (hcons : ∀ (i : Nat) (a b : α), a ∈ xs → b ∈ ys → at? xs (i : Int) = some a → at? ys (i : Int) = some b → decide ((i : Int) < (xs.length : Int)) = true → IntKind.wrap .i64 ((i : Int) + 1) = ((i : Int) + 1) →
      L (i : Int) = bif decide (a = b) then L ((i : Int) + 1) else some false) : L 0 = some (decide (xs = ys)) := by
  have key : ∀ (post pre post' pre' : List α), xs = pre ++ post → ys = pre' ++ post' → pre.length = pre'.length → L (pre.length : Int) = some (decide (post = post')) := by
    intro post
    induction post with
    | nil =>
      intro pre post' pre' h h' hl
      have : post' = [] := by
        cases post' with
        | nil => rfl
        | cons b t => rw [h, h'] at hlen; simp at hlen; omega
      subst this
      rw [h, List.append_nil] at hnil
      rw [hnil]; simp
    | cons a post ih =>
      intro pre post' pre' h h' hl
      cases post' with
      | nil => rw [h, h'] at hlen; simp at hlen; omega
      | cons b post' =>
        have hlen' : pre.length < xs.length := by rw [h]; simp
        have h2 : at? ys (pre.length : Int) = some b := by rw [hl, h']; exact at_mid pre' post' b
        rw [hcons pre.length a b (by rw [h]; simp) (by rw [h']; simp) (by rw [h]; exact at_mid pre post a) h2 (by simp; omega) (wr (by omega) (by omega))]
        have := ih (pre ++ [a]) post' (pre' ++ [b]) (by rw [h]; simp) (by rw [h']; simp) (by simp [hl])
        simp only [List.length_append, List.length_cons, List.length_nil] at this
        by_cases hab : a = b
        · simp only [hab, decide_true, cond_true, List.cons.injEq, true_and]
          simpa using this
        · simp [hab]
  exact key xs [] ys [] rfl rfl rfl
/-- A search for a place. -/
theorem find_loop {α R : Type} {xs : List α} {L : Int → Option R} {p : α → Bool} {r : α → R} {d : R} (hb : xs.length < 4611686018427387904)
    (hnil : L (xs.length : Int) = some d)
    (hcons : ∀ (i : Nat) (a : α), a ∈ xs → at? xs (i : Int) = some a → decide ((i : Int) < (xs.length : Int)) = true → IntKind.wrap .i64 ((i : Int) + 1) = ((i : Int) + 1) → L (i : Int) = bif p a then some (r a) else L ((i : Int) + 1)) :
    L 0 = some (((xs.find? p).map r).getD d) := by
  refine scan (L := fun i (_ : Unit) => L i) (T := fun l _ => some (((l.find? p).map r).getD d)) hb (fun _ => hnil) (fun pre a post s hx h1 h2 h3 ih => ?_) ()
  have h4 := hcons pre.length a (by rw [hx]; simp) h1 h2 h3
  have h5 := ih ()
  simp only [List.find?_cons] at h5 ⊢
  rw [h4, h5]
  cases p a <;> rfl
/-- A place. -/
theorem index_loop {α : Type} {xs : List α} {L : Int → Option Int} {p : α → Bool} (hb : xs.length < 4611686018427387904)
    (hnil : L (xs.length : Int) = some (-1))
    (hcons : ∀ (i : Nat) (a : α), a ∈ xs → at? xs (i : Int) = some a → decide ((i : Int) < (xs.length : Int)) = true → IntKind.wrap .i64 ((i : Int) + 1) = ((i : Int) + 1) → L (i : Int) = bif p a then some (i : Int) else L ((i : Int) + 1)) :
    L 0 = some (match xs.findIdx? p with | some i => (i : Int) | none => -1) := by
  have key : ∀ (post pre : List α), xs = pre ++ post → L (pre.length : Int) = some (match post.findIdx? p with | some i => ((pre.length + i : Nat) : Int) | none => -1) := by
    intro post
    induction post with
    | nil => intro pre h; rw [h, List.append_nil] at hnil; simpa using hnil
    | cons a post ih =>
      intro pre h
      have hlen : pre.length < xs.length := by rw [h]; simp
      rw [hcons pre.length a (by rw [h]; simp) (by rw [h]; exact at_mid pre post a) (by simp; omega) (wr (by omega) (by omega))]
      have := ih (pre ++ [a]) (by rw [h]; simp)
      simp only [List.length_append, List.length_cons, List.length_nil] at this
      cases hp : p a with
      | true => simp [List.findIdx?_cons, hp]
      | false =>
        simp only [cond_false, List.findIdx?_cons, hp]
        have e : ((pre.length : Int) + 1) = ((pre.length + (0 + 1) : Nat) : Int) := by omega
        rw [e, this]
        cases post.findIdx? p with
        | none => rfl
        | some v =>
          simp only [Option.map_some]
          have e2 : pre.length + (0 + 1) + v = pre.length + (v + 1) := by omega
          rw [e2]
          simp only [Bool.false_eq_true, if_false]
  have := key xs [] rfl
  simp only [List.length_nil, Nat.zero_add] at this
  exact this

theorem at_mem {α : Type} {l : List α} {i : Int} {a : α} (h : at? l i = some a) : a ∈ l := by
  unfold at? at h
  split at h
  · exact List.mem_of_getElem? h
  · cases h
theorem small_len {e : Ty} {l : List e.T} (h : SmallT (.slice e) l) : l.length ≤ 1048576 := h.1
theorem small_mem {e : Ty} {l : List e.T} (h : SmallT (.slice e) l) {a : e.T} (ha : a ∈ l) : SmallT e a := h.2 a ha
/-- All places of a list. -/
def allIx {α : Type} (p : Nat → α → Bool) (l : List α) : Bool := l.zipIdx.all fun q => p q.2 q.1
theorem allIx_and {α : Type} {p q : Nat → α → Bool} {l : List α} : allIx (fun i a => p i a && q i a) l = (allIx p l && allIx q l) := by
  unfold allIx
  induction l.zipIdx with
  | nil => rfl
  | cons a l ih => simp only [List.all_cons, ih]; cases p a.2 a.1 <;> cases q a.2 a.1 <;> simp
theorem allIx_all {α : Type} {p : α → Bool} {l : List α} : allIx (fun _ a => p a) l = l.all p := by
  unfold allIx
  generalize 0 = n
  induction l generalizing n with
  | nil => rfl
  | cons a l ih => simp only [List.zipIdx_cons, List.all_cons, ih]
theorem allIx_loop {α : Type} {xs : List α} {L : Int → Option Bool} {p : Nat → α → Bool} {d : Bool} (hb : xs.length < 4611686018427387904)
    (hnil : L (xs.length : Int) = some d)
    (hcons : ∀ (i : Nat) (a : α), a ∈ xs → at? xs (i : Int) = some a → decide ((i : Int) < (xs.length : Int)) = true → IntKind.wrap .i64 ((i : Int) + 1) = ((i : Int) + 1) → L (i : Int) = bif p i a then L ((i : Int) + 1) else some false) : L 0 = some (allIx p xs && d) := by
  have key : ∀ (post pre : List α), xs = pre ++ post → L (pre.length : Int) = some (((post.zipIdx pre.length).all fun q => p q.2 q.1) && d) := by
    intro post
    induction post with
    | nil => intro pre h; rw [h, List.append_nil] at hnil; simpa using hnil
    | cons a post ih =>
      intro pre h
      have hlen : pre.length < xs.length := by rw [h]; simp
      rw [hcons pre.length a (by rw [h]; simp) (by rw [h]; exact at_mid pre post a) (by simp; omega) (wr (by omega) (by omega))]
      have := ih (pre ++ [a]) (by rw [h]; simp)
      simp only [List.length_append, List.length_cons, List.length_nil] at this
      simp only [List.zipIdx_cons, List.all_cons]
      have e : ((pre.length : Int) + 1) = ((pre.length + (0 + 1) : Nat) : Int) := by omega
      rw [e, this]
      cases p pre.length a <;> simp
  exact key xs [] rfl
/-- What places of a list give. -/
def mapIx {α β : Type} (g : Nat → α → Option β) (l : List α) : List β := l.zipIdx.filterMap fun q => g q.2 q.1
theorem mapIx_len {α β : Type} (g : Nat → α → Option β) (l : List α) : (mapIx g l).length ≤ l.length := by
  unfold mapIx
  have := List.length_filterMap_le (fun q : α × Nat => g q.2 q.1) l.zipIdx
  simpa using this
theorem mapIx_congr {α β : Type} {g g' : Nat → α → Option β} {l : List α} (h : ∀ i a, l[i]? = some a → g i a = g' i a) : mapIx g l = mapIx g' l := by
  unfold mapIx
  have key : ∀ (l : List α) (n : Nat), (∀ i a, l[i]? = some a → g (n + i) a = g' (n + i) a) → (l.zipIdx n).filterMap (fun q => g q.2 q.1) = (l.zipIdx n).filterMap (fun q => g' q.2 q.1) := by
    intro l
    induction l with
    | nil => intro n _; rfl
    | cons a l ih =>
      intro n h
      have h0 := h 0 a rfl
      have h1 := ih (n + 1) fun i b hb => by have := h (i + 1) b (by simpa using hb); rwa [show n + 1 + i = n + (i + 1) by omega]
      simp only [Nat.add_zero] at h0
      simp only [List.zipIdx_cons, List.filterMap_cons, h0, h1]
  exact key l 0 (by simpa using h)
theorem allIx_congr {α : Type} {p q : Nat → α → Bool} {l : List α} (h : ∀ i a, l[i]? = some a → p i a = q i a) : allIx p l = allIx q l := by
  unfold allIx
  have key : ∀ (l : List α) (n : Nat), (∀ i a, l[i]? = some a → p (n + i) a = q (n + i) a) → (l.zipIdx n).all (fun x => p x.2 x.1) = (l.zipIdx n).all (fun x => q x.2 x.1) := by
    intro l
    induction l with
    | nil => intro n _; rfl
    | cons a l ih =>
      intro n h
      have h0 := h 0 a rfl
      have h1 := ih (n + 1) fun i b hb => by have := h (i + 1) b (by simpa using hb); rwa [show n + 1 + i = n + (i + 1) by omega]
      simp only [Nat.add_zero] at h0
      simp only [List.zipIdx_cons, List.all_cons, h0, h1]
  exact key l 0 (by simpa using h)
theorem mapIx_filterMap {α β : Type} {g : α → Option β} {l : List α} : mapIx (fun _ a => g a) l = l.filterMap g := by
  unfold mapIx
  generalize 0 = n
  induction l generalizing n with
  | nil => rfl
  | cons a l ih => simp only [List.zipIdx_cons, List.filterMap_cons, ih]
/-- A loop that collects. -/
theorem collect_loop {α β R : Type} {xs : List α} {L : Int → List β → Option R} {g : Nat → α → Option β} {f : List β → Option R} (hb : xs.length < 4611686018427387904)
    (hnil : ∀ s, L (xs.length : Int) s = f s)
    (hcons : ∀ (i : Nat) (a : α) (s : List β), a ∈ xs → at? xs (i : Int) = some a → decide ((i : Int) < (xs.length : Int)) = true → IntKind.wrap .i64 ((i : Int) + 1) = ((i : Int) + 1) → fits (s.length + 1) = true →
      L (i : Int) s = L ((i : Int) + 1) (s ++ (g i a).toList)) (s : List β) (h : s.length + xs.length < 68719476736) : L 0 s = f (s ++ mapIx g xs) := by
  have key : ∀ (post pre : List α) (s : List β), xs = pre ++ post → s.length + post.length < 68719476736 → L (pre.length : Int) s = f (s ++ (post.zipIdx pre.length).filterMap fun q => g q.2 q.1) := by
    intro post
    induction post with
    | nil => intro pre s h _; rw [h, List.append_nil] at hnil; simp [hnil]
    | cons a post ih =>
      intro pre s h hs
      have hlen : pre.length < xs.length := by rw [h]; simp
      simp only [List.length_cons] at hs
      rw [hcons pre.length a s (by rw [h]; simp) (by rw [h]; exact at_mid pre post a) (by simp; omega) (wr (by omega) (by omega)) (fits_of (by omega))]
      have hg : (g pre.length a).toList.length ≤ 1 := by cases g pre.length a <;> simp
      have := ih (pre ++ [a]) (s ++ (g pre.length a).toList) (by rw [h]; simp) (by simp only [List.length_append]; omega)
      simp only [List.length_append, List.length_cons, List.length_nil] at this
      have e : ((pre.length : Int) + 1) = ((pre.length + (0 + 1) : Nat) : Int) := by omega
      rw [e, this, List.zipIdx_cons, List.filterMap_cons]
      cases g pre.length a <;> simp
  exact key xs [] s rfl h
/-- A loop that stops when a flag falls. -/
theorem flag_loop {α R : Type} {xs : List α} {L : Int → Bool → Option R} {p : Nat → α → Bool} {T F : Option R} (hb : xs.length < 4611686018427387904)
    (hnil : ∀ b, L (xs.length : Int) b = bif b then T else F)
    (hfalse : ∀ i : Nat, i < xs.length → L (i : Int) false = F)
    (hcons : ∀ (i : Nat) (a : α), a ∈ xs → at? xs (i : Int) = some a → decide ((i : Int) < (xs.length : Int)) = true → IntKind.wrap .i64 ((i : Int) + 1) = ((i : Int) + 1) → L (i : Int) true = L ((i : Int) + 1) (p i a)) (b : Bool) : L 0 b = bif (b && allIx p xs) then T else F := by
  have key : ∀ (post pre : List α) (b : Bool), xs = pre ++ post → L (pre.length : Int) b = bif (b && (post.zipIdx pre.length).all fun q => p q.2 q.1) then T else F := by
    intro post
    induction post with
    | nil => intro pre b h; rw [h, List.append_nil] at hnil; simp [hnil]
    | cons a post ih =>
      intro pre b h
      have hlen : pre.length < xs.length := by rw [h]; simp
      cases b with
      | false => rw [hfalse pre.length hlen]; rfl
      | true =>
        rw [hcons pre.length a (by rw [h]; simp) (by rw [h]; exact at_mid pre post a) (by simp; omega) (wr (by omega) (by omega))]
        have := ih (pre ++ [a]) (p pre.length a) (by rw [h]; simp)
        simp only [List.length_append, List.length_cons, List.length_nil] at this
        have e : ((pre.length : Int) + 1) = ((pre.length + (0 + 1) : Nat) : Int) := by omega
        rw [e, this, List.zipIdx_cons, List.all_cons, Bool.true_and]
  exact key xs [] b rfl
theorem all_true {α : Type} : ∀ l : List α, (l.all fun _ => true) = true
  | [] => rfl
  | _ :: l => by rw [List.all_cons, all_true l]; rfl
/-- A size that is counted down. -/
theorem sz_loop {α : Type} {xs : List α} {L : Int → Int → Option Int} (hb : xs.length < 4611686018427387904)
    (hnil : ∀ s, L (xs.length : Int) s = some s)
    (hcons : ∀ (i : Nat) (a : α) (s : Int), a ∈ xs → at? xs (i : Int) = some a → decide ((i : Int) < (xs.length : Int)) = true → IntKind.wrap .i64 ((i : Int) + 1) = ((i : Int) + 1) → 0 ≤ s → s ≤ 1048576 →
      ∃ r, -1 ≤ r ∧ r ≤ s ∧ L (i : Int) s = bif decide (r < 0) then some (-1) else L ((i : Int) + 1) r) : ∀ s, 0 ≤ s → s ≤ 1048576 → ∃ r, L 0 s = some r ∧ -1 ≤ r ∧ r ≤ s := by
  have key : ∀ (post pre : List α), xs = pre ++ post → ∀ s, 0 ≤ s → s ≤ 1048576 → ∃ r, L (pre.length : Int) s = some r ∧ -1 ≤ r ∧ r ≤ s := by
    intro post
    induction post with
    | nil => intro pre h s h0 h1; rw [h, List.append_nil] at hnil; exact ⟨s, hnil s, by omega, by omega⟩
    | cons a post ih =>
      intro pre h s h0 h1
      have hlen : pre.length < xs.length := by rw [h]; simp
      obtain ⟨r, g0, g1, g2⟩ := hcons pre.length a s (by rw [h]; simp) (by rw [h]; exact at_mid pre post a) (by simp; omega) (wr (by omega) (by omega)) h0 h1
      by_cases hr : r < 0
      · exact ⟨-1, by rw [g2]; simp [hr], by omega, by omega⟩
      · obtain ⟨r', e1, e2, e3⟩ := ih (pre ++ [a]) (by rw [h]; simp) r (by omega) (by omega)
        refine ⟨r', ?_, e2, by omega⟩
        rw [g2]
        simp only [hr, decide_false, cond_false]
        simpa using e1
  exact key xs [] rfl

end Go.Lf

/- Marks: numbers that are written into what a law handed over, and looked at. -/
namespace Go.Lf

def Runs {α : Type} (R : α → Int → Int → Prop) : List α → Int → Int → Prop
  | [], n, m => m = n
  | a :: l, n, m => ∃ k, R a n k ∧ Runs R l k m

theorem mark_loop {α : Type} {b : α → Nat} {R : α → Int → Int → Prop} {L : Int → List α → Int → Option (Int × List α)} {xs : List α} (hb : xs.length < 4611686018427387904)
    (hnil : ∀ v n, v.length = xs.length → L (xs.length : Int) v n = some (n, v))
    (hcons : ∀ (i : Nat) (v : List α) (n : Int) (a : α), v.length = xs.length → at? v (i : Int) = some a → decide ((i : Int) < (v.length : Int)) = true → (∀ y, at? (v.set i y) (i : Int) = some y) → IntKind.wrap .i64 ((i : Int) + 1) = ((i : Int) + 1) → 0 ≤ n → n + b a < 4611686018427387904 →
      ∃ a' n', n ≤ n' ∧ n' ≤ n + b a ∧ R a' n n' ∧ L (i : Int) v n = L ((i : Int) + 1) (v.set i a') n')
    (n : Int) (h0 : 0 ≤ n) (h1 : n + ((xs.map b).sum : Nat) < 4611686018427387904) : ∃ n' ys, L 0 xs n = some (n', ys) ∧ n ≤ n' ∧ n' ≤ n + ((xs.map b).sum : Nat) ∧ Runs R ys n n' ∧ ys.length = xs.length := by
  have key : ∀ (post pre : List α) (n : Int), (pre ++ post).length = xs.length → 0 ≤ n → n + ((post.map b).sum : Nat) < 4611686018427387904 →
      ∃ n' ys, L (pre.length : Int) (pre ++ post) n = some (n', pre ++ ys) ∧ n ≤ n' ∧ n' ≤ n + ((post.map b).sum : Nat) ∧ Runs R ys n n' ∧ ys.length = post.length := by
    intro post
    induction post with
    | nil =>
      intro pre n h h0 h1
      rw [List.append_nil] at h
      refine ⟨n, [], ?_, by omega, by simp, rfl, rfl⟩
      rw [List.append_nil, h]
      exact hnil pre n h
    | cons a post ih =>
      intro pre n h h0 h1
      simp only [List.map_cons, List.sum_cons, Int.natCast_add] at h1
      have hlen : pre.length < (pre ++ a :: post).length := by simp
      obtain ⟨a', n', g1, g2, g3, g4⟩ := hcons pre.length (pre ++ a :: post) n a h (at_mid pre post a) (by simp; omega) (fun y => by rw [List.set_append_right _ _ (by omega)]; simp only [Nat.sub_self, List.set_cons_zero]; exact at_mid pre post y) (wr (by omega) (by omega)) h0 (by omega)
      have e : (pre ++ a :: post).set pre.length a' = (pre ++ [a']) ++ post := by rw [List.set_append_right _ _ (by omega)]; simp
      rw [e] at g4
      obtain ⟨n2, ys, k1, k2, k3, k4, k5⟩ := ih (pre ++ [a']) n' (by rw [← h]; simp) (by omega) (by omega)
      refine ⟨n2, a' :: ys, ?_, by omega, ?_, ⟨n', g3, k4⟩, by simp [k5]⟩
      · rw [g4]
        simp only [List.length_append, List.length_cons, List.length_nil] at k1
        have e2 : ((pre.length : Int) + 1) = ((pre.length + (0 + 1) : Nat) : Int) := by omega
        rw [e2, k1]; simp
      · simp only [List.map_cons, List.sum_cons, Int.natCast_add]; omega
  obtain ⟨n', ys, k1, k2, k3, k4, k5⟩ := key xs [] n rfl h0 h1
  exact ⟨n', ys, by simpa using k1, k2, k3, k4, k5⟩
theorem held_loop {α : Type} {R : α → Int → Int → Prop} {L : Int → Int → Option Int} {ys : List α} (hb : ys.length < 4611686018427387904)
    (hnil : ∀ n, L (ys.length : Int) n = some n)
    (hcons : ∀ (i : Nat) (a : α) (n m : Int), at? ys (i : Int) = some a → decide ((i : Int) < (ys.length : Int)) = true → IntKind.wrap .i64 ((i : Int) + 1) = ((i : Int) + 1) → 0 ≤ n → R a n m → 0 ≤ m ∧ L (i : Int) n = L ((i : Int) + 1) m)
    {n m : Int} (h0 : 0 ≤ n) (h : Runs R ys n m) : L 0 n = some m := by
  have key : ∀ (post pre : List α) (n : Int), ys = pre ++ post → 0 ≤ n → Runs R post n m → L (pre.length : Int) n = some m := by
    intro post
    induction post with
    | nil => intro pre n h h0 hc; rw [h, List.append_nil] at hnil; cases hc; exact hnil _
    | cons a post ih =>
      intro pre n h h0 hc
      obtain ⟨k, hk, hc⟩ := hc
      have hlen : pre.length < ys.length := by rw [h]; simp
      obtain ⟨g0, g1⟩ := hcons pre.length a n k (by rw [h]; exact at_mid pre post a) (by simp; omega) (wr (by omega) (by omega)) h0 hk
      rw [g1]
      have := ih (pre ++ [a]) k (by rw [h]; simp) g0 hc
      simpa using this
  exact key ys [] n rfl h0 h
theorem chain_len {α : Type} {R : α → Int → Int → Prop} (hR : ∀ a n m, R a n m → n < m) : ∀ {ys : List α} {n m : Int}, Runs R ys n m → n + ys.length ≤ m
  | [], n, m, h => by cases h; simp
  | a :: l, n, m, h => by
    obtain ⟨k, h1, h2⟩ := h
    have := hR a n k h1
    have := chain_len hR h2
    simp only [List.length_cons]; omega
end Go.Lf

/- Functions of the library by hand: what comes in. -/
set_option linter.unusedSimpArgs false
namespace Go.Lf

section
variable {s : Sig} {F0 : Fr} {w : World} {l : List Dyn}

/-- A parameter of one cell at the start. -/
theorem entry_cell (h : Entry s F0 w l) {i : Nat} {p : PK} {st : ES} (hp : s.ps[i]? = some p) (hk : p.kind = .pl 1 false) (hst : (p.sts i)[0]? = some st) : F0.cell (lk i 0) (F0.val i) ∧ LeafOk F0 (lk i 0) st (F0.val i) := by
  have hG1 : F0.G (sk i) = ⟨0, [], .pl 1 false⟩ := by
    rw [h.G]
    unfold entryG sk
    have e1 : (16 * i + 15) / 16 = i := by omega
    have e2 : (16 * i + 15) % 16 = 15 := by omega
    rw [e1, hp]
    simp [e2, hk]
  have hG2 : (F0.G (lk i 0)).st = st := by
    rw [h.G]
    unfold entryG lk
    have e1 : (16 * i + 0) / 16 = i := by omega
    have e2 : (16 * i + 0) % 16 = 0 := by omega
    rw [e1, hp]
    simp only [e2]
    rw [hst]; rfl
  have hs := h.st.slots i
  unfold SlotOk at hs
  rw [hG1] at hs
  simp only [holds, List.all_nil, if_true, Claim] at hs
  obtain ⟨cs, hcs, hl⟩ := hs
  have hcs' := hcs
  unfold Fr.has at hcs'
  rw [hG1] at hcs'
  simp only [Has, mkVal] at hcs'
  obtain ⟨⟨h1, h2, _⟩, _⟩ := hcs'
  cases cs with
  | nil => simp at h2
  | cons c cs =>
    cases cs with
    | cons _ _ => simp at h2
    | nil =>
      have hv : F0.val i = c := by simpa using h1
      have := hl 0 c rfl
      rw [hG2] at this
      rw [hv]
      refine ⟨⟨[c], ?_, ?_⟩, this⟩
      · have e : lk i 0 / 16 = i := by unfold lk; omega
        rw [e]; exact hcs
      · have e : lk i 0 % 16 = 0 := by unfold lk; omega
        rw [e]; rfl

theorem entry_one {τ : Ty} (h : Entry s F0 w l) {p : PK} (hps : s.ps = [p]) (hty : p.tys = [τ]) (hτ : τ.isPair = false) : ∃ x : τ.T, l = [⟨τ, x⟩] ∧ F0.env (lk 0 0) = ⟨τ, x⟩ ∧ F0.tmps = #[F0.val 0] := by
  have he := h.env
  rw [hps] at he
  unfold entryEnv at he
  rw [hty] at he
  cases l with
  | nil => simp [entry1] at he
  | cons x l =>
    obtain ⟨t, x⟩ := x
    unfold entry1 at he
    by_cases ht : t = τ
    · subst ht
      have hf : flat t x = [⟨t, x⟩] := by cases t <;> first | rfl | simp [Ty.isPair] at hτ
      have hn : t.n = 1 := Ty.n_one hτ
      simp only [if_true, hf, hn, ks, Env.puts, entry1] at he
      cases l with
      | cons y l => simp [List.range, List.range.loop, Env.puts, entryEnv] at he
      | nil =>
        simp only [List.range, List.range.loop, List.map_cons, List.map_nil, Env.puts, entryEnv, Option.some.injEq] at he
        refine ⟨x, rfl, ?_, ?_⟩
        · rw [← he]; exact Env.set_same _ _ _
        · have hsz := h.size
          rw [hps] at hsz
          simp only [List.length_cons, List.length_nil] at hsz
          apply Array.ext
          · simp [hsz]
          · intro i h1 h2
            have : i = 0 := by omega
            subst this
            simp [Fr.val, Array.getD, h1]
    · rw [if_neg ht] at he; simp at he
end

open Go.Shelf Go.RowKit Go.Lib Go.Proofs in
set_option maxHeartbeats 2000000 in
set_option maxRecDepth 100000 in
theorem clone_run {P : Program} {ρ : Ren} (L : SlLaysE0.n41 P ρ) (i0 : TypeInfo) (z : Value) (size bytes : Nat) (hi : P.info? (ρ.t 23) = some i0) (hz0 : i0.zero = some z) (hz1 : i0.size = size) (hz2 : i0.bytes = bytes) (hzs : z.cells.size = size) (hsz : 0 < size)
    (z23 : ∀ w, (Go.sizeOf (ρ.t 23)).run P w = .ok size w) (ad : Addr) (n c : Nat) (news : List Value) (w : World) (hl : news.length = n * size) (hn : n ≤ maxLen) (hbig : n * bytes ≤ 140737488355328)
    (hc : ∀ j u, news[j]? = some u → w.cell? (ad.add j) = some u) (h1 : ∀ u ∈ news, u.oneCell' = true) :
    Calls P (ρ.f 41) #[.slice (some ad) n c] w fun e w' => ∃ v', e = .returned v' ∧ w'.ownsRow w.heap.size (ρ.t 23) size v' n news ∧ Below w.heap.size w w' := by
  have mixed := L.mixed; have t4 := L.t4; have a4 := L.a4; have z4 := L.z4; have v4 := L.v4; have t22 := L.t22; have a22 := L.a22; have z22 := L.z22; have v22 := L.v22
  have q22 : ∀ (w : World) (a : Option Addr) (n c n' c' : Nat), (binOp .eql (ρ.t 22) (.slice a n c) (.slice none n' c')).run P w = .ok (.bool a.isNone) w := fun w a n c n' c' => Lib.run_eql_slice_nil w _ _ a n c n' c' L.t22
  have u22 : ∀ w, Sem.run P (underlying (ρ.t 22)) w = .ok (TypeDesc.slice (ρ.t 23)) w := run_underlying t22
  have A : Aside (∀ j u, news[j]? = some u → w.cell? (ad.add j) = some u) := hc
  clear hc
  obtain ⟨_, _, FG⟩ := L.f41
  go_enter FG, SlBodyN.n41_ntmps ρ
  go_wp2_with (at_builtin; refine wpList_append_own _ rfl _ _ (ρ.t 22) rfl w.heap.size (ρ.t 23) i0 z size bytes t22 hi hz0 hz1 hz2 hzs hsz _ _ _ rfl (World.ownsRow_made w #[] 0 (Nat.le_refl _) (Nat.zero_le _) (by simp)) ad n c news rfl ?qc1 ?qc2 ?qc3 ?qc4 ?qc5 ?qc6 ?_)
  case qc1 => exact hl
  case qc2 =>
    intro j u hj
    exact Lib.cell?_alloc_some _ (A.out j u hj)
  case qc3 => exact h1
  case qc4 => rw [Nat.zero_add]; exact hn
  case qc5 => rw [Nat.zero_add]; exact hbig
  case qc6 => simp
  intro v' w1 hown hgrow hnil
  go_wp2
  go_ret
  refine ⟨v', rfl, by simpa using hown, ?_⟩
  exact ((Below.refl _ w).alloc (Nat.le_refl _) _).grown hgrow (by simp) (by intro k hk; simp [Value.ownBlock] at hk; omega)

end Go.Lf

/- slices.Clone, as a function of data. -/
namespace Go.Lf
open Go.Proofs Go.RowKit

/-- The labels behind a call that gives a new block. -/
def newLab (lab : Nat → Lab) (base : Nat) (v : Value) (k : List Nat) : Nat → Lab := fun b =>
  if b < base then lab b else if v.ownBlock = some b then .own k else .imm

noncomputable def cloneD (e : Ty) : List e.T → Option (List e.T) := fun l => bif fits l.length then some l else none

theorem cut_mid {c d : Array Value} {o o' k n i : Nat} (h : cut c o (n * k) = cut d o' (n * k)) (hi : i < n) : cut c (o + i * k) k = cut d (o' + i * k) k := by
  have key : ∀ (c : Array Value) (o : Nat), cut c (o + i * k) k = ((cut c o (n * k)).drop (i * k)).take k := by
    intro c o
    unfold cut
    rw [List.drop_take, List.take_take, List.drop_drop]
    congr 1
    have : i * k + k ≤ n * k := by rw [← Nat.succ_mul]; exact Nat.mul_le_mul_right k hi
    omega
  rw [key c o, key d o', h]

theorem ownsRow_rd {w : World} {base : Nat} {t : TypeId} {v : Value} {n : Nat} {news : List Value} {lab : Nat → Lab} {e : Ty} {m : M} {pos : List Nat} {xs : List e.T} (h : w.ownsRow base t e.n v n news) (hn : xs.length = n)
    (hlab : ∀ g, v.ownBlock = some g → lab g = .own pos) (hel : ∀ (i : Nat) (hi : i < xs.length), Rd w.heap lab m (pos ++ [i]) ((news.drop (i * e.n)).take e.n) e xs[i]) : Rd w.heap lab (.sl .own m) pos [v] (.slice e) xs := by
  obtain ⟨h1, ⟨rfl, h0⟩ | ⟨g, cap, cur, rfl, hb, hg, hc1, hc2, hc3, hc4⟩⟩ := h
  · have : xs = [] := by cases xs with | nil => rfl | cons _ _ => simp at hn; omega
    subst this
    exact ⟨none, 0, rfl, rfl, rfl⟩
  · simp only [Rd]
    refine ⟨some ⟨g, 0, none⟩, cap, by rw [hn], .inr ⟨rfl, hlab g rfl, by omega, cur, t, (0, 0), hg, by simp [hc3], fun _ => rfl, fun i hi => ?_⟩⟩
    have := hel i hi
    rw [← hc4] at this
    have e1 : cut cur (0 + i * e.n) e.n = ((List.take (n * e.n) cur.toList).drop (i * e.n)).take e.n := by
      unfold cut
      rw [List.drop_take, List.take_take]
      congr 1
      · have : i * e.n + e.n ≤ n * e.n := by rw [← Nat.succ_mul]; exact Nat.mul_le_mul_right _ (by omega)
        omega
      · simp
    rw [e1]
    exact this

theorem clone_good {P : Program} {ρ : Go.Shelf.Ren} (L : SlLaysE0.n41 P ρ) {e : Ty} (i0 : TypeInfo) (z : Value) (bytes : Nat) (hi : P.info? (ρ.t 23) = some i0) (hz0 : i0.zero = some z) (hz1 : i0.size = e.n) (hz2 : i0.bytes = bytes) (hzs : z.cells.size = e.n)
    (z23 : ∀ w, (Go.sizeOf (ρ.t 23)).run P w = .ok e.n w) (hby : bytes ≤ 2048) (he : Enters P (ρ.f 41)) : Good P ⟨⟨ρ.f 41, [.v (.slice e)], [(.slice e, [some e.shr])]⟩, [.slice e], [.slice e], cloneD e⟩ := by
  refine ⟨fun F0 w l r hent hr => ?_, he⟩
  obtain ⟨x, rfl, henv, htmps⟩ := entry_one (τ := .slice e) hent (p := .v (.slice e)) rfl rfl rfl
  obtain ⟨hcell, hleaf⟩ := entry_cell hent (i := 0) (p := .v (.slice e)) (st := .va) rfl rfl rfl
  simp only [LeafOk] at hleaf
  rw [henv, hent.H] at hleaf
  have hr' : cloneD e x = some x ∧ r = [⟨.slice e, x⟩] ∧ x.length < 68719476736 := by
    simp only [wrapD, wrapK, applyD, castD, dif_pos, Option.bind_some] at hr
    unfold cloneD at hr ⊢
    cases hf : fits x.length with
    | false => rw [hf] at hr; cases hr
    | true =>
      rw [hf] at hr
      refine ⟨rfl, ?_, ?_⟩
      · have : some [(⟨.slice e, x⟩ : Dyn)] = some r := hr
        exact (Option.some.inj this).symm
      · rw [fits_eq, decide_eq_true_eq] at hf; exact hf
  obtain ⟨_, rfl, hfit⟩ := hr'
  have hshr : ∀ (w' : World) (v : Value), Below w.heap.size w w' → ∀ b o, w.heap[b]? = some o → (F0.lab b).shared → w'.heap[b]? = some o ∧ (newLab F0.lab w.heap.size v [lk rb 0] b).shared := by
    intro w' v hb b o ho hl
    have hlt : b < w.heap.size := by
      rcases Nat.lt_or_ge b w.heap.size with h | h
      · exact h
      · rw [Array.getElem?_eq_none h] at ho; cases ho
    exact ⟨by rw [hb.block b hlt]; exact ho, by unfold newLab; rw [if_pos hlt]; exact hl⟩
  have fin : ∀ (w' : World) (v : Value) (news : List Value), Below w.heap.size w w' → w'.ownsRow w.heap.size (ρ.t 23) e.n v x.length news →
      (∀ (i : Nat) (hi : i < x.length), Rd w.heap F0.lab e.shr [] ((news.drop (i * e.n)).take e.n) e x[i]) → ∃ V lab', Ending.returned v = .returned V ∧ Gives ⟨ρ.f 41, [.v (.slice e)], [(.slice e, [some e.shr])]⟩ F0 w [⟨.slice e, x⟩] V w' lab' := by
    intro w' v news hb hrow hel
    have hlab : ∀ b, b < w.heap.size → newLab F0.lab w.heap.size v [lk rb 0] b = F0.lab b := fun b hlt => by unfold newLab; rw [if_pos hlt]
    have hlt : ∀ (b : Nat) (o : Obj), w.heap[b]? = some o → b < w.heap.size := by
      intro b o ho
      rcases Nat.lt_or_ge b w.heap.size with h | h
      · exact h
      · rw [Array.getElem?_eq_none h] at ho; cases ho
    refine ⟨v, newLab F0.lab w.heap.size v [lk rb 0], rfl, ⟨hb.os, hb.tape, hb.output, hb.size, ?_, ?_, ?_, ?_⟩⟩
    · intro b hge
      have h2 : ¬ b < w.heap.size := by have := hb.size; omega
      unfold newLab
      rw [if_neg h2]
      split
      · rename_i hv
        have := (hrow.lt b hv).2
        omega
      · rfl
    · intro b o ho hl
      exact ⟨by rw [hb.block b (hlt b o ho)]; exact ho, by rw [hlab b (hlt b o ho)]; exact hl⟩
    · intro b o ho hl
      exact ⟨by rw [hb.block b (hlt b o ho)]; exact ho, by rw [hlab b (hlt b o ho)]; exact hl⟩
    · refine ⟨[⟨.slice e, x⟩], [], [v], rfl, rfl, ⟨rfl, rfl, fun _ => rfl⟩, ?_, rfl, rfl⟩
      intro j m v' hj hv'
      cases j with
      | succ j => simp at hj
      | zero =>
        simp only [List.flatMap_cons, List.flatMap_nil, List.append_nil, List.getElem?_cons_zero, Option.some.injEq] at hj hv'
        subst hj hv'
        refine ⟨⟨.slice e, x⟩, rfl, ?_⟩
        refine ownsRow_rd hrow rfl (fun g hg => ?_) fun i hi => (hel i hi).shared (hshr w' v hb)
        have := hrow.lt g hg
        unfold newLab
        rw [if_neg (by omega), if_pos hg]
  rw [htmps]
  simp only [Ty.shr, Rd] at hleaf
  obtain ⟨ad, cap, hv, hleaf⟩ := hleaf
  have hv : F0.val 0 = .slice ad x.length cap := by simpa using hv
  rw [hv]
  have hbig : x.length * bytes ≤ 140737488355328 := by
    have : x.length * bytes ≤ 68719476736 * 2048 := Nat.mul_le_mul (by omega) hby
    omega
  have hmax : x.length ≤ maxLen := by unfold maxLen; omega
  cases ad with
  | none =>
    refine (AnyE.slices_Clone_nil L x.length cap w).mono fun out w' ⟨h1, h2⟩ => ?_
    subst h1 h2
    have hx : x = [] := hleaf.1
    exact fin w' _ [] (Below.refl _ _) ⟨by simp [hx], .inl ⟨rfl, by simp [hx]⟩⟩ (fun i hi => by simp [hx] at hi)
  | some p =>
    simp only at hleaf
    rcases hleaf with ⟨hx, _⟩ | ⟨hsp, _, hle, c, ty, fr, hb, hsz, _, hel⟩
    · refine (clone_run L i0 z e.n bytes hi hz0 hz1 hz2 hzs (Ty.n_pos e) z23 p x.length cap [] w (by simp [hx]) hmax hbig (fun j u hj => by simp at hj) (fun u hu => by simp at hu)).mono fun out w' ⟨v', h1, h2, h3⟩ => ?_
      subst h1
      exact fin w' v' [] h3 h2 (fun i hi => by simp [hx] at hi)
    · have hcap : p.off + x.length * e.n ≤ c.size := by
        have : x.length * e.n ≤ cap * e.n := Nat.mul_le_mul_right _ hle
        omega
      have hel' : ∀ (i : Nat) (hi : i < x.length), Rd w.heap F0.lab e.shr ([] ++ [i]) (((cut c p.off (x.length * e.n)).drop (i * e.n)).take e.n) e x[i] := by
        intro i hi
        have := hel i hi
        have e1 : cut c (p.off + i * e.n) e.n = ((cut c p.off (x.length * e.n)).drop (i * e.n)).take e.n := by
          unfold cut
          rw [List.drop_take, List.take_take, List.drop_drop]
          congr 1
          have : i * e.n + e.n ≤ x.length * e.n := by rw [← Nat.succ_mul]; exact Nat.mul_le_mul_right _ hi
          omega
        rw [← e1]; exact this
      refine (clone_run L i0 z e.n bytes hi hz0 hz1 hz2 hzs (Ty.n_pos e) z23 p x.length cap (cut c p.off (x.length * e.n)) w (cut_length hcap) hmax hbig (fun j u hj => ?_) (fun u hu => ?_)).mono fun out w' ⟨v', h1, h2, h3⟩ => ?_
      · unfold cut at hj
        rw [List.getElem?_take] at hj
        split at hj
        · rw [List.getElem?_drop] at hj
          obtain ⟨b, o, sp⟩ := p
          simp only at hsp hb hj
          subst hsp
          rw [Addr.add_lit]
          unfold World.cell?
          simp only [hb]
          simpa using hj
        · cases hj
      · -- every cell is one cell
        obtain ⟨j, hj⟩ := List.getElem?_of_mem hu
        have hjl : j < x.length * e.n := by
          have := List.getElem?_eq_some_iff.1 hj
          obtain ⟨h, _⟩ := this
          rwa [cut_length hcap] at h
        have hen := Ty.n_pos e
        have hi : j / e.n < x.length := by rw [Nat.div_lt_iff_lt_mul hen]; exact hjl
        have hone := (hel' _ hi).ones
        apply hone
        have e2 : j / e.n * e.n + j % e.n = j := by rw [Nat.mul_comm]; exact Nat.div_add_mod j e.n
        apply List.mem_of_getElem? (i := j % e.n)
        rw [List.getElem?_take, if_pos (Nat.mod_lt _ hen), List.getElem?_drop, e2]
        exact hj
      · subst h1
        exact fin w' v' _ h3 h2 (fun i hi => (hel' i hi).shared (fun b o ho hl => ⟨ho, hl⟩))
end Go.Lf
