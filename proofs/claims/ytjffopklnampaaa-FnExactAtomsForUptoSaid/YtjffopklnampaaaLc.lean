/- The core of the lifting, part 3 of 4: a compiler of Go functions to functions of data, and its soundness. -/
import Derived.Test.YtjffopklnampaaaLb
import Derived.Orders
set_option linter.unusedVariables false
set_option linter.unusedSimpArgs false
/- Calls, fourteenth part: which keys come back, and what they hold. -/
namespace Go.Lf

section
variable {F : Fr} {clk : Clk} {C : Cfg} {d : Nat} {a : Act} {w : World} {P : Program} {es : List (Nat × Ent)} {is : List I}

/-- The keys of lent things: entries, or the two spare keys. -/
theorem outs_in {ver d0 : Nat} {A : Arg} {p : PK} (hB : ArgBack F ver d0 A p) : ∀ O ∈ A.outs, ∀ k ∈ O, k ∈ keysOf A.ents ∨ k = lk d0 12 ∨ k = lk d0 13 := by
  intro O hO k hk
  cases p with
  | io τ ms =>
    obtain ⟨_, r, L, hlas, ho, he, _, _⟩ := hB
    rw [ho] at hO
    simp only [List.mem_singleton] at hO
    subst hO
    obtain ⟨j, hj, rfl⟩ := List.mem_iff_getElem.1 hk
    have hjl : j < r.las.length := by rw [← L.outs]; exact hj
    have hat := L.at_ j hjl hj
    have hmem := List.getElem_mem hjl
    cases hq : r.las[j] with
    | rd o => rw [hq] at hat; exact .inr (.inr hat)
    | em => rw [hq] at hat; exact hat.elim
    | tk k' m =>
      rw [hq] at hat hmem
      obtain ⟨e, hxe⟩ := L.all _ hmem k' (by simp [LA.taken])
      rw [hat.1]
      left
      rw [he]
      exact List.mem_map.2 ⟨_, hxe, rfl⟩
    | te k' i off m => rw [hq] at hat; exact .inr (.inl hat)
  | q τ ms =>
    obtain ⟨s, _, _, ho, he, _, _, _⟩ := hB
    rw [ho] at hO
    simp only [List.mem_singleton] at hO
    subst hO
    obtain ⟨j, hj, rfl⟩ := List.mem_map.1 hk
    simp only [List.mem_range] at hj
    left
    rw [he]
    refine List.mem_map.2 ⟨(lk s j, ⟨ver, [], resLeaf ms[j]⟩), List.mem_map.2 ⟨(ms[j], j), List.mem_zipIdx_iff_getElem?.2 (List.getElem?_eq_getElem hj), rfl⟩, rfl⟩
  | v τ => obtain ⟨_, ho, _⟩ := hB; rw [ho] at hO; simp at hO
  | p τ => obtain ⟨_, ho, _⟩ := hB; rw [ho] at hO; simp at hO
  | m τ ms => obtain ⟨_, ho, _⟩ := hB; rw [ho] at hO; simp at hO
  | c f caps => obtain ⟨_, ho, _⟩ := hB; rw [ho] at hO; simp at hO

theorem outs_in_all {ver d0 : Nat} {ps : List PK} {As : List Arg} {Vs : List Value} {css : List (List Value)} (hall : ArgsAll F ver d0 ps As Vs css) :
    ∀ k ∈ (As.flatMap (·.outs)).flatten, k ∈ keysOf (As.flatMap (·.ents)) ∨ k = lk d0 12 ∨ k = lk d0 13 := by
  intro k hk
  obtain ⟨O, hO, hkO⟩ := List.mem_flatten.1 hk
  obtain ⟨A, hA, hOA⟩ := List.mem_flatMap.1 hO
  obtain ⟨q, hq, rfl⟩ := List.mem_iff_getElem.1 hA
  obtain ⟨l1, l2, l3, hget⟩ := hall.get
  obtain ⟨_, hB⟩ := hget q (by omega) hq (by omega) (by omega)
  rcases outs_in hB O hOA k hkO with h | h
  · left
    obtain ⟨x, hx, rfl⟩ := List.mem_map.1 h
    exact List.mem_map.2 ⟨x, List.mem_flatMap.2 ⟨_, hA, hx⟩, rfl⟩
  · exact .inr h

/-- The keys of lent entries were handed over (or are leaves of a box that was). -/
theorem ents_taken {ver d0 : Nat} {A : Arg} {p : PK} (h14 : A.las.length ≤ 14) (hB : ArgBack F ver d0 A p) : ∀ k ∈ keysOf A.ents, k ∈ A.las.flatMap LA.taken ∨ ∃ s, A.box = some s ∧ k / 16 = s := by
  intro k hk
  obtain ⟨x, hx, rfl⟩ := List.mem_map.1 hk
  cases p with
  | io τ ms =>
    obtain ⟨_, r, L, hlas, ho, he, _, _⟩ := hB
    rw [he] at hx
    left
    rw [hlas]
    rcases L.ents x hx with ⟨m, org, h1, _⟩ | ⟨i, off, m, mk, org, h1, _⟩
    · exact List.mem_flatMap.2 ⟨_, h1, by simp [LA.taken]⟩
    · exact List.mem_flatMap.2 ⟨_, h1, by simp [LA.taken]⟩
  | q τ ms =>
    obtain ⟨s, hb, hst, ho, he, _, hl, _⟩ := hB
    rw [he] at hx
    obtain ⟨⟨m, j⟩, hm, rfl⟩ := List.mem_map.1 hx
    have hj : j < ms.length := by
      have := List.mem_zipIdx_iff_getElem?.1 hm
      exact (List.getElem?_eq_some_iff.1 this).1
    exact .inr ⟨s, hb, lk_div (by omega)⟩
  | v τ => obtain ⟨_, _, he, _⟩ := hB; rw [he] at hx; simp at hx
  | p τ => obtain ⟨_, _, he, _⟩ := hB; rw [he] at hx; simp at hx
  | m τ ms => obtain ⟨_, _, he, _⟩ := hB; rw [he] at hx; simp at hx
  | c f caps => obtain ⟨_, _, he, _⟩ := hB; rw [he] at hx; simp at hx

end
end Go.Lf

/- Calls, fifteenth part: which datum comes back to which key. -/
namespace Go.Lf

theorem count_flatten_ge {O : List (List Nat)} {i : Nat} {K : List Nat} (h : O[i]? = some K) (k : Nat) : K.count k ≤ O.flatten.count k := by
  induction O generalizing i with
  | nil => simp at h
  | cons a O ih =>
    simp only [List.flatten_cons, List.count_append]
    cases i with
    | zero => simp at h; subst h; omega
    | succ i => have := ih (i := i) (by simpa using h); omega

theorem puts_one : ∀ {K : List Nat} {l : List Dyn} {env e : Env} {j : Nat} {k : Nat}, env.puts K l = some e → K[j]? = some k → K.count k ≤ 1 → ∃ z, l[j]? = some z ∧ e k = z
  | [], _, _, _, _, _, _, h, _ => by simp at h
  | _ :: _, [], _, _, _, _, h, _, _ => by simp [Env.puts] at h
  | k0 :: K, x :: l, env, e, j, k, h, hj, hc => by
    simp only [Env.puts] at h
    cases j with
    | zero =>
      simp at hj
      subst hj
      have hn : k0 ∉ K := by
        intro hm
        have := List.count_pos_iff.2 hm
        simp only [List.count_cons_self] at hc
        omega
      exact ⟨x, rfl, by rw [(puts_get h).1 k0 hn, Env.set_same]⟩
    | succ j =>
      have hj' : K[j]? = some k := by simpa using hj
      obtain ⟨z, h1, h2⟩ := puts_one h hj' (by rw [List.count_cons] at hc; omega)
      exact ⟨z, by simpa using h1, h2⟩

theorem outs_keep {O : List (List Nat)} {r : List Dyn} {env e : Env} (h : env.outs O r = some e) {k : Nat} (hk : k ∉ O.flatten) : e k = env k :=
  (puts_get (outs_puts h).2.1).1 k hk

/-- A key that comes once holds what comes back there. -/
theorem outs_get : ∀ {O : List (List Nat)} {r : List Dyn} {env e : Env} {i j : Nat} {K : List Nat} {k : Nat}, env.outs O r = some e → O[i]? = some K → K[j]? = some k → O.flatten.count k ≤ 1 →
    ∃ y z, r[i]? = some y ∧ y.leaves[j]? = some z ∧ e k = z
  | [], _, _, _, _, _, _, _, _, h, _, _ => by simp at h
  | _ :: _, [], _, _, _, _, _, _, h, _, _, _ => by simp [Env.outs] at h
  | K0 :: O, y :: r, env, e, i, j, K, k, h, hi, hj, hc => by
    simp only [Env.outs] at h
    split at h
    case h_2 => simp at h
    rename_i e1 he1
    simp only [List.flatten_cons, List.count_append] at hc
    cases i with
    | zero =>
      simp at hi
      subst hi
      have hpos : 0 < K0.count k := List.count_pos_iff.2 (List.mem_of_getElem? hj)
      obtain ⟨z, h1, h2⟩ := puts_one he1 hj (by omega)
      refine ⟨y, z, rfl, h1, ?_⟩
      rw [outs_keep h, h2]
      intro hm
      have := List.count_pos_iff.2 hm
      omega
    | succ i =>
      obtain ⟨y', z, h1, h2, h3⟩ := outs_get h (by simpa using hi) hj (by omega)
      exact ⟨y', z, by simpa using h1, h2, h3⟩

theorem outs_split : ∀ {O1 O2 : List (List Nat)} {r : List Dyn} {env e : Env}, env.outs (O1 ++ O2) r = some e → ∃ r1 r2 e1, r = r1 ++ r2 ∧ r1.length = O1.length ∧ env.outs O1 r1 = some e1 ∧ e1.outs O2 r2 = some e
  | [], O2, r, env, e, h => ⟨[], r, env, rfl, rfl, rfl, h⟩
  | K :: O1, O2, [], env, e, h => by simp [Env.outs] at h
  | K :: O1, O2, y :: r, env, e, h => by
    simp only [List.cons_append, Env.outs] at h
    split at h
    case h_2 => simp at h
    rename_i e1 he1
    obtain ⟨r1, r2, e2, h1, h2, h3, h4⟩ := outs_split h
    exact ⟨y :: r1, r2, e2, by simp [h1], by simp [h2], by simp only [Env.outs, he1]; exact h3, h4⟩

section
variable {F F0 : Fr}

/-- Each lent argument has its datum. -/
theorem backs_get {ver d0 : Nat} {H' : Array Obj} {lab' : Nat → Lab} : ∀ {ps : List PK} {As : List Arg} {Vs : List Value} {css : List (List Value)} {i0 : Nat} {ls : List Dyn},
    ArgsAll F ver d0 ps As Vs css → BacksOk F0 H' lab' i0 ps ls → (As.flatMap (·.outs)).length = ls.length ∧ ∀ q (h1 : q < ps.length) (h2 : q < As.length), ps[q].lent = true →
      ∃ (t : Nat) (y : Dyn) (O : List Nat), As[q].outs = [O] ∧ (As.flatMap (·.outs))[t]? = some O ∧ ls[t]? = some y ∧ BackOk F0 H' lab' (i0 + q) ps[q] y
  | [], [], [], [], i0, ls, _, hb => by
    simp only [BacksOk] at hb
    subst hb
    exact ⟨rfl, fun q h => by simp at h⟩
  | p :: ps, A :: As, V :: Vs, c :: css, i0, ls, hall, hb => by
    simp only [BacksOk] at hb
    obtain ⟨hA, hB, hall⟩ := hall
    cases hl : p.lent with
    | false =>
      rw [hl] at hb
      have ho : A.outs = [] := by cases p <;> simp [PK.lent] at hl <;> exact hB.2.1
      obtain ⟨g1, g2⟩ := backs_get hall hb
      refine ⟨by simp [ho, g1], fun q h1 h2 hq => ?_⟩
      cases q with
      | zero => simp only [List.getElem_cons_zero] at hq; rw [hl] at hq; cases hq
      | succ q =>
        obtain ⟨t, y, O, a1, a2, a3, a4⟩ := g2 q (by simpa using h1) (by simpa using h2) (by simpa using hq)
        refine ⟨t, y, O, by simpa using a1, by simpa [ho] using a2, a3, ?_⟩
        rw [show i0 + (q + 1) = i0 + 1 + q by omega]
        simpa using a4
    | true =>
      rw [hl] at hb
      obtain ⟨O, ho⟩ : ∃ O, A.outs = [O] := by
        cases p <;> simp [PK.lent] at hl
        · obtain ⟨_, r, _, _, ho, _⟩ := hB; exact ⟨_, ho⟩
        · obtain ⟨s, _, _, ho, _⟩ := hB; exact ⟨_, ho⟩
      cases ls with
      | nil => exact hb.elim
      | cons y ls =>
        obtain ⟨hb1, hb2⟩ := hb
        obtain ⟨g1, g2⟩ := backs_get hall hb2
        refine ⟨by simp [ho, g1], fun q h1 h2 hq => ?_⟩
        cases q with
        | zero => exact ⟨0, y, O, by simpa using ho, by simp [ho], rfl, by simpa using hb1⟩
        | succ q =>
          obtain ⟨t, y', O', a1, a2, a3, a4⟩ := g2 q (by simpa using h1) (by simpa using h2) (by simpa using hq)
          refine ⟨t + 1, y', O', by simpa using a1, by simpa [ho] using a2, by simpa using a3, ?_⟩
          rw [show i0 + (q + 1) = i0 + 1 + q by omega]
          simpa using a4
  | [], _ :: _, _, _, _, _, h, _ => by simp [ArgsAll] at h
  | [], [], _ :: _, _, _, _, h, _ => by simp [ArgsAll] at h
  | [], [], [], _ :: _, _, _, h, _ => by simp [ArgsAll] at h
  | _ :: _, [], _, _, _, _, h, _ => by simp [ArgsAll] at h
  | _ :: _, _ :: _, [], _, _, _, h, _ => by simp [ArgsAll] at h
  | _ :: _, _ :: _, _ :: _, [], _, _, h, _ => by simp [ArgsAll] at h

theorem count_le_one_of_filter {l : List Nat} {p : Nat → Bool} (h : (l.filter p).Nodup) {k : Nat} (hk : p k = true) : l.count k ≤ 1 := by
  rw [← List.count_filter (p := p) (by simpa using hk)]
  exact List.nodup_iff_count.1 h k

theorem leafOwn_get : ∀ {ts : List Ty} {ms : List (Option M)}, leafOwn ts ms = true → ∀ (j : Nat) (t : Ty) (m : Option M), ts[j]? = some t → ms[j]? = some m → match m with | none => ∀ e, t ≠ .slice e | some m => m.isOwn = true
  | [], ms, _, j, t, m, ht, _ => by simp at ht
  | t0 :: ts, [], _, j, t, m, _, hm => by simp at hm
  | t0 :: ts, m0 :: ms, h, j, t, m, ht, hm => by
    have key : (match m0 with | none => ∀ e, t0 ≠ .slice e | some m => m.isOwn = true) ∧ leafOwn ts ms = true := by
      cases t0 <;> cases m0 <;> simp only [leafOwn, Bool.and_eq_true, Bool.false_eq_true] at h
      all_goals first | exact ⟨fun e => by simp, h⟩ | exact ⟨h.1, h.2⟩
    cases j with
    | zero =>
      simp at ht hm
      subst ht
      subst hm
      cases m0 <;> exact key.1
    | succ j => exact leafOwn_get key.2 j t m (by simpa using ht) (by simpa using hm)

theorem flat_tys (τ : Ty) (x : τ.T) : (flat τ x).map Dyn.τ = τ.leaves := by
  induction τ with
  | pair a b iha ihb => simp [flat, Ty.leaves, iha, ihb]
  | _ => simp [flat, Ty.leaves]

end
end Go.Lf

/- Calls, sixteenth part: an element whose leaf was lent and comes back. -/
namespace Go.Lf

/-- The leaves of a type lie apart. -/
theorem paths_free : ∀ {τ : Ty} {i j : Nat} {p q s t : List Nat}, τ.paths[i]? = some p → τ.paths[j]? = some q → p ++ s = q ++ t → i = j
  | .pair a b, i, j, p, q, s, t, hi, hj, h => by
    simp only [Ty.paths] at hi hj
    rw [List.getElem?_append] at hi hj
    simp only [List.length_map, List.getElem?_map] at hi hj
    split at hi <;> split at hj <;> (obtain ⟨p', hp', rfl⟩ := Option.map_eq_some_iff.1 hi; obtain ⟨q', hq', rfl⟩ := Option.map_eq_some_iff.1 hj; simp at h)
    · exact paths_free hp' hq' h
    · have := paths_free hp' hq' h; omega
  | .int _, i, j, p, q, s, t, hi, hj, h => by cases i <;> cases j <;> simp_all [Ty.paths]
  | .bool, i, j, p, q, s, t, hi, hj, h => by cases i <;> cases j <;> simp_all [Ty.paths]
  | .str, i, j, p, q, s, t, hi, hj, h => by cases i <;> cases j <;> simp_all [Ty.paths]
  | .slice _, i, j, p, q, s, t, hi, hj, h => by cases i <;> cases j <;> simp_all [Ty.paths]

/-- A carry of all that does not lie at one place. -/
theorem te_back {F : Fr} {k i off : Nat} {mk m : M} {V v v0 : Value} {y z : Dyn} {ts : List Ty} (E : EltAt F k i mk V off) (hv : E.c[E.o + off]? = some v) (hy : (flat E.e E.x)[off]? = some y) (hm : mk.flat[off]? = some (.sl .own m))
    (hc : F.cell k v0) (hok : Rd F.H F.lab (.sl .own mk) [k] [v0] (F.env k).τ (F.env k).v) {H' : Array Obj} {lab' : Nat → Lab}
    (hblk : H'[E.b]? = some (.cells E.c E.ty (0, 0)) ∧ lab' E.b = .own [k])
    (hshr : ∀ (b : Nat) (o : Obj), F.H[b]? = some o → (F.lab b).shared → H'[b]? = some o ∧ (lab' b).shared)
    (hcar : ∀ (b : Nat) (o : Obj) (s : List Nat), F.H[b]? = some o → F.lab b = .own (k :: s) → ¬ tePath F.env k i off <+: s → H'[b]? = some o ∧ lab' b = .own (k :: s))
    (hnew : Rd H' lab' (.sl .own m) (k :: tePath F.env k i off) [v] z.τ z.v) {Y : Dyn} (hset : setD off ts [z] (F.env k) (F.env i) = some Y) :
    Rd H' lab' (.sl .own mk) [k] [v0] Y.τ Y.v := by
  obtain ⟨e, l, kd, n, x, x', h1, h2, h3, h4, h5, rfl⟩ := setD_some hset
  have ho : off < E.e.n := by have := (List.getElem?_eq_some_iff.1 hy).1; rw [flat_length] at this; exact this
  have hpath := te_path E ho
  rw [hpath] at hcar hnew
  rw [E.env] at h1
  simp at h1
  obtain ⟨he, hl⟩ := h1
  subst he
  have hl := eq_of_heq hl
  subst hl
  obtain ⟨kd2, hkd⟩ := num_of E.num
  rw [hkd] at h2
  have hn : n = E.n := by
    simp only [Dyn.mk.injEq] at h2
    obtain ⟨hk, hv⟩ := h2
    cases hk
    have := eq_of_heq hv
    exact (Int.ofNat.inj this).symm
  subst hn
  have hxx : x = E.x := by have := E.get; rw [h3] at this; exact Option.some.inj this
  subst hxx
  obtain ⟨o0, len, cap, xs0, hc0, hxs0, hlt0, ho0⟩ := E.at_
  have hv0 : v0 = .slice (some ⟨E.b, o0, none⟩) len cap := Fr.cell_fun hc hc0
  rw [E.env] at hok
  have hnl : E.n < E.xs.length := (List.getElem?_eq_some_iff.1 E.get).1
  refine Rd.setElem hok hv0 hnl E.heap hblk.1 hblk.2 rfl (fun _ _ => rfl) (fun i0 hi0 => ⟨fun b o s hb hs => ?_, hshr⟩) ?_
  · have hs' : F.lab b = .own (k :: (i0 :: s)) := by simpa using hs
    have := hcar b o (i0 :: s) hb hs' (fun hp => by
      obtain ⟨t, ht⟩ := hp
      simp at ht
      exact hi0 ht.1.symm)
    exact ⟨this.1, by simpa using this.2⟩
  · rw [← ho0]
    have hcutl : (cut E.c E.o E.e.n).length = E.e.n := cut_length E.size
    have hpl : off + [z].length ≤ (flat E.e E.x).length := by rw [flat_length]; simp; omega
    have := Rd.build (H := H') (lab := lab') (τ := E.e) (pos := [k, E.n]) (ds := patch off [z] (flat E.e E.x)) (rest := []) (ms := mk.flat) (mrest := []) (vs := cut E.c E.o E.e.n) (x := x') (m := mk)
      h5 (by simpa using mUnflat_flat E.rd []) (by omega) (fun j0 h0 g1 g2 g3 => ?_)
    · have h6 := this.1
      rwa [List.take_of_length_le (by omega)] at h6
    · have hpj := patch_get hpl j0
      simp only [List.length_singleton] at hpj
      unfold LeafAt
      have hcv : (cut E.c E.o E.e.n)[j0]? = some (cut E.c E.o E.e.n)[j0] := List.getElem?_eq_getElem g3
      by_cases hj : j0 = off
      · subst hj
        rw [if_pos ⟨Nat.le_refl _, by omega⟩, List.getElem?_eq_getElem g1] at hpj
        simp only [Nat.sub_self, List.getElem?_cons_zero, Option.some.injEq] at hpj
        rw [hpj]
        rw [List.getElem?_eq_getElem g2] at hm
        rw [Option.some.inj hm]
        have hvv : (cut E.c E.o E.e.n)[j0] = v := by
          have : (cut E.c E.o E.e.n)[j0]? = some v := by
            simp only [cut]
            rw [List.getElem?_take_of_lt ho, List.getElem?_drop]
            simpa using hv
          rw [hcv] at this
          exact Option.some.inj this
        rw [hvv]
        exact hnew
      · rw [if_neg (by omega), List.getElem?_eq_getElem g1] at hpj
        obtain ⟨y0, m0, pos0, a1, a2, a3, q, hq1, hq2⟩ := E.rd.leaf hcv
        rw [← hpj] at a1
        rw [Option.some.inj a1]
        rw [List.getElem?_eq_getElem g2] at a2
        rw [Option.some.inj a2]
        have hq3 := hq2
        rw [List.getElem?_eq_getElem (by rw [Ty.paths_len]; exact h0)] at hq3
        rw [Option.some.inj hq3]
        rw [hq1] at a3
        refine a3.carry ⟨fun b o s hb hs => ?_, hshr⟩
        have hs' : F.lab b = .own (k :: (E.n :: (q ++ s))) := by simpa using hs
        have := hcar b o _ hb hs' (fun hp => by
          obtain ⟨t, ht⟩ := hp
          simp at ht
          exact hj (paths_free hq2 (List.getElem?_eq_getElem (by rw [Ty.paths_len]; exact ho)) ht.symm))
        exact ⟨this.1, by simpa using this.2⟩

end Go.Lf

/- Calls, seventeenth part: the call as a whole, seen from the caller: what is kept, what comes back where. -/
namespace Go.Lf

/-- Everything that is known when the callee has come back. -/
structure CC (F : Fr) (C : Cfg) (d : Nat) (ann : Ann) (f : Nat) (s : Sig) (As : List Arg) (es : List (Nat × Ent)) (is : List I) (Vs : List Value) (css : List (List Value)) (F0 : Fr) (w : World)
    (r : List Dyn) (V : Value) (w' : World) (lab' : Nat → Lab) : Prop where
  all : ArgsAll F C.ver d s.ps As Vs css
  co : CallOut F C d ann f s As es is
  tmps : F0.tmps = Vs.toArray
  lab : F0.lab = lab0 F (handed 0 As) (As.flatMap Arg.looked) []
  H0 : F0.H = F.H
  cells : ∀ i (h1 : i < css.length) j (h2 : j < (css[i]).length), F0.cell (lk i j) (css[i])[j]
  g : Gives s F0 w r V w' lab'
  HW : F.H = w.heap
  imms : ∀ b, F.H.size ≤ b → F.lab b = .imm

section
variable {F : Fr} {C : Cfg} {d : Nat} {ann : Ann} {f : Nat} {s : Sig} {As : List Arg} {es : List (Nat × Ent)} {is : List I} {Vs : List Value} {css : List (List Value)} {F0 : Fr} {w : World}
    {r : List Dyn} {V : Value} {w' : World} {lab' : Nat → Lab}

/-- The caller's labels behind the call. -/
def L1 (F : Fr) (As : List Arg) (d : Nat) (lab' : Nat → Lab) : Nat → Lab := lab1 F (handed 0 As) (As.flatMap Arg.looked) d lab'

theorem CC.kept (X : CC F C d ann f s As es is Vs css F0 w r V w' lab') {b : Nat} {o : Obj} (ho : F.H[b]? = some o)
    (h0 : lab0 F (handed 0 As) (As.flatMap Arg.looked) [] b = .imm ∨ lab0 F (handed 0 As) (As.flatMap Arg.looked) [] b = .own []) : w'.heap[b]? = some o ∧ L1 F As d lab' b = F.lab b := by
  have hb : b < F.H.size := by obtain ⟨h, _⟩ := Array.getElem?_eq_some_iff.1 ho; exact h
  refine ⟨?_, lab1_keep hb h0⟩
  rcases h0 with h0 | h0
  · exact (X.g.imm b o (by rw [← X.HW]; exact ho) (by rw [X.lab]; exact h0)).1
  · exact (X.g.frn b o (by rw [← X.HW]; exact ho) (by rw [X.lab]; exact h0)).1

theorem CC.shr (X : CC F C d ann f s As es is Vs css F0 w r V w' lab') {b : Nat} {o : Obj} (ho : F.H[b]? = some o) (hl : (F.lab b).shared) : w'.heap[b]? = some o ∧ L1 F As d lab' b = F.lab b :=
  X.kept ho (.inl (lab0_shared hl))

theorem CC.frn (X : CC F C d ann f s As es is Vs css F0 w r V w' lab') {b : Nat} {o : Obj} (ho : F.H[b]? = some o) (hl : F.lab b = .own []) : w'.heap[b]? = some o ∧ L1 F As d lab' b = F.lab b :=
  X.kept ho (.inr (lab0_frn hl))

theorem lab0_free {prs : List (Nat × LA)} {looked : List Nat} {b k : Nat} {q : List Nat} (hl : F.lab b = .own (k :: q)) (hk : inLab F.env prs k q = none) :
    lab0 F prs looked [] b = .imm ∨ lab0 F prs looked [] b = .own [] := by
  unfold lab0
  rw [hl]
  simp only [hk]
  split
  · exact .inl rfl
  · exact .inr rfl

theorem CC.own (X : CC F C d ann f s As es is Vs css F0 w r V w' lab') {b k : Nat} {q : List Nat} {o : Obj} (ho : F.H[b]? = some o) (hl : F.lab b = .own (k :: q)) (hk : k ∉ As.flatMap Arg.taken) :
    w'.heap[b]? = some o ∧ L1 F As d lab' b = F.lab b :=
  X.kept ho (lab0_free hl (inLab_none (by rw [takenOf_handed]; exact hk)))

theorem CC.nd (X : CC F C d ann f s As es is Vs css F0 w r V w' lab') : (takenOf (handed 0 As)).Nodup := by rw [takenOf_handed]; exact X.co.nodup

theorem CC.get (X : CC F C d ann f s As es is Vs css F0 w r V w' lab') : As.length = s.ps.length ∧ Vs.length = s.ps.length ∧ css.length = s.ps.length ∧
    ∀ i (h1 : i < s.ps.length) (h2 : i < As.length) (h3 : i < Vs.length) (h4 : i < css.length), ArgOk F s.ps[i] As[i] Vs[i] css[i] ∧ ArgBack F C.ver d As[i] s.ps[i] := X.all.get

theorem CC.back (X : CC F C d ann f s As es is Vs css F0 w r V w' lab') : Back F F0 (handed 0 As) (As.flatMap Arg.looked) d lab' w' where
  imms := X.imms
  imm b o ho h0 := X.g.imm b o (by rw [← X.HW]; exact ho) (by rw [X.lab]; exact h0)
  frn b o ho h0 := X.g.frn b o (by rw [← X.HW]; exact ho) (by rw [X.lab]; exact h0)

theorem CC.fits (X : CC F C d ann f s As es is Vs css F0 w r V w' lab') (q : Nat) (h1 : q < s.ps.length) (h2 : q < As.length) : fitsLAs (s.ps[q].sts q) As[q].las = true ∧ As[q].las.length ≤ 14 := by
  have := fitsArgs_get X.co.fits q h1 h2
  simpa using this

theorem CC.keys (X : CC F C d ann f s As es is Vs css F0 w r V w' lab') : ((handed 0 As).map (·.1)).Nodup ∧ ∀ k ∈ (handed 0 As).map (·.1), k / 16 < 1000 := by
  obtain ⟨l1, _, _, _⟩ := X.get
  have := handed_keys (As := As) (i := 0) fun A hA => by
    obtain ⟨q, hq, rfl⟩ := List.mem_iff_getElem.1 hA
    have := (X.fits q (by omega) hq).2
    omega
  refine ⟨this.1, fun k hk => ?_⟩
  have h2 := (this.2 k hk).2
  have := X.co.few
  omega

/-- What a handed leaf owned is labelled anew. -/
theorem CC.out (X : CC F C d ann f s As es is Vs css F0 w r V w' lab') {kc : Nat} {la : LA} {p : List Nat} (hm : (kc, la) ∈ handed 0 As) (hp : match la with | .tk k _ => p = [k] | .te k i off _ => p = k :: tePath F.env k i off | _ => False) :
    ∀ q b, lab' b = .own (kc :: q) → lab1.back F (handed 0 As) d lab' b = .own (p ++ q) := by
  intro q b h
  have := X.keys
  exact back_out (by have := this.2 kc (List.mem_map.2 ⟨_, hm, rfl⟩); unfold rb; omega) (outLab_of this.1 hm (by cases la <;> exact hp)) h

theorem CC.deep (X : CC F C d ann f s As es is Vs css F0 w r V w' lab') : As.flatMap Arg.looked = [] ∨ ((∀ x ∈ s.rs, leafOwn x.1.leaves x.2 = true) ∧ ∀ p ∈ s.ps, match p with | .io τ ms | .q τ ms => leafOwn τ.leaves ms = true | _ => True) := by
  rcases X.co.deep with h | h
  · exact .inl h
  · right
    simp only [Sig.deep, Bool.and_eq_true, List.all_eq_true] at h
    refine ⟨h.1, fun p hp => ?_⟩
    have := h.2 p hp
    cases p <;> first | exact this | trivial

/-- A leaf that was lent and is owned comes back. -/
theorem CC.io (X : CC F C d ann f s As es is Vs css F0 w r V w' lab') {q : Nat} (h1 : q < s.ps.length) (h2 : q < As.length) {τ : Ty} {ms : List (Option M)} (hp : s.ps[q] = .io τ ms) {y : Dyn}
    (hy : BackOk F0 w'.heap lab' q (.io τ ms) y) {j : Nat} {la : LA} (hla : As[q].las[j]? = some la) {k : Nat} {m : M} {p : List Nat} (hk : la = .tk k m ∧ p = [k] ∨ ∃ i off, la = .te k i off m ∧ p = k :: tePath F.env k i off) :
    ∃ (v : Value) (z y0 : Dyn), LeafArg F la v y0 ∧ y.leaves[j]? = some z ∧ Rd w'.heap (L1 F As d lab') (.sl .own m) p [v] z.τ z.v := by
  obtain ⟨l1, l2, l3, hget⟩ := X.get
  obtain ⟨hA, hB⟩ := hget q h1 h2 (by omega) (by omega)
  have hf := (X.fits q h1 h2).1
  rw [hp] at hA hB hf
  obtain ⟨f1, f2⟩ := fitsLAs_get hf
  obtain ⟨hj, hje⟩ := List.getElem?_eq_some_iff.1 hla
  have hmj : ms[j]? = some (some m) := by
    have hs := f2 j (by omega) hj
    simp only [PK.sts, List.getElem_map, List.getElem_zipIdx] at hs
    have hjm : j < ms.length := by simp [PK.sts] at f1; omega
    rw [List.getElem?_eq_getElem hjm]
    rw [hje] at hs
    rcases hk with ⟨rfl, _⟩ | ⟨i, off, rfl, _⟩
    all_goals
      cases hmm : ms[j] with
      | none => rw [hmm] at hs; simp [fitsLA] at hs
      | some x => rw [hmm] at hs; simp [fitsLA] at hs; rw [hs]
  obtain ⟨hτ, hbk⟩ := hy
  obtain ⟨v, z, b1, b2, b3⟩ := hbk j m hmj
  have hlen := hA.len
  have hods := hA.ods
  have hv : v = (css[q])[j]'(by omega) := Fr.cell_fun b1 (X.cells q (by omega) j (by omega))
  have hlf := hA.leaf j hj (by omega) (by omega)
  rw [hje] at hlf
  subst hv
  refine ⟨_, z, _, hlf, b2, ?_⟩
  have hmem : (lk q j, la) ∈ handed 0 As := by
    have := (mem_handed (As := As) (i0 := 0) (q := q) (List.getElem?_eq_getElem h2)).1 j la hla
    simpa using this
  refine X.back.leaf (kc := lk q j) (p := p) (X.out hmem ?_) ?_ b3
  · rcases hk with ⟨rfl, hp⟩ | ⟨i, off, rfl, hp⟩ <;> exact hp
  · rcases X.deep with h | h
    · exact .inl h
    · right
      have := h.2 s.ps[q] (List.getElem_mem h1)
      rw [hp] at this
      simp only at this
      have hjt : j < τ.leaves.length := by
        have := hA.kind
        simp only [KindArg] at this
        rw [Ty.leaves_len]; omega
      exact leafOwn_get this j _ _ (List.getElem?_eq_getElem hjt) hmj

/-- A box that was lent comes back. -/
theorem CC.box (X : CC F C d ann f s As es is Vs css F0 w r V w' lab') {q : Nat} (h1 : q < s.ps.length) (h2 : q < As.length) {τ : Ty} {ms : List (Option M)} (hp : s.ps[q] = .q τ ms) {y : Dyn}
    (hy : BackOk F0 w'.heap lab' q (.q τ ms) y) {sb : Nat} (hb : As[q].box = some sb) : ms.length = τ.n ∧ ∃ (b : Nat) (c0 c : Array Value) (ty : TypeId), F.val sb = .pointer (some ⟨b, 0, none⟩) ∧ F.H[b]? = some (.cells c0 ty (0, 0)) ∧
      w'.heap[b]? = some (.cells c ty (0, 0)) ∧ L1 F As d lab' b = .own [sk sb] ∧ c.size = c0.size ∧ c.size = ms.length ∧
      ∀ j m, ms[j]? = some m → ∃ (v : Value) (z : Dyn), c[j]? = some v ∧ y.leaves[j]? = some z ∧ match m with
        | none => Rd w'.heap (L1 F As d lab') z.τ.shr [] [v] z.τ z.v
        | some m => Rd w'.heap (L1 F As d lab') (.sl .own m) [lk sb j] [v] z.τ z.v := by
  obtain ⟨l1, l2, l3, hget⟩ := X.get
  obtain ⟨hA, hB⟩ := hget q h1 h2 (by omega) (by omega)
  rw [hp] at hA hB
  obtain ⟨sb', hb', hst, ho, he, _, hlen, hlas⟩ := hB
  rw [hb] at hb'
  have hb' := Option.some.inj hb'
  subst hb'
  obtain ⟨sb2, b, c0, ty0, hbx, hV, hval, hlab, hheap, hcs, hn⟩ := hA.kind
  rw [hb] at hbx
  have hbx := Option.some.inj hbx
  subst hbx
  obtain ⟨hτ, b', c, ty, hv', hh', hl', hsz, hty, hbk⟩ := hy
  have hval0 : F0.val q = Vs[q] := by
    simp only [Fr.val, X.tmps]
    have : q < Vs.length := by omega
    simp [this]
  rw [hval0, hV] at hv'
  simp at hv'
  subst hv'
  have htyy : ty = ty0 := hty _ _ _ (by rw [X.H0]; exact hheap)
  subst htyy
  have hAlen := hA.len
  have hmsn : ms.length = τ.n := by omega
  have hmem : (sk q, LA.tk (sk sb) .sc) ∈ handed 0 As := by
    have := (mem_handed (As := As) (i0 := 0) (q := q) (List.getElem?_eq_getElem h2)).2 sb hb
    simpa using this
  have hown : L1 F As d lab' b = .own [sk sb] := by
    unfold L1
    rw [X.back.own hl']
    exact X.out hmem rfl [] b hl'
  refine ⟨hmsn, b, c0, c, ty, by rw [hval, hV], hheap, hh', hown, by rw [hsz, ← hn, hcs]; simp, by omega, fun j m hm => ?_⟩
  obtain ⟨v, z, z1, z2, z3⟩ := hbk j m hm
  refine ⟨v, z, z1, z2, ?_⟩
  have hjm : j < ms.length := (List.getElem?_eq_some_iff.1 hm).1
  have hleaf : ∀ (h : y.leaves.length = τ.n), z.τ = τ.leaves[j]'(by rw [Ty.leaves_len]; omega) := by
    intro h
    have := flat_tys y.τ y.v
    have h3 : (flat y.τ y.v)[j]? = some z := z2
    have h4 : ((flat y.τ y.v).map Dyn.τ)[j]? = some z.τ := by rw [List.getElem?_map, h3]; rfl
    rw [this, hτ, List.getElem?_eq_getElem (by rw [Ty.leaves_len]; omega)] at h4
    exact (Option.some.inj h4).symm
  have hyl : y.leaves.length = τ.n := by unfold Dyn.leaves; rw [flat_length, hτ]
  have hdeep : As.flatMap Arg.looked = [] ∨ leafOwn τ.leaves ms = true := by
    rcases X.deep with h | h
    · exact .inl h
    · right
      have := h.2 s.ps[q] (List.getElem_mem h1)
      rw [hp] at this
      exact this
  have hjt : j < τ.leaves.length := by rw [Ty.leaves_len]; omega
  cases m with
  | none =>
    refine X.back.shr ?_ z3
    rcases hdeep with h | h
    · exact .inl h
    · right
      have := leafOwn_get h j _ _ (List.getElem?_eq_getElem hjt) hm
      rw [hleaf hyl]
      exact this
  | some m =>
    have hmem2 : (lk q j, LA.tk (lk sb j) m) ∈ handed 0 As := by
      have hla := hlas j (by omega) hjm
      rw [List.getElem?_eq_getElem hjm] at hm
      rw [Option.some.inj hm] at hla
      have := (mem_handed (As := As) (i0 := 0) (q := q) (List.getElem?_eq_getElem h2)).1 j _ (by rw [List.getElem?_eq_getElem (by omega : j < As[q].las.length), hla])
      simpa [boxLA] using this
    refine X.back.leaf (kc := lk q j) (p := [lk sb j]) (X.out hmem2 rfl) ?_ z3
    rcases hdeep with h | h
    · exact .inl h
    · exact .inr (leafOwn_get h j _ _ (List.getElem?_eq_getElem hjt) hm)

end
end Go.Lf

/- Calls, last part: a compiled call is sound. -/
namespace Go.Lf

theorem lastOf_mem {es : List (Nat × Ent)} {k : Nat} {e : Ent} (h : lastOf es k = some e) : (k, e) ∈ es := by
  induction es with
  | nil => simp [lastOf] at h
  | cons x l ih =>
    obtain ⟨j, e'⟩ := x
    simp only [lastOf] at h
    cases hl : lastOf l k with
    | some y => rw [hl] at h; simp at h; subst h; exact List.mem_cons_of_mem _ (ih hl)
    | none =>
      rw [hl] at h
      simp only at h
      split at h
      · rename_i hj; simp at h; subst h; subst hj; simp
      · cases h

theorem Has.cells {H : Array Obj} {lab : Nat → Lab} {s : Nat} {st : ES} {V : Value} {cs : List Value} (h : Has H lab s st V cs) : cs.length = st.cells := by
  cases st <;> simp only [Has, ES.cells] at h ⊢
  case pl n agg => exact h.2.1
  case bx n => obtain ⟨b, c, ty, _, _, _, _, hn⟩ := h; exact hn
  case pa n => obtain ⟨b, off, c, ty, fr, _, _, _, hz, rfl⟩ := h; exact cut_length hz
  case cp f ns => obtain ⟨ps, _, h⟩ := h; exact h.len
  case tu ps => obtain ⟨vs, _, h⟩ := h; exact h.len
  all_goals simp [h]

theorem resKind_cells (rs : List (Ty × List (Option M))) : (resKind rs).cells = (rs.map fun r => r.1.n).foldr (· + ·) 0 := by
  have key : ∀ (l : List (Ty × List (Option M))) (a : Nat), (l.map fun r => (r.1.n, r.1.isPair)).foldl (fun a p => a + p.1) a = a + (l.map fun r => r.1.n).foldr (· + ·) 0 := by
    intro l
    induction l with
    | nil => intro a; rfl
    | cons x l ih => intro a; simp only [List.map_cons, List.foldl_cons, List.foldr_cons, ih]; omega
  match rs with
  | [] => rfl
  | [r] => rfl
  | r :: r' :: rs =>
    have := key (r :: r' :: rs) 0
    simp only [Nat.zero_add] at this
    exact this

theorem resKind_has {H H' : Array Obj} {lab lab' : Nat → Lab} {s s' : Nat} {rs : List (Ty × List (Option M))} {V : Value} {cs : List Value} (h : Has H lab s (resKind rs) V cs) : Has H' lab' s' (resKind rs) V cs := by
  match rs, h with
  | [], h => exact h
  | [r], h => exact h
  | _ :: _ :: _, h => exact h

theorem resKind_leafy (rs : List (Ty × List (Option M))) : (resKind rs).leafy = true := by
  match rs with
  | [] => rfl
  | [r] => rfl
  | _ :: _ :: _ => rfl

section
variable {F : Fr} {C : Cfg} {d : Nat} {ann : Ann} {f : Nat} {s : Sig} {As : List Arg} {es : List (Nat × Ent)} {is : List I} {Vs : List Value} {css : List (List Value)} {F0 : Fr} {w : World}
    {r : List Dyn} {V : Value} {w' : World} {lab' : Nat → Lab} {D : Nat → List Dyn → Option (List Dyn)}

/-- Leaves that are taken are leaves. -/
theorem las_lt {p : PK} {A : Arg} {V : Value} {cs : List Value} (hA : ArgOk F p A V cs) : ∀ k ∈ A.las.flatMap LA.taken, k % 16 < 15 := by
  intro k hk
  obtain ⟨la, hla, hk⟩ := List.mem_flatMap.1 hk
  obtain ⟨j, hj, rfl⟩ := List.mem_iff_getElem.1 hla
  have hlf := hA.leaf j hj (by have := hA.len; have := hA.ods; omega) (by have := hA.len; omega)
  cases hq : A.las[j] with
  | rd o => rw [hq] at hk; simp [LA.taken] at hk
  | em => rw [hq] at hk; simp [LA.taken] at hk
  | tk k' m =>
    rw [hq] at hk hlf
    simp only [LA.taken, List.mem_singleton] at hk
    subst hk
    exact hlf.1.lt
  | te k' i off m =>
    rw [hq] at hk hlf
    simp only [LA.taken, List.mem_singleton] at hk
    subst hk
    obtain ⟨_, _, _, _, _, E, _⟩ := hlf
    exact E.leaf

theorem CC.box_of (X : CC F C d ann f s As es is Vs css F0 w r V w' lab') {sb : Nat} (hk : sk sb ∈ As.flatMap Arg.taken) : ∃ q, ∃ _ : q < As.length, As[q].box = some sb := by
  obtain ⟨A, hA, hk⟩ := List.mem_flatMap.1 hk
  obtain ⟨q, hq, rfl⟩ := List.mem_iff_getElem.1 hA
  obtain ⟨l1, l2, l3, hget⟩ := X.get
  obtain ⟨hOk, _⟩ := hget q (by omega) hq (by omega) (by omega)
  simp only [Arg.taken, List.mem_append] at hk
  rcases hk with hk | hk
  · cases hb : As[q].box with
    | none => rw [hb] at hk; simp at hk
    | some s2 =>
      rw [hb] at hk
      simp at hk
      exact ⟨q, hq, by rw [hb, sk_inj.1 hk]⟩
  · have := las_lt hOk _ hk
    unfold sk at this; omega

/-- A box is lent by parameters of its kind alone. -/
theorem box_kind {ver d0 : Nat} {A : Arg} {p : PK} {sb : Nat} (hb : A.box = some sb) (hB : ArgBack F ver d0 A p) : ∃ τ ms, p = .q τ ms := by
  cases p with
  | q τ ms => exact ⟨τ, ms, rfl⟩
  | io τ ms => obtain ⟨h, _⟩ := hB; rw [hb] at h; cases h
  | v τ => obtain ⟨h, _⟩ := hB; rw [hb] at h; cases h
  | p τ => obtain ⟨h, _⟩ := hB; rw [hb] at h; cases h
  | m τ ms => obtain ⟨h, _⟩ := hB; rw [hb] at h; cases h
  | c f caps => obtain ⟨h, _⟩ := hB; rw [hb] at h; cases h

/-- Keys that are taken have entries anew. -/
theorem taken_pre {ver : Nat} {taken : List Nat} {ents : List (Nat × Ent)} {k : Nat} (hk : k ∈ taken) (h15 : k % 16 ≠ 15) : k ∈ keysOf (goneOf ver taken ents ++ ents) := by
  rw [keysOf_append, List.mem_append]
  by_cases h : ents.any (fun e => e.1 == k) = true
  · right
    obtain ⟨e, he, h2⟩ := List.any_eq_true.1 h
    exact List.mem_map.2 ⟨e, he, by simpa using h2⟩
  · left
    refine List.mem_map.2 ⟨(k, ⟨ver, [], .no⟩), ?_, rfl⟩
    refine List.mem_filterMap.2 ⟨k, hk, ?_⟩
    have h1 : ents.any (fun e => e.1 == k) = false := Bool.eq_false_iff.2 h
    have h2 : (k % 16 == 15) = false := by simpa using h15
    rw [h1, h2]
    rfl

theorem gone_no {ver : Nat} {taken : List Nat} {ents : List (Nat × Ent)} {k : Nat} {e : Ent} (h : lastOf (goneOf ver taken ents) k = some e) : e.st = .no := by
  refine lastOf_all (p := fun e => e.st = .no) (fun a ha => ?_) h
  obtain ⟨k', _, hk'⟩ := List.mem_filterMap.1 ha
  split at hk'
  · cases hk'
  · simp at hk'; rw [← hk']

theorem leafOwn_append : ∀ {t1 t2 : List Ty} {m1 m2 : List (Option M)}, leafOwn t1 m1 = true → leafOwn t2 m2 = true → leafOwn (t1 ++ t2) (m1 ++ m2) = true
  | [], t2, [], m2, _, h => h
  | [], _, _ :: _, _, h, _ => by simp [leafOwn] at h
  | t :: t1, t2, [], m2, h, _ => by cases t <;> simp [leafOwn] at h
  | t :: t1, t2, m :: m1, m2, h, h2 => by
    cases t <;> cases m <;> simp only [leafOwn, Bool.and_eq_true, Bool.false_eq_true, List.cons_append] at h ⊢
    all_goals first | exact leafOwn_append h h2 | exact ⟨h.1, leafOwn_append h.2 h2⟩

theorem leafOwn_all : ∀ {rs : List (Ty × List (Option M))}, (∀ x ∈ rs, leafOwn x.1.leaves x.2 = true) → leafOwn (rs.flatMap fun x => x.1.leaves) (rs.flatMap (·.2)) = true
  | [], _ => rfl
  | x :: rs, h => by
    simp only [List.flatMap_cons]
    exact leafOwn_append (h x (by simp)) (leafOwn_all fun y hy => h y (by simp [hy]))

theorem leaves_tys : ∀ {r : List Dyn} {rs : List (Ty × List (Option M))}, r.map Dyn.τ = rs.map (·.1) → (r.flatMap Dyn.leaves).map Dyn.τ = rs.flatMap fun x => x.1.leaves
  | [], [], _ => rfl
  | y :: r, x :: rs, h => by
    simp only [List.map_cons, List.cons.injEq] at h
    simp only [List.flatMap_cons, List.map_append]
    rw [leaves_tys h.2, ← h.1]
    show (flat y.τ y.v).map Dyn.τ ++ _ = _
    rw [flat_tys]
  | [], _ :: _, h => by simp at h
  | _ :: _, [], h => by simp at h

/-- What is put back into an element. -/
theorem CC.post (X : CC F C d ann f s As es is Vs css F0 w r V w' lab') {env1 env' : Env} (hp : I.dens D env1 (As.flatMap (·.post)) = some env') :
    (∀ k, k / 16 ≠ d → k ∈ (As.flatMap (·.outs)).flatten → env' k = env1 k) ∧ (∀ j, j ≤ 15 → env' (lk d j) = env1 (lk d j)) ∧ (∀ k, (∀ q (_ : q < As.length) i off m, LA.te k i off m ∉ As[q].las) → env' k = env1 k) ∧
    ∀ q (_ : q < As.length) k i off m, LA.te k i off m ∈ As[q].las → ∃ (t : Ty) (Y : Dyn), setD off [t] [env1 (lk d 12)] (env1 k) (env1 i) = some Y ∧ env' k = Y ∧ k / 16 ≠ d ∧ i / 16 ≠ d ∧ k ∉ (As.flatMap (·.outs)).flatten ∧ i ∉ (As.flatMap (·.outs)).flatten := by
  obtain ⟨l1, l2, l3, hget⟩ := X.get
  have hlent := X.co.lent
  simp only [lentOk, Bool.and_eq_true] at hlent
  obtain ⟨⟨_, hpost⟩, _⟩ := hlent
  have hone := X.co.one
  -- what an argument puts back
  have each : ∀ q (hq : q < As.length), (As[q].post = [] ∧ ∀ k i off m, LA.te k i off m ∉ As[q].las) ∨
      ∃ (k i off : Nat) (m : M) (t : Ty), LA.te k i off m ∈ As[q].las ∧ As[q].post = [.setE k (.k i) off [t] [.k (lk d 12)]] ∧ ∀ k' i' off' m', LA.te k' i' off' m' ∈ As[q].las → k' = k ∧ i' = i ∧ off' = off := by
    intro q hq
    obtain ⟨hOk, hB⟩ := hget q (by omega) hq (by omega) (by omega)
    have hquiet : As[q].Quiet → (∀ la ∈ As[q].las, ∀ k i off m, la ≠ LA.te k i off m) → (As[q].post = [] ∧ ∀ k i off m, LA.te k i off m ∉ As[q].las) := fun h h2 => ⟨h.2.2.2, fun k i off m hm => h2 _ hm k i off m rfl⟩
    have hf := (X.fits q (by omega) hq).1
    obtain ⟨f1, f2⟩ := fitsLAs_get hf
    have nova : ∀ (h : ∀ e ∈ s.ps[q].sts q, e = .va), ∀ la ∈ As[q].las, ∀ k i off m, la ≠ LA.te k i off m := by
      intro h la hla k i off m he
      obtain ⟨j, hj, rfl⟩ := List.mem_iff_getElem.1 hla
      have := f2 j (by omega) hj
      rw [h _ (List.getElem_mem (by omega)), he] at this
      simp [fitsLA] at this
    cases hp : s.ps[q] with
    | v τ => rw [hp] at hB nova; exact .inl (hquiet hB (nova fun e he => List.eq_of_mem_replicate he))
    | p τ => rw [hp] at hB nova; exact .inl (hquiet hB (nova fun e he => List.eq_of_mem_replicate he))
    | c f caps => rw [hp] at hB nova; exact .inl (hquiet hB (nova fun e he => List.eq_of_mem_replicate he))
    | m τ ms =>
      rw [hp] at hB
      refine .inl (hquiet hB fun la hla k i off m he => ?_)
      obtain ⟨j, hj, rfl⟩ := List.mem_iff_getElem.1 hla
      have h6 := f2 j (by omega) hj
      rw [he] at h6
      have h7 : ∀ e ∈ s.ps[q].sts q, ∃ mm, e = resLeaf mm := by
        rw [hp]
        intro e he
        obtain ⟨mm, _, hmm⟩ := List.mem_map.1 he
        exact ⟨mm, hmm.symm⟩
      obtain ⟨mm, h8⟩ := h7 _ (List.getElem_mem (by omega : j < (s.ps[q].sts q).length))
      rw [h8] at h6
      cases mm <;> simp [resLeaf, fitsLA] at h6
    | io τ ms =>
      rw [hp] at hB
      obtain ⟨_, rl, L, hlas, _, _, hpo, _⟩ := hB
      rw [hlas, hpo]
      rcases L.post with ⟨h1, h2⟩ | ⟨k, i, off, m, t, j, h1, h2, h3⟩
      · exact .inl ⟨h1, h2⟩
      · refine .inr ⟨k, i, off, m, t, List.mem_of_getElem? h1, h2, fun k' i' off' m' hm => ?_⟩
        obtain ⟨j', hj', he⟩ := List.mem_iff_getElem.1 hm
        have h5 := h3 j' k' i' off' m' (by rw [List.getElem?_eq_getElem hj', he])
        subst h5
        rw [List.getElem?_eq_getElem hj', he] at h1
        simp at h1
        exact ⟨h1.1, h1.2.1, h1.2.2.1⟩
    | q τ ms =>
      rw [hp] at hB
      obtain ⟨sb, _, _, _, _, hpo, hlen, hlas⟩ := hB
      refine .inl ⟨hpo, fun k i off m hm => ?_⟩
      obtain ⟨j, hj, he⟩ := List.mem_iff_getElem.1 hm
      have := hlas j hj (by omega)
      rw [he] at this
      cases hms : ms[j]'(by omega) <;> rw [hms] at this <;> simp [boxLA] at this
  by_cases hnil : As.flatMap (·.post) = []
  · rw [hnil] at hp
    simp only [I.dens, Option.some.injEq] at hp
    subst hp
    refine ⟨fun _ _ _ => rfl, fun _ _ => rfl, fun _ _ => rfl, fun q hq k i off m hm => ?_⟩
    rcases each q hq with ⟨_, h2⟩ | ⟨k2, i2, off2, m2, t, _, h3, _⟩
    · exact absurd hm (h2 k i off m)
    · have : As[q].post = [] := by
        have h5 := List.flatMap_eq_nil_iff.1 hnil As[q] (List.getElem_mem hq)
        exact h5
      rw [this] at h3; cases h3
  · have single : ∀ l : List I, l.length ≤ 1 → l ≠ [] → ∃ x, l = [x] := by
      intro l hl hn
      match l, hl, hn with
      | [], _, hn => exact absurd rfl hn
      | [x], _, _ => exact ⟨x, rfl⟩
      | _ :: _ :: _, hl, _ => simp at hl
    obtain ⟨x, hx⟩ := single _ hone hnil
    -- where it comes from
    have hxm : x ∈ As.flatMap (·.post) := by rw [hx]; simp
    obtain ⟨A, hA, hxA⟩ := List.mem_flatMap.1 hxm
    obtain ⟨q0, hq0, rfl⟩ := List.mem_iff_getElem.1 hA
    rcases each q0 hq0 with ⟨h1, _⟩ | ⟨k0, i0, off0, m0, t0, hte0, hpo0, hun0⟩
    · rw [h1] at hxA; simp at hxA
    · rw [hpo0] at hxA
      simp only [List.mem_singleton] at hxA
      subst hxA
      rw [hx] at hp hpost
      simp only [List.all_cons, List.all_nil, Bool.and_true, Bool.and_eq_true, bne_iff_ne, ne_eq, Bool.not_eq_true', List.contains_eq_mem, decide_eq_false_iff_not] at hpost
      obtain ⟨⟨⟨g1, g2⟩, g3⟩, g4⟩ := hpost
      simp only [I.dens, I.den, List.map_cons, List.map_nil, Od.rd] at hp
      cases hset : setD off0 [t0] [env1 (lk d 12)] (env1 k0) (env1 i0) with
      | none => rw [hset] at hp; simp [set1] at hp
      | some Y =>
        rw [hset] at hp
        simp only [set1, Option.some.injEq] at hp
        subst hp
        refine ⟨fun k hkd hk => Env.set_ne _ _ ?_, fun j hj => Env.set_ne _ _ ?_, fun k hk => Env.set_ne _ _ ?_, fun q hq k i off m hm => ?_⟩
        · rintro rfl; exact g3 hk
        · intro he; exact g1 (by rw [← he, lk_div hj])
        · rintro rfl
          exact hk q0 hq0 _ _ _ hte0
        · rcases each q hq with ⟨_, h2⟩ | ⟨k2, i2, off2, m2, t2, h3, h4, h5⟩
          · exact absurd hm (h2 k i off m)
          · have h6 : (I.setE k2 (.k i2) off2 [t2] [.k (lk d 12)]) ∈ As.flatMap (·.post) := List.mem_flatMap.2 ⟨_, List.getElem_mem hq, by rw [h4]; simp⟩
            rw [hx] at h6
            simp only [List.mem_singleton, I.setE.injEq, Od.k.injEq, List.cons.injEq, and_true] at h6
            obtain ⟨rfl, rfl, rfl, rfl⟩ := h6
            obtain ⟨rfl, rfl, rfl⟩ := h5 k i off m hm
            exact ⟨t2, Y, hset, Env.set_same _ _ _, g1, g2, g3, g4⟩

end
end Go.Lf

/- Calls: a compiled call is sound. -/
namespace Go.Lf

section
variable {F : Fr} {clk : Clk} {C : Cfg} {d : Nat} {a : Act} {w : World} {P : Program} {es : List (Nat × Ent)} {is : List I} {o : Oper}
  {K : Act → World → Prop} {Q' : Exit → Act → World → Prop} {D : Nat → List Dyn → Option (List Dyn)} {env' : Env}

theorem callOp_sound {ann : Ann} {f : Nat} {args : List Operand} {extra : Option Operand} (hr : (callOp C d ann f args extra).run F.G = some (es, is)) (h : Here F clk C es a w)
    (hD : ∀ i s, C.sigs i = some s → Keeps P s (D i)) (henv : I.dens D F.env is = some env')
    {xv : List Value} (hx : match extra with | none => xv = [] | some x => a.eval x = .func (.func f) #[] xv.toArray)
    (hrun : (execOp a.eval o).run P w = .ok (.enter f (args.map a.eval ++ xv).toArray) w) (hdst : o.dst = some d) (hK : OpPost F clk C es env' w K) : o.wp P a w K Q' := by
  obtain ⟨s, As, css, hall, co⟩ := callOp_run h hr hx
  rw [co.is_eq] at henv
  simp only [I.dens, I.den] at henv
  cases hl : argsD F.env (As.flatMap Arg.data) with
  | none => rw [hl] at henv; simp at henv
  | some l =>
  rw [hl] at henv
  simp only at henv
  cases hDr : D ann.spec l with
  | none => rw [hDr] at henv; simp at henv
  | some r =>
  rw [hDr] at henv
  simp only at henv
  cases hout : F.env.outs (resKeys d 0 s.rs ++ As.flatMap (·.outs)) r with
  | none => rw [hout] at henv; simp at henv
  | some env1 =>
  rw [hout] at henv
  simp only at henv
  obtain ⟨F0, hentry, htmps, hlab, hcells⟩ := entry_ok (ver := C.ver) (d0 := d) h hall co.fits co.nodup co.looked co.seen hl
  unfold Oper.wp
  rw [hrun, Oper.upon_enter, hdst]
  have hcall := hD ann.spec s co.sig F0 w l r hentry hDr
  rw [co.f_eq, htmps] at hcall
  refine hcall.mono ?_
  rintro e w' ⟨V, lab', rfl, g⟩
  show K (a.put (some d) V) w'
  have X : CC F C d ann f s As es is _ css F0 w r V w' lab' := ⟨hall, co, htmps, hlab, by rw [hentry.H, h.rel.H], hcells, g, h.rel.H, h.st.labs⟩
  let F' : Fr := { tmps := F.tmps.setIfInBounds d V, H := w'.heap, lab := L1 F As d lab', env := env', G := F.G.sets es, org := F.org }
  have p := co.gen
  have hsize : F.H.size ≤ w'.heap.size := by rw [h.rel.H]; exact g.size
  have hvd : F'.val d = V := by
    have : d < F.tmps.size := by rw [h.rel.size]; exact p.nt
    simp [Fr.val, F', Array.getElem?_setIfInBounds, this]
  have hvs : ∀ s', s' ≠ d → F'.val s' = F.val s' := by
    intro s' hs
    simp [Fr.val, F', Array.getElem?_setIfInBounds, Ne.symm hs]
  refine hK F' _ w' ⟨by show F.tmps.setIfInBounds d V = _; rw [h.rel.tmps]; rfl, rfl, h.rel.calm, by show (F.tmps.setIfInBounds d V).size = _; simp [h.rel.size]⟩ rfl rfl
    ⟨g.os, g.tape, g.output, hsize, fun b ob hb hl => ?_, fun b ob hb hl => ?_, rfl⟩ ?_
  · have := X.shr hb (by rw [hl]; trivial); exact ⟨this.1, this.2.trans hl⟩
  · have := X.frn hb hl; exact ⟨this.1, this.2.trans hl⟩
  obtain ⟨l1, l2, l3, hget⟩ := X.get
  obtain ⟨post1, post2, post3, post4⟩ := X.post henv
  obtain ⟨r1, r2, e1, hr12, hlen1, hout1, hout2⟩ := outs_split hout
  obtain ⟨rs, ls, cs, hrs, hrst, hhas, hres, hreslen, hbacks⟩ := g.res
  have hrl : r1.length = rs.length := by
    rw [hlen1, resKeys_len]
    have := congrArg List.length hrst
    simpa using this.symm
  obtain ⟨rfl, rfl⟩ := List.append_inj (hr12.symm.trans hrs) hrl
  obtain ⟨_, hlents⟩ := backs_get hall hbacks
  -- keys
  have hncells : (s.rs.map fun r => r.1.n).foldr (· + ·) 0 = (resLeaves s.rs).length := by
    rw [← resKind_cells, ← hhas.cells, ← hreslen]
    simp [resLeaves]
  have hreslv : resLeaves s.rs = (s.rs.flatMap (·.2)).map resLeaf := by
    simp only [resLeaves]
    rw [List.map_flatMap]
  have hsk : ∀ s', s' ≠ d → sk s' ∉ keysOf es := by
    intro s' hs hk
    rw [p.keys] at hk
    rcases hk with hk | ⟨i, hi, he⟩ | hk | ⟨i, hi, he⟩
    · have := p.no15 _ hk; unfold sk at this; omega
    · have := p.old; by_cases hi15 : i = 15
      · omega
      · exact lk_sk (by omega) he.symm
    · exact hs (sk_inj.1 hk)
    · have := p.len; exact lk_sk (by omega) he.symm
  have hpre_es : ∀ k, k ∈ keysOf (goneOf C.ver (As.flatMap Arg.taken) (As.flatMap (·.ents)) ++ As.flatMap (·.ents)) → k ∈ keysOf es := by
    intro k hk
    rw [p.keys]
    left
    rw [keysOf_append, List.mem_append]
    exact .inl hk
  have hents_es : ∀ k, k ∈ keysOf (As.flatMap (·.ents)) → k ∈ keysOf es := by
    intro k hk
    apply hpre_es
    rw [keysOf_append, List.mem_append]
    exact .inr hk
  have hscr : ∀ k, k = lk d 12 ∨ k = lk d 13 → k ∈ keysOf es := by
    intro k hk
    rw [p.keys]
    left
    rw [keysOf_append, List.mem_append]
    right
    rcases hk with rfl | rfl <;> simp [keysOf]
  have hresk : ∀ k, k ∈ (resKeys d 0 s.rs).flatten → ∃ i, i < (resLeaves s.rs).length ∧ k = lk d i := by
    intro k hk
    rw [resKeys_flat, hncells] at hk
    obtain ⟨i, hi, rfl⟩ := List.mem_iff_getElem.1 hk
    rw [ks_len] at hi
    exact ⟨i, hi, by rw [ks_get]; simp⟩
  have hkeep1 : ∀ k, k ∉ (As.flatMap (·.outs)).flatten → k ∉ (resKeys d 0 s.rs).flatten → env1 k = F.env k := by
    intro k hk1 hk2
    rw [outs_keep hout2 hk1, outs_keep hout1 hk2]
  have hresd : ∀ k, k / 16 ≠ d → k ∉ (resKeys d 0 s.rs).flatten := by
    intro k hk hm
    obtain ⟨i, hi, rfl⟩ := hresk k hm
    have := p.len
    exact hk (lk_div (by omega))
  have hlent := co.lent
  simp only [lentOk, Bool.and_eq_true] at hlent
  obtain ⟨⟨hnd, _⟩, hboxes⟩ := hlent
  have hcount : ∀ k, k ≠ lk d 13 → ((As.flatMap (·.outs)).flatten).count k ≤ 1 := by
    intro k hk
    exact count_le_one_of_filter (nodupB_nodup hnd) (by simpa using hk)
  -- a datum that comes back at a lent leaf
  have hdatum : ∀ (t : Nat) (O : List Nat) (y : Dyn) (j k : Nat) (z : Dyn), (As.flatMap (·.outs))[t]? = some O → r2[t]? = some y → O[j]? = some k → y.leaves[j]? = some z → k ≠ lk d 13 → env1 k = z := by
    intro t O y j k z h1 h2 h3 h4 h5
    obtain ⟨y', z', g1, g2, g3⟩ := outs_get hout2 h1 h3 (hcount k h5)
    rw [h2] at g1
    obtain rfl := Option.some.inj g1
    rw [h4] at g2
    obtain rfl := Option.some.inj g2
    exact g3
  have hmemO : ∀ (t : Nat) (O : List Nat) (j k : Nat), (As.flatMap (·.outs))[t]? = some O → O[j]? = some k → k ∈ (As.flatMap (·.outs)).flatten := by
    intro t O j k h1 h2
    exact List.mem_flatten.2 ⟨O, List.mem_of_getElem? h1, List.mem_of_getElem? h2⟩
  have htouch_env : ∀ k, k ∉ keysOf es → env' k = F.env k := by
    intro k hk
    rw [post3 k fun q hq i off m hm => ?_]
    · refine hkeep1 k (fun hm => ?_) (fun hm => ?_)
      · rcases outs_in_all hall k hm with h1 | h1
        · exact hk (hents_es k h1)
        · exact hk (hscr k h1)
      · obtain ⟨i, hi, rfl⟩ := hresk k hm
        exact hk ((p.keys _).2 (.inr (.inr (.inr ⟨i, hi, rfl⟩))))
    · obtain ⟨hOk, _⟩ := hget q (by omega) hq (by omega) (by omega)
      have hkm : k ∈ As[q].las.flatMap LA.taken := List.mem_flatMap.2 ⟨_, hm, by simp [LA.taken]⟩
      have := las_lt hOk k hkm
      exact hk (hpre_es k (taken_pre (List.mem_flatMap.2 ⟨_, List.getElem_mem hq, List.mem_append.2 (.inr hkm)⟩) (by omega)))
  refine p.state h.st h.ver h.ch h.chD h.chC rfl htouch_env rfl hvs (fun b ob hb hl => ?_) (fun b ob hb hl => ?_) (fun b ob k q hb hl hk15 hk => ?_) (fun s' b c ty hs hv hl hb => ?_) (fun b hb => ?_) ?_ ?_ ?_ ?_ ?_
  · have := X.shr hb hl; exact ⟨this.1, by show (L1 F As d lab' b).shared; rw [this.2]; exact hl⟩
  · have := X.frn hb hl; exact ⟨this.1, this.2.trans hl⟩
  · have := X.own hb hl fun hm => hk (hpre_es k (taken_pre hm hk15)); exact ⟨this.1, this.2.trans hl⟩
  · by_cases hm : sk s' ∈ As.flatMap Arg.taken
    · obtain ⟨q, hq, hbx⟩ := X.box_of hm
      obtain ⟨hOk, hB⟩ := hget q (by omega) hq (by omega) (by omega)
      obtain ⟨τ, ms, hp⟩ := box_kind hbx hB
      obtain ⟨t, y, O, _, _, _, hbk⟩ := hlents q (by omega) hq (by rw [hp]; rfl)
      rw [hp, Nat.zero_add] at hbk
      obtain ⟨hmn, b', c0, c', ty', g1, g2, g3, g4, g5, g6, _⟩ := X.box (by omega) hq hp hbk hbx
      rw [hv] at g1
      simp at g1
      subst g1
      rw [hb] at g2
      simp at g2
      obtain ⟨rfl, rfl⟩ := g2
      refine ⟨c', g3, g4, g5, fun j hj => ?_⟩
      by_cases hjm : j < ms.length
      · exfalso
        apply hj
        apply hents_es
        rw [hp] at hB
        obtain ⟨sb, hb2, _, _, he, _⟩ := hB
        rw [hbx] at hb2
        obtain rfl := Option.some.inj hb2
        refine List.mem_map.2 ⟨(lk s' j, ⟨C.ver, [], resLeaf ms[j]⟩), List.mem_flatMap.2 ⟨_, List.getElem_mem hq, ?_⟩, rfl⟩
        rw [he]
        exact List.mem_map.2 ⟨(ms[j], j), List.mem_zipIdx_iff_getElem?.2 (List.getElem?_eq_getElem hjm), rfl⟩
      · rw [Array.getElem?_eq_none (by omega), Array.getElem?_eq_none (by omega)]
    · have := X.own hb hl hm
      exact ⟨c, this.1, this.2.trans hl, rfl, fun _ _ => rfl⟩
  · show L1 F As d lab' b = .imm
    have hb' : F.H.size ≤ b := Nat.le_trans hsize hb
    unfold L1
    rw [lab1_new hb' (h.st.labs b hb'), back_imm (g.labs b hb)]
  · match hrs : s.rs with
    | [] => trivial
    | [x] => trivial
    | _ :: _ :: _ => trivial
  · intro e he
    rw [hreslv] at he
    obtain ⟨m, _, rfl⟩ := List.mem_map.1 he
    cases m <;> trivial
  · intro x hx
    rcases List.mem_append.1 hx with hx | hx
    · rcases List.mem_append.1 hx with hx | hx
      · obtain ⟨k, _, hk⟩ := List.mem_filterMap.1 hx
        split at hk
        · cases hk
        · simp at hk; rw [← hk]; trivial
      · exact (back_all hall co.fits x hx).2.2 _
    · simp at hx
      rcases hx with rfl | rfl <;> trivial
  · -- lent leaves
    intro T s' cs' j v hsd hcs hv hk
    have hj15 : j < 15 := by
      have := (List.getElem?_eq_some_iff.1 hv).1; have := hcs.2
      rcases Nat.lt_or_ge j 15 with h | h
      · exact h
      · omega
    have hkd : lk s' j / 16 = s' := lk_div (by omega)
    have hnscr : ∀ i, lk s' j ≠ lk d i ∨ 16 ≤ i := by
      intro i
      rcases Nat.lt_or_ge i 16 with hi | hi
      · left
        intro he
        have := (lk_inj (by omega) (by omega)).1 he
        exact hsd this.1
      · exact .inr hi
    have hn12 : lk s' j ≠ lk d 12 := (hnscr 12).resolve_right (by omega)
    have hn13 : lk s' j ≠ lk d 13 := (hnscr 13).resolve_right (by omega)
    have hGk : F'.G (lk s' j) = (lastOf ((goneOf C.ver (As.flatMap Arg.taken) (As.flatMap (·.ents))) ++ As.flatMap (·.ents)) (lk s' j)).getD (F.G (lk s' j)) := by
      show F.G.sets es (lk s' j) = _
      rw [p.ent_pre (by rw [hkd]; exact hsd), GT.sets_eq, lastOf_append]
      have : lastOf [(lk d 12, (⟨C.ver, [], .no⟩ : Ent)), (lk d 13, ⟨C.ver, [], .no⟩)] (lk s' j) = none := by
        rw [lastOf_none]
        simp [keysOf, hn12, hn13]
      rw [this]
      simp
    have hkeyin : lk s' j ∈ keysOf ((goneOf C.ver (As.flatMap Arg.taken) (As.flatMap (·.ents))) ++ As.flatMap (·.ents)) := by
      rw [keysOf_append, List.mem_append] at hk
      rcases hk with hk | hk
      · exact hk
      · simp [keysOf, hn12, hn13] at hk
    cases hE : lastOf (As.flatMap (·.ents)) (lk s' j) with
    | none =>
      cases hg : lastOf (goneOf C.ver (As.flatMap Arg.taken) (As.flatMap (·.ents))) (lk s' j) with
      | none =>
        exfalso
        have : lastOf ((goneOf C.ver (As.flatMap Arg.taken) (As.flatMap (·.ents))) ++ As.flatMap (·.ents)) (lk s' j) = none := by rw [lastOf_append, hE, hg]; rfl
        exact lastOf_none.1 this hkeyin
      | some e0 =>
        have : F'.G (lk s' j) = e0 := by rw [hGk, lastOf_append, hE, hg]; rfl
        rw [this, gone_no hg]
        trivial
    | some e0 =>
      have hGe : F'.G (lk s' j) = e0 := by rw [hGk, lastOf_append, hE]; rfl
      rw [hGe]
      obtain ⟨A, hA, hxA⟩ := List.mem_flatMap.1 (lastOf_mem hE)
      obtain ⟨q, hq, rfl⟩ := List.mem_iff_getElem.1 hA
      obtain ⟨hOk, hB⟩ := hget q (by omega) hq (by omega) (by omega)
      have hquiet : As[q].Quiet → False := fun hQ => by rw [hQ.2.2.1] at hxA; simp at hxA
      cases hp : s.ps[q] with
      | v τ => rw [hp] at hB; exact (hquiet hB).elim
      | p τ => rw [hp] at hB; exact (hquiet hB).elim
      | m τ ms => rw [hp] at hB; exact (hquiet hB).elim
      | c f caps => rw [hp] at hB; exact (hquiet hB).elim
      | q τ ms =>
        obtain ⟨t, y, O, hO, hOt, hyt, hbk⟩ := hlents q (by omega) hq (by rw [hp]; rfl)
        rw [hp, Nat.zero_add] at hbk
        rw [hp] at hB
        obtain ⟨sb, hbx, hst, ho, he, _, hlen, hlas⟩ := hB
        rw [he] at hxA
        obtain ⟨⟨m, j2⟩, hm, hme⟩ := List.mem_map.1 hxA
        have hmj := List.mem_zipIdx_iff_getElem?.1 hm
        simp only at hmj
        have hj2 : j2 < ms.length := (List.getElem?_eq_some_iff.1 hmj).1
        have h14 := (X.fits q (by omega) hq).2
        simp only [Prod.mk.injEq] at hme
        obtain ⟨hk1, hk2⟩ := hme
        obtain ⟨rfl, rfl⟩ := (lk_inj (by omega) (by omega)).1 hk1
        subst hk2
        obtain ⟨hmn, b, c0, c', ty', g1, g2, g3, g4, g5, g6, g7⟩ := X.box (by omega) hq hp hbk hbx
        obtain ⟨v1, z, z1, z2, z3⟩ := g7 j2 m hmj
        have hvv : v1 = v := by
          have hH := hcs.1
          have hGs : F'.G (sk sb) = F.G (sk sb) := by show F.G.sets es _ = _; exact GT.sets_ne _ (hsk sb hsd)
          rw [hGs, hst, hvs sb hsd, g1] at hH
          obtain ⟨b2, c2, ty2, e1, _, e3, e4, _⟩ := hH
          simp at e1
          subst e1
          have e3 : w'.heap[b]? = some (.cells c2 ty2 (0, 0)) := e3
          rw [g3] at e3
          simp at e3
          rw [e4, ← e3.1] at hv
          have hv' : c'[j2]? = some v := by simpa using hv
          rw [z1] at hv'
          exact Option.some.inj hv'
        subst hvv
        rw [ho] at hO
        simp only [List.cons.injEq, and_true] at hO
        have hOj : O[j2]? = some (lk sb j2) := by rw [← hO, List.getElem?_map, List.getElem?_range hj2]; rfl
        have hz : F'.env (lk sb j2) = z := by
          show env' (lk sb j2) = z
          rw [post1 _ (by rw [hkd]; exact hsd) (hmemO t O j2 _ hOt hOj)]
          exact hdatum t O y j2 _ z hOt hyt hOj z2 hn13
        cases m with
        | none =>
          simp only [resLeaf, LeafOk]
          rw [hz]
          exact z3
        | some m =>
          simp only [resLeaf, LeafOk]
          rw [hz]
          exact ⟨z3, fun p hp => by cases hp⟩
      | io τ ms =>
        obtain ⟨t, y, O, hO, hOt, hyt, hbk⟩ := hlents q (by omega) hq (by rw [hp]; rfl)
        rw [hp, Nat.zero_add] at hbk
        have hB0 := hB
        rw [hp] at hB
        obtain ⟨hbx, rl, L, hlas, ho, he, hpo, hlen⟩ := hB
        rw [ho] at hO
        simp only [List.cons.injEq, and_true] at hO
        rw [he] at hxA
        -- the slot's cells are as they were
        have hcellsame : ∀ (mem : ∃ la ∈ As[q].las, lk s' j ∈ la.taken), ∀ cs, F.has s' cs → cs[j]? = cs'[j]? := by
          rintro ⟨la, hla, hlak⟩
          have hnb : sk s' ∉ As.flatMap Arg.taken := by
            intro hm
            obtain ⟨q2, hq2, hbx2⟩ := X.box_of hm
            have h1 := List.all_eq_true.1 hboxes _ hA
            have h2 := List.all_eq_true.1 h1 la hla
            have h3 := List.all_eq_true.1 h2 _ hlak
            have h4 := List.all_eq_true.1 h3 _ (List.getElem_mem hq2)
            rw [hkd, hbx2, hbx] at h4
            simp at h4
          refine cells_of_touch T (hsk s' hsd) hcs ?_
          intro b c c' ty hv1 hl1 hb1 hb2
          have hb2 : w'.heap[b]? = some (.cells c' ty (0, 0)) := hb2
          rw [(X.own hb1 hl1 hnb).1] at hb2
          simp at hb2
          rw [hb2]
        have hcell : ∀ (mem : ∃ la ∈ As[q].las, lk s' j ∈ la.taken) (v1 : Value), F.cell (lk s' j) v1 → v1 = v := by
          rintro mem v1 ⟨cs1, hh1, hv1⟩
          rw [hkd] at hh1
          rw [lk_mod (by omega), hcellsame mem cs1 hh1, hv] at hv1
          exact (Option.some.inj hv1).symm
        rcases L.ents _ hxA with ⟨m, org, h1, h2, h3⟩ | ⟨i, off, m, mk, org, h1, h2, h3⟩
        · simp only at h1 h2 h3
          rw [← hlas] at h1
          obtain ⟨jj, hjj, hje⟩ := List.mem_iff_getElem.1 h1
          have hla : As[q].las[jj]? = some (.tk (lk s' j) m) := by rw [List.getElem?_eq_getElem hjj, hje]
          obtain ⟨v1, z, y0, hlf, hz1, hz2⟩ := X.io (by omega) hq hp hbk hla (p := [lk s' j]) (.inl ⟨rfl, rfl⟩)
          have hvv := hcell ⟨_, h1, by simp [LA.taken]⟩ v1 hlf.1
          subst hvv
          have hjl : jj < rl.las.length := by rw [← hlas]; exact hjj
          have hat := L.at_ jj hjl (by rw [L.outs]; exact hjl)
          have hla' : rl.las[jj] = .tk (lk s' j) m := by
            have := hla
            rw [hlas, List.getElem?_eq_getElem hjl] at this
            exact Option.some.inj this
          rw [hla'] at hat
          have hOj : O[jj]? = some (lk s' j) := by rw [← hO, List.getElem?_eq_getElem (by rw [L.outs]; exact hjl), hat.1]
          have hz : F'.env (lk s' j) = z := by
            show env' (lk s' j) = z
            rw [post1 _ (by rw [hkd]; exact hsd) (hmemO t O jj _ hOt hOj)]
            exact hdatum t O y jj _ z hOt hyt hOj hz1 hn13
          subst h3
          simp only [LeafOk]
          rw [hz]
          exact ⟨hz2, fun p hp => hlf.2.2 m p (by rw [h2, hp])⟩
        · simp only at h1 h2 h3
          rw [← hlas] at h1
          obtain ⟨jj, hjj, hje⟩ := List.mem_iff_getElem.1 h1
          have hla : As[q].las[jj]? = some (.te (lk s' j) i off m) := by rw [List.getElem?_eq_getElem hjj, hje]
          obtain ⟨v1, z, y0, hlf, hz1, hz2⟩ := X.io (by omega) hq hp hbk hla (p := lk s' j :: tePath F.env (lk s' j) i off) (.inr ⟨i, off, rfl, rfl⟩)
          obtain ⟨mk', org', V1, f1, f2, E, f3, f4, f5⟩ := hlf
          rw [h2] at f1
          simp only [ES.ro.injEq] at f1
          obtain ⟨rfl, rfl⟩ := f1
          have hv0 := E.at_
          obtain ⟨o0, len0, cap0, xs0, hc0, _⟩ := hv0
          have hvv := hcell ⟨_, h1, by simp [LA.taken]⟩ _ hc0
          have hok := f5 _ hc0
          rw [h2] at hok
          rw [hvv] at hok hc0
          have hjl : jj < rl.las.length := by rw [← hlas]; exact hjj
          have hat := L.at_ jj hjl (by rw [L.outs]; exact hjl)
          have hla' : rl.las[jj] = .te (lk s' j) i off m := by
            have := hla
            rw [hlas, List.getElem?_eq_getElem hjl] at this
            exact Option.some.inj this
          rw [hla'] at hat
          have hOj : O[jj]? = some (lk d 12) := by rw [← hO, List.getElem?_eq_getElem (by rw [L.outs]; exact hjl), hat]
          have hz12 : env1 (lk d 12) = z := hdatum t O y jj _ z hOt hyt hOj hz1 (by intro he; have := (lk_inj (by omega) (by omega)).1 he; omega)
          obtain ⟨t0, Y, y1, y2, y3, y4, y5, y6⟩ := post4 q hq (lk s' j) i off m h1
          rw [hz12, hkeep1 _ y5 (hresd _ y3), hkeep1 _ y6 (hresd _ y4)] at y1
          have hnotprs : ∀ (b : Nat) (ob : Obj) (q2 : List Nat), F.H[b]? = some ob → F.lab b = .own (lk s' j :: q2) → ¬ tePath F.env (lk s' j) i off <+: q2 → w'.heap[b]? = some ob ∧ L1 F As d lab' b = .own (lk s' j :: q2) := by
            intro b ob q2 hb hlb hnp
            have hmem : (lk q jj, LA.te (lk s' j) i off m) ∈ handed 0 As := by
              have := (mem_handed (As := As) (i0 := 0) (q := q) (List.getElem?_eq_getElem hq)).1 jj _ hla
              simpa using this
            have := X.kept hb (lab0_free hlb (by
              rw [inLab_te X.nd hmem, if_neg]
              rw [List.isPrefixOf_iff_prefix]
              exact hnp))
            exact ⟨this.1, this.2.trans hlb⟩
          subst h3
          simp only [LeafOk]
          have hFe : F'.env (lk s' j) = Y := y2
          rw [hFe]
          have hoff : off < E.e.n := by have := (List.getElem?_eq_some_iff.1 f4).1; rw [flat_length] at this; exact this
          refine ⟨te_back (H' := w'.heap) (lab' := L1 F As d lab') E f3 f4 f2 hc0 hok.1 ?_ ?_ (fun b ob q2 => hnotprs b ob q2) hz2 y1, hok.2⟩
          · exact hnotprs E.b _ [] E.heap E.lab (by rw [te_path E hoff]; simp)
          · intro b ob hb hlb
            have := X.shr hb hlb
            exact ⟨this.1, by rw [this.2]; exact hlb⟩
  · intro T
    rw [claim_leafy (resKind_leafy _)]
    have hcl : cs.length = (resLeaves s.rs).length := by rw [← hreslen]; simp [resLeaves]
    have hlen14 := p.len
    refine ⟨cs, ⟨?_, by omega⟩, fun j v hv => ?_⟩
    · show Has F'.H F'.lab d (F.G.sets es (sk d)).st (F'.val d) cs
      rw [p.ent_sk, hvd]
      exact resKind_has hhas
    · have hj : j < cs.length := (List.getElem?_eq_some_iff.1 hv).1
      have hjm : (s.rs.flatMap (·.2))[j]? = some ((s.rs.flatMap (·.2))[j]'(by omega)) := List.getElem?_eq_getElem (by omega)
      obtain ⟨z, z1, z2⟩ := hres j _ v hjm hv
      have z1 : (r1.flatMap Dyn.leaves)[j]? = some z := z1
      have hst : F'.G (lk d j) = ⟨C.ver, [], resLeaf ((s.rs.flatMap (·.2))[j]'(by omega))⟩ := by
        show F.G.sets es (lk d j) = _
        rw [p.ent_lk (by omega)]
        congr 1
        simp only [hreslv, List.getElem_map]
      have hz : F'.env (lk d j) = z := by
        show env' (lk d j) = z
        rw [post2 j (by omega), outs_keep hout2 ?_]
        · -- among the results
          have hp2 := (outs_puts hout1).2.1
          rw [resKeys_flat, hncells] at hp2
          have hget2 := puts_get hp2
          have hj1 : j < (ks d 0 (resLeaves s.rs).length).length := by rw [ks_len]; omega
          have hlz : (r1.flatMap Dyn.leaves)[j]? = some z := z1
          have hj2 : j < (r1.flatMap Dyn.leaves).length := (List.getElem?_eq_some_iff.1 hlz).1
          have := hget2.2 j hj1 hj2 (fun j2 hj2 hlt => by
            rw [ks_get, ks_get]
            intro he
            rw [ks_len] at hj1 hj2
            have := (lk_inj (by omega) (by omega)).1 he
            omega)
          rw [ks_get] at this
          simp only [Nat.zero_add] at this
          rw [this]
          rw [List.getElem?_eq_getElem hj2] at hlz
          exact Option.some.inj hlz
        · intro hm
          rcases co.room with hroom | hroom
          · rcases outs_in_all hall _ hm with h1 | h1
            · obtain ⟨x, hx, hx2⟩ := List.mem_map.1 h1
              obtain ⟨A, hA, hxA⟩ := List.mem_flatMap.1 hx
              obtain ⟨q, hq, rfl⟩ := List.mem_iff_getElem.1 hA
              obtain ⟨hOk, hB⟩ := hget q (by omega) hq (by omega) (by omega)
              have h14 := (X.fits q (by omega) hq).2
              rcases ents_taken h14 hB x.1 (List.mem_map.2 ⟨x, hxA, rfl⟩) with h2 | ⟨sb, h2, h3⟩
              · refine co.apart _ (List.mem_flatMap.2 ⟨_, hA, List.mem_append.2 (.inr h2)⟩) ?_
                rw [hx2, lk_div (by omega)]
              · refine co.apart (sk sb) (List.mem_flatMap.2 ⟨_, hA, List.mem_append.2 (.inl (by rw [h2]; simp))⟩) ?_
                rw [sk_div, ← h3, hx2, lk_div (by omega)]
            · rcases h1 with h1 | h1 <;> (have := (lk_inj (by omega) (by omega)).1 h1; omega)
          · rw [hroom] at hm; simp at hm
      rw [hst]
      have hdeep : As.flatMap Arg.looked = [] ∨ (∀ x ∈ s.rs, leafOwn x.1.leaves x.2 = true) := X.deep.imp id fun h => h.1
      show LeafOk F' (lk d j) (resLeaf _) v
      cases hm : (s.rs.flatMap (·.2))[j]'(by omega) with
      | none =>
        rw [hm] at z2 hjm
        simp only [resLeaf, LeafOk]
        rw [hz]
        refine X.back.shr ?_ z2
        rcases hdeep with h1 | h1
        · exact .inl h1
        · right
          have h3 : ((r1.flatMap Dyn.leaves).map Dyn.τ)[j]? = some z.τ := by rw [List.getElem?_map, z1]; rfl
          rw [leaves_tys hrst] at h3
          exact leafOwn_get (leafOwn_all h1) j _ _ h3 hjm
      | some m =>
        rw [hm] at z2 hjm
        simp only [resLeaf, LeafOk]
        rw [hz]
        refine ⟨X.back.leaf (kc := lk rb j) (p := [lk d j]) (fun q b hb => back_res (by omega) hb) ?_ z2, fun p hp => by cases hp⟩
        rcases hdeep with h1 | h1
        · exact .inl h1
        · right
          obtain ⟨t, ht⟩ : ∃ t, (s.rs.flatMap fun x => x.1.leaves)[j]? = some t := by
            rw [← leaves_tys hrst, List.getElem?_map, z1]
            exact ⟨_, rfl⟩
          exact leafOwn_get (leafOwn_all h1) j _ _ ht hjm

end
end Go.Lf

/- Soundness: calls by name or by value, and every operation. -/
namespace Go.Lf

/-- A function with a body: a call of it enters it. -/
def Enters (P : Program) (f : FuncId) : Prop := ∃ fn, P.funcs[f]? = some fn ∧ (fn.name == "runtime.NumGoroutine") = false ∧ fn.body.isNone = false

/-- What is known of the functions that may be called. -/
structure Callee (P : Program) (s : Sig) (D : List Dyn → Option (List Dyn)) : Prop where
  keeps : Keeps P s D
  enters : Enters P s.f

section
variable {F : Fr} {clk : Clk} {C : Cfg} {d : Nat} {a : Act} {w : World} {P : Program} {es : List (Nat × Ent)} {is : List I} {o : Oper}
  {K : Act → World → Prop} {Q' : Exit → Act → World → Prop} {D : Nat → List Dyn → Option (List Dyn)} {env' : Env}

theorem call_run {x : Operand} {f : FuncId} {args : Array Operand} {ats : Array TypeId} {xv : List Value} (hop : o.op = .call { callee := .value x, args, argTypes := ats })
    (hx : a.eval x = .func (.func f) #[] xv.toArray) (he : Enters P f) : (execOp a.eval o).run P w = .ok (.enter f (args.toList.map a.eval ++ xv).toArray) w := by
  obtain ⟨fn, hf, hname, hb⟩ := he
  have h1 : ¬ fn.name = "runtime.NumGoroutine" := by simpa using hname
  have h2 : ¬ fn.body = none := by cases hx : fn.body <;> simp_all
  have h3 : (args.toList.map a.eval ++ xv).toArray = args.map a.eval ++ xv.toArray := by
    apply Array.ext'
    simp
  unfold execOp
  simp [hop, resolve, Deferred.ofValue, invoke, callFunc, hf, h1, h2, hx, h3]

theorem callOp_ok {ann : Ann} {f : FuncId} {args : Array Operand} {ats : Array TypeId} {x : Operand} {extra : Option Operand} (hr : (callOp C d ann f args.toList extra).run F.G = some (es, is)) (h : Here F clk C es a w)
    (hD : ∀ i s, C.sigs i = some s → Callee P s (D i)) (henv : I.dens D F.env is = some env') {xv : List Value} (hx : match extra with | none => xv = [] | some x => a.eval x = .func (.func f) #[] xv.toArray)
    (hxx : a.eval x = .func (.func f) #[] xv.toArray) (hop : o.op = .call { callee := .value x, args, argTypes := ats }) (hdst : o.dst = some d) (hK : OpPost F clk C es env' w K) : o.wp P a w K Q' := by
  have he : Enters P f := by
    have hr' := hr
    simp only [callOp, Q.run_bind', Q.run_ofOption] at hr'
    cases hs : C.sigs ann.spec with
    | none => rw [hs] at hr'; simp at hr'
    | some s =>
      rw [hs] at hr'
      simp only [Option.bind_some, Q.run_guard] at hr'
      split at hr'
      case isFalse => simp at hr'
      rename_i hf
      have hf : s.f = f := by simpa using hf
      have := (hD _ _ hs).enters
      rwa [hf] at this
  refine callOp_sound (xv := xv) hr h (fun i s hs => (hD i s hs).keeps) henv ?_ (call_run hop hxx he) hdst hK
  cases extra <;> exact hx

theorem compCall_sound {ann : Ann} {c : Call} (hr : (compCall C ann d c).run F.G = some (es, is)) (h : Here F clk C es a w) (hD : ∀ i s, C.sigs i = some s → Callee P s (D i))
    (henv : I.dens D F.env is = some env') (hP : C.P = P) (hop : o.op = .call c) (hdst : o.dst = some d) (hK : OpPost F clk C es env' w K) : o.wp P a w K Q' := by
  obtain ⟨callee, args, ats⟩ := c
  unfold compCall at hr
  cases callee with
  | invoke r n => simp [Q.run] at hr
  | value x =>
    cases x with
    | func f => exact callOp_ok hr h hD henv (x := .func f) (xv := []) rfl rfl hop hdst hK
    | tmp s =>
      simp only [Q.run_bind'] at hr
      cases hs : (slotK C.ch s).run F.G with
      | none => rw [hs] at hr; simp at hr
      | some e =>
        rw [hs] at hr
        obtain ⟨rfl, hcl⟩ := h.st.slot h.ch hs
        simp only [Option.bind_some] at hr
        cases hst : (F.G (sk s)).st <;> rw [hst] at hr hcl <;> simp only [Q.run, reduceCtorEq] at hr
        case cl f caps =>
          obtain ⟨ps, hv, _⟩ := hcl
          have hx : a.eval (.tmp s) = .func (.func f) #[] ps.toArray := by rw [h.rel.val]; exact hv
          exact callOp_ok hr h hD henv (x := .tmp s) (xv := ps) hx hx hop hdst hK
        case cp f ns =>
          rw [claim_leafy rfl] at hcl
          obtain ⟨cs, hh, _⟩ := hcl
          have hH := hh.1
          rw [hst] at hH
          obtain ⟨ps, hv, _⟩ := hH
          have hx : a.eval (.tmp s) = .func (.func f) #[] ps.toArray := by rw [h.rel.val]; exact hv
          exact callOp_ok hr h hD henv (x := .tmp s) (xv := ps) hx hx hop hdst hK
    | _ => simp [Q.run] at hr
  | builtin b =>
    cases b <;> simp only [Q.run, reduceCtorEq] at hr
    case len =>
      match ha : args.toList, ht : ats.toList with
      | [x], t :: ts =>
        rw [ha, ht] at hr
        have ha' : args = #[x] := by rw [← Array.toArray_toList (xs := args), ha]
        have ht' : ats = (t :: ts).toArray := by rw [← Array.toArray_toList (xs := ats), ht]
        subst ha'; subst ht'
        exact compLen_sound hr h henv hP hop hdst hK
      | [], _ => rw [ha] at hr; simp [Q.run] at hr
      | _ :: _ :: _, _ => rw [ha] at hr; simp [Q.run] at hr
      | [x], [] => rw [ha, ht] at hr; simp [Q.run] at hr
    case max =>
      match ha : args.toList with
      | [x, y] =>
        rw [ha] at hr
        have ha' : args = #[x, y] := by rw [← Array.toArray_toList (xs := args), ha]
        subst ha'
        exact compMnx_sound (big := true) hr h henv hop hdst hK
      | [] => rw [ha] at hr; simp [Q.run] at hr
      | [_] => rw [ha] at hr; simp [Q.run] at hr
      | _ :: _ :: _ :: _ => rw [ha] at hr; simp [Q.run] at hr
    case min =>
      match ha : args.toList with
      | [x, y] =>
        rw [ha] at hr
        have ha' : args = #[x, y] := by rw [← Array.toArray_toList (xs := args), ha]
        subst ha'
        exact compMnx_sound (big := false) hr h henv hop hdst hK
      | [] => rw [ha] at hr; simp [Q.run] at hr
      | [_] => rw [ha] at hr; simp [Q.run] at hr
      | _ :: _ :: _ :: _ => rw [ha] at hr; simp [Q.run] at hr
    case append =>
      match ha : args.toList, ht : ats.toList with
      | [x, y], [t, t2] =>
        rw [ha, ht] at hr
        simp only at hr
        split at hr
        case isFalse => simp [Q.run] at hr
        rename_i h2
        subst h2
        have ha' : args = #[x, y] := by rw [← Array.toArray_toList (xs := args), ha]
        have ht' : ats = #[t2, t2] := by rw [← Array.toArray_toList (xs := ats), ht]
        subst ha'; subst ht'
        exact compAppend_sound hr h henv hP hop hdst hK
      | [], _ => rw [ha] at hr; simp [Q.run] at hr
      | [_], _ => rw [ha] at hr; simp [Q.run] at hr
      | _ :: _ :: _ :: _, _ => rw [ha] at hr; simp [Q.run] at hr
      | [_, _], [] => rw [ha, ht] at hr; simp [Q.run] at hr
      | [_, _], [_] => rw [ha, ht] at hr; simp [Q.run] at hr
      | [_, _], _ :: _ :: _ :: _ => rw [ha, ht] at hr; simp [Q.run] at hr

/-- EVERY OPERATION. -/
theorem compOp_sound {ann : Ann} (hr : (compOp C ann o).run F.G = some (es, is)) (h : Here F clk C es a w) (hD : ∀ i s, C.sigs i = some s → Callee P s (D i))
    (henv : I.dens D F.env is = some env') (hP : C.P = P) (hK : OpPost F clk C es env' w K) : o.wp P a w K Q' := by
  unfold compOp at hr
  cases hd : o.dst with
  | none =>
    rw [hd] at hr
    cases hop : o.op <;> rw [hop] at hr <;> simp only [Q.run, reduceCtorEq] at hr
    exact compStore_sound hr h henv hP hop hd hK
  | some d =>
    rw [hd] at hr
    cases hop : o.op <;> rw [hop] at hr <;> simp only [Q.run, reduceCtorEq] at hr
    case move x => exact compMove_sound hr h henv (.inl hop) hd hK
    case assign x => exact compMove_sound hr h henv (.inr hop) hd hK
    case pick c x y => exact compPick_sound hr h henv hop hd hK
    case alloc t => exact compAlloc_sound hr h henv hP hop hd hK
    case box t x => exact compBox_sound hr h henv hop hd hK
    case build t ps => exact compBuild_sound hr h henv hP hop hd hK
    case buildSlice t n ps => exact compBuildSlice_sound hr h henv hP hop hd hK
    case load t x => exact compLoad_sound hr h henv hP hop hd hK
    case nilCheck x => exact compNil_sound hr h henv hop hd hK
    case binOp op t x y yt => exact compBin_sound hr h henv hP hop hd hK
    case unOp op t x => exact compUn_sound hr h henv hop hd hK
    case convert s t x => exact compConv_sound hr h henv hP hop hd hK
    case makeFunc fn first caps => exact compMakeFunc_sound hr h henv hop hd hK
    case makeSlice t n c => exact compMake_sound hr h henv hP hop hd hK
    case slice t x lo hi mx => exact compSlice_sound hr h henv hP hop hd hK
    case fieldAddr t x f => exact compFieldAddr_sound hr h henv hP hop hd hK
    case field t x f => exact compField_sound hr h henv hP hop hd hK
    case indexAddr t x i => exact compIndexAddr_sound hr h henv hP hop hd hK
    case extract x j => exact compExtract_sound hr h henv hop hd hK
    case call c => exact compCall_sound hr h hD henv hP hop hd hK

end
end Go.Lf

/- Soundness: slices that are shared from now on; an operation with this behind it. -/
namespace Go.Lf

/-- The labels when slices are shared from now on. -/
def wlab (w : List (Nat × Bool)) (lab : Nat → Lab) (b : Nat) : Lab :=
  match lab b with
  | .own (k :: q) =>
    match w.lookup k with
    | some true => .imm
    | some false => if q = [] then .own [k] else .imm
    | none => .own (k :: q)
  | l => l

theorem Rd.shareWk {H H' : Array Obj} {lab lab' : Nat → Lab} : ∀ {m : M} {p p' : List Nat} {cs : List Value} {τ : Ty} {x : τ.T},
    Share H H' lab lab' p → Rd H lab m p cs τ x → Rd H' lab' m.wk p' cs τ x := by
  intro m
  induction m with
  | sc => intro p p' cs τ x _ h; cases τ <;> simp [Rd, M.wk] at h ⊢ <;> exact h
  | pair ma mb iha ihb =>
    intro p p' cs τ x hc h
    cases τ <;> simp [Rd, M.wk] at h ⊢
    exact ⟨iha (hc.deeper _) h.1, ihb (hc.deeper _) h.2⟩
  | sl md m ih =>
    intro p p' cs τ x hc h
    cases τ <;> simp only [Rd, M.wk] at h ⊢
    case slice e =>
      obtain ⟨ad, cap, rfl, h⟩ := h
      refine ⟨ad, cap, rfl, ?_⟩
      cases ad with
      | none => exact h
      | some q =>
        rcases h with h | h
        · exact .inl h
        refine .inr ?_
        obtain ⟨hs, hm, hl, c, ty, fr, hb, hsz, hfr, hel⟩ := h
        have key : H'[q.block]? = some (.cells c ty fr) ∧ (lab' q.block).shared := by
          cases md with
          | own => exact hc.own _ _ [] hb (by simpa [MdOk] using hm)
          | shr => exact hc.shr _ _ hb hm
        exact ⟨hs, key.2, hl, c, ty, fr, key.1, hsz, by simp, fun i hi => ih (hc.deeper _) (hel i hi)⟩

section
variable {F : Fr} {clk : Clk} {C : Cfg} {d : Nat} {a : Act} {w : World} {P : Program} {es : List (Nat × Ent)} {is : List I} {o : Oper}
  {K : Act → World → Prop} {Q' : Exit → Act → World → Prop} {D : Nat → List Dyn → Option (List Dyn)} {env' : Env}

theorem wkEnts_keys {ver : Nat} : ∀ {wk : List (Nat × Bool)} {wes : List (Nat × Ent)}, wkEnts ver es wk = some wes → keysOf wes = wk.map (·.1)
  | [], wes, h => by simp [wkEnts] at h; subst h; rfl
  | (k, all) :: l, wes, h => by
    simp only [wkEnts] at h
    split at h
    case h_2 => simp at h
    split at h
    case h_2 => simp at h
    rename_i r hst hr
    simp only [Option.some.injEq] at h
    subst h
    simp [keysOf] at *
    have := wkEnts_keys hr
    simpa [keysOf] using this

theorem wkEnts_get {ver : Nat} : ∀ {wk : List (Nat × Bool)} {wes : List (Nat × Ent)}, wkEnts ver es wk = some wes → (wk.map (·.1)).Nodup → ∀ k e, lastOf wes k = some e →
    ∃ all m org e0, wk.lookup k = some all ∧ lastOf es k = some e0 ∧ e0.st = .ro m org ∧ e = ⟨ver, [], weakES all (.ro m org)⟩
  | [], wes, h, _, k, e, he => by simp [wkEnts] at h; subst h; simp [lastOf] at he
  | (k0, all) :: l, wes, h, hn, k, e, he => by
    simp only [wkEnts] at h
    split at h
    case h_2 => simp at h
    rename_i e0 he0
    split at h
    case h_2 => simp at h
    rename_i m org r hst hr
    simp only [Option.some.injEq] at h
    subst h
    simp only [List.map_cons, List.nodup_cons] at hn
    simp only [lastOf] at he
    cases hl : lastOf r k with
    | some x =>
      rw [hl] at he
      simp at he
      subst he
      obtain ⟨all', m', org', e0', h1, h2, h3, h4⟩ := wkEnts_get hr hn.2 k x hl
      refine ⟨all', m', org', e0', ?_, h2, h3, h4⟩
      rw [List.lookup_cons]
      have : (k == k0) = false := by
        simp only [beq_eq_false_iff_ne, ne_eq]
        rintro rfl
        apply hn.1
        have := wkEnts_keys hr
        rw [← this]
        exact Classical.not_not.1 fun hh => by rw [lastOf_none.2 hh] at hl; cases hl
      rw [this]; exact h1
    | none =>
      rw [hl] at he
      simp only at he
      split at he
      · rename_i hk
        subst hk
        simp at he
        exact ⟨all, m, org, e0, by simp, he0, hst, he.symm⟩
      · cases he

/-- Nothing runs; slices are shared from now on. -/
theorem weak_state {F1 : Fr} {v : Nat} (h : St F1 clk) (hv : ¬ clk v) {wk : List (Nat × Bool)} {wes : List (Nat × Ent)} (hn : (wk.map (·.1)).Nodup) (h15 : ∀ x ∈ wk, x.1 % 16 < 15)
    (hw : wkEnts v es wk = some wes) (hes : ∀ k e, lastOf es k = some e → F1.G k = e) (hch : ∀ s, ∀ c ∈ (F1.G (sk s)).ch, c.1 ∉ keysOf wes) :
    St { F1 with lab := wlab wk F1.lab, G := F1.G.sets wes } (clk.add v) := by
  have hkeys := wkEnts_keys hw
  have hget := wkEnts_get hw hn
  let F2 : Fr := { F1 with lab := wlab wk F1.lab, G := F1.G.sets wes }
  have hlk : ∀ k, k ∉ keysOf wes → wk.lookup k = none := by
    intro k hk
    rw [hkeys] at hk
    rw [List.lookup_eq_none_iff]
    intro x hx
    have hne : k ≠ x.1 := by rintro rfl; exact hk (List.mem_map.2 ⟨x, hx, rfl⟩)
    simpa using hne
  have hk15 : ∀ k, k ∈ keysOf wes → k % 16 < 15 := by
    intro k hk
    rw [hkeys] at hk
    obtain ⟨x, hx, rfl⟩ := List.mem_map.1 hk
    exact h15 x hx
  have hsk : ∀ s, sk s ∉ keysOf wes := fun s hs => by have := hk15 _ hs; unfold sk at this; omega
  have hG : ∀ k, k ∈ keysOf wes → ∃ all m org, wk.lookup k = some all ∧ (F1.G k).st = .ro m org ∧ F2.G k = ⟨v, [], weakES all (.ro m org)⟩ := by
    intro k hk
    cases hl : lastOf wes k with
    | none => exact absurd hk (lastOf_none.1 hl)
    | some e =>
      obtain ⟨all, m, org, e0, h1, h2, h3, h4⟩ := hget k e hl
      refine ⟨all, m, org, h1, by rw [hes k e0 h2]; exact h3, ?_⟩
      show F1.G.sets wes k = _
      rw [GT.sets_eq, hl, ← h4]; rfl
  have hshr : ∀ (b : Nat) (o : Obj), F1.H[b]? = some o → (F1.lab b).shared → F1.H[b]? = some o ∧ (wlab wk F1.lab b).shared := by
    intro b o ho hl
    refine ⟨ho, ?_⟩
    unfold wlab
    cases hl' : F1.lab b with
    | imm => trivial
    | own p => rw [hl'] at hl; exact hl.elim
  have T : Touch F1 F2 clk (clk.add v) (· ∈ keysOf wes) := {
    le := fun _ h => .inl h
    ent := fun k hk => GT.sets_ne _ hk
    env := fun _ _ => rfl
    org := rfl
    slot := fun s cs hs => absurd hs (hsk s)
    tmp := fun _ _ => rfl
    ver := fun k hk => by obtain ⟨_, _, _, _, _, h3⟩ := hG k hk; rw [h3]; exact hv
    chn := fun s _ => hch s
    shr := hshr
    frn := fun b o ho hl => ⟨ho, by show wlab wk F1.lab b = _; simp [wlab, hl]⟩
    own := fun b o k q ho hl _ hk => ⟨ho, by show wlab wk F1.lab b = _; simp [wlab, hl, hlk k hk]⟩
    box := fun s b c ty _ _ hl hb => ⟨c, hb, by show wlab wk F1.lab b = _; simp [wlab, hl, hlk _ (hsk s)], rfl, fun _ _ => rfl⟩
    old := fun k hk => by
      obtain ⟨all, m, org, _, h2, h3⟩ := hG k hk
      rw [h3]
      refine ⟨?_, .inr rfl⟩
      cases all <;> trivial
    lab := fun b hb => by show wlab wk F1.lab b = _; simp [wlab, h.labs b hb] }
  refine h.touch T fun s _ => ?_
  by_cases hh : holds F1.env (F1.G (sk s)).ch = true
  · refine T.slotLeaf h (hsk s) fun cs' j val hcs hvj hD => ?_
    have hj15 : j < 15 := by
      have := (List.getElem?_eq_some_iff.1 hvj).1; have := hcs.2
      rcases Nat.lt_or_ge j 15 with h | h
      · exact h
      · omega
    have hcell : ∀ cs, F1.has s cs → cs[j]? = cs'[j]? := by
      refine cells_of_touch T (hsk s) hcs ?_
      intro b c c' ty _ _ hb1 hb2
      have hb2 : F1.H[b]? = some (.cells c' ty (0, 0)) := hb2
      rw [hb1] at hb2
      simp at hb2
      rw [hb2]
    have hcl := h.claim hh
    have hlf : LeafOk F1 (lk s j) (F1.G (lk s j)).st val := by
      have hne : cs' ≠ [] := by intro hn; subst hn; simp at hvj
      have hleafy : (F1.G (sk s)).st.leafy = true := by
        have h1 := hcs.1
        rw [T.ent _ (hsk s)] at h1
        cases hst : (F1.G (sk s)).st <;> rw [hst] at h1 <;> simp only [Has] at h1 <;> first | rfl | exact absurd h1 hne
      rw [claim_leafy hleafy] at hcl
      obtain ⟨cs, hh2, hl2⟩ := hcl
      exact hl2 j val (by rw [hcell cs hh2]; exact hvj)
    obtain ⟨all, m, org, h1, h2, h3⟩ := hG _ hD
    rw [h2] at hlf
    have h3' : F2.G (lk s j) = ⟨v, [], weakES all (.ro m org)⟩ := h3
    rw [h3']
    have hsh : Share F1.H F2.H F1.lab F2.lab [lk s j] ∨ all = false := by
      cases all with
      | false => exact .inr rfl
      | true => exact .inl ⟨fun b o q ho hl => ⟨ho, by show (wlab wk F1.lab b).shared; simp [wlab, hl, h1, Lab.shared]⟩, hshr⟩
    cases all with
    | true =>
      have hsh := hsh.resolve_right (by simp)
      simp only [weakES, if_true, LeafOk] at hlf ⊢
      exact hlf.1.share hsh
    | false =>
      simp only [weakES, Bool.false_eq_true, if_false, LeafOk] at hlf ⊢
      refine ⟨?_, hlf.2⟩
      have hR := hlf.1
      show Rd F1.H (wlab wk F1.lab) (.sl .own m.wk) [lk s j] [val] (F1.env (lk s j)).τ (F1.env (lk s j)).v
      revert hR
      generalize F1.env (lk s j) = y
      obtain ⟨τ, x⟩ := y
      intro hR
      cases τ <;> simp only [Rd] at hR ⊢
      obtain ⟨ad, cap, he, hR⟩ := hR
      refine ⟨ad, cap, he, ?_⟩
      cases ad with
      | none => exact hR
      | some q =>
        rcases hR with hR | ⟨g1, g2, g3, c, ty, fr, g4, g5, g6, g7⟩
        · exact .inl hR
        · refine .inr ⟨g1, ?_, g3, c, ty, fr, g4, g5, g6, fun i hi => ?_⟩
          · simp only [MdOk] at g2 ⊢
            simp [wlab, g2, h1]
          · refine (g7 i hi).shareWk ⟨fun b o q2 ho hl => ⟨ho, ?_⟩, hshr⟩
            have hl' : F1.lab b = .own (lk s j :: (i :: q2)) := by simpa using hl
            simp [wlab, hl', h1, Lab.shared]
  · have h0 := h.slots s
    unfold SlotOk at h0 ⊢
    have hG2 : F2.G (sk s) = F1.G (sk s) := T.ent _ (hsk s)
    show (if holds F1.env (F2.G (sk s)).ch = true then Claim F2 s (F2.G (sk s)).st else F1.val s = .tuple #[])
    rw [hG2, if_neg hh]
    rw [if_neg hh] at h0
    exact h0

/-- The clock behind a step. -/
def Clk.step (clk : Clk) (v : Nat) : Clk := (clk.add v).add (v + 1)

def StepPost (F : Fr) (clk : Clk) (C : Cfg) (es : List (Nat × Ent)) (env' : Env) (w : World) (K : Act → World → Prop) : Prop :=
  ∀ (F' : Fr) (a' : Act) (w' : World), Rel F' a' w' C.nt → F'.G = F.G.sets es → F'.env = env' → Ext F w F' w' → St F' (clk.step C.ver) → K a' w'

theorem St.mono {F : Fr} {clk clk' : Clk} (h : St F clk) (hc : ∀ v, clk v → clk' v) : St F clk' :=
  ⟨h.slots, fun k => ES.older_mono hc (h.refs k), fun k => hc _ (h.vers k), h.labs⟩

theorem GT.sets_append (g : GT) (a b : List (Nat × Ent)) : g.sets (a ++ b) = (g.sets a).sets b := by
  induction a generalizing g with
  | nil => rfl
  | cons x a ih => obtain ⟨k, e⟩ := x; simp only [List.cons_append, GT.sets]; exact ih _

/-- A STEP: an operation, and what is shared from now on. -/
theorem compStep_sound {ann : Ann} (hr : (compStep C ann o).run F.G = some (es, is)) (h : Here F clk C es a w) (hv1 : ¬ clk (C.ver + 1)) (hD : ∀ i s, C.sigs i = some s → Callee P s (D i))
    (henv : I.dens D F.env is = some env') (hP : C.P = P) (hK : StepPost F clk C es env' w K) : o.wp P a w K Q' ∧ ∀ x ∈ es, x.2.ch = [] ∨ x.2.ch = C.ch := by
  simp only [compStep, Q.run_bind'] at hr
  cases hc : (compOp C ann o).run F.G with
  | none => rw [hc] at hr; simp at hr
  | some r =>
    obtain ⟨es0, is0⟩ := r
    rw [hc] at hr
    simp only [Option.bind_some, Q.run_guard] at hr
    split at hr
    case isFalse => simp at hr
    rename_i hchs
    simp only [Option.bind_some] at hr
    have hchs : ∀ x ∈ es0, x.2.ch = [] ∨ x.2.ch = C.ch := by
      intro x hx
      have := List.all_eq_true.1 hchs x hx
      simp only [Bool.or_eq_true, List.isEmpty_iff, beq_iff_eq] at this
      exact this
    cases hwk : ann.weak with
    | nil =>
      rw [hwk] at hr
      simp only [Q.run, Option.some.injEq, Prod.mk.injEq] at hr
      obtain ⟨rfl, rfl⟩ := hr
      refine ⟨compOp_sound hc h hD henv hP fun F' a' w' h1 h2 h3 h4 h5 => hK F' a' w' h1 h2 h3 h4 (h5.mono fun v hv => .inl hv), hchs⟩
    | cons x0 wk0 =>
      rw [hwk] at hr
      simp only [Q.run_bind', Q.run_guard] at hr
      split at hr
      case isFalse => simp at hr
      rename_i hg
      simp only [Option.bind_some, Q.run_ofOption] at hr
      cases hw : wkEnts (C.ver + 1) es0 (x0 :: wk0) with
      | none => rw [hw] at hr; simp at hr
      | some wes =>
        rw [hw] at hr
        simp only [Option.bind_some, Q.run, Option.some.injEq, Prod.mk.injEq] at hr
        obtain ⟨hes, rfl⟩ := hr
        have hkeys := wkEnts_keys hw
        have hsub : ∀ k, k ∈ keysOf wes → k ∈ keysOf es0 := by
          intro k hk
          cases hl : lastOf wes k with
          | none => exact absurd hk (lastOf_none.1 hl)
          | some e =>
            simp only [Bool.and_eq_true] at hg
            obtain ⟨_, _, _, e0, _, h2, _⟩ := wkEnts_get hw (nodupB_nodup hg.1) k e hl
            exact Classical.not_not.1 fun hh => by rw [lastOf_none.2 hh] at h2; cases h2
        have hmem : ∀ k, k ∈ keysOf es ↔ k ∈ keysOf es0 := by
          intro k
          rw [← hes, keysOf_append, List.mem_append]
          exact ⟨fun h => h.elim id (hsub k), .inl⟩
        have h0 : Here F clk C es0 a w := ⟨h.st, h.ver, h.ch, fun s hs c hc hk => h.chD s (fun hh => hs ((hmem _).1 hh)) c hc ((hmem _).2 hk), fun c hc hk => h.chC c hc ((hmem _).2 hk), h.rel⟩
        refine ⟨compOp_sound hc h0 hD henv hP fun F1 a' w' r1 r2 r3 r4 r5 => ?_, ?_⟩
        · simp only [Bool.and_eq_true, List.all_eq_true] at hg
          have hst := weak_state (F1 := F1) (v := C.ver + 1) (es := es0) r5 (by
              rintro (hx | hx)
              · exact hv1 hx
              · omega) (nodupB_nodup hg.1) (fun x hx => by simpa using hg.2 x hx) hw (fun k e he => by rw [r2, GT.sets_eq, he]; rfl) (fun s c hc hk => by
              rw [r2, GT.sets_eq] at hc
              cases hl : lastOf es0 (sk s) with
              | none => rw [hl] at hc; exact h0.chD s (lastOf_none.1 hl) c hc (hsub _ hk)
              | some e =>
                rw [hl] at hc
                simp only [Option.getD_some] at hc
                rcases hchs _ (lastOf_mem hl) with h1 | h1
                · simp only at h1; rw [h1] at hc; simp at hc
                · simp only at h1; rw [h1] at hc; exact h0.chC c hc (hsub _ hk))
          refine hK { F1 with lab := wlab (x0 :: wk0) F1.lab, G := F1.G.sets wes } a' w' ⟨r1.tmps, r1.H, r1.calm, r1.size⟩ ?_ r3 ⟨r4.os, r4.tape, r4.output, r4.size, fun b ob hb hl => ?_, fun b ob hb hl => ?_, r4.org⟩ hst
          · show F1.G.sets wes = _
            rw [← hes, GT.sets_append, ← r2]
          · have := r4.imm b ob hb hl
            exact ⟨this.1, by show wlab _ F1.lab b = _; simp [wlab, this.2]⟩
          · have := r4.frn b ob hb hl
            exact ⟨this.1, by show wlab _ F1.lab b = _; simp [wlab, this.2]⟩
        · intro x hx
          rw [← hes] at hx
          rcases List.mem_append.1 hx with hx | hx
          · exact hchs x hx
          · left
            have : ∀ {wk : List (Nat × Bool)} {wes : List (Nat × Ent)}, wkEnts (C.ver + 1) es0 wk = some wes → ∀ x ∈ wes, x.2.ch = [] := by
              intro wk
              induction wk with
              | nil => intro wes h x hx; simp [wkEnts] at h; subst h; simp at hx
              | cons y l ih =>
                intro wes h x hx
                obtain ⟨k, all⟩ := y
                simp only [wkEnts] at h
                split at h
                case h_2 => simp at h
                split at h
                case h_2 => simp at h
                rename_i r hst hr
                simp only [Option.some.injEq] at h
                subst h
                rcases List.mem_cons.1 hx with rfl | hx
                · rfl
                · exact ih hr x hx
            exact this hw x hx

end
end Go.Lf

/- Regions, first part: operations under guards, compiled in the order of the text; states after a part of them. -/
namespace Go.Lf

abbrev Chain := List (Nat × Bool)

structure Base where
  P : Program
  sigs : Nat → Option Sig
  nt : Nat

/-- The guards above an operation, one behind the other. -/
def guardChain (ops : Array Oper) (acc : List Chain) (o : Oper) : Option Chain :=
  match o.guard with
  | none => some []
  | some (j, b) =>
    match acc[j]?, (ops[j]?).bind (·.dst) with
    | some ch, some d => some (ch ++ [(lk d 0, b)])
    | _, _ => none

/-- The slot of the guard is as it was made. -/
def guardQ (ops : Array Oper) (acc : List Chain) (o : Oper) : Q Unit :=
  match o.guard with
  | none => .ret ()
  | some (j, _) =>
    match acc[j]?, (ops[j]?).bind (·.dst) with
    | some ch, some d => do
      let e ← Q.ent (sk d)
      let l ← Q.ent (lk d 0)
      Q.guard (e.st == .pl 1 false && e.ch == ch && l.st == .va)
    | _, _ => .fail

/-- The versions that a reference speaks of. -/
def ES.refs : ES → List Nat
  | .rf _ kv => [kv]
  | .ef _ kv _ iv _ => [kv, iv]
  | .al _ sv _ => [sv]
  | .ea _ kv _ iv _ => [kv, iv]
  | .cl _ caps => caps.map (·.2)
  | _ => []

def lastCh (es : List (Nat × Ent)) (k : Nat) (ch : Chain) : Bool :=
  match lastOf es k with
  | some e => e.ch == ch
  | none => false

/-- An operation under guards may be left out: it changes its own slot alone, which was empty; the last entry of the slot has the guards; old: the versions that its references may have. -/
def aside (ch : Chain) (d : Option Nat) (ver : Nat) (old : Nat → Bool) (es : List (Nat × Ent)) : Q Unit :=
  match ch with
  | [] => .ret ()
  | _ =>
    match d with
    | none => .fail
    | some d => do
      let e ← Q.ent (sk d)
      Q.guard (e.st.cells == 0 && (es.all fun x => x.1 / 16 == d && (x.2.ver == ver || x.2.ver == ver + 1) && x.2.st.refs.all old) && lastCh es (sk d) ch)

def dstLt (nt : Nat) : Option Tmp → Bool
  | some d => Nat.blt d nt
  | none => true

def stepQ (B : Base) (ops : Array Oper) (acc : List Chain) (ver : Nat) (old : Nat → Bool) (o : Oper) (ann : Ann) : Q (Chain × List (Nat × Ent) × List I) := do
  let ch ← Q.ofOption (guardChain ops acc o)
  guardQ ops acc o
  let (es, is) ← compStep ⟨B.P, B.sigs, ver, ch, B.nt⟩ ann o
  Q.guard (es.all fun x => ch.all fun c => x.1 != c.1)
  Q.guard (dstLt B.nt o.dst)
  aside ch o.dst ver old es
  .ret (ch, es, is)

/-- A compiled operation: its guards, entries and instructions; what it looked at. -/
structure Item where
  o : Oper
  ann : Ann
  ch : Chain
  es : List (Nat × Ent)
  is : List I
  log : List Nat

def runGroup (D : Nat → List Dyn → Option (List Dyn)) (env : Env) (ch : Chain) (is : List I) : Option Env := if holds env ch then I.dens D env is else some env

def runGroups (D : Nat → List Dyn → Option (List Dyn)) (env : Env) : List (Chain × List I) → Option Env
  | [] => some env
  | (ch, is) :: r =>
    match runGroup D env ch is with
    | some e => runGroups D e r
    | none => none

/- ---- states after a part of the operations ---- -/

section mix
open Classical
variable {α : Type} {n : Nat} (f : Nat → Nat → α) (W : Nat → Nat → Prop)

noncomputable def mixAt (S : Nat → Prop) : Nat → Nat → α
  | 0, x => f 0 x
  | j + 1, x => if S j ∧ W j x then f (j + 1) x else mixAt S j x

variable {f W} {S : Nat → Prop}

theorem mix_tail {n i x : Nat} (hi : i ≤ n) (h : ∀ j, i ≤ j → j < n → S j → ¬ W j x) : mixAt f W S n x = mixAt f W S i x := by
  induction n with
  | zero =>
    obtain rfl : i = 0 := by omega
    rfl
  | succ n ih =>
    by_cases hin : i = n + 1
    · subst hin; rfl
    · simp only [mixAt]
      rw [if_neg (fun hh => h n (by omega) (by omega) hh.1 hh.2)]
      exact ih (by omega) fun j h1 h2 => h j h1 (by omega)

theorem mix_head {i x n : Nat} (hi : i ≤ n) (hstep : ∀ j, j < n → ∀ x, ¬ W j x → f (j + 1) x = f j x) (h : ∀ j, j < i → W j x → S j) : mixAt f W S i x = f i x := by
  induction i with
  | zero => rfl
  | succ i ih =>
    simp only [mixAt]
    by_cases hw : W i x
    · rw [if_pos ⟨h i (by omega) hw, hw⟩]
    · rw [if_neg (fun hh => hw hh.2), ih (by omega) fun j hj => h j (by omega), hstep i (by omega) x hw]

theorem mix_agree {i x n : Nat} (hi : i ≤ n) (hstep : ∀ j, j < n → ∀ x, ¬ W j x → f (j + 1) x = f j x) (h1 : ∀ j, j < i → W j x → S j) (h2 : ∀ j, i ≤ j → j < n → S j → ¬ W j x) :
    mixAt f W S n x = f i x := by rw [mix_tail hi h2, mix_head hi hstep h1]

theorem mix_add {i x n : Nat} (hi : i < n) (h : ∀ j, i < j → j < n → S j → W i x → ¬ W j x) :
    mixAt f W (fun j => S j ∨ j = i) n x = if W i x then f (i + 1) x else mixAt f W S n x := by
  have off : ∀ m, ¬ W i x ∨ m ≤ i → mixAt f W (fun j => S j ∨ j = i) m x = mixAt f W S m x := by
    intro m
    induction m with
    | zero => intro _; rfl
    | succ m ih =>
      intro hm
      simp only [mixAt]
      rw [ih (hm.imp id (by omega))]
      by_cases hmi : m = i
      · subst hmi
        rcases hm with hm | hm
        · rw [if_neg (fun hh => hm hh.2), if_neg (fun hh => hm hh.2)]
        · omega
      · simp [hmi]
  by_cases hw : W i x
  · rw [if_pos hw, mix_tail (i := i + 1) (by omega) (fun j h1 h2 h3 => h j (by omega) h2 (h3.resolve_right (by omega)) hw)]
    simp only [mixAt]
    rw [if_pos ⟨Or.inr (by trivial), hw⟩]
  · rw [if_neg hw]; exact off n (.inl hw)

end mix

end Go.Lf

/- Regions, second part: one operation, after any part of the others that it allows. -/
namespace Go.Lf

theorem dens_local (D : Nat → List Dyn → Option (List Dyn)) : ∀ (is : List I) (X : Nat → Prop) {env env' : Env}, (∀ i ∈ is, ∀ k ∈ i.reads, X k) → (∀ k, X k → env k = env' k) →
    match I.dens D env is, I.dens D env' is with
    | some e, some e' => (∀ k, k ∉ is.flatMap I.writes → e k = env k) ∧ (∀ k, k ∉ is.flatMap I.writes → e' k = env' k) ∧ ∀ k, (X k ∨ k ∈ is.flatMap I.writes) → e k = e' k
    | none, none => True
    | _, _ => False
  | [], X, env, env', _, h => ⟨fun _ _ => rfl, fun _ _ => rfl, fun k hk => hk.elim (h k) (by simp)⟩
  | i :: is, X, env, env', hr, h => by
    have h1 := I.local D i (env := env) (env' := env') fun k hk => h k (hr i (by simp) k hk)
    simp only [I.dens]
    revert h1
    cases i.den D env with
    | none => cases i.den D env' <;> simp [Eff]
    | some e1 =>
      cases i.den D env' with
      | none => simp [Eff]
      | some e1' =>
        rintro ⟨a1, a2, a3⟩
        have ih := dens_local D is (fun k => X k ∨ k ∈ i.writes) (env := e1) (env' := e1') (fun j hj k hk => .inl (hr j (by simp [hj]) k hk)) (by
          intro k hk
          by_cases hw : k ∈ i.writes
          · exact a3 k hw
          · rw [a1 k hw, a2 k hw]; exact h k (hk.resolve_right hw))
        revert ih
        simp only []
        cases I.dens D e1 is with
        | none => cases I.dens D e1' is <;> simp
        | some e =>
          cases I.dens D e1' is with
          | none => simp
          | some e' =>
            rintro ⟨b1, b2, b3⟩
            refine ⟨fun k hk => ?_, fun k hk => ?_, fun k hk => ?_⟩
            · simp only [List.flatMap_cons, List.mem_append, not_or] at hk; rw [b1 k hk.2, a1 k hk.1]
            · simp only [List.flatMap_cons, List.mem_append, not_or] at hk; rw [b2 k hk.2, a2 k hk.1]
            · simp only [List.flatMap_cons, List.mem_append] at hk
              rcases hk with hk | hk | hk
              · exact b3 k (.inl (.inl hk))
              · exact b3 k (.inl (.inr hk))
              · exact b3 k (.inr hk)

theorem holds_congr {env env' : Env} {ch : Chain} (h : ∀ c ∈ ch, env c.1 = env' c.1) : holds env ch = holds env' ch := by
  unfold holds
  induction ch with
  | nil => rfl
  | cons c ch ih => simp only [List.all_cons]; rw [h c (by simp), ih fun c hc => h c (by simp [hc])]

/-- The versions that may lie behind a reference of operation i. -/
def olds (ver0 : Nat) (bef : Nat → Nat → Bool) (i v : Nat) : Bool :=
  Nat.blt v ver0 || (List.range (i + 1)).any fun j => (j == i || bef j i) && (v == ver0 + 2 * j || v == ver0 + 2 * j + 1)

/-- The versions in use when the operations of S have run. -/
def clkS (ver0 n : Nat) (S : Nat → Prop) : Clk := fun v => v < ver0 + 2 * n ∧ ∀ j, j < n → ¬ S j → v ≠ ver0 + 2 * j ∧ v ≠ ver0 + 2 * j + 1

/-- What is known of a compiled region. -/
structure RegCtx (B : Base) (ops : Array Oper) (its : List Item) (ver0 : Nat) (bef : Nat → Nat → Bool) (G : Nat → GT) : Prop where
  len : its.length = ops.size
  op : ∀ (i : Nat) (it : Item), its[i]? = some it → ops[i]? = some it.o
  next : ∀ (i : Nat) (it : Item), its[i]? = some it → G (i + 1) = (G i).sets it.es
  run : ∀ (i : Nat) (it : Item), its[i]? = some it → (stepQ B ops ((its.take i).map (·.ch)) (ver0 + 2 * i) (olds ver0 bef i) it.o it.ann).run (G i) = some (it.ch, it.es, it.is)
  log : ∀ (i : Nat) (it : Item), its[i]? = some it → ∀ k ∈ (stepQ B ops ((its.take i).map (·.ch)) (ver0 + 2 * i) (olds ver0 bef i) it.o it.ann).log (G i), k ∈ it.log
  free : ∀ (i j : Nat) (it jt : Item), i ≠ j → bef i j = false → its[i]? = some it → its[j]? = some jt → ∀ x ∈ it.es, ∀ c ∈ jt.ch, x.1 ≠ c.1
  calm : ∀ s, (G 0 (sk s)).ch = []

/-- What the operations before give to operation i: nothing that it looks at is missing, nothing that comes later is there. -/
def Fits (its : List Item) (n : Nat) (S : Nat → Prop) (i : Nat) (W : Item → List Nat) (X : List Nat) : Prop :=
  ∀ x ∈ X, (∀ (j : Nat) (jt : Item), j < i → its[j]? = some jt → x ∈ W jt → S j) ∧ ∀ (j : Nat) (jt : Item), i < j → j < n → S j → its[j]? = some jt → x ∉ W jt

def wG (its : List Item) (j x : Nat) : Prop := ∃ jt, its[j]? = some jt ∧ x ∈ keysOf jt.es
def wE (its : List Item) (j x : Nat) : Prop := ∃ jt, its[j]? = some jt ∧ x ∈ jt.is.flatMap I.writes

/-- The state when the operations of S have run. -/
structure InR (B : Base) (its : List Item) (ver0 n : Nat) (G : Nat → GT) (E : Nat → Env) (F0 : Fr) (w0 : World) (S : Nat → Prop) (F : Fr) (a : Act) (w : World) : Prop where
  G : F.G = mixAt G (wG its) S n
  env : F.env = mixAt E (wE its) S n
  st : St F (clkS ver0 n S)
  rel : Rel F a w B.nt
  ext : Ext F0 w0 F w

section
variable {B : Base} {ops : Array Oper} {its : List Item} {ver0 n : Nat} {bef : Nat → Nat → Bool} {G : Nat → GT} {E : Nat → Env} {F0 : Fr} {w0 : World} {S : Nat → Prop} {F : Fr} {a : Act} {w : World}
  {D : Nat → List Dyn → Option (List Dyn)} {Q' : Exit → Act → World → Prop} {K : Act → World → Prop}

theorem RegCtx.stepG (X : RegCtx B ops its ver0 bef G) : ∀ j, j < its.length → ∀ x, ¬ wG its j x → G (j + 1) x = G j x := by
  intro j hj x hx
  have hit : its[j]? = some its[j] := List.getElem?_eq_getElem hj
  rw [X.next j _ hit, GT.sets_ne]
  exact fun h => hx ⟨_, hit, h⟩

/-- A value that a guard yields. -/
theorem guard_yield {ch : Chain} {d : Nat} {b : Bool} {clk : Clk} {nt : Nat} (h : St F clk) (hrel : Rel F a w nt) (hst : (F.G (sk d)).st = .pl 1 false) (hch : (F.G (sk d)).ch = ch) (hva : (F.G (lk d 0)).st = .va) :
    ((match a.tmps[d]? with | some (.bool b) => some b | _ => none) == some b) = holds F.env (ch ++ [(lk d 0, b)]) := by
  have hs := h.slots d
  unfold SlotOk at hs
  rw [hch, hst] at hs
  have hval : ∀ v, a.tmps[d]? = some v → F.val d = v := by
    intro v hv
    simp [Fr.val, hrel.tmps, hv]
  unfold holds at *
  rw [List.all_append]
  by_cases hh : (ch.all fun p => holds1 (F.env p.1) p.2) = true
  · rw [if_pos hh] at hs
    rw [hh]
    simp only [Bool.true_and, List.all_cons, List.all_nil, Bool.and_true]
    obtain ⟨cs, hhas, hlf⟩ := hs
    have hH := hhas.1
    rw [hst] at hH
    obtain ⟨hV, hlen, _⟩ := hH
    match cs, hlen, hV with
    | [c], _, hV =>
      have hV : F.val d = c := hV
      have hc := hlf 0 c rfl
      rw [hva] at hc
      simp only [LeafOk] at hc
      cases ht : a.tmps[d]? with
      | none =>
        have : F.val d = .tuple #[] := by simp [Fr.val, hrel.tmps, ht]
        rw [this] at hV
        subst hV
        revert hc
        generalize F.env (lk d 0) = y
        obtain ⟨τ, x⟩ := y
        intro hc
        cases τ with
        | pair t1 t2 =>
          have := Rd.length hc
          have h1 := t1.n_pos
          have h2 := t2.n_pos
          simp [Ty.n] at this
          omega
        | _ => simp [Ty.shr, Rd] at hc
      | some v =>
        have := hval v ht
        rw [this] at hV
        subst hV
        revert hc
        generalize F.env (lk d 0) = y
        obtain ⟨τ, x⟩ := y
        intro hc
        cases τ with
        | pair t1 t2 =>
          have := Rd.length hc
          have h1 := t1.n_pos
          have h2 := t2.n_pos
          simp [Ty.n] at this
          omega
        | int k => simp [Ty.shr, Rd] at hc; subst hc; simp [holds1]
        | bool => simp [Ty.shr, Rd] at hc; subst hc; cases x <;> cases b <;> simp [holds1]
        | str => simp [Ty.shr, Rd] at hc; subst hc; simp [holds1]
        | slice e => simp [Ty.shr, Rd] at hc; obtain ⟨ad, cap, rfl, _⟩ := hc; simp [holds1]
  · rw [if_neg hh] at hs
    have hh' : (ch.all fun p => holds1 (F.env p.1) p.2) = false := Bool.eq_false_iff.2 hh
    rw [hh']
    simp only [Bool.false_and]
    cases ht : a.tmps[d]? with
    | none => rfl
    | some v =>
      have := hval v ht
      rw [hs] at this
      subst this
      rfl

end
end Go.Lf

/- Regions, third part: one step. -/
namespace Go.Lf

section
variable {B : Base} {ops : Array Oper} {its : List Item} {ver0 n : Nat} {bef : Nat → Nat → Bool} {G : Nat → GT} {E : Nat → Env} {F0 : Fr} {w0 : World} {S : Nat → Prop} {F : Fr} {a : Act} {w : World}
  {D : Nat → List Dyn → Option (List Dyn)} {Q' : Exit → Act → World → Prop} {K : Act → World → Prop}

/-- The guards of what has run. -/
theorem RegCtx.chains (X : RegCtx B ops its ver0 bef G) (hes : ∀ (j : Nat) (jt : Item), its[j]? = some jt → ∀ x ∈ jt.es, x.2.ch = [] ∨ x.2.ch = jt.ch) (s : Nat) :
    ∀ m, m ≤ its.length → (mixAt G (wG its) S m (sk s)).ch = [] ∨ ∃ (j : Nat) (jt : Item), j < m ∧ S j ∧ its[j]? = some jt ∧ (mixAt G (wG its) S m (sk s)).ch = jt.ch ∧ sk s ∈ keysOf jt.es := by
  intro m
  induction m with
  | zero => intro _; exact .inl (X.calm s)
  | succ m ih =>
    intro hm
    simp only [mixAt]
    split
    · rename_i hw
      obtain ⟨hS, jt, hjt, hk⟩ := hw
      rw [X.next m jt hjt, GT.sets_eq]
      cases hl : lastOf jt.es (sk s) with
      | none => exact absurd hk (lastOf_none.1 hl)
      | some e =>
        simp only [Option.getD_some]
        rcases hes m jt hjt _ (lastOf_mem hl) with h | h
        · exact .inl h
        · exact .inr ⟨m, jt, by omega, hS, hjt, h, hk⟩
    · rcases ih (by omega) with h | ⟨j, jt, h1, h2, h3, h4, h5⟩
      · exact .inl h
      · exact .inr ⟨j, jt, by omega, h2, h3, h4, h5⟩

/-- The parts of a compiled step. -/
theorem stepQ_run {acc : List Chain} {ver : Nat} {old : Nat → Bool} {o : Oper} {ann : Ann} {ch : Chain} {es : List (Nat × Ent)} {is : List I} {g : GT} (h : (stepQ B ops acc ver old o ann).run g = some (ch, es, is)) :
    guardChain ops acc o = some ch ∧ (guardQ ops acc o).run g = some () ∧ (compStep ⟨B.P, B.sigs, ver, ch, B.nt⟩ ann o).run g = some (es, is) ∧ (∀ x ∈ es, ∀ c ∈ ch, x.1 ≠ c.1) ∧
      (∀ d, o.dst = some d → d < B.nt) ∧ (aside ch o.dst ver old es).run g = some () := by
  simp only [stepQ, Q.run_bind', Q.run_ofOption] at h
  cases h1 : guardChain ops acc o with
  | none => rw [h1] at h; simp at h
  | some ch' =>
    rw [h1] at h
    simp only [Option.bind_some] at h
    cases h2 : (guardQ ops acc o).run g with
    | none => rw [h2] at h; simp at h
    | some u =>
      rw [h2] at h
      simp only [Option.bind_some] at h
      cases h3 : (compStep ⟨B.P, B.sigs, ver, ch', B.nt⟩ ann o).run g with
      | none => rw [h3] at h; simp at h
      | some r =>
        obtain ⟨es', is'⟩ := r
        rw [h3] at h
        simp only [Option.bind_some, Q.run_guard] at h
        by_cases g1 : (es'.all fun x => ch'.all fun c => x.1 != c.1) = true
        case neg => rw [if_neg g1] at h; simp at h
        rw [if_pos g1] at h
        simp only [Option.bind_some] at h
        by_cases g2 : dstLt B.nt o.dst = true
        case neg => rw [if_neg g2] at h; simp at h
        rw [if_pos g2] at h
        simp only [Option.bind_some] at h
        cases h4 : (aside ch' o.dst ver old es').run g with
        | none => rw [h4] at h; simp at h
        | some u =>
          rw [h4] at h
          simp only [Option.bind_some, Q.run, Option.some.injEq, Prod.mk.injEq] at h
          obtain ⟨rfl, rfl, rfl⟩ := h
          refine ⟨rfl, rfl, h3, fun x hx c hc => ?_, fun d hd => ?_, h4⟩
          · have := List.all_eq_true.1 (List.all_eq_true.1 g1 x hx) c hc
            simpa using this
          · rw [hd] at g2
            simp only [dstLt, Nat.blt_eq] at g2
            exact g2

theorem compStep_chs {C : Cfg} {ann : Ann} {o : Oper} {es : List (Nat × Ent)} {is : List I} {g : GT} (hr : (compStep C ann o).run g = some (es, is)) : ∀ x ∈ es, x.2.ch = [] ∨ x.2.ch = C.ch := by
  simp only [compStep, Q.run_bind'] at hr
  cases hc : (compOp C ann o).run g with
  | none => rw [hc] at hr; simp at hr
  | some r =>
    obtain ⟨es0, is0⟩ := r
    rw [hc] at hr
    simp only [Option.bind_some, Q.run_guard] at hr
    split at hr
    case isFalse => simp at hr
    rename_i hchs
    simp only [Option.bind_some] at hr
    have hchs : ∀ x ∈ es0, x.2.ch = [] ∨ x.2.ch = C.ch := by
      intro x hx
      have := List.all_eq_true.1 hchs x hx
      simp only [Bool.or_eq_true, List.isEmpty_iff, beq_iff_eq] at this
      exact this
    cases hwk : ann.weak with
    | nil =>
      rw [hwk] at hr
      simp only [Q.run, Option.some.injEq, Prod.mk.injEq] at hr
      obtain ⟨rfl, rfl⟩ := hr
      exact hchs
    | cons x0 wk0 =>
      rw [hwk] at hr
      simp only [Q.run_bind', Q.run_guard] at hr
      split at hr
      case isFalse => simp at hr
      simp only [Option.bind_some, Q.run_ofOption] at hr
      cases hw : wkEnts (C.ver + 1) es0 (x0 :: wk0) with
      | none => rw [hw] at hr; simp at hr
      | some wes =>
        rw [hw] at hr
        simp only [Option.bind_some, Q.run, Option.some.injEq, Prod.mk.injEq] at hr
        obtain ⟨rfl, _⟩ := hr
        intro x hx
        rcases List.mem_append.1 hx with hx | hx
        · exact hchs x hx
        · left
          have : ∀ {wk : List (Nat × Bool)} {wes : List (Nat × Ent)}, wkEnts (C.ver + 1) es0 wk = some wes → ∀ x ∈ wes, x.2.ch = [] := by
            intro wk
            induction wk with
            | nil => intro wes h x hx; simp [wkEnts] at h; subst h; simp at hx
            | cons y l ih =>
              intro wes h x hx
              obtain ⟨k, all⟩ := y
              simp only [wkEnts] at h
              split at h
              case h_2 => simp at h
              split at h
              case h_2 => simp at h
              rename_i r hst hr
              simp only [Option.some.injEq] at h
              subst h
              rcases List.mem_cons.1 hx with rfl | hx
              · rfl
              · exact ih hr x hx
          exact this hw x hx

theorem mixG_add (X : RegCtx B ops its ver0 bef G) {i : Nat} {it : Item} (hit : its[i]? = some it) (hfit : Fits its its.length S i (fun t => keysOf t.es) (keysOf it.es)) :
    GT.sets (mixAt G (wG its) S its.length) it.es = mixAt G (wG its) (fun j => S j ∨ j = i) its.length := by
  have hi : i < its.length := (List.getElem?_eq_some_iff.1 hit).1
  funext x
  rw [mix_add (f := G) (W := wG its) (S := S) hi (fun j h1 h2 h3 hw hwj => by
    obtain ⟨jt, hjt, hx⟩ := hwj
    obtain ⟨it', hit', hx'⟩ := hw
    rw [hit] at hit'
    obtain rfl := Option.some.inj hit'
    exact (hfit x hx').2 j jt h1 h2 h3 hjt hx)]
  by_cases hw : wG its i x
  · rw [if_pos hw]
    obtain ⟨it', hit', hx'⟩ := hw
    rw [hit] at hit'
    obtain rfl := Option.some.inj hit'
    rw [X.next i it hit, GT.sets_eq, GT.sets_eq]
    cases hl : lastOf it.es x with
    | none => exact absurd hx' (lastOf_none.1 hl)
    | some e => rfl
  · rw [if_neg hw, GT.sets_ne]
    exact fun h => hw ⟨it, hit, h⟩

theorem clkS_add {i : Nat} : ∀ v, (v = ver0 + 2 * i ∨ v = ver0 + 2 * i + 1 ∨ clkS ver0 n S v) → i < n → clkS ver0 n (fun j => S j ∨ j = i) v := by
  intro v hv hi
  rcases hv with rfl | rfl | ⟨h1, h2⟩
  · exact ⟨by omega, fun j hj hS => by
      have : j ≠ i := fun h => hS (.inr h)
      omega⟩
  · exact ⟨by omega, fun j hj hS => by
      have : j ≠ i := fun h => hS (.inr h)
      omega⟩
  · exact ⟨h1, fun j hj hS => h2 j hj fun h => hS (.inl h)⟩

/-- ONE OPERATION OF A REGION. -/
theorem region_op (X : RegCtx B ops its ver0 bef G) (hD : ∀ i s, B.sigs i = some s → Callee B.P s (D i)) (hE : ∀ (i : Nat) (it : Item), its[i]? = some it → runGroup D (E i) it.ch it.is = some (E (i + 1)))
    {i : Nat} {it : Item} (hit : its[i]? = some it) (hiS : ¬ S i) (hbef : ∀ j, bef j i = true → S j) (hclosed : ∀ j, S j → ∀ k, bef k j = true → S k)
    (hfG : Fits its its.length S i (fun t => keysOf t.es) (it.log ++ keysOf it.es)) (hfE : Fits its its.length S i (fun t => t.is.flatMap I.writes) (it.is.flatMap I.reads ++ it.is.flatMap I.writes ++ it.ch.map (·.1)))
    (hin : InR B its ver0 its.length G E F0 w0 S F a w)
    (hK : ∀ F' a' w', InR B its ver0 its.length G E F0 w0 (fun j => S j ∨ j = i) F' a' w' → K a' w') : wpOp B.P ops Q' i K a w := by
  have hi : i < its.length := (List.getElem?_eq_some_iff.1 hit).1
  have hop := X.op i it hit
  have hrunG := X.run i it hit
  have hGeq : ∀ k ∈ (stepQ B ops ((its.take i).map (·.ch)) (ver0 + 2 * i) (olds ver0 bef i) it.o it.ann).log (G i), G i k = F.G k := by
    intro k hk
    rw [hin.G]
    symm
    have hk' := X.log i it hit k hk
    obtain ⟨f1, f2⟩ := hfG k (List.mem_append.2 (.inl hk'))
    refine mix_agree (f := G) (W := wG its) (by omega) (fun j hj x hx => X.stepG j hj x hx) (fun j hj hw => ?_) (fun j h1 h2 h3 hw => ?_)
    · obtain ⟨jt, hjt, hx⟩ := hw; exact f1 j jt hj hjt hx
    · obtain ⟨jt, hjt, hx⟩ := hw
      by_cases hji : j = i
      · subst hji; exact hiS h3
      · exact f2 j jt (by omega) h2 h3 hjt hx
  have hrun := hrunG
  have hcongr := Q.run_congr (stepQ B ops ((its.take i).map (·.ch)) (ver0 + 2 * i) (olds ver0 bef i) it.o it.ann) hGeq
  rw [hcongr.1] at hrun
  obtain ⟨hgc, hgq, hcs, hown, hdst, has⟩ := stepQ_run hrun
  have hchs := compStep_chs hcs
  have hallchs : ∀ (j : Nat) (jt : Item), its[j]? = some jt → ∀ x ∈ jt.es, x.2.ch = [] ∨ x.2.ch = jt.ch := by
    intro j jt hjt
    obtain ⟨_, _, h3, _⟩ := stepQ_run (X.run j jt hjt)
    exact compStep_chs h3
  -- the environment
  have hEstep : ∀ j, j < its.length → ∀ x, ¬ wE its j x → E (j + 1) x = E j x := by
    intro j hj x hx
    have hjt : its[j]? = some its[j] := List.getElem?_eq_getElem hj
    have := hE j _ hjt
    unfold runGroup at this
    split at this
    · have hl := dens_local D (its[j]).is (fun _ => True) (env := E j) (env' := E j) (fun _ _ _ _ => trivial) (fun _ _ => rfl)
      rw [this] at hl
      exact hl.1 x fun h => hx ⟨_, hjt, h⟩
    · simp only [Option.some.injEq] at this; rw [← this]
  have hEagree : ∀ k ∈ it.is.flatMap I.reads ++ it.is.flatMap I.writes ++ it.ch.map (·.1), F.env k = E i k := by
    intro k hk
    rw [hin.env]
    obtain ⟨f1, f2⟩ := hfE k hk
    refine mix_agree (f := E) (W := wE its) (by omega) hEstep (fun j hj hw => ?_) (fun j h1 h2 h3 hw => ?_)
    · obtain ⟨jt, hjt, hx⟩ := hw; exact f1 j jt hj hjt hx
    · obtain ⟨jt, hjt, hx⟩ := hw
      by_cases hji : j = i
      · subst hji; exact hiS h3
      · exact f2 j jt (by omega) h2 h3 hjt hx
  have hholds : holds F.env it.ch = holds (E i) it.ch := holds_congr fun c hc => hEagree c.1 (List.mem_append.2 (.inr (List.mem_map.2 ⟨c, hc, rfl⟩)))
  have hmixE : ∀ env', (∀ k, k ∉ it.is.flatMap I.writes → env' k = F.env k) → (∀ k ∈ it.is.flatMap I.writes, env' k = E (i + 1) k) → env' = mixAt E (wE its) (fun j => S j ∨ j = i) its.length := by
    intro env' h1 h2
    funext x
    rw [mix_add (f := E) (W := wE its) (S := S) hi (fun j g1 g2 g3 hw hwj => by
      obtain ⟨jt, hjt, hx⟩ := hwj
      obtain ⟨it', hit', hx'⟩ := hw
      rw [hit] at hit'
      obtain rfl := Option.some.inj hit'
      exact (hfE x (List.mem_append.2 (.inl (List.mem_append.2 (.inr hx'))))).2 j jt g1 g2 g3 hjt hx)]
    by_cases hw : wE its i x
    · rw [if_pos hw]
      obtain ⟨it', hit', hx'⟩ := hw
      rw [hit] at hit'
      obtain rfl := Option.some.inj hit'
      exact h2 x hx'
    · rw [if_neg hw, h1 x (fun h => hw ⟨it, hit, h⟩), hin.env]
  have hmixG : F.G.sets it.es = mixAt G (wG its) (fun j => S j ∨ j = i) its.length := by
    rw [hin.G]
    exact mixG_add X hit fun x hx => hfG x (List.mem_append.2 (.inr hx))
  -- the guards
  have hchD : ∀ s, sk s ∉ keysOf it.es → ∀ c ∈ (F.G (sk s)).ch, c.1 ∉ keysOf it.es := by
    intro s _ c hc hk
    rw [hin.G] at hc
    rcases X.chains hallchs s its.length (Nat.le_refl _) with h | ⟨j, jt, h1, h2, h3, h4, _⟩
    · rw [h] at hc; simp at hc
    · rw [h4] at hc
      obtain ⟨x, hx, hxk⟩ := List.mem_map.1 hk
      have hji : j ≠ i := by rintro rfl; exact hiS h2
      refine X.free i j it jt (Ne.symm hji) ?_ hit h3 x hx c hc hxk
      exact Bool.eq_false_iff.2 fun hb => hiS (hclosed j h2 i hb)
  have hchC : ∀ c ∈ it.ch, c.1 ∉ keysOf it.es := by
    intro c hc hk
    obtain ⟨x, hx, hxk⟩ := List.mem_map.1 hk
    exact hown x hx c hc hxk
  have hwant : Region.wanted it.o (yielded ops a.tmps) = holds F.env it.ch := by
    unfold guardChain at hgc
    unfold guardQ at hgq
    unfold Region.wanted
    cases hg : it.o.guard with
    | none => rw [hg] at hgc; simp only [Option.some.injEq] at hgc; rw [← hgc]; rfl
    | some jb =>
      obtain ⟨j, b⟩ := jb
      rw [hg] at hgc hgq
      simp only at hgc hgq ⊢
      cases hacc : ((its.take i).map (·.ch))[j]? with
      | none => rw [hacc] at hgc; simp at hgc
      | some chj =>
        cases hd : (ops[j]?).bind (·.dst) with
        | none => rw [hacc, hd] at hgc; simp at hgc
        | some d =>
          rw [hacc, hd] at hgc hgq
          simp only [Option.some.injEq, Q.run_bind', Q.run_ent, Option.bind_some, Q.run_guard] at hgc hgq
          split at hgq
          case isFalse => simp at hgq
          rename_i hok
          simp only [Bool.and_eq_true, beq_iff_eq] at hok
          obtain ⟨⟨g1, g2⟩, g3⟩ := hok
          rw [← hgc, ← guard_yield (b := b) hin.st hin.rel g1 g2 g3]
          simp only [yielded, hd, Option.bind_some]
          rfl
  unfold wpOp
  rw [hop]
  simp only []
  by_cases hh : holds F.env it.ch = true
  · rw [hwant, if_pos hh]
    left
    have hEi := hE i it hit
    unfold runGroup at hEi
    rw [← hholds, if_pos hh] at hEi
    have hl := dens_local D it.is (fun k => F.env k = E i k) (env := F.env) (env' := E i) (fun i0 hi0 k hk => hEagree k (List.mem_append.2 (.inl (List.mem_append.2 (.inl (List.mem_flatMap.2 ⟨i0, hi0, hk⟩)))))) (fun k hk => hk)
    rw [hEi] at hl
    cases hde : I.dens D F.env it.is with
    | none => rw [hde] at hl; exact hl.elim
    | some env' =>
      rw [hde] at hl
      obtain ⟨l1, l2, l3⟩ := hl
      have henv' := hmixE env' l1 fun k hk => l3 k (.inr hk)
      refine (compStep_sound (C := ⟨B.P, B.sigs, ver0 + 2 * i, it.ch, B.nt⟩) hcs ⟨hin.st, ?_, hh, hchD, hchC, hin.rel⟩ ?_ hD hde rfl ?_).1
      · exact fun hv => (hv.2 i hi hiS).1 rfl
      · exact fun hv => (hv.2 i hi hiS).2 rfl
      · intro F' a' w' r1 r2 r3 r4 r5
        refine hK F' a' w' ⟨by rw [r2, hmixG], by rw [r3, henv'], ?_, r1, hin.ext.trans r4⟩
        refine r5.mono fun v hv => clkS_add v ?_ hi
        rcases hv with (hv | hv) | hv
        · exact .inr (.inr hv)
        · exact .inl hv
        · exact .inr (.inl hv)
  · rw [hwant, if_neg hh]
    have hne : it.ch ≠ [] := by intro h; rw [h] at hh; exact hh rfl
    obtain ⟨d, hd, hcells, hes, e', he', hech⟩ : ∃ d, it.o.dst = some d ∧ (F.G (sk d)).st.cells = 0 ∧
        (∀ x ∈ it.es, x.1 / 16 = d ∧ (x.2.ver = ver0 + 2 * i ∨ x.2.ver = ver0 + 2 * i + 1) ∧ ∀ v ∈ x.2.st.refs, olds ver0 bef i v = true) ∧ ∃ e', lastOf it.es (sk d) = some e' ∧ e'.ch = it.ch := by
      unfold aside at has
      cases hch : it.ch with
      | nil => exact absurd hch hne
      | cons c0 ch0 =>
        rw [hch] at has
        cases hd : it.o.dst with
        | none => rw [hd] at has; simp [Q.run] at has
        | some d =>
          rw [hd] at has
          simp only [Q.run_bind', Q.run_ent, Option.bind_some, Q.run_guard] at has
          split at has
          case isFalse => simp at has
          rename_i hg
          simp only [Bool.and_eq_true, beq_iff_eq, List.all_eq_true, Bool.or_eq_true] at hg
          obtain ⟨⟨g1, g2⟩, g3⟩ := hg
          refine ⟨d, rfl, g1, fun x hx => ⟨(g2 x hx).1.1, (g2 x hx).1.2, (g2 x hx).2⟩, ?_⟩
          unfold lastCh at g3
          cases hl : lastOf it.es (sk d) with
          | none => rw [hl] at g3; simp at g3
          | some e' => rw [hl] at g3; exact ⟨e', rfl, by simpa using g3⟩
    have hkd : ∀ k, k ∈ keysOf it.es → k / 16 = d := by
      intro k hk
      obtain ⟨x, hx, rfl⟩ := List.mem_map.1 hk
      exact (hes x hx).1
    have hskd : sk d ∈ keysOf it.es := Classical.not_not.1 fun h => by rw [lastOf_none.2 h] at he'; cases he'
    let F' : Fr := { F with tmps := F.tmps.setIfInBounds d undef, G := F.G.sets it.es }
    have hvs : ∀ s, s ≠ d → F'.val s = F.val s := by
      intro s hs
      simp [Fr.val, F', Ne.symm hs]
    have hEi := hE i it hit
    unfold runGroup at hEi
    rw [← hholds, if_neg hh] at hEi
    simp only [Option.some.injEq] at hEi
    have henv' := hmixE F.env (fun _ _ => rfl) fun k hk => by rw [← hEi]; exact hEagree k (List.mem_append.2 (.inl (List.mem_append.2 (.inr hk))))
    have hold : ∀ k, k ∈ keysOf it.es → (F'.G k).st.older (clkS ver0 its.length fun j => S j ∨ j = i) ∧ ((F'.G k).ver = ver0 + 2 * i ∨ (F'.G k).ver = ver0 + 2 * i + 1) := by
      intro k hk
      show ((F.G.sets it.es k).st.older _) ∧ _
      have hgk : F'.G k = F.G.sets it.es k := rfl
      rw [hgk, GT.sets_eq]
      cases hl : lastOf it.es k with
      | none => exact absurd hk (lastOf_none.1 hl)
      | some e =>
        simp only [Option.getD_some]
        obtain ⟨_, h2, h3⟩ := hes _ (lastOf_mem hl)
        refine ⟨?_, h2⟩
        have hv : ∀ v ∈ e.st.refs, clkS ver0 its.length (fun j => S j ∨ j = i) v := by
          intro v hv
          have := h3 v hv
          simp only [olds, Bool.or_eq_true, Nat.blt_eq, List.any_eq_true, Bool.and_eq_true, beq_iff_eq, List.mem_range] at this
          rcases this with h4 | ⟨j, hj, hjb, hjv⟩
          · exact ⟨by omega, fun j _ _ => by omega⟩
          · have hSj : S j ∨ j = i := hjb.elim .inr fun hb => .inl (hbef j hb)
            refine ⟨by omega, fun j' _ hj' => ?_⟩
            have : j ≠ j' := by rintro rfl; exact hj' hSj
            omega
        cases hst : e.st <;> rw [hst] at hv <;> simp only [ES.refs, ES.older] at hv ⊢
        case rf => exact hv _ (by simp)
        case al => exact hv _ (by simp)
        case ef => exact ⟨hv _ (by simp), hv _ (by simp)⟩
        case ea => exact ⟨hv _ (by simp), hv _ (by simp)⟩
        case cl caps => exact fun c hc => hv _ (List.mem_map.2 ⟨c, hc, rfl⟩)
    have T : Touch F F' (clkS ver0 its.length S) (clkS ver0 its.length fun j => S j ∨ j = i) (· ∈ keysOf it.es) := {
      le := fun v hv => clkS_add v (.inr (.inr hv)) hi
      ent := fun k hk => GT.sets_ne _ hk
      env := fun _ _ => rfl
      org := rfl
      slot := fun s cs hs hhas j hj => by
        have : s = d := by rw [← hkd _ hs, sk_div]
        subst this
        have := Fr.has_cells hhas
        omega
      tmp := fun s hs => hvs s fun h => hs (by rw [h]; exact hskd)
      ver := fun k hk hv => by
        rcases (hold k hk).2 with h | h <;> rw [h] at hv
        · exact (hv.2 i hi hiS).1 rfl
        · exact (hv.2 i hi hiS).2 rfl
      chn := hchD
      shr := fun _ _ h1 h2 => ⟨h1, h2⟩
      frn := fun _ _ h1 h2 => ⟨h1, h2⟩
      own := fun _ _ _ _ h1 h2 _ _ => ⟨h1, h2⟩
      box := fun s b c ty _ _ h1 h2 => ⟨c, h2, h1, rfl, fun _ _ => rfl⟩
      old := fun k hk => ⟨(hold k hk).1, clkS_add _ ((hold k hk).2.imp id .inl) hi⟩
      lab := hin.st.labs }
    have hst' := hin.st.touch T fun s hs => by
      have hsd : s = d := by
        rcases hs with hs | ⟨j, hj, hs⟩
        · rw [← hkd _ hs, sk_div]
        · rw [← hkd _ hs, lk_div (by omega)]
      subst hsd
      unfold SlotOk
      have hG' : F'.G (sk s) = e' := by
        show F.G.sets it.es (sk s) = e'
        rw [GT.sets_eq, he']; rfl
      rw [hG', hech]
      have : holds F'.env it.ch = false := Bool.eq_false_iff.2 hh
      rw [this]
      simp only [Bool.false_eq_true, if_false]
      have : s < F.tmps.size := by rw [hin.rel.size]; exact hdst s hd
      simp [Fr.val, F', this, undef]
    refine hK F' _ w ⟨?_, henv', hst', ⟨?_, hin.rel.H, by rw [hd]; exact hin.rel.calm, ?_⟩, ?_⟩
    · show F.G.sets it.es = _; exact hmixG
    · rw [hd]; show F.tmps.setIfInBounds d undef = (a.put (some d) undef).tmps; rw [hin.rel.tmps]; rfl
    · show (F.tmps.setIfInBounds d undef).size = _; simp [hin.rel.size]
    · have e := hin.ext
      exact ⟨e.os, e.tape, e.output, e.size, e.imm, e.frn, e.org⟩

end
end Go.Lf

/- Regions, fourth part: all operations, in the order of the text or in any order that is allowed. -/
namespace Go.Lf

section
variable {B : Base} {ops : Array Oper} {its : List Item} {ver0 n : Nat} {bef : Nat → Nat → Bool} {G : Nat → GT} {E : Nat → Env} {F0 : Fr} {w0 : World} {F : Fr} {a : Act} {w : World}
  {D : Nat → List Dyn → Option (List Dyn)} {Q' : Exit → Act → World → Prop}

/-- What must hold behind a region. -/
def RegPost (B : Base) (G : GT) (E : Env) (v : Nat) (F0 : Fr) (w0 : World) (Q' : Exit → Act → World → Prop) : Prop :=
  ∀ F a w, F.G = G → F.env = E → St F (· < v) → Rel F a w B.nt → Ext F0 w0 F w → Q' .normal a w

theorem InR.done (X : RegCtx B ops its ver0 bef G) (hE : ∀ (i : Nat) (it : Item), its[i]? = some it → runGroup D (E i) it.ch it.is = some (E (i + 1))) {S : Nat → Prop} (hS : ∀ j, j < its.length → S j)
    (hin : InR B its ver0 its.length G E F0 w0 S F a w) (hQ : RegPost B (G its.length) (E its.length) (ver0 + 2 * its.length) F0 w0 Q') : Q' .normal a w := by
  have hEstep : ∀ j, j < its.length → ∀ x, ¬ wE its j x → E (j + 1) x = E j x := by
    intro j hj x hx
    have hjt : its[j]? = some its[j] := List.getElem?_eq_getElem hj
    have := hE j _ hjt
    unfold runGroup at this
    split at this
    · have hl := dens_local D (its[j]).is (fun _ => True) (env := E j) (env' := E j) (fun _ _ _ _ => trivial) (fun _ _ => rfl)
      rw [this] at hl
      exact hl.1 x fun h => hx ⟨_, hjt, h⟩
    · simp only [Option.some.injEq] at this; rw [← this]
  refine hQ F a w ?_ ?_ (hin.st.mono fun v hv => hv.1) hin.rel hin.ext
  · rw [hin.G]
    funext x
    exact mix_agree (Nat.le_refl _) (fun j hj x hx => X.stepG j hj x hx) (fun j hj _ => hS j hj) (fun j h1 h2 => by omega)
  · rw [hin.env]
    funext x
    exact mix_agree (Nat.le_refl _) hEstep (fun j hj _ => hS j hj) (fun j h1 h2 => by omega)

theorem region_seq (X : RegCtx B ops its ver0 (fun j i => Nat.blt j i) G) (hD : ∀ i s, B.sigs i = some s → Callee B.P s (D i)) (hE : ∀ (i : Nat) (it : Item), its[i]? = some it → runGroup D (E i) it.ch it.is = some (E (i + 1)))
    (hQ : RegPost B (G its.length) (E its.length) (ver0 + 2 * its.length) F0 w0 Q') : ∀ (m i : Nat), i + m = its.length → ∀ (F : Fr) (a : Act) (w : World), InR B its ver0 its.length G E F0 w0 (· < i) F a w → wpOps B.P ops Q' (List.range' i m) a w := by
  intro m
  induction m with
  | zero =>
    intro i hi F a w hin
    simp only [List.range'_zero, wpOps]
    exact hin.done X hE (fun j hj => by omega) hQ
  | succ m ih =>
    intro i hi F a w hin
    rw [List.range'_succ, wpOps_cons]
    have hil : i < its.length := by omega
    have hit : its[i]? = some its[i] := List.getElem?_eq_getElem hil
    refine region_op X hD hE hit (by omega) (fun j hj => by simpa using hj) (fun j hj k hk => by simp at hk; omega) (fun x _ => ⟨fun j jt hj _ _ => hj, fun j jt h1 _ h3 => by omega⟩) (fun x _ => ⟨fun j jt hj _ _ => hj, fun j jt h1 _ h3 => by omega⟩) hin ?_
    intro F' a' w' hin'
    refine ih (i + 1) (by omega) F' a' w' ?_
    have : (fun j => j < i + 1) = (fun j => j < i ∨ j = i) := by funext j; exact propext (by omega)
    rw [this]
    exact hin'

/-- No two operations that may change places meet. -/
def Apart (its : List Item) (bef : Nat → Nat → Bool) : Prop :=
  ∀ (i j : Nat) (it jt : Item), j < i → its[i]? = some it → its[j]? = some jt → bef j i = true ∨ (bef i j = false ∧
    (∀ x ∈ keysOf it.es ++ it.is.flatMap I.writes, x ∉ jt.log ++ keysOf jt.es ++ jt.is.flatMap I.reads ++ jt.is.flatMap I.writes ++ jt.ch.map (·.1)) ∧
    (∀ x ∈ keysOf jt.es ++ jt.is.flatMap I.writes, x ∉ it.log ++ keysOf it.es ++ it.is.flatMap I.reads ++ it.is.flatMap I.writes ++ it.ch.map (·.1)))

theorem Apart.fits (hA : Apart its bef) (hlt : ∀ j i, bef j i = true → j < i) {S : Nat → Prop} (hclosed : ∀ j, S j → ∀ k, bef k j = true → S k) {i : Nat} {it : Item} (hit : its[i]? = some it) (hiS : ¬ S i) (hbef : ∀ j, bef j i = true → S j)
    {W : Item → List Nat} (hW : ∀ t, ∀ x ∈ W t, x ∈ keysOf t.es ++ t.is.flatMap I.writes) {X : List Nat} (hX : ∀ x ∈ X, x ∈ it.log ++ keysOf it.es ++ it.is.flatMap I.reads ++ it.is.flatMap I.writes ++ it.ch.map (·.1)) :
    Fits its its.length S i W X := by
  intro x hx
  refine ⟨fun j jt hj hjt hxj => ?_, fun j jt hj _ hS hjt hxj => ?_⟩
  · rcases hA i j it jt hj hit hjt with h | ⟨_, _, h⟩
    · exact hbef j h
    · exact absurd (hX x hx) (h x (hW jt x hxj))
  · rcases hA j i jt it hj hjt hit with h | ⟨_, h, _⟩
    · exact absurd (hclosed j hS i h) hiS
    · exact absurd (hX x hx) (h x (hW jt x hxj))

theorem region_any (X : RegCtx B ops its ver0 bef G) (hA : Apart its bef) (hlt : ∀ j i, bef j i = true → j < i) (htr : ∀ i j k, bef i j = true → bef j k = true → bef i k = true)
    (hready : ∀ (i : Nat) (o : Oper), ops[i]? = some o → (∀ e ∈ o.after, Region.binds .any e = true → e.on < i) ∧ ∀ j, bef j i = true → ∃ e ∈ o.after, Region.binds .any e = true ∧ (e.on = j ∨ bef j e.on = true))
    (hD : ∀ i s, B.sigs i = some s → Callee B.P s (D i)) (hE : ∀ (i : Nat) (it : Item), its[i]? = some it → runGroup D (E i) it.ch it.is = some (E (i + 1)))
    (hQ : RegPost B (G its.length) (E its.length) (ver0 + 2 * its.length) F0 w0 Q') : ∀ (fuel : Nat) (listed : Array Bool), listed.size = ops.size → (∀ j i, bef j i = true → listed[i]? = some true → listed[j]? = some true) →
      (listed.toList.count false ≤ fuel) → ∀ (F : Fr) (a : Act) (w : World), InR B its ver0 its.length G E F0 w0 (fun j => listed[j]? = some true) F a w → wpAny B.P .any ops Q' fuel listed a w := by
  have hlen := X.len
  -- nothing ready: everything has run
  have hall : ∀ listed : Array Bool, listed.size = ops.size → (∀ j i, bef j i = true → listed[i]? = some true → listed[j]? = some true) → Region.ready .any ops listed = [] → ∀ j, j < its.length → listed[j]? = some true := by
    intro listed hsz hcl hr j
    induction j using Nat.strongRecOn with
    | _ j ih =>
      intro hj
      have hjo : j < ops.size := by omega
      have hjl : j < listed.size := by omega
      have hn : j ∉ Region.ready .any ops listed := by rw [hr]; simp
      simp only [Region.ready, List.mem_filter, List.mem_range, not_and, Bool.and_eq_true, Bool.not_eq_true'] at hn
      have h1 := hn hjo
      by_cases hl : listed[j] = true
      · rw [Array.getElem?_eq_getElem hjl, hl]
      · exfalso
        have hl' : listed[j] = false := by simpa using hl
        refine h1 (by simp [Array.getD, hjl, hl']) ?_
        rw [Array.getElem?_eq_getElem hjo]
        simp only [Option.map_some, Option.getD_some]
        rw [Array.all_eq_true']
        intro e he
        simp only [Bool.or_eq_true, Bool.not_eq_true']
        by_cases hb : Region.binds .any e = true
        · right
          have h2 := (hready j _ (Array.getElem?_eq_getElem hjo)).1 e he hb
          have h3 := ih e.on h2 (by omega)
          rw [Array.getD_eq_getD_getElem?, h3]; rfl
        · left; simpa using hb
  intro fuel
  induction fuel with
  | zero =>
    intro listed hsz hcl hcount F a w hin
    have hno : ∀ j, j < listed.size → listed[j]? = some true := by
      intro j hj
      rw [Array.getElem?_eq_getElem hj]
      cases hb : listed[j] with
      | true => rfl
      | false =>
        have : false ∈ listed.toList := by rw [← hb]; exact Array.getElem_mem_toList hj
        have := List.count_pos_iff.2 this
        omega
    refine ⟨?_, hin.done X hE (fun j hj => hno j (by omega)) hQ⟩
    simp only [Region.ready, List.filter_eq_nil_iff, List.mem_range]
    intro j hj
    have := hno j (by omega)
    simp [Array.getD_eq_getD_getElem?, this]
  | succ fuel ih =>
    intro listed hsz hcl hcount F a w hin
    refine ⟨fun hr => hin.done X hE (hall listed hsz hcl hr) hQ, fun i hi => ?_⟩
    simp only [Region.ready, List.mem_filter, List.mem_range, Bool.and_eq_true, Bool.not_eq_true'] at hi
    obtain ⟨hio, hil, hia⟩ := hi
    have hisz : i < listed.size := by omega
    have hif : listed[i] = false := by simpa [Array.getD, hisz] using hil
    have hiS : ¬ (listed[i]? = some true) := by rw [Array.getElem?_eq_getElem hisz, hif]; simp
    have hit : its[i]? = some (its[i]'(by omega)) := List.getElem?_eq_getElem (by omega)
    have hbef : ∀ j, bef j i = true → listed[j]? = some true := by
      intro j hj
      rw [Array.getElem?_eq_getElem hio] at hia
      simp only [Option.map_some, Option.getD_some] at hia
      rw [Array.all_eq_true'] at hia
      obtain ⟨e, he, hb, hon⟩ := (hready i _ (Array.getElem?_eq_getElem hio)).2 j hj
      have h1 := hia e he
      simp only [Bool.or_eq_true, Bool.not_eq_true', hb, Bool.true_eq_false, false_or] at h1
      have h2 : listed[e.on]? = some true := by
        rw [Array.getD_eq_getD_getElem?] at h1
        cases hq : listed[e.on]? with
        | none => rw [hq] at h1; simp at h1
        | some b => rw [hq] at h1; simp at h1; rw [h1]
      rcases hon with rfl | hon
      · exact h2
      · exact hcl j e.on hon h2
    refine region_op X hD hE hit hiS hbef (fun j hj k hk => hcl k j hk hj)
      (hA.fits hlt (fun j hj k hk => hcl k j hk hj) hit hiS hbef (fun t x hx => List.mem_append.2 (.inl hx)) (fun x hx => ?_))
      (hA.fits hlt (fun j hj k hk => hcl k j hk hj) hit hiS hbef (fun t x hx => List.mem_append.2 (.inr hx)) (fun x hx => ?_)) hin ?_
    · simp only [List.mem_append] at hx ⊢
      rcases hx with hx | hx
      · exact .inl (.inl (.inl (.inl hx)))
      · exact .inl (.inl (.inl (.inr hx)))
    · simp only [List.mem_append] at hx ⊢
      rcases hx with (hx | hx) | hx
      · exact .inl (.inl (.inr hx))
      · exact .inl (.inr hx)
      · exact .inr hx
    · intro F' a' w' hin'
      have hset : ∀ j, (listed.setIfInBounds i true)[j]? = some true ↔ (listed[j]? = some true ∨ j = i) := by
        intro j
        rw [Array.getElem?_setIfInBounds]
        by_cases hji : i = j
        · subst hji; simp [hisz]
        · simp [hji, Ne.symm hji]
      refine ih _ (by simp [hsz]) (fun j k hjk hk => ?_) ?_ F' a' w' ?_
      · rw [hset] at hk ⊢
        rcases hk with hk | rfl
        · exact .inl (hcl j k hjk hk)
        · exact .inl (hbef j hjk)
      · have : (listed.setIfInBounds i true).toList = listed.toList.set i true := by simp
        rw [this, List.count_set (by simpa using hisz)]
        have hlf : listed.toList[i]'(by simpa using hisz) = false := by simpa using hif
        simp only [hlf]
        have hpos : 0 < listed.toList.count false := List.count_pos_iff.2 (by rw [← hlf]; exact List.getElem_mem _)
        rw [if_pos (by rfl), if_neg (by decide)]
        omega
      · have : (fun j => (listed.setIfInBounds i true)[j]? = some true) = (fun j => listed[j]? = some true ∨ j = i) := by funext j; exact propext (hset j)
        rw [this]
        exact hin'

/-- A REGION. -/
theorem region_sound {id : Nat} {draw : Bool} (X : RegCtx B ops its ver0 bef G) (hdraw : (draw = false ∧ bef = fun j i => Nat.blt j i) ∨
      (draw = true ∧ B.P.follows .mixedOrders = true ∧ Apart its bef ∧ (∀ j i, bef j i = true → j < i) ∧ (∀ i j k, bef i j = true → bef j k = true → bef i k = true) ∧
        (∀ (i : Nat) (o : Oper), ops[i]? = some o → (∀ e ∈ o.after, Region.binds .any e = true → e.on < i) ∧ ∀ j, bef j i = true → ∃ e ∈ o.after, Region.binds .any e = true ∧ (e.on = j ∨ bef j e.on = true))))
    (hD : ∀ i s, B.sigs i = some s → Callee B.P s (D i)) (hE : ∀ (i : Nat) (it : Item), its[i]? = some it → runGroup D (E i) it.ch it.is = some (E (i + 1)))
    (hG : F.G = G 0) (henv : F.env = E 0) (hst : St F (· < ver0)) (hrel : Rel F a w B.nt) (hQ : RegPost B (G its.length) (E its.length) (ver0 + 2 * its.length) F w Q') :
    (Code.region id ops draw).wp B.P Q' a w := by
  have start : ∀ (S : Nat → Prop) (w' : World), (∀ j, j < its.length → ¬ S j) → w'.heap = w.heap → w'.os = w.os → w'.tape = w.tape → w'.output = w.output → InR B its ver0 its.length G E F w S F a w' := by
    intro S w' hS h1 h2 h3 h4
    refine ⟨?_, ?_, hst.mono fun v hv => ⟨by omega, fun j _ _ => by omega⟩, ⟨hrel.tmps, by rw [h1]; exact hrel.H, hrel.calm, hrel.size⟩, ⟨h2, h3, h4, Nat.le_refl _, fun _ _ h l => ⟨h, l⟩, fun _ _ h l => ⟨h, l⟩, rfl⟩⟩
    · rw [hG]
      funext x
      symm
      have := mix_tail (f := G) (W := wG its) (S := S) (i := 0) (n := its.length) (x := x) (Nat.zero_le _) (fun j _ h2 h3 => absurd h3 (hS j h2))
      rw [this]; rfl
    · rw [henv]
      funext x
      symm
      have := mix_tail (f := E) (W := wE its) (S := S) (i := 0) (n := its.length) (x := x) (Nat.zero_le _) (fun j _ h2 h3 => absurd h3 (hS j h2))
      rw [this]; rfl
  rcases hdraw with ⟨rfl, rfl⟩ | ⟨rfl, hm, hA, hlt, htr, hready⟩
  · refine wp_region ?_
    rw [List.range_eq_range', ← X.len]
    exact region_seq X hD hE hQ its.length 0 (by omega) F a w (start _ w (fun j _ h => by omega) rfl rfl rfl rfl)
  · refine wp_region_any hm ?_
    have hall : ∀ j : Nat, ¬ ((Array.replicate ops.size false)[j]? = some true) := by
      intro j h
      rw [Array.getElem?_replicate] at h
      split at h <;> simp at h
    refine region_any X hA hlt htr hready hD hE hQ ops.size _ (by simp) (fun j i _ h => absurd h (hall i)) (by simp) F a _ (start _ _ (fun j _ => hall j) rfl rfl rfl rfl)

end
end Go.Lf

/- Guarded operations as expressions: an 'and' or an 'or' computes one bool. -/
namespace Go.Lf

/-- A region's computation: groups of instructions, and choices that yield a bool. -/
inductive RS where
  | nil
  | grp (ch : Chain) (is : List I) (r : RS)
  | sel (d c : Nat) (T : RS) (a : Od) (F : RS) (b : Od) (r : RS)
  deriving Inhabited

def boolOf : Dyn → Option Bool
  | ⟨.bool, b⟩ => some b
  | _ => none

def runRS (D : Nat → List Dyn → Option (List Dyn)) : RS → Env → Option Env
  | .nil, env => some env
  | .grp ch is r, env => (runGroup D env ch is).bind fun e => runRS D r e
  | .sel d c T a F b r, env =>
    ((boolOf (env c)).bind fun x => match x with
      | true => (runRS D T env).bind fun e => boolOf (a.rd e)
      | false => (runRS D F env).bind fun e => boolOf (b.rd e)).bind fun v => runRS D r (env.set d ⟨.bool, v⟩)

/-- The operations that it stands for. -/
def RS.flat (ch : Chain) : RS → List (Chain × List I)
  | .nil => []
  | .grp ch' is r => (ch ++ ch', is) :: r.flat ch
  | .sel d c T a F b r => T.flat (ch ++ [(c, true)]) ++ F.flat (ch ++ [(c, false)]) ++ (ch, [.pick d (.k c) a b]) :: r.flat ch

def RS.writes : RS → List Nat
  | .nil => []
  | .grp _ is r => is.flatMap I.writes ++ r.writes
  | .sel d _ T _ F _ r => T.writes ++ F.writes ++ d :: r.writes

def dis (a b : List Nat) : Bool := a.all fun x => !b.contains x

/-- bad: keys that are not looked at, as they may hold something else; what they are behind it. -/
def RS.ok : RS → List Nat → Option (List Nat)
  | .nil, bad => some bad
  | .grp ch is r, bad =>
    match dis (is.flatMap I.reads) bad && dis (ch.map (·.1)) bad with
    | true => r.ok bad
    | false => none
  | .sel d c T a F b r, bad =>
    match T.ok bad, F.ok bad with
    | some bT, some bF =>
      match !bad.contains c && !T.writes.contains c && !F.writes.contains c && dis a.keys bT && dis b.keys bF with
      | true => r.ok ((T.writes ++ F.writes ++ bad).filter fun k => k != d)
      | false => none
    | _, _ => none

section
variable {D : Nat → List Dyn → Option (List Dyn)}

theorem dis_ok {a b : List Nat} (h : dis a b = true) : ∀ x ∈ a, x ∉ b := by
  intro x hx
  have := List.all_eq_true.1 h x hx
  simpa using this

theorem holds_append {env : Env} {a b : Chain} : holds env (a ++ b) = (holds env a && holds env b) := by simp [holds, List.all_append]

theorem runGroups_append {env : Env} : ∀ {a b : List (Chain × List I)}, runGroups D env (a ++ b) = (runGroups D env a).bind fun e => runGroups D e b := by
  intro a
  induction a generalizing env with
  | nil => intro b; rfl
  | cons x a ih =>
    intro b
    obtain ⟨ch, is⟩ := x
    simp only [List.cons_append, runGroups]
    cases runGroup D env ch is with
    | none => rfl
    | some e => exact ih

theorem holds_one {env : Env} {c : Nat} {x b : Bool} (h : env c = ⟨.bool, x⟩) : holds env [(c, b)] = (x == b) := by
  simp only [holds, List.all_cons, List.all_nil, Bool.and_true]
  rw [h]
  rfl

/-- What is under guards that do not hold is left out. -/
theorem flat_skip : ∀ {r : RS} {ch : Chain} {env : Env}, holds env ch = false → runGroups D env (r.flat ch) = some env
  | .nil, ch, env, _ => rfl
  | .grp ch' is r, ch, env, h => by
    simp only [RS.flat, runGroups]
    have : runGroup D env (ch ++ ch') is = some env := by
      unfold runGroup
      rw [holds_append, h]
      simp
    rw [this]
    exact flat_skip h
  | .sel d c T a F b r, ch, env, h => by
    simp only [RS.flat]
    rw [runGroups_append, runGroups_append]
    rw [flat_skip (r := T) (by rw [holds_append, h]; simp)]
    simp only [Option.bind_some]
    rw [flat_skip (r := F) (by rw [holds_append, h]; simp)]
    simp only [Option.bind_some, runGroups]
    have : runGroup D env ch [.pick d (.k c) a b] = some env := by
      unfold runGroup
      rw [h]; simp
    rw [this]
    exact flat_skip h

theorem boolOf_some {x : Dyn} {v : Bool} (h : boolOf x = some v) : x = ⟨.bool, v⟩ := by
  unfold boolOf at h
  split at h
  · simp at h; subst h; rfl
  · cases h

/-- THE CHOICES COMPUTE WHAT THE OPERATIONS DO, but for keys that nobody looks at. -/
theorem runRS_ok : ∀ {r : RS} {bad bad' : List Nat} {ch : Chain} {E E' e' : Env}, r.ok bad = some bad' → (∀ k, k ∉ bad → E k = E' k) → holds E ch = true → (∀ c ∈ ch, c.1 ∉ r.writes) →
    runRS D r E' = some e' → ∃ e, runGroups D E (r.flat ch) = some e ∧ (∀ k, k ∉ bad' → e k = e' k) ∧ ∀ k, k ∉ r.writes → e k = E k := by
  intro r
  induction r with
  | nil =>
    intro bad bad' ch E E' e' hok hE hch hw hr
    simp only [RS.ok, Option.some.injEq] at hok
    subst hok
    simp only [runRS, Option.some.injEq] at hr
    subst hr
    exact ⟨E, rfl, hE, fun _ _ => rfl⟩
  | grp ch' is r ih =>
    intro bad bad' ch E E' e' hok hE hch hw hr
    simp only [RS.ok] at hok
    split at hok
    case h_2 => simp at hok
    rename_i hd
    simp only [Bool.and_eq_true] at hd
    simp only [runRS] at hr
    have hh : holds E (ch ++ ch') = holds E' ch' := by
      rw [holds_append, hch, Bool.true_and]
      exact holds_congr fun c hc => hE c.1 (dis_ok hd.2 c.1 (List.mem_map.2 ⟨c, hc, rfl⟩))
    simp only [RS.flat, runGroups]
    unfold runGroup at hr ⊢
    rw [hh]
    by_cases hb : holds E' ch' = true
    · rw [if_pos hb] at hr ⊢
      have hl := dens_local D is (fun k => k ∉ bad) (env := E) (env' := E') (fun i hi k hk => dis_ok hd.1 k (List.mem_flatMap.2 ⟨i, hi, hk⟩)) hE
      cases h1 : I.dens D E' is with
      | none => rw [h1] at hr; simp at hr
      | some e1' =>
        rw [h1] at hr hl
        simp only [Option.bind_some] at hr
        cases h2 : I.dens D E is with
        | none => rw [h2] at hl; exact hl.elim
        | some e1 =>
          rw [h2] at hl
          obtain ⟨l1, l2, l3⟩ := hl
          simp only
          obtain ⟨e, g1, g2, g3⟩ := ih (ch := ch) (E := e1) hok (fun k hk => l3 k (.inl hk)) (by
            rw [← hch]
            exact holds_congr fun c hc => l1 c.1 fun hm => hw c hc (by simp only [RS.writes, List.mem_append]; exact .inl hm)) (fun c hc hm => hw c hc (by simp only [RS.writes, List.mem_append]; exact .inr hm)) hr
          refine ⟨e, g1, g2, fun k hk => ?_⟩
          simp only [RS.writes, List.mem_append, not_or] at hk
          rw [g3 k hk.2, l1 k hk.1]
    · rw [if_neg hb] at hr ⊢
      simp only [Option.bind_some] at hr
      obtain ⟨e, g1, g2, g3⟩ := ih (ch := ch) hok hE hch (fun c hc hm => hw c hc (by simp only [RS.writes, List.mem_append]; exact .inr hm)) hr
      refine ⟨e, g1, g2, fun k hk => ?_⟩
      simp only [RS.writes, List.mem_append, not_or] at hk
      exact g3 k hk.2
  | sel d c T a F b r ihT ihF ih =>
    intro bad bad' ch E E' e' hok hE hch hw hr
    simp only [RS.ok] at hok
    split at hok
    case h_2 => simp at hok
    rename_i bT bF hT hF
    split at hok
    case h_2 => simp at hok
    rename_i hd
    simp only [Bool.and_eq_true, Bool.not_eq_true', List.contains_eq_mem, decide_eq_false_iff_not] at hd
    obtain ⟨⟨⟨⟨d1, d2⟩, d3⟩, d4⟩, d5⟩ := hd
    simp only [runRS] at hr
    cases hb : boolOf (E' c) with
    | none => rw [hb] at hr; simp at hr
    | some x =>
      rw [hb] at hr
      simp only [Option.bind_some] at hr
      have hc' := boolOf_some hb
      have hc : E c = ⟨.bool, x⟩ := by rw [hE c d1]; exact hc'
      -- the rest, once the choice has been made
      have fin : ∀ (v : Bool) (e1 : Env), (∀ k, k ∉ T.writes ++ F.writes ++ bad → e1 k = E' k) → (∀ k, k ∉ T.writes ++ F.writes → e1 k = E k) → runRS D r (E'.set d ⟨.bool, v⟩) = some e' →
          ∃ e, runGroups D (e1.set d ⟨.bool, v⟩) (r.flat ch) = some e ∧ (∀ k, k ∉ bad' → e k = e' k) ∧ ∀ k, k ∉ (RS.sel d c T a F b r).writes → e k = E k := by
        intro v e1 h1 h2 h3
        obtain ⟨e, g1, g2, g3⟩ := ih (ch := ch) (E := e1.set d ⟨.bool, v⟩) hok (fun k hk => by
            by_cases hkd : k = d
            · subst hkd; rw [Env.set_same, Env.set_same]
            · rw [Env.set_ne _ _ hkd, Env.set_ne _ _ hkd]
              refine h1 k fun hm => hk ?_
              simp only [List.mem_filter, bne_iff_ne, ne_eq]
              exact ⟨hm, hkd⟩) (by
            rw [← hch]
            refine holds_congr fun cc hcc => ?_
            have hn := hw cc hcc
            simp only [RS.writes, List.mem_append, List.mem_cons, not_or] at hn
            rw [Env.set_ne _ _ hn.2.1]
            exact h2 cc.1 (by simp only [List.mem_append, not_or]; exact hn.1)) (fun cc hcc hm => hw cc hcc (by simp only [RS.writes, List.mem_append, List.mem_cons]; exact .inr (.inr hm))) h3
        refine ⟨e, g1, g2, fun k hk => ?_⟩
        simp only [RS.writes, List.mem_append, List.mem_cons, not_or] at hk
        rw [g3 k hk.2.2, Env.set_ne _ _ hk.2.1]
        exact h2 k (by simp only [List.mem_append, not_or]; exact hk.1)
      have hwT : ∀ cc ∈ ch ++ [(c, true)], cc.1 ∉ T.writes := by
        intro cc hcc hm
        rcases List.mem_append.1 hcc with h | h
        · exact hw cc h (by simp only [RS.writes, List.mem_append]; exact .inl (.inl hm))
        · simp only [List.mem_singleton] at h; subst h; exact d2 hm
      have hwF : ∀ cc ∈ ch ++ [(c, false)], cc.1 ∉ F.writes := by
        intro cc hcc hm
        rcases List.mem_append.1 hcc with h | h
        · exact hw cc h (by simp only [RS.writes, List.mem_append]; exact .inl (.inr hm))
        · simp only [List.mem_singleton] at h; subst h; exact d3 hm
      simp only [RS.flat]
      rw [runGroups_append, runGroups_append]
      cases x with
      | true =>
        simp only at hr
        cases h1 : runRS D T E' with
        | none => rw [h1] at hr; simp at hr
        | some eT' =>
          rw [h1] at hr
          simp only [Option.bind_some] at hr
          cases hv : boolOf (a.rd eT') with
          | none => rw [hv] at hr; simp at hr
          | some v =>
            rw [hv] at hr
            simp only [Option.bind_some] at hr
            obtain ⟨eT, g1, g2, g3⟩ := ihT (ch := ch ++ [(c, true)]) hT hE (by rw [holds_append, hch, holds_one hc]; rfl) hwT h1
            rw [g1]
            simp only [Option.bind_some]
            have hcT : eT c = ⟨.bool, true⟩ := by rw [g3 c d2]; exact hc
            have hchT : holds eT ch = true := by rw [← hch]; exact holds_congr fun cc hcc => g3 cc.1 (hwT cc (List.mem_append.2 (.inl hcc)))
            rw [flat_skip (r := F) (by rw [holds_append, hchT, holds_one hcT]; rfl)]
            simp only [Option.bind_some, runGroups]
            have hav : a.rd eT = ⟨.bool, v⟩ := by
              rw [Od.rd_congr (env' := eT') fun k hk => g2 k (dis_ok d4 k hk)]
              exact boolOf_some hv
            have hpick : runGroup D eT ch [.pick d (.k c) a b] = some (eT.set d ⟨.bool, v⟩) := by
              unfold runGroup
              rw [if_pos hchT]
              have hrc : (Od.k c).rd eT = ⟨.bool, true⟩ := hcT
              simp only [I.dens, I.den, hrc, pickD, set1, hav]
            rw [hpick]
            simp only
            have outE' : ∀ k, k ∉ T.writes → k ∉ bad → eT k = E' k := fun k h1 h2 => by rw [g3 k h1]; exact hE k h2
            exact fin v eT (fun k hk => by
              simp only [List.mem_append, not_or] at hk
              exact outE' k hk.1.1 hk.2) (fun k hk => by
              simp only [List.mem_append, not_or] at hk
              exact g3 k hk.1) hr
      | false =>
        simp only at hr
        cases h1 : runRS D F E' with
        | none => rw [h1] at hr; simp at hr
        | some eF' =>
          rw [h1] at hr
          simp only [Option.bind_some] at hr
          cases hv : boolOf (b.rd eF') with
          | none => rw [hv] at hr; simp at hr
          | some v =>
            rw [hv] at hr
            simp only [Option.bind_some] at hr
            rw [flat_skip (r := T) (by rw [holds_append, hch, holds_one hc]; rfl)]
            simp only [Option.bind_some]
            obtain ⟨eF, g1, g2, g3⟩ := ihF (ch := ch ++ [(c, false)]) hF hE (by rw [holds_append, hch, holds_one hc]; rfl) hwF h1
            rw [g1]
            simp only [Option.bind_some, runGroups]
            have hcF : eF c = ⟨.bool, false⟩ := by rw [g3 c d3]; exact hc
            have hchF : holds eF ch = true := by rw [← hch]; exact holds_congr fun cc hcc => g3 cc.1 (hwF cc (List.mem_append.2 (.inl hcc)))
            have hav : b.rd eF = ⟨.bool, v⟩ := by
              rw [Od.rd_congr (env' := eF') fun k hk => g2 k (dis_ok d5 k hk)]
              exact boolOf_some hv
            have hpick : runGroup D eF ch [.pick d (.k c) a b] = some (eF.set d ⟨.bool, v⟩) := by
              unfold runGroup
              rw [if_pos hchF]
              have hrc : (Od.k c).rd eF = ⟨.bool, false⟩ := hcF
              simp only [I.dens, I.den, hrc, pickD, set1, hav]
            rw [hpick]
            simp only
            have outE' : ∀ k, k ∉ F.writes → k ∉ bad → eF k = E' k := fun k h1 h2 => by rw [g3 k h1]; exact hE k h2
            exact fin v eF (fun k hk => by
              simp only [List.mem_append, not_or] at hk
              exact outE' k hk.1.2 hk.2) (fun k hk => by
              simp only [List.mem_append, not_or] at hk
              exact g3 k hk.2) hr

end

/- ---- finding the choices ---- -/

/-- Splits off what stands under a guard; the guards' first n are known. -/
def under (n c : Nat) (b : Bool) : List (Chain × List I) → List (Chain × List I) × List (Chain × List I)
  | [] => ([], [])
  | g :: gs =>
    match g.1[n]? with
    | some (c', b') =>
      match Nat.beq c c' && (b == b') with
      | true => let r := under n c b gs; (g :: r.1, r.2)
      | false => ([], g :: gs)
    | none => ([], g :: gs)

def RS.app : RS → RS → RS
  | .nil, x => x
  | .grp ch is r, x => .grp ch is (r.app x)
  | .sel d c T a F b r, x => .sel d c T a F b (r.app x)

def nest : Nat → Nat → List (Chain × List I) → RS
  | 0, _, _ => .nil
  | _, _, [] => .nil
  | f + 1, n, (ch, is) :: gs =>
    match ch[n]? with
    | none => .grp [] is (nest f n gs)
    | some (c, _) =>
      let t := under n c true ((ch, is) :: gs)
      let e := under n c false t.2
      match e.2 with
      | (ch', [.pick d (.k c') a b]) :: rest =>
        match Nat.beq c c' && Nat.beq ch'.length n with
        | true => .sel d c (nest f (n + 1) t.1) a (nest f (n + 1) e.1) b (nest f n rest)
        | false => .grp (ch.drop n) is (nest f n gs)
      | _ => .grp (ch.drop n) is (nest f n gs)

end Go.Lf

/- Tables as tries; the compiler of a region. -/
namespace Go.Lf

inductive Tr where
  | leaf
  | node (e : Option Ent) (l r : Tr)
  deriving Inhabited

def noEnt : Ent := ⟨0, [], .no⟩

def Tr.get : Tr → Nat → Ent
  | .leaf, _ => noEnt
  | .node e l r, k =>
    match Nat.beq k 0 with
    | true => match e with | some e => e | none => noEnt
    | false =>
      match Nat.beq (k % 2) 1 with
      | true => l.get (k / 2)
      | false => r.get (k / 2 - 1)

def Tr.set : Nat → Tr → Nat → Ent → Tr
  | 0, t, _, _ => t
  | f + 1, .leaf, k, e =>
    match Nat.beq k 0 with
    | true => .node (some e) .leaf .leaf
    | false =>
      match Nat.beq (k % 2) 1 with
      | true => .node none (Tr.set f .leaf (k / 2) e) .leaf
      | false => .node none .leaf (Tr.set f .leaf (k / 2 - 1) e)
  | f + 1, .node e0 l r, k, e =>
    match Nat.beq k 0 with
    | true => .node (some e) l r
    | false =>
      match Nat.beq (k % 2) 1 with
      | true => .node e0 (Tr.set f l (k / 2) e) r
      | false => .node e0 l (Tr.set f r (k / 2 - 1) e)

theorem Tr.get_set : ∀ (f : Nat) (t : Tr) (k : Nat) (e : Ent) (j : Nat), k < 2 ^ f → (t.set (f + 1) k e).get j = if j = k then e else t.get j := by
  intro f
  induction f with
  | zero =>
    intro t k e j hk
    have : k = 0 := by omega
    subst this
    cases t with
    | leaf =>
      simp only [Tr.set, Nat.beq_refl, Tr.get]
      by_cases hj : j = 0
      · subst hj; simp
      · rw [if_neg hj, beq_ne hj]; cases Nat.beq (j % 2) 1 <;> rfl
    | node e0 l r =>
      simp only [Tr.set, Nat.beq_refl, Tr.get]
      by_cases hj : j = 0
      · subst hj; simp
      · rw [if_neg hj, beq_ne hj]
  | succ f ih =>
    intro t k e j hk
    have hp : 2 ^ (f + 1) = 2 * 2 ^ f := by rw [Nat.pow_succ]; omega
    by_cases hk0 : k = 0
    · subst hk0
      cases t with
      | leaf =>
        simp only [Tr.set, Nat.beq_refl, Tr.get]
        by_cases hj : j = 0
        · subst hj; simp
        · rw [if_neg hj, beq_ne hj]; cases Nat.beq (j % 2) 1 <;> rfl
      | node e0 l r =>
        simp only [Tr.set, Nat.beq_refl, Tr.get]
        by_cases hj : j = 0
        · subst hj; simp
        · rw [if_neg hj, beq_ne hj]
    · have hb := beq_ne hk0
      by_cases hm : k % 2 = 1
      · have hmb : Nat.beq (k % 2) 1 = true := by rw [hm]; rfl
        cases t with
        | leaf =>
          have := ih .leaf (k / 2) e (j / 2) (by omega)
          rw [Tr.set, hb]
          simp only [hmb, Tr.get]
          by_cases hj : j = 0
          · subst hj; simp [Ne.symm hk0]
          · rw [beq_ne hj]
            by_cases hj2 : j % 2 = 1
            · have hjb : Nat.beq (j % 2) 1 = true := by rw [hj2]; rfl
              simp only [hjb, this]
              by_cases hjk : j = k
              · subst hjk; simp
              · rw [if_neg (by omega), if_neg hjk]; rfl
            · have hjb : Nat.beq (j % 2) 1 = false := beq_ne hj2
              simp only [hjb]
              rw [if_neg (by rintro rfl; exact hj2 hm)]
        | node e0 l r =>
          have := ih l (k / 2) e (j / 2) (by omega)
          rw [Tr.set, hb]
          simp only [hmb, Tr.get]
          by_cases hj : j = 0
          · subst hj; simp [Ne.symm hk0]
          · rw [beq_ne hj]
            by_cases hj2 : j % 2 = 1
            · have hjb : Nat.beq (j % 2) 1 = true := by rw [hj2]; rfl
              simp only [hjb, this]
              by_cases hjk : j = k
              · subst hjk; simp
              · rw [if_neg (by omega), if_neg hjk]
            · have hjb : Nat.beq (j % 2) 1 = false := beq_ne hj2
              simp only [hjb]
              rw [if_neg (by rintro rfl; exact hj2 hm)]
      · have hmb : Nat.beq (k % 2) 1 = false := beq_ne hm
        cases t with
        | leaf =>
          have := ih .leaf (k / 2 - 1) e (j / 2 - 1) (by omega)
          rw [Tr.set, hb]
          simp only [hmb, Tr.get]
          by_cases hj : j = 0
          · subst hj; simp [Ne.symm hk0]
          · rw [beq_ne hj]
            by_cases hj2 : j % 2 = 1
            · have hjb : Nat.beq (j % 2) 1 = true := by rw [hj2]; rfl
              simp only [hjb]
              rw [if_neg (by rintro rfl; exact hm hj2)]
            · have hjb : Nat.beq (j % 2) 1 = false := beq_ne hj2
              simp only [hjb, this]
              by_cases hjk : j = k
              · subst hjk; simp
              · rw [if_neg (by omega), if_neg hjk]; rfl
        | node e0 l r =>
          have := ih r (k / 2 - 1) e (j / 2 - 1) (by omega)
          rw [Tr.set, hb]
          simp only [hmb, Tr.get]
          by_cases hj : j = 0
          · subst hj; simp [Ne.symm hk0]
          · rw [beq_ne hj]
            by_cases hj2 : j % 2 = 1
            · have hjb : Nat.beq (j % 2) 1 = true := by rw [hj2]; rfl
              simp only [hjb]
              rw [if_neg (by rintro rfl; exact hm hj2)]
            · have hjb : Nat.beq (j % 2) 1 = false := beq_ne hj2
              simp only [hjb, this]
              by_cases hjk : j = k
              · subst hjk; simp
              · rw [if_neg (by omega), if_neg hjk]

/-- Keys that a table holds. -/
def keyMax : Nat := 1048576   -- 2 ^ 20

def Tr.put (t : Tr) (k : Nat) (e : Ent) : Tr := t.set 21 k e

def Tr.puts (t : Tr) : List (Nat × Ent) → Tr
  | [] => t
  | (k, e) :: l => (t.put k e).puts l

theorem Tr.get_puts {es : List (Nat × Ent)} (h : ∀ x ∈ es, x.1 < keyMax) (t : Tr) : (t.puts es).get = GT.sets t.get es := by
  induction es generalizing t with
  | nil => rfl
  | cons x l ih =>
    obtain ⟨k, e⟩ := x
    simp only [Tr.puts, GT.sets]
    rw [ih (fun y hy => h y (by simp [hy]))]
    congr 1
    funext j
    have hk := h (k, e) (by simp)
    unfold Tr.put
    rw [Tr.get_set 20 t k e j (by simpa [keyMax] using hk)]
    by_cases hj : j = k
    · subst hj; rw [if_pos rfl, GT.set_same]
    · rw [if_neg hj, GT.set_ne _ _ hj]

/- ---- the region ---- -/

def smallKeys (es : List (Nat × Ent)) : Bool := es.all fun x => Nat.blt x.1 keyMax

def regItems (B : Base) (ops : Array Oper) (ver0 : Nat) (bef : Nat → Nat → Bool) : Nat → List Chain → List Oper → List Ann → Tr → Option (List Item × Tr)
  | _, _, [], _, t => some ([], t)
  | _, _, _ :: _, [], _ => none
  | i, acc, o :: os, an :: ans, t =>
    match (stepQ B ops acc (ver0 + 2 * i) (olds ver0 bef i) o an).run t.get with
    | some (ch, es, is) =>
      match smallKeys es with
      | true =>
        match regItems B ops ver0 bef (i + 1) (acc ++ [ch]) os ans (t.puts es) with
        | some (its, t') => some (⟨o, an, ch, es, is, (stepQ B ops acc (ver0 + 2 * i) (olds ver0 bef i) o an).log t.get⟩ :: its, t')
        | none => none
      | false => none
    | none => none

def gAt (g : GT) (its : List Item) (i : Nat) : GT := g.sets ((its.take i).flatMap (·.es))

theorem regItems_ok {B : Base} {ops : Array Oper} {ver0 : Nat} {bef : Nat → Nat → Bool} : ∀ {os : List Oper} {i : Nat} {acc : List Chain} {ans : List Ann} {t t' : Tr} {its : List Item}, regItems B ops ver0 bef i acc os ans t = some (its, t') →
    its.length = os.length ∧ t'.get = gAt t.get its its.length ∧ ∀ (j : Nat) (it : Item), its[j]? = some it → os[j]? = some it.o ∧ (∀ x ∈ it.es, x.1 < keyMax) ∧
      (stepQ B ops (acc ++ (its.take j).map (·.ch)) (ver0 + 2 * (i + j)) (olds ver0 bef (i + j)) it.o it.ann).run (gAt t.get its j) = some (it.ch, it.es, it.is) ∧
      it.log = (stepQ B ops (acc ++ (its.take j).map (·.ch)) (ver0 + 2 * (i + j)) (olds ver0 bef (i + j)) it.o it.ann).log (gAt t.get its j)
  | [], i, acc, ans, t, t', its, h => by
    simp only [regItems, Option.some.injEq, Prod.mk.injEq] at h
    obtain ⟨rfl, rfl⟩ := h
    exact ⟨rfl, rfl, fun j it h => by simp at h⟩
  | o :: os, i, acc, [], t, t', its, h => by simp [regItems] at h
  | o :: os, i, acc, an :: ans, t, t', its, h => by
    simp only [regItems] at h
    split at h
    case h_2 => simp at h
    rename_i ch es is hrun
    split at h
    case h_2 => simp at h
    rename_i hsm
    split at h
    case h_2 => simp at h
    rename_i its1 t1 h1
    simp only [Option.some.injEq, Prod.mk.injEq] at h
    obtain ⟨rfl, rfl⟩ := h
    have hk : ∀ x ∈ es, x.1 < keyMax := by
      intro x hx
      have := List.all_eq_true.1 hsm x hx
      simpa using this
    obtain ⟨a1, a2, a3⟩ := regItems_ok h1
    refine ⟨by simp [a1], ?_, fun j it hit => ?_⟩
    · rw [a2, Tr.get_puts hk]
      simp only [gAt, List.length_cons, List.take_succ_cons, List.flatMap_cons, GT.sets_append]
    · cases j with
      | zero =>
        simp only [List.getElem?_cons_zero, Option.some.injEq] at hit
        subst hit
        refine ⟨rfl, hk, ?_, ?_⟩
        · simpa [gAt, GT.sets] using hrun
        · simp [gAt, GT.sets]
      | succ j =>
        simp only [List.getElem?_cons_succ] at hit ⊢
        obtain ⟨b1, b2, b3, b4⟩ := a3 j it hit
        have e1 : gAt (t.puts es).get its1 j = gAt t.get (⟨o, an, ch, es, is, (stepQ B ops acc (ver0 + 2 * i) (olds ver0 bef i) o an).log t.get⟩ :: its1) (j + 1) := by
          rw [Tr.get_puts hk]
          simp only [gAt, List.take_succ_cons, List.flatMap_cons, GT.sets_append]
        rw [e1, show i + 1 + j = i + (j + 1) by omega] at b3 b4
        refine ⟨b1, b2, ?_, ?_⟩
        · simpa [List.append_assoc] using b3
        · simpa [List.append_assoc] using b4

def befOf (tab : List (List Nat)) (j i : Nat) : Bool :=
  match tab[i]? with
  | some l => l.contains j
  | none => false

def union (a b : List Nat) : List Nat := a ++ b.filter fun x => !a.contains x

/-- For each operation those that always come before it. -/
def befsOf : List (List Nat) → List Oper → List (List Nat)
  | acc, [] => acc
  | acc, o :: os =>
    let l := o.after.toList.foldl (fun l e => if Region.binds .any e then union l (e.on :: (acc[e.on]?).getD []) else l) []
    befsOf (acc ++ [l]) os

def disjB (a b : List Nat) : Bool := a.all fun x => !b.contains x

/-- Something of all numbers below n. -/
def allB (n : Nat) (p : Nat → Bool) : Bool := (List.range n).all p

def befOk (tab : List (List Nat)) (ops : List Oper) : Bool :=
  (tab.zipIdx.all fun l => l.1.all fun j => Nat.blt j l.2 && ((tab[j]?).getD []).all fun i => l.1.contains i) &&
  (ops.zipIdx.all fun o => (o.1.after.toList.all fun e => !Region.binds .any e || Nat.blt e.on o.2) &&
    ((tab[o.2]?).getD []).all fun j => o.1.after.toList.any fun e => Region.binds .any e && (e.on == j || befOf tab j e.on))

def itW (t : Item) : List Nat := keysOf t.es ++ t.is.flatMap I.writes
def itL (t : Item) : List Nat := t.log ++ keysOf t.es ++ t.is.flatMap I.reads ++ t.is.flatMap I.writes ++ t.ch.map (·.1)

def apartOk (tab : List (List Nat)) (its : List Item) : Bool :=
  its.zipIdx.all fun i => its.zipIdx.all fun j => !Nat.blt j.2 i.2 || (befOf tab j.2 i.2 || (!befOf tab i.2 j.2 && disjB (itW i.1) (itL j.1) && disjB (itW j.1) (itL i.1)))

def freeOk (bef : Nat → Nat → Bool) (its : List Item) : Bool :=
  its.zipIdx.all fun j => match j.1.ch with
    | [] => true
    | ch => its.zipIdx.all fun i => i.2 == j.2 || bef i.2 j.2 || i.1.es.all fun x => ch.all fun c => x.1 != c.1

def killsOf (ver : Nat) (its : List Item) : List (Nat × Ent) :=
  its.flatMap fun it => match it.ch, it.o.dst with
    | _ :: _, some d => (List.range 16).map fun j => (16 * d + j, (⟨ver, [], .no⟩ : Ent))
    | _, _ => []

def regTab (draw : Bool) (ops : Array Oper) : List (List Nat) :=
  match draw with
  | true => befsOf [] ops.toList
  | false => []

def regBef (draw : Bool) (tab : List (List Nat)) : Nat → Nat → Bool :=
  match draw with
  | true => befOf tab
  | false => fun j i => Nat.blt j i

def drawOk (draw : Bool) (tab : List (List Nat)) (ops : Array Oper) (its : List Item) : Bool :=
  match draw with
  | true => befOk tab ops.toList && apartOk tab its
  | false => true

def killD (its : List Item) : List Nat := its.filterMap fun it => match it.ch with | [] => none | _ => it.o.dst

def RS.raw : List (Chain × List I) → RS
  | [] => .nil
  | (ch, is) :: r => .grp ch is (RS.raw r)

/-- The computation stands for the groups, and what it leaves open nobody looks at. -/
def rsFits (gs : List (Chain × List I)) (kd : List Nat) (rs : RS) : Bool :=
  decide (rs.flat [] = gs) && match rs.ok [] with
    | some bad => bad.all fun k => kd.contains (k / 16)
    | none => false

def rsOf (gs : List (Chain × List I)) (kd : List Nat) : RS :=
  match rsFits gs kd (nest (2 * gs.length + 2) 0 gs) with
  | true => nest (2 * gs.length + 2) 0 gs
  | false => .raw gs

def groupsOf (its : List Item) : List (Chain × List I) := (its.map fun it => (it.ch, it.is)).filter fun g => !g.2.isEmpty

def compRegion (B : Base) (ops : Array Oper) (draw : Bool) (anns : List Ann) (t : Tr) (ver : Nat) : Option (RS × Tr × Nat) :=
  match regItems B ops ver (regBef draw (regTab draw ops)) 0 [] ops.toList anns t with
  | some (its, t') =>
    match freeOk (regBef draw (regTab draw ops)) its && smallKeys (killsOf (ver + 2 * its.length) its) && drawOk draw (regTab draw ops) ops its && rsFits (groupsOf its) (killD its) (rsOf (groupsOf its) (killD its)) with
    | true => some (rsOf (groupsOf its) (killD its), t'.puts (killsOf (ver + 2 * its.length) its), ver + 2 * its.length + 1)
    | false => none
  | none => none

end Go.Lf

/- Regions, last part: the compiler of a region is sound. -/
namespace Go.Lf

theorem runGroups_filter {D : Nat → List Dyn → Option (List Dyn)} : ∀ {gs : List (Chain × List I)} {env : Env}, runGroups D env (gs.filter fun g => !g.2.isEmpty) = runGroups D env gs
  | [], env => rfl
  | (ch, []) :: gs, env => by
    simp only [List.filter_cons, List.isEmpty_nil, Bool.not_true, Bool.false_eq_true, if_false, runGroups]
    have : runGroup D env ch [] = some env := by unfold runGroup; split <;> rfl
    rw [this]
    exact runGroups_filter
  | (ch, i :: is) :: gs, env => by
    simp only [List.filter_cons, List.isEmpty_cons, Bool.not_false, if_true, runGroups]
    cases runGroup D env ch (i :: is) with
    | none => rfl
    | some e => exact runGroups_filter

/-- The environments on the way. -/
def envAt (D : Nat → List Dyn → Option (List Dyn)) (env : Env) (its : List Item) : Nat → Env
  | 0 => env
  | i + 1 =>
    match its[i]? with
    | some it => (runGroup D (envAt D env its i) it.ch it.is).getD (envAt D env its i)
    | none => envAt D env its i

theorem runGroups_at {D : Nat → List Dyn → Option (List Dyn)} {env env' : Env} {its : List Item} (h : runGroups D env (its.map fun it => (it.ch, it.is)) = some env') :
    (∀ (i : Nat) (it : Item), its[i]? = some it → runGroup D (envAt D env its i) it.ch it.is = some (envAt D env its (i + 1))) ∧ envAt D env its its.length = env' := by
  have key : ∀ (m i : Nat) , i + m = its.length → runGroups D (envAt D env its i) ((its.drop i).map fun it => (it.ch, it.is)) = some env' →
      (∀ (j : Nat) (it : Item), i ≤ j → its[j]? = some it → runGroup D (envAt D env its j) it.ch it.is = some (envAt D env its (j + 1))) ∧ envAt D env its its.length = env' := by
    intro m
    induction m with
    | zero =>
      intro i hi h
      have : i = its.length := by omega
      subst this
      simp only [List.drop_length, List.map_nil, runGroups, Option.some.injEq] at h
      exact ⟨fun j it hj hit => by have := (List.getElem?_eq_some_iff.1 hit).1; omega, h⟩
    | succ m ih =>
      intro i hi h
      have hil : i < its.length := by omega
      rw [List.drop_eq_getElem_cons hil] at h
      simp only [List.map_cons, runGroups] at h
      have hit : its[i]? = some its[i] := List.getElem?_eq_getElem hil
      cases hr : runGroup D (envAt D env its i) its[i].ch its[i].is with
      | none => rw [hr] at h; simp at h
      | some e =>
        rw [hr] at h
        have hnext : envAt D env its (i + 1) = e := by simp only [envAt, hit, hr, Option.getD_some]
        simp only at h
        rw [← hnext] at h
        obtain ⟨h1, h2⟩ := ih (i + 1) (by omega) h
        refine ⟨fun j it hj hjt => ?_, h2⟩
        by_cases hji : j = i
        · subst hji
          rw [hit] at hjt
          obtain rfl := Option.some.inj hjt
          rw [hr, hnext]
        · exact h1 j it (by omega) hjt
  obtain ⟨h1, h2⟩ := key its.length 0 (by omega) (by simpa [envAt] using h)
  exact ⟨fun i it => h1 i it (Nat.zero_le _), h2⟩

theorem kill_state {F : Fr} {clk : Clk} {v : Nat} {env' : Env} (h : St F clk) (hv : ¬ clk v) {ks : List (Nat × Ent)} (hk : ∀ x ∈ ks, x.2 = ⟨v, [], .no⟩) (hwhole : ∀ k ∈ keysOf ks, ∀ j, j < 16 → 16 * (k / 16) + j ∈ keysOf ks)
    (hch : ∀ s, sk s ∉ keysOf ks → ∀ c ∈ (F.G (sk s)).ch, c.1 ∉ keysOf ks) (henv : ∀ k, k ∉ keysOf ks → env' k = F.env k) :
    St { F with G := F.G.sets ks, env := env' } (clk.add v) := by
  have hG : ∀ k ∈ keysOf ks, F.G.sets ks k = ⟨v, [], .no⟩ := by
    intro k hkk
    rw [GT.sets_eq]
    cases hl : lastOf ks k with
    | none => exact absurd hkk (lastOf_none.1 hl)
    | some e => exact hk _ (lastOf_mem hl)
  have hwk : ∀ s, (sk s ∈ keysOf ks ∨ ∃ j, j < 15 ∧ lk s j ∈ keysOf ks) → ∀ j, j < 16 → lk s j ∈ keysOf ks := by
    intro s hs j hj
    rcases hs with hs | ⟨j0, hj0, hs⟩
    · have := hwhole _ hs j hj; rwa [sk_div] at this
    · have := hwhole _ hs j hj; rwa [lk_div (by omega)] at this
  have T : Touch F { F with G := F.G.sets ks, env := env' } clk (clk.add v) (· ∈ keysOf ks) := {
    le := fun _ h => .inl h
    ent := fun k hk => GT.sets_ne _ hk
    env := henv
    org := rfl
    slot := fun s cs hs hh j hj => hwk s (.inl hs) j (by have := hh.2; omega)
    tmp := fun _ _ => rfl
    ver := fun k hk => by show ¬ clk (F.G.sets ks k).ver; rw [hG k hk]; exact hv
    chn := hch
    shr := fun _ _ h1 h2 => ⟨h1, h2⟩
    frn := fun _ _ h1 h2 => ⟨h1, h2⟩
    own := fun _ _ _ _ h1 h2 _ _ => ⟨h1, h2⟩
    box := fun s b c ty _ _ h1 h2 => ⟨c, h2, h1, rfl, fun _ _ => rfl⟩
    old := fun k hk => by
      show (F.G.sets ks k).st.older _ ∧ clk.add v (F.G.sets ks k).ver
      rw [hG k hk]; exact ⟨trivial, .inr rfl⟩
    lab := h.labs }
  refine h.touch T fun s hs => ?_
  have hsk : sk s ∈ keysOf ks := hwk s hs 15 (by omega)
  unfold SlotOk
  show (if holds env' (F.G.sets ks (sk s)).ch = true then Claim _ s (F.G.sets ks (sk s)).st else _)
  rw [hG _ hsk]
  simp [holds, Claim]

section
variable {B : Base} {F : Fr} {a : Act} {w : World} {D : Nat → List Dyn → Option (List Dyn)} {Q' : Exit → Act → World → Prop}

/-- Outside regions no slot is under guards. -/
def noCh (g : GT) : Prop := ∀ s, (g (sk s)).ch = []

theorem zipIdx_get {α : Type} {l : List α} {x : α × Nat} (h : x ∈ l.zipIdx) : l[x.2]? = some x.1 := List.mem_zipIdx_iff_getElem?.1 h
theorem zipIdx_mem {α : Type} {l : List α} {i : Nat} {x : α} (h : l[i]? = some x) : (x, i) ∈ l.zipIdx := List.mem_zipIdx_iff_getElem?.2 h

theorem disjB_ok {a b : List Nat} (h : disjB a b = true) : ∀ x ∈ a, x ∉ b := by
  intro x hx
  have := List.all_eq_true.1 h x hx
  simpa using this

theorem killsOf_mem {ver : Nat} {its : List Item} {k : Nat} : k ∈ keysOf (killsOf ver its) ↔ ∃ it ∈ its, it.ch ≠ [] ∧ ∃ d, it.o.dst = some d ∧ k / 16 = d := by
  unfold keysOf killsOf
  simp only [List.map_flatMap, List.mem_flatMap]
  constructor
  · rintro ⟨it, hit, hk⟩
    cases hch : it.ch with
    | nil => rw [hch] at hk; simp at hk
    | cons c ch =>
      cases hd : it.o.dst with
      | none => rw [hch, hd] at hk; simp at hk
      | some d =>
        rw [hch, hd] at hk
        simp only [List.map_map, List.mem_map, List.mem_range, Function.comp] at hk
        obtain ⟨j, hj, rfl⟩ := hk
        exact ⟨it, hit, by rw [hch]; simp, d, hd, by omega⟩
  · rintro ⟨it, hit, hch, d, hd, hk⟩
    refine ⟨it, hit, ?_⟩
    cases hc : it.ch with
    | nil => exact absurd hc hch
    | cons c ch =>
      rw [hd]
      simp only [List.map_map, List.mem_map, List.mem_range, Function.comp]
      exact ⟨k % 16, Nat.mod_lt _ (by omega), by omega⟩

theorem killsOf_ent {ver : Nat} {its : List Item} : ∀ x ∈ killsOf ver its, x.2 = ⟨ver, [], .no⟩ := by
  intro x hx
  obtain ⟨it, _, hx⟩ := List.mem_flatMap.1 hx
  cases hch : it.ch with
  | nil => rw [hch] at hx; simp at hx
  | cons c ch =>
    cases hd : it.o.dst with
    | none => rw [hch, hd] at hx; simp at hx
    | some d =>
      rw [hch, hd] at hx
      obtain ⟨j, _, rfl⟩ := List.mem_map.1 hx
      rfl

/-- THE COMPILER OF A REGION. -/
theorem compRegion_sound {id : Nat} {ops : Array Oper} {draw : Bool} {anns : List Ann} {t t' : Tr} {ver ver' : Nat} {rs : RS} (hr : compRegion B ops draw anns t ver = some (rs, t', ver')) (hch : noCh t.get)
    (hm : B.P.follows .mixedOrders = true) (hD : ∀ i s, B.sigs i = some s → Callee B.P s (D i)) {env env' : Env} (hden : runRS D rs env = some env')
    (hG : F.G = t.get) (henv : F.env = env) (hst : St F (· < ver)) (hrel : Rel F a w B.nt)
    (hK : noCh t'.get → ver ≤ ver' → ∀ F' a' w', F'.G = t'.get → F'.env = env' → St F' (· < ver') → Rel F' a' w' B.nt → Ext F w F' w' → Q' .normal a' w') : (Code.region id ops draw).wp B.P Q' a w := by
  unfold compRegion at hr
  split at hr
  case h_2 => simp at hr
  rename_i its t1 hits
  split at hr
  case h_2 => simp at hr
  rename_i hok
  simp only [Option.some.injEq, Prod.mk.injEq] at hr
  obtain ⟨rfl, rfl, rfl⟩ := hr
  simp only [Bool.and_eq_true] at hok
  obtain ⟨⟨⟨hfree, hsmall⟩, hdrawok⟩, hrs⟩ := hok
  obtain ⟨hlen, ht1, hall⟩ := regItems_ok hits
  simp only [List.nil_append, Nat.zero_add] at hall
  simp only [rsFits, Bool.and_eq_true, decide_eq_true_eq] at hrs
  obtain ⟨hflat, hbad⟩ := hrs
  cases hokr : (rsOf (groupsOf its) (killD its)).ok [] with
  | none => rw [hokr] at hbad; simp at hbad
  | some bad =>
  rw [hokr] at hbad
  simp only at hbad
  obtain ⟨env1, hgr, hagree, _⟩ := runRS_ok (E := env) (ch := []) hokr (fun _ _ => rfl) (by rfl) (fun c hc => by simp at hc) hden
  rw [hflat] at hgr
  unfold groupsOf at hgr
  rw [runGroups_filter] at hgr
  obtain ⟨hE, hElast⟩ := runGroups_at hgr
  have hlen' : its.length = ops.size := by simpa using hlen
  have X : RegCtx B ops its ver (regBef draw (regTab draw ops)) (gAt t.get its) := {
    len := hlen'
    op := fun i it hit => by have := (hall i it hit).1; simpa using this
    next := fun i it hit => by
      have hi := (List.getElem?_eq_some_iff.1 hit).1
      have he := (List.getElem?_eq_some_iff.1 hit).2
      simp only [gAt]
      rw [List.take_succ_eq_append_getElem hi, List.flatMap_append, GT.sets_append, he]
      simp
    run := fun i it hit => (hall i it hit).2.2.1
    log := fun i it hit k hk => by rw [(hall i it hit).2.2.2]; exact hk
    free := fun i j it jt hij hb hit hjt x hx c hc => by
      have h1 := List.all_eq_true.1 hfree (jt, j) (zipIdx_mem hjt)
      simp only at h1
      cases hcj : jt.ch with
      | nil => rw [hcj] at hc; simp at hc
      | cons c0 ch0 =>
        rw [hcj] at h1
        simp only at h1
        have h2 := List.all_eq_true.1 h1 (it, i) (zipIdx_mem hit)
        simp only [Bool.or_eq_true, beq_iff_eq] at h2
        rcases h2 with (h2 | h2) | h2
        · exact absurd h2 hij
        · rw [hb] at h2; cases h2
        · have h3 := List.all_eq_true.1 (List.all_eq_true.1 h2 x hx) c (by rw [← hcj]; exact hc)
          simpa using h3
    calm := fun s => by
      simp only [gAt, List.take_zero, List.flatMap_nil, GT.sets]
      exact hch s }
  have hallchs : ∀ (j : Nat) (jt : Item), its[j]? = some jt → ∀ x ∈ jt.es, x.2.ch = [] ∨ x.2.ch = jt.ch := by
    intro j jt hjt
    obtain ⟨_, _, h3, _⟩ := stepQ_run (X.run j jt hjt)
    exact compStep_chs h3
  have hkg : ∀ x ∈ killsOf (ver + 2 * its.length) its, x.1 < keyMax := by
    intro x hx
    have := List.all_eq_true.1 hsmall x hx
    simpa using this
  have hget' : (t1.puts (killsOf (ver + 2 * its.length) its)).get = (gAt t.get its its.length).sets (killsOf (ver + 2 * its.length) its) := by rw [Tr.get_puts hkg, ht1]
  -- guards of what was left
  have hguard : ∀ s, (gAt t.get its its.length (sk s)).ch = [] ∨ sk s ∈ keysOf (killsOf (ver + 2 * its.length) its) := by
    intro s
    have hmix : mixAt (gAt t.get its) (wG its) (fun _ => True) its.length (sk s) = gAt t.get its its.length (sk s) :=
      mix_agree (Nat.le_refl _) (fun j hj x hx => X.stepG j hj x hx) (fun j hj _ => trivial) (fun j h1 h2 => by omega)
    rcases X.chains (S := fun _ => True) hallchs s its.length (Nat.le_refl _) with h | ⟨j, jt, h1, _, h3, h4, h5⟩
    · left; rw [← hmix]; exact h
    · by_cases hjc : jt.ch = []
      · left; rw [← hmix, h4, hjc]
      · right
        rw [killsOf_mem]
        refine ⟨jt, List.mem_of_getElem? h3, hjc, ?_⟩
        obtain ⟨_, _, _, _, _, has⟩ := stepQ_run (X.run j jt h3)
        unfold aside at has
        cases hcj : jt.ch with
        | nil => exact absurd hcj hjc
        | cons c0 ch0 =>
          rw [hcj] at has
          cases hd : jt.o.dst with
          | none => rw [hd] at has; simp [Q.run] at has
          | some d =>
            rw [hd] at has
            simp only [Q.run_bind', Q.run_ent, Option.bind_some, Q.run_guard] at has
            split at has
            case isFalse => simp at has
            rename_i hg
            simp only [Bool.and_eq_true, List.all_eq_true] at hg
            obtain ⟨x, hx, hxk⟩ := List.mem_map.1 h5
            have := (hg.1.2 x hx).1.1
            rw [hxk] at this
            exact ⟨d, rfl, by simpa using this⟩
  have hno : noCh (t1.puts (killsOf (ver + 2 * its.length) its)).get := by
    intro s
    rw [hget']
    by_cases hks : sk s ∈ keysOf (killsOf (ver + 2 * its.length) its)
    · rw [GT.sets_eq]
      cases hl : lastOf (killsOf (ver + 2 * its.length) its) (sk s) with
      | none => exact absurd hks (lastOf_none.1 hl)
      | some e =>
        have := killsOf_ent _ (lastOf_mem hl)
        simp only at this
        rw [this]; rfl
    · rw [GT.sets_ne _ hks]
      exact (hguard s).resolve_right hks
  refine region_sound (its := its) (ver0 := ver) (bef := regBef draw (regTab draw ops)) (G := gAt t.get its) (E := envAt D env its) X ?_ hD hE ?_ (by rw [henv]; rfl) hst hrel ?_
  · cases draw with
    | false => exact .inl ⟨rfl, rfl⟩
    | true =>
      right
      simp only [drawOk, Bool.and_eq_true] at hdrawok
      obtain ⟨hb, hap⟩ := hdrawok
      simp only [regTab] at hb hap
      show true = true ∧ _
      simp only [befOk, Bool.and_eq_true] at hb
      obtain ⟨hb1, hb2⟩ := hb
      have hbm : ∀ j i, befOf (befsOf [] ops.toList) j i = true → ∃ l, (befsOf [] ops.toList)[i]? = some l ∧ j ∈ l := by
        intro j i h
        unfold befOf at h
        split at h
        · rename_i l hl; exact ⟨l, hl, by simpa using h⟩
        · cases h
      have hb1' : ∀ j i, befOf (befsOf [] ops.toList) j i = true → j < i ∧ ∀ k, befOf (befsOf [] ops.toList) k j = true → befOf (befsOf [] ops.toList) k i = true := by
        intro j i h
        obtain ⟨l, hl, hj⟩ := hbm j i h
        have h1 := List.all_eq_true.1 (List.all_eq_true.1 hb1 (l, i) (zipIdx_mem hl)) j hj
        simp only [Bool.and_eq_true, Nat.blt_eq, List.all_eq_true] at h1
        refine ⟨h1.1, fun k hk => ?_⟩
        obtain ⟨l2, hl2, hk2⟩ := hbm k j hk
        have h2 := h1.2 k (by rw [hl2]; exact hk2)
        unfold befOf
        rw [hl]
        exact h2
      refine ⟨rfl, hm, ?_, fun j i h => (hb1' j i h).1, fun i j k h1 h2 => (hb1' j k h2).2 i h1, fun i o ho => ?_⟩
      · intro i j it jt hij hit hjt
        have h1 := List.all_eq_true.1 (List.all_eq_true.1 hap (it, i) (zipIdx_mem hit)) (jt, j) (zipIdx_mem hjt)
        simp only [Bool.or_eq_true, Bool.not_eq_true', Bool.and_eq_true] at h1
        rcases h1 with h1 | h1 | h1
        · have : Nat.blt j i = true := by simpa using hij
          rw [this] at h1; cases h1
        · exact .inl h1
        · exact .inr ⟨h1.1.1, disjB_ok h1.1.2, disjB_ok h1.2⟩
      · have ho' : ops.toList[i]? = some o := by simpa using ho
        have h1 := List.all_eq_true.1 hb2 (o, i) (zipIdx_mem ho')
        simp only [Bool.and_eq_true, List.all_eq_true, Bool.or_eq_true, Bool.not_eq_true', Nat.blt_eq] at h1
        refine ⟨fun e he hbd => ?_, fun j hj => ?_⟩
        · have := h1.1 e (by simpa using he)
          rw [hbd] at this
          simpa using this
        · obtain ⟨l, hl, hjl⟩ := hbm j i hj
          have h2 := h1.2 j (by rw [hl]; exact hjl)
          obtain ⟨e, he, h3⟩ := List.any_eq_true.1 h2
          simp only [Bool.and_eq_true, Bool.or_eq_true, beq_iff_eq] at h3
          exact ⟨e, by simpa using he, h3.1, h3.2⟩
  · rw [hG]; rfl
  · intro F' a' w' g1 g2 g3 g4 g5
    have hk := kill_state (v := ver + 2 * its.length) (ks := killsOf (ver + 2 * its.length) its) (env' := env') g3 (by show ¬ (ver + 2 * its.length < ver + 2 * its.length); omega) killsOf_ent (fun k hk j hj => by
        rw [killsOf_mem] at hk ⊢
        obtain ⟨it, h1, h2, d, h3, h4⟩ := hk
        exact ⟨it, h1, h2, d, h3, by omega⟩) (fun s hs c hc => by
        rw [g1] at hc
        rw [(hguard s).resolve_right hs] at hc
        simp at hc) (fun k hk => by
        rw [g2, hElast]
        refine (hagree k fun hb => hk ?_).symm
        have := List.all_eq_true.1 hbad k hb
        simp only [List.contains_eq_mem, decide_eq_true_eq] at this
        obtain ⟨it, hit, hd⟩ := List.mem_filterMap.1 this
        rw [killsOf_mem]
        refine ⟨it, hit, ?_, k / 16, ?_, rfl⟩
        · intro hn; rw [hn] at hd; simp at hd
        · cases hch' : it.ch with
          | nil => rw [hch'] at hd; simp at hd
          | cons c0 ch0 => rw [hch'] at hd; exact hd)
    refine hK hno (by omega) { F' with G := F'.G.sets (killsOf (ver + 2 * its.length) its), env := env' } a' w' ?_ rfl (hk.mono fun v hv => by rcases hv with hv | hv <;> show v < _ <;> omega) ⟨g4.tmps, g4.H, g4.calm, g4.size⟩ ⟨g5.os, g5.tape, g5.output, g5.size, g5.imm, g5.frn, g5.org⟩
    · show F'.G.sets _ = _
      rw [g1, hget']

end
end Go.Lf

/- Coming to a label: the state is made to fit the label's table. -/
namespace Go.Lf

/-- How a slice is shared from now on when its entry becomes another one. -/
def weakOf : ES → ES → Option Bool
  | .ro _ _, .va => some true
  | .ro m _, .ro m' _ => if m = m' then none else some false
  | _, _ => none

def clab (g gj : GT) (lab : Nat → Lab) (b : Nat) : Lab :=
  match lab b with
  | .own (k :: q) =>
    match weakOf (g k).st (gj k).st with
    | some true => .imm
    | some false => if q = [] then .own [k] else .imm
    | none => .own (k :: q)
  | l => l

def keptSlot (g gj : GT) (s : Nat) : Bool := (gj (sk s)).st == (g (sk s)).st

def leafCo (g gj : GT) (st : List Nat) (k : Nat) : Bool :=
  match (gj k).st, (g k).st with
  | .no, _ => true
  | .va, .va => st.contains k
  | .va, .em => st.contains k
  | .va, .ro _ _ => st.contains k
  | .em, .em => st.contains k
  | .ro _ none, .em => st.contains k
  | .ro m org, .ro m' org' => (m == m' || m == m'.wk) && (org == none || org == org') && st.contains k
  | .rf k2 _, .rf k2' kv => k2 == k2' && (g k2).ver == kv && keptSlot g gj (k2 / 16) && st.contains k && st.contains k2
  | .ef k2 _ i _ off, .ef k2' kv i' iv off' => k2 == k2' && i == i' && off == off' && (g k2).ver == kv && (g i).ver == iv && keptSlot g gj (k2 / 16) &&
      weakOf (g k2).st (gj k2).st != some true && st.contains k && st.contains k2 && st.contains i
  | _, _ => false

def slotCo (g gj : GT) (st : List Nat) (s : Nat) : Bool :=
  match (gj (sk s)).st with
  | .no => true
  | .al s2 _ off =>
    match (g (sk s)).st with
    | .al s2' sv off' => s2 == s2' && off == off' && (g (sk s2)).ver == sv
    | _ => false
  | .ea k2 _ i _ off =>
    match (g (sk s)).st with
    | .ea k2' kv i' iv off' => k2 == k2' && i == i' && off == off' && (g k2).ver == kv && (g i).ver == iv && keptSlot g gj (k2 / 16) && st.contains k2 && st.contains i
    | _ => false
  | .cl f caps =>
    match (g (sk s)).st with
    | .cl f' caps' => f == f' && caps.map (·.1) == caps'.map (·.1) && caps'.all fun c => (g (sk c.1)).ver == c.2
    | _ => false
  | a => a == (g (sk s)).st && a.leafy && (List.range a.cells).all fun j => leafCo g gj st (lk s j)

def tabOk (tab : List (Nat × Ent)) : Bool := smallKeys tab && tab.all fun x => x.2.ver == 0 && x.2.ch.isEmpty && x.2.st.refs.all fun v => v == 0

def coOk (g gj : GT) (tab : List (Nat × Ent)) (st : List Nat) : Bool := tab.all fun x => x.1 % 16 != 15 || slotCo g gj st (x.1 / 16)

def tabG (tab : List (Nat × Ent)) : GT := (Tr.leaf.puts tab).get

def envOf : List Nat → List Dyn → Env
  | k :: ks, d :: ds => (envOf ks ds).set k d
  | _, _ => fun _ => ⟨.bool, false⟩

theorem envOf_get {st : List Nat} {env : Env} {k : Nat} (h : k ∈ st) : envOf st (st.map env) k = env k := by
  induction st with
  | nil => simp at h
  | cons a st ih =>
    simp only [List.map_cons, envOf]
    by_cases hk : k = a
    · subst hk; rw [Env.set_same]
    · rw [Env.set_ne _ _ hk]; exact ih ((List.mem_cons.1 h).resolve_left hk)

theorem tabG_eq {tab : List (Nat × Ent)} (h : tabOk tab = true) : ∀ k, tabG tab k = (lastOf tab k).getD noEnt := by
  intro k
  simp only [tabOk, Bool.and_eq_true] at h
  unfold tabG
  rw [Tr.get_puts (fun x hx => by have := List.all_eq_true.1 h.1 x hx; simpa using this), GT.sets_eq]
  rfl

theorem tabG_facts {tab : List (Nat × Ent)} (h : tabOk tab = true) (k : Nat) : (tabG tab k).ver = 0 ∧ (tabG tab k).ch = [] ∧ ∀ v ∈ (tabG tab k).st.refs, v = 0 := by
  rw [tabG_eq h]
  cases hl : lastOf tab k with
  | none => exact ⟨rfl, rfl, fun v hv => by simp [noEnt, ES.refs] at hv⟩
  | some e =>
    simp only [tabOk, Bool.and_eq_true] at h
    have := List.all_eq_true.1 h.2 _ (lastOf_mem hl)
    simp only [Bool.and_eq_true, beq_iff_eq, List.isEmpty_iff, List.all_eq_true] at this
    exact ⟨this.1.1, this.1.2, this.2⟩

theorem tabG_none {tab : List (Nat × Ent)} (h : tabOk tab = true) {k : Nat} (hk : k ∉ keysOf tab) : tabG tab k = noEnt := by
  rw [tabG_eq h, lastOf_none.2 hk]; rfl

section
variable {F : Fr} {clk : Clk} {g gj : GT} {st : List Nat} {tab : List (Nat × Ent)}

/-- The frame behind the jump. -/
def coFr (F : Fr) (gj : GT) (st : List Nat) : Fr := { F with lab := clab F.G gj F.lab, G := gj, env := envOf st (st.map F.env) }

theorem clab_shared {lab : Nat → Lab} {b : Nat} (h : (lab b).shared) : (clab g gj lab b).shared := by
  unfold clab
  cases hl : lab b with
  | imm => trivial
  | own p => rw [hl] at h; exact h.elim

theorem clab_frn {lab : Nat → Lab} {b : Nat} (h : lab b = .own []) : clab g gj lab b = .own [] := by simp [clab, h]

theorem clab_still {lab : Nat → Lab} {b : Nat} (h : (lab b).still) : (clab g gj lab b).still := by
  rcases Lab.still_iff.1 h with h | h
  · exact Lab.still_iff.2 (.inl (clab_shared h))
  · exact Lab.still_iff.2 (.inr (clab_frn h))

theorem clab_own {lab : Nat → Lab} {b k : Nat} {q : List Nat} (h : lab b = .own (k :: q)) (hw : weakOf (g k).st (gj k).st = none) : clab g gj lab b = .own (k :: q) := by simp [clab, h, hw]

theorem clab_top {lab : Nat → Lab} {b k : Nat} (h : lab b = .own [k]) (hw : weakOf (g k).st (gj k).st ≠ some true) : clab g gj lab b = .own [k] := by
  unfold clab
  rw [h]
  cases hq : weakOf (g k).st (gj k).st with
  | none => simp only [hq]
  | some b => cases b <;> simp_all

theorem coFr_has {s : Nat} {cs : List Value} (hk : keptSlot F.G gj s = true) (h : F.has s cs) : (coFr F gj st).has s cs := by
  have hk : (gj (sk s)).st = (F.G (sk s)).st := by simpa [keptSlot] using hk
  obtain ⟨hH, hl⟩ := h
  refine ⟨?_, hl⟩
  show Has F.H (clab F.G gj F.lab) s (gj (sk s)).st (F.val s) cs
  rw [hk]
  have hst : ∀ (b : Nat) (o : Obj), F.H[b]? = some o → (F.lab b).still → F.H[b]? = some o ∧ (clab F.G gj F.lab b).still := fun b o h1 h2 => ⟨h1, clab_still h2⟩
  cases hs : (F.G (sk s)).st <;> rw [hs] at hH <;> simp only [Has] at hH ⊢
  case pl n agg => exact hH
  case bx n =>
    obtain ⟨b, c, ty, h1, h2, h3⟩ := hH
    exact ⟨b, c, ty, h1, clab_own h2 (by rw [hs]; rfl), h3⟩
  case pa n => exact hH.keep hst
  case cp f ns => obtain ⟨ps, h1, h2⟩ := hH; exact ⟨ps, h1, h2.keep hst⟩
  case tu ps => exact hH
  all_goals exact hH

theorem coFr_cell {k : Nat} {v : Value} (hk : keptSlot F.G gj (k / 16) = true) (h : F.cell k v) : (coFr F gj st).cell k v := by
  obtain ⟨cs, hh, hv⟩ := h
  exact ⟨cs, coFr_has hk hh, hv⟩

theorem coFr_env {k : Nat} (h : k ∈ st) : (coFr F gj st).env k = F.env k := envOf_get h

theorem co_leaf {k : Nat} {v : Value} (h15 : k % 16 < 15) (hl : LeafOk F k (F.G k).st v) (hc : leafCo F.G gj st k = true) : LeafOk (coFr F gj st) k (gj k).st v := by
  have hsh : ∀ (b : Nat) (o : Obj), F.H[b]? = some o → (F.lab b).shared → (coFr F gj st).H[b]? = some o ∧ ((coFr F gj st).lab b).shared := fun b o h1 h2 => ⟨h1, clab_shared h2⟩
  unfold leafCo at hc
  cases h1 : (gj k).st <;> cases h2 : (F.G k).st <;> rw [h1, h2] at hc <;> rw [h2] at hl <;> simp only [Bool.false_eq_true, LeafOk] at hc hl ⊢
  case va.va =>
    rw [coFr_env (by simpa using hc)]
    exact hl.shared hsh
  case va.em =>
    rw [coFr_env (by simpa using hc)]
    obtain ⟨a, e, rfl, he⟩ := hl
    rw [he]
    simp only [Ty.shr, Rd]
    refine ⟨a, 0, rfl, ?_⟩
    cases a with
    | none => exact ⟨trivial, rfl⟩
    | some p => exact .inl ⟨trivial, rfl⟩
  case va.ro m org =>
    rw [coFr_env (by simpa using hc)]
    refine hl.1.share ⟨fun b o s ho hlb => ⟨ho, ?_⟩, hsh⟩
    show (clab F.G gj F.lab b).shared
    have : F.lab b = .own (k :: s) := by simpa using hlb
    simp [clab, this, h1, h2, weakOf, Lab.shared]
  case em.em =>
    rw [coFr_env (by simpa using hc)]
    exact hl
  case ro.em m org =>
    cases org with
    | some o => simp at hc
    | none =>
      rw [coFr_env (by simpa using hc)]
      obtain ⟨a, e, rfl, he⟩ := hl
      rw [he]
      refine ⟨?_, fun p hp => by cases hp⟩
      simp only [Rd]
      refine ⟨a, 0, rfl, ?_⟩
      cases a with
      | none => exact ⟨trivial, rfl⟩
      | some p => exact .inl ⟨trivial, rfl⟩
  case ro.ro m org m' org' =>
    have hc' : (m = m' ∨ m = m'.wk) ∧ (org = none ∨ org = org') ∧ k ∈ st := by
      cases org <;> simp at hc <;> simp [hc]
    obtain ⟨hm, ho, hk⟩ := hc'
    rw [coFr_env hk]
    refine ⟨?_, fun p hp => ?_⟩
    · by_cases hmm : m = m'
      · subst hmm
        refine hl.1.carry ⟨fun b o s hob hlb => ⟨hob, ?_⟩, hsh⟩
        have hb : F.lab b = .own (k :: s) := by simpa using hlb
        show clab F.G gj F.lab b = .own ([k] ++ s)
        rw [clab_own hb (by rw [h1, h2]; simp [weakOf])]
        rfl
      · have hmw : m = m'.wk := hm.resolve_left hmm
        have hw : weakOf (F.G k).st (gj k).st = some false := by rw [h1, h2]; simp [weakOf, Ne.symm hmm]
        have hR := hl.1
        revert hR
        generalize F.env k = y
        obtain ⟨τ, x⟩ := y
        intro hR
        cases τ <;> simp only [Rd] at hR ⊢
        obtain ⟨ad, cap, he, hR⟩ := hR
        refine ⟨ad, cap, he, ?_⟩
        cases ad with
        | none => exact hR
        | some q =>
          rcases hR with hR | ⟨g1, g2, g3, c, ty, fr, g4, g5, g6, g7⟩
          · exact .inl hR
          · refine .inr ⟨g1, ?_, g3, c, ty, fr, g4, g5, g6, fun i hi => ?_⟩
            · simp only [MdOk] at g2 ⊢
              exact clab_top g2 (by rw [hw]; simp)
            · rw [hmw]
              refine (g7 i hi).shareWk ⟨fun b o q2 ho hl => ⟨ho, ?_⟩, hsh⟩
              have hl' : F.lab b = .own (k :: (i :: q2)) := by simpa using hl
              show (clab F.G gj F.lab b).shared
              simp [clab, hl', hw, Lab.shared]
    · rcases ho with ho | ho
      · rw [ho] at hp; cases hp
      · exact hl.2 p (by rw [← ho]; exact hp)
  case rf.rf k2 v2 k2' kv =>
    simp only [Bool.and_eq_true, beq_iff_eq, List.contains_eq_mem, decide_eq_true_eq] at hc
    obtain ⟨⟨⟨⟨rfl, hv⟩, hk⟩, hs1⟩, hs2⟩ := hc
    intro _
    obtain ⟨a1, a2⟩ := hl hv
    exact ⟨coFr_cell hk a1, by rw [coFr_env hs1, coFr_env hs2]; exact a2⟩
  case ef.ef k2 v2 i2 iv2 off k2' kv i' iv off' =>
    simp only [Bool.and_eq_true, beq_iff_eq, List.contains_eq_mem, decide_eq_true_eq, bne_iff_ne, ne_eq] at hc
    obtain ⟨⟨⟨⟨⟨⟨⟨⟨⟨rfl, rfl⟩, rfl⟩, hv1⟩, hv2⟩, hk⟩, hw⟩, hs1⟩, hs2⟩, hs3⟩ := hc
    intro _ _
    obtain ⟨a0, n, b, o, e, c, ty, a1, a2, a3, a4, a5, xs, x, a6, a7, a8⟩ := hl hv1 hv2
    refine ⟨a0, n, b, o, e, c, ty, ?_, ?_, clab_top a3 hw, a4, a5, xs, x, by rw [coFr_env hs2]; exact a6, a7, by rw [coFr_env hs1]; exact a8⟩
    · obtain ⟨kd, z, z1, z2⟩ := a1
      exact ⟨kd, z, by rw [coFr_env hs3]; exact z1, z2⟩
    · obtain ⟨o', len, cap, ys, y1, y2, y3, y4⟩ := a2
      exact ⟨o', len, cap, ys, coFr_cell hk y1, by rw [coFr_env hs2]; exact y2, y3, y4⟩

theorem co_slot {s : Nat} (h : St F clk) (hno : noCh F.G) (hc : slotCo F.G gj st s = true) : Claim (coFr F gj st) s (gj (sk s)).st := by
  have hcl : Claim F s (F.G (sk s)).st := h.claim (by rw [hno s]; rfl)
  have hleafy : ∀ (hk : keptSlot F.G gj s = true) (hlf : (F.G (sk s)).st.leafy = true) (hall : (List.range (F.G (sk s)).st.cells).all (fun j => leafCo F.G gj st (lk s j)) = true), Claim (coFr F gj st) s (gj (sk s)).st := by
    intro hk hlf hall
    have hke : (gj (sk s)).st = (F.G (sk s)).st := by simpa [keptSlot] using hk
    rw [claim_leafy hlf] at hcl
    rw [hke, claim_leafy hlf]
    obtain ⟨cs, hh, hl⟩ := hcl
    refine ⟨cs, coFr_has hk hh, fun j v hv => ?_⟩
    have hj : j < cs.length := (List.getElem?_eq_some_iff.1 hv).1
    have hcells := Fr.has_cells hh
    have h15 := hh.2
    have hco := List.all_eq_true.1 hall j (by simp; omega)
    rcases Nat.lt_or_ge j 15 with hj15 | hj15
    · exact co_leaf (by rw [lk_mod (by omega)]; exact hj15) (hl j v hv) hco
    · omega
  have last : ∀ a, (gj (sk s)).st = a → (a == (F.G (sk s)).st && a.leafy && (List.range a.cells).all fun j => leafCo F.G gj st (lk s j)) = true → Claim (coFr F gj st) s (gj (sk s)).st := by
    intro a ha hb
    simp only [Bool.and_eq_true, beq_iff_eq] at hb
    obtain ⟨⟨h1, h2⟩, h3⟩ := hb
    exact hleafy (by simp [keptSlot, ha, h1]) (by rw [← h1]; exact h2) (by rw [← h1]; exact h3)
  unfold slotCo at hc
  cases h1 : (gj (sk s)).st with
  | no => trivial
  | al s2 v2 off =>
    rw [h1] at hc
    simp only at hc
    cases h2 : (F.G (sk s)).st <;> rw [h2] at hc hcl <;> simp only [Bool.false_eq_true] at hc
    simp only [Bool.and_eq_true, beq_iff_eq] at hc
    obtain ⟨⟨rfl, rfl⟩, hv⟩ := hc
    intro _
    exact hcl hv
  | ea k2 v2 i v3 off =>
    rw [h1] at hc
    simp only at hc
    cases h2 : (F.G (sk s)).st <;> rw [h2] at hc hcl <;> simp only [Bool.false_eq_true] at hc
    simp only [Bool.and_eq_true, beq_iff_eq, List.contains_eq_mem, decide_eq_true_eq] at hc
    obtain ⟨⟨⟨⟨⟨⟨⟨rfl, rfl⟩, rfl⟩, hv1⟩, hv2⟩, hk⟩, hs1⟩, hs2⟩ := hc
    intro _ _
    obtain ⟨n, b, o, e, a1, a2, a3⟩ := hcl hv1 hv2
    refine ⟨n, b, o, e, ?_, ?_, a3⟩
    · obtain ⟨kd, z, z1, z2⟩ := a1
      exact ⟨kd, z, by rw [coFr_env hs2]; exact z1, z2⟩
    · obtain ⟨o', len, cap, ys, y1, y2, y3, y4⟩ := a2
      exact ⟨o', len, cap, ys, coFr_cell hk y1, by rw [coFr_env hs1]; exact y2, y3, y4⟩
  | cl f caps =>
    rw [h1] at hc
    simp only at hc
    cases h2 : (F.G (sk s)).st <;> rw [h2] at hc hcl <;> simp only [Bool.false_eq_true] at hc
    rename_i f' caps'
    simp only [Bool.and_eq_true, beq_iff_eq, List.all_eq_true] at hc
    obtain ⟨⟨rfl, hm⟩, hv⟩ := hc
    obtain ⟨ps, a1, a2, a3⟩ := hcl
    have hlen : caps.length = caps'.length := by have := congrArg List.length hm; simpa using this
    refine ⟨ps, a1, by rw [a2, hlen], fun i c hci _ => ?_⟩
    have hi : i < caps.length := (List.getElem?_eq_some_iff.1 hci).1
    have hci' : caps'[i]? = some (caps'[i]'(by omega)) := List.getElem?_eq_getElem (by omega)
    have he : c.1 = (caps'[i]'(by omega)).1 := by
      have h5 : (caps.map (·.1))[i]? = (caps'.map (·.1))[i]? := by rw [hm]
      rw [List.getElem?_map, List.getElem?_map, hci, hci'] at h5
      simpa using h5
    have := a3 i _ hci' (hv _ (List.getElem_mem _))
    rw [he]
    exact this
  | _ => rw [← h1]; rw [h1] at hc; exact last _ h1 hc

/-- COMING TO A LABEL. -/
theorem co_state (h : St F clk) (hno : noCh F.G) (ht : tabOk tab = true) (hc : coOk F.G (tabG tab) tab st = true) : St (coFr F (tabG tab) st) (· < 1) ∧ noCh (tabG tab) := by
  have hf := tabG_facts ht
  refine ⟨⟨fun s => ?_, fun k => ?_, fun k => ?_, fun b hb => ?_⟩, fun s => (hf (sk s)).2.1⟩
  · unfold SlotOk
    have hch : ((coFr F (tabG tab) st).G (sk s)).ch = [] := (hf (sk s)).2.1
    rw [hch]
    rw [if_pos (by rfl)]
    show Claim (coFr F (tabG tab) st) s (tabG tab (sk s)).st
    by_cases hk : sk s ∈ keysOf tab
    · obtain ⟨x, hx, hxk⟩ := List.mem_map.1 hk
      have := List.all_eq_true.1 hc x hx
      simp only [Bool.or_eq_true, bne_iff_ne, ne_eq, hxk] at this
      rw [sk_div] at this
      exact co_slot h hno (this.resolve_left (by unfold sk; omega))
    · rw [tabG_none ht hk]; trivial
  · have hr := (hf k).2.2
    show ((tabG tab k).st).older _
    cases hst : (tabG tab k).st <;> rw [hst] at hr <;> simp only [ES.refs, ES.older] at hr ⊢
    case rf kv => have := hr kv (by simp); omega
    case al sv _ => have := hr sv (by simp); omega
    case ef kv _ iv _ => have h1 := hr kv (by simp); have h2 := hr iv (by simp); exact ⟨by omega, by omega⟩
    case ea kv _ iv _ => have h1 := hr kv (by simp); have h2 := hr iv (by simp); exact ⟨by omega, by omega⟩
    case cl caps => exact fun c hcm => by have := hr c.2 (List.mem_map.2 ⟨c, hcm, rfl⟩); omega
  · show (tabG tab k).ver < 1
    rw [(hf k).1]; exact Nat.one_pos
  · show clab F.G (tabG tab) F.lab b = .imm
    have : F.lab b = .imm := h.labs b hb
    simp [clab, this]

end
end Go.Lf

/- Code: trees, their meaning, the compiler and its soundness. -/
namespace Go.Lf

inductive Tree where
  | ret (out : List (Ty × List Od))
  | jump (l : Nat) (ks : List Nat)
  | ite (c : Od) (t e : Tree)
  | ins (rs : RS) (t : Tree)
  deriving Inhabited

abbrev DT := Nat → List Dyn → Option (List Dyn)

def eval (D J : DT) : Tree → Env → Option (List Dyn)
  | .ret out, env => argsD env out
  | .jump l ks, env => J l (ks.map env)
  | .ite c t e, env =>
    match c.rd env with
    | ⟨.bool, b⟩ => match b with | true => eval D J t env | false => eval D J e env
    | _ => none
  | .ins rs t, env =>
    match runRS D rs env with
    | some e => eval D J t e
    | none => none

abbrev Blk := Nat → Option (List Nat × Tree)

def runJ (D : DT) (blk : Blk) : Nat → DT
  | 0, _, _ => none
  | n + 1, l, x =>
    match blk l with
    | some (st, t) => eval D (runJ D blk n) t (envOf st x)
    | none => none

structure Lbl where
  tab : List (Nat × Ent)
  st : List Nat
  deriving Inhabited

/-- What the compiler is told of a piece of code. -/
inductive CAnn where
  | none
  | reg (anns : List Ann)
  | seq (a b : CAnn)
  | cond (j : Option Nat) (a b : CAnn)
  | block (j : Option Nat) (a : CAnn)
  | loop (l : Nat) (a : CAnn)
  deriving Inhabited

structure CS where
  t : Tr
  ver : Nat

abbrev COut := Tree × List (Nat × Tree)

def Lbl.cs (lb : Lbl) : CS := ⟨Tr.leaf.puts lb.tab, 1⟩

def jmpK (L : List Lbl) (l : Nat) (s : CS) : Option COut :=
  match L[l]? with
  | some lb => match coOk s.t.get (tabG lb.tab) lb.tab lb.st with
    | true => some (.jump l lb.st, [])
    | false => none
  | none => none

def compC (B : Base) (L : List Lbl) (R : CS → Option Tree) : Code → CAnn → CS → (CS → Option COut) → (Nat → CS → Option COut) → Option COut
  | .skip, _, s, K, _ => K s
  | .region _ ops draw, .reg anns, s, K, _ =>
    match compRegion B ops draw anns s.t s.ver with
    | some (gs, t', v') =>
      match K ⟨t', v'⟩ with
      | some (t, bl) => some (.ins gs t, bl)
      | none => none
    | none => none
  | .seq a b, .seq x y, s, K, ex => compC B L R a x s (fun s' => compC B L R b y s' K ex) ex
  | .cond c a b, .cond j x y, s, K, ex =>
    match (scalar [] c).run s.t.get with
    | some od =>
      match j with
      | none =>
        match compC B L R a x s K ex, compC B L R b y s K ex with
        | some (ta, la), some (tb, lb) => some (.ite od ta tb, la ++ lb)
        | _, _ => none
      | some j =>
        match compC B L R a x s (jmpK L j) ex, compC B L R b y s (jmpK L j) ex, (L[j]?).bind fun l => K l.cs with
        | some (ta, la), some (tb, lb), some (tj, lj) => some (.ite od ta tb, (j, tj) :: la ++ lb ++ lj)
        | _, _, _ => none
    | none => none
  | .block id a, .block j x, s, K, ex =>
    match j with
    | none => compC B L R a x s K (fun i => match Nat.beq i id with | true => K | false => ex i)
    | some j =>
      match compC B L R a x s (jmpK L j) (fun i => match Nat.beq i id with | true => jmpK L j | false => ex i), (L[j]?).bind fun l => K l.cs with
      | some (ta, la), some (tj, lj) => some (ta, (j, tj) :: la ++ lj)
      | _, _ => none
  | .loop a, .loop l x, s, _, ex =>
    match jmpK L l s, (L[l]?).bind fun lb => compC B L R a x lb.cs (jmpK L l) ex with
    | some (tj, _), some (tl, ll) => some (tj, (l, tl) :: ll)
    | _, _ => none
  | .exit id, _, s, _, ex => ex id s
  | .ret, _, s, _, _ =>
    match R s with
    | some t => some (t, [])
    | none => none
  | _, _, _, _, _ => none

section
variable {B : Base} {L : List Lbl} {R : CS → Option Tree} {D : DT} {blk : Blk} {r : List Dyn} {F0 : Fr} {w0 : World} {RetPost : Act → World → Prop}

/-- In a state of the compiler. -/
structure InS (B : Base) (F0 : Fr) (w0 : World) (s : CS) (F : Fr) (a : Act) (w : World) : Prop where
  G : F.G = s.t.get
  st : St F (· < s.ver)
  no : noCh F.G
  rel : Rel F a w B.nt
  ext : Ext F0 w0 F w

def BlkOk (L : List Lbl) (blk : Blk) (bl : List (Nat × Tree)) : Prop := ∀ x ∈ bl, ∃ lb, L[x.1]? = some lb ∧ blk x.1 = some (lb.st, x.2)

/-- A continuation of the compiler brings a result about. -/
def KOk (B : Base) (L : List Lbl) (D : DT) (blk : Blk) (r : List Dyn) (F0 : Fr) (w0 : World) (n : Nat) (K : CS → Option COut) (post : Act → World → Prop) : Prop :=
  ∀ s t bl, K s = some (t, bl) → BlkOk L blk bl → ∀ m, m ≤ n → ∀ F a w, InS B F0 w0 s F a w → eval D (runJ D blk m) t F.env = some r → post a w

theorem KOk.mono {n n' : Nat} {K : CS → Option COut} {post : Act → World → Prop} (h : KOk B L D blk r F0 w0 n K post) (hn : n' ≤ n) : KOk B L D blk r F0 w0 n' K post :=
  fun s t bl h1 h2 m hm => h s t bl h1 h2 m (Nat.le_trans hm hn)

theorem jmpK_ok {n l : Nat} {lb : Lbl} {tl : Tree} {post : Act → World → Prop} (hl : L[l]? = some lb) (htab : tabOk lb.tab = true) (hb : blk l = some (lb.st, tl))
    (h : ∀ m, m + 1 ≤ n → ∀ F a w, InS B F0 w0 lb.cs F a w → eval D (runJ D blk m) tl F.env = some r → post a w) : KOk B L D blk r F0 w0 n (jmpK L l) post := by
  intro s t bl hK _ m hm F a w hin hev
  unfold jmpK at hK
  rw [hl] at hK
  simp only at hK
  split at hK
  case h_2 => simp at hK
  rename_i hco
  simp only [Option.some.injEq, Prod.mk.injEq] at hK
  obtain ⟨rfl, rfl⟩ := hK
  simp only [eval] at hev
  cases m with
  | zero => simp [runJ] at hev
  | succ m =>
    simp only [runJ, hb] at hev
    have hc := co_state (F := F) (st := lb.st) hin.st hin.no htab (by rw [hin.G]; exact hco)
    refine h m hm (coFr F (tabG lb.tab) lb.st) a w ⟨rfl, hc.1, hc.2, ⟨hin.rel.tmps, hin.rel.H, hin.rel.calm, hin.rel.size⟩, ?_⟩ hev
    have e := hin.ext
    refine ⟨e.os, e.tape, e.output, e.size, fun b o ho hlb => ?_, fun b o ho hlb => ?_, e.org⟩
    · have := e.imm b o ho hlb
      exact ⟨this.1, by show clab F.G _ F.lab b = _; simp [clab, this.2]⟩
    · have := e.frn b o ho hlb
      exact ⟨this.1, clab_frn this.2⟩

def Qof (post : Act → World → Prop) (exPost : Nat → Act → World → Prop) (RetPost : Act → World → Prop) : Exit → Act → World → Prop
  | .normal => post
  | .exit id => exPost id
  | .ret => RetPost
  | _ => fun _ _ => False

theorem least {p : Nat → Prop} (h : ∃ k, p k) : ∃ k, p k ∧ ∀ j, p j → k ≤ j := by
  obtain ⟨k, hk⟩ := h
  induction k using Nat.strongRecOn with
  | _ k ih =>
    by_cases hh : ∃ j, j < k ∧ p j
    · obtain ⟨j, hj, hp⟩ := hh; exact ih j hj hp
    · exact ⟨k, hk, fun j hp => by
        rcases Nat.lt_or_ge j k with h | h
        · exact absurd ⟨j, h, hp⟩ hh
        · exact h⟩

theorem BlkOk.append {a b : List (Nat × Tree)} (h : BlkOk L blk (a ++ b)) : BlkOk L blk a ∧ BlkOk L blk b :=
  ⟨fun x hx => h x (List.mem_append.2 (.inl hx)), fun x hx => h x (List.mem_append.2 (.inr hx))⟩

/-- THE COMPILER IS SOUND. -/
theorem compC_sound (hm : B.P.follows .mixedOrders = true) (hD : ∀ i s, B.sigs i = some s → Callee B.P s (D i)) (htabs : ∀ lb ∈ L, tabOk lb.tab = true)
    (hR : ∀ s t, R s = some t → ∀ m F a w, InS B F0 w0 s F a w → eval D (runJ D blk m) t F.env = some r → RetPost a w) :
    ∀ (c : Code) (x : CAnn) (s : CS) (K : CS → Option COut) (ex : Nat → CS → Option COut) (t : Tree) (bl : List (Nat × Tree)), compC B L R c x s K ex = some (t, bl) → BlkOk L blk bl →
      ∀ (n : Nat) (post : Act → World → Prop) (exPost : Nat → Act → World → Prop), KOk B L D blk r F0 w0 n K post → (∀ id, KOk B L D blk r F0 w0 n (ex id) (exPost id)) →
      ∀ m, m ≤ n → ∀ F a w, InS B F0 w0 s F a w → eval D (runJ D blk m) t F.env = some r → c.wp B.P (Qof post exPost RetPost) a w := by
  intro c
  induction c with
  | skip =>
    intro x s K ex t bl h hbl n post exPost hK hex m hmn F a w hin hev
    simp only [compC] at h
    exact wp_skip (hK s t bl h hbl m hmn F a w hin hev)
  | region id ops draw =>
    intro x s K ex t bl h hbl n post exPost hK hex m hmn F a w hin hev
    cases x <;> simp only [compC, reduceCtorEq] at h
    split at h
    case h_2 => simp at h
    rename_i gs t' v' hr
    split at h
    case h_2 => simp at h
    rename_i t1 bl1 hk
    simp only [Option.some.injEq, Prod.mk.injEq] at h
    obtain ⟨rfl, rfl⟩ := h
    simp only [eval] at hev
    cases hg : runRS D gs F.env with
    | none => rw [hg] at hev; simp at hev
    | some env' =>
      rw [hg] at hev
      simp only at hev
      refine compRegion_sound hr (by rw [← hin.G]; exact hin.no) hm hD hg hin.G rfl hin.st hin.rel ?_
      intro hno' _ F' a' w' g1 g2 g3 g4 g5
      exact hK ⟨t', v'⟩ t1 bl1 hk hbl m hmn F' a' w' ⟨g1, g3, by rw [g1]; exact hno', g4, hin.ext.trans g5⟩ (by rw [g2]; exact hev)
  | seq c1 c2 ih1 ih2 =>
    intro x s K ex t bl h hbl n post exPost hK hex m hmn F a w hin hev
    cases x <;> simp only [compC, reduceCtorEq] at h
    rename_i x1 x2
    refine wp_seq (wp_mono (ih1 x1 s _ ex t bl h hbl n (c2.wp B.P (Qof post exPost RetPost)) exPost ?_ hex m hmn F a w hin hev) ?_)
    · intro s' t' bl' h' hbl' m' hm' F' a' w' hin' hev'
      exact ih2 x2 s' K ex t' bl' h' hbl' n post exPost hK hex m' hm' F' a' w' hin' hev'
    · intro e a' w' hq
      cases e <;> exact hq
  | cond c c1 c2 ih1 ih2 =>
    intro x s K ex t bl h hbl n post exPost hK hex m hmn F a w hin hev
    cases x <;> simp only [compC, reduceCtorEq] at h
    rename_i j x1 x2
    split at h
    case h_2 => simp at h
    rename_i od hod
    have hsc := scalar_run (F := F) (ch := []) hin.st (by rfl) hin.rel (by rw [hin.G]; exact hod)
    have bool : ∀ (ta tb : Tree), eval D (runJ D blk m) (.ite od ta tb) F.env = some r → ∃ b, a.eval c = .bool b ∧ (b = true → eval D (runJ D blk m) ta F.env = some r) ∧ (b = false → eval D (runJ D blk m) tb F.env = some r) := by
      intro ta tb hev
      simp only [eval] at hev
      split at hev
      · rename_i b hb
        refine ⟨b, ?_, fun hb2 => by subst hb2; exact hev, fun hb2 => by subst hb2; exact hev⟩
        have hsc' := hsc
        unfold OdOk at hsc'
        rw [hb] at hsc'
        simpa [Ty.shr, Rd] using hsc'
      · simp at hev
    cases j with
    | none =>
      simp only at h
      split at h
      case h_2 => simp at h
      rename_i ta la tb lb ha hb
      simp only [Option.some.injEq, Prod.mk.injEq] at h
      obtain ⟨rfl, rfl⟩ := h
      obtain ⟨b, hcb, e1, e2⟩ := bool ta tb hev
      refine wp_cond_split hcb (fun hb2 => ?_) (fun hb2 => ?_)
      · exact ih1 x1 s K ex ta la ha hbl.append.1 n post exPost hK hex m hmn F a w hin (e1 hb2)
      · exact ih2 x2 s K ex tb lb hb hbl.append.2 n post exPost hK hex m hmn F a w hin (e2 hb2)
    | some j =>
      simp only at h
      split at h
      case h_2 => simp at h
      rename_i ta la tb lb tj lj ha hb hj
      simp only [Option.some.injEq, Prod.mk.injEq] at h
      obtain ⟨rfl, rfl⟩ := h
      obtain ⟨b, hcb, e1, e2⟩ := bool ta tb hev
      have hall := hbl
      obtain ⟨lbl, hlbl, hblk⟩ := hbl (j, tj) (by simp)
      rw [hlbl] at hj
      simp only [Option.bind_some] at hj
      have hla : BlkOk L blk la := fun y hy => hbl y (by simp [hy])
      have hlb : BlkOk L blk lb := fun y hy => hbl y (by simp [hy])
      have hlj : BlkOk L blk lj := fun y hy => hbl y (by simp [hy])
      have hJ : KOk B L D blk r F0 w0 n (jmpK L j) post := jmpK_ok hlbl (htabs lbl (List.mem_of_getElem? hlbl)) hblk fun m' hm' F' a' w' hin' hev' => hK _ tj lj hj hlj m' (by omega) F' a' w' hin' hev'
      refine wp_cond_split hcb (fun hb2 => ?_) (fun hb2 => ?_)
      · exact ih1 x1 s _ ex ta la ha hla n post exPost hJ hex m hmn F a w hin (e1 hb2)
      · exact ih2 x2 s _ ex tb lb hb hlb n post exPost hJ hex m hmn F a w hin (e2 hb2)
  | block id c ih =>
    intro x s K ex t bl h hbl n post exPost hK hex m hmn F a w hin hev
    cases x <;> simp only [compC, reduceCtorEq] at h
    rename_i j x1
    have fin : ∀ (K' : CS → Option COut), KOk B L D blk r F0 w0 n K' post → ∀ t1 l1, compC B L R c x1 s K' (fun i => match Nat.beq i id with | true => K' | false => ex i) = some (t1, l1) → BlkOk L blk l1 →
        eval D (runJ D blk m) t1 F.env = some r → (Code.block id c).wp B.P (Qof post exPost RetPost) a w := by
      intro K' hK' t1 l1 h1 hl1 hev1
      refine wp_block (wp_mono (ih x1 s K' _ t1 l1 h1 hl1 n post (fun i => if i = id then post else exPost i) hK' ?_ m hmn F a w hin hev1) ?_)
      · intro i
        by_cases hi : i = id
        · subst hi
          simp only [Nat.beq_refl, if_true]
          exact hK'
        · rw [if_neg hi]
          simp only [beq_ne hi]
          exact hex i
      · intro e a' w' hq
        cases e with
        | exit i =>
          simp only [Qof, Exit.inBlock] at hq ⊢
          by_cases hi : i = id
          · rw [if_pos hi] at hq ⊢; exact hq
          · rw [if_neg hi] at hq ⊢; exact hq
        | _ => exact hq
    cases j with
    | none => exact fin K hK t bl h hbl hev
    | some j =>
      simp only at h
      split at h
      case h_2 => simp at h
      rename_i ta la tj lj ha hj
      simp only [Option.some.injEq, Prod.mk.injEq] at h
      obtain ⟨rfl, rfl⟩ := h
      obtain ⟨lbl, hlbl, hblk⟩ := hbl (j, tj) (by simp)
      rw [hlbl] at hj
      simp only [Option.bind_some] at hj
      have hla : BlkOk L blk la := fun y hy => hbl y (by simp [hy])
      have hlj : BlkOk L blk lj := fun y hy => hbl y (by simp [hy])
      have hJ : KOk B L D blk r F0 w0 n (jmpK L j) post := jmpK_ok hlbl (htabs lbl (List.mem_of_getElem? hlbl)) hblk fun m' hm' F' a' w' hin' hev' => hK _ tj lj hj hlj m' (by omega) F' a' w' hin' hev'
      exact fin _ hJ ta la ha hla hev
  | loop c ih =>
    intro x s K ex t bl h hbl n post exPost hK hex m hmn F a w hin hev
    cases x <;> simp only [compC, reduceCtorEq] at h
    rename_i l x1
    split at h
    case h_2 => simp at h
    rename_i tj l0 tl ll hj hl
    simp only [Option.some.injEq, Prod.mk.injEq] at h
    obtain ⟨rfl, rfl⟩ := h
    obtain ⟨lbl, hlbl, hblk⟩ := hbl (l, tl) (by simp)
    rw [hlbl] at hl
    simp only [Option.bind_some] at hl
    have hll : BlkOk L blk ll := fun y hy => hbl y (by simp [hy])
    have htab := htabs lbl (List.mem_of_getElem? hlbl)
    let Inv : Nat → Act → World → Prop := fun k a w => k < n ∧ ∃ F, InS B F0 w0 lbl.cs F a w ∧ eval D (runJ D blk k) tl F.env = some r
    have hmin : ∀ a w, ∃ k, (∃ k, Inv k a w) → (Inv k a w ∧ ∀ j, Inv j a w → k ≤ j) := by
      intro a w
      by_cases h : ∃ k, Inv k a w
      · obtain ⟨k, hk⟩ := least h; exact ⟨k, fun _ => hk⟩
      · exact ⟨0, fun h' => absurd h' h⟩
    let μ : Act → World → Nat := fun a w => Classical.choose (hmin a w)
    have hμ : ∀ a w, (∃ k, Inv k a w) → (Inv (μ a w) a w ∧ ∀ j, Inv j a w → μ a w ≤ j) := fun a w => Classical.choose_spec (hmin a w)
    refine wp_loop (fun a w => ∃ k, Inv k a w) μ ?_ ?_
    · refine jmpK_ok (n := n) (post := fun a w => ∃ k, Inv k a w) hlbl htab hblk (fun m' hm' F' a' w' hin' hev' => ⟨m', by omega, F', hin', hev'⟩) s tj l0 hj ?_ m hmn F a w hin hev
      unfold jmpK at hj
      rw [hlbl] at hj
      simp only at hj
      split at hj
      · simp only [Option.some.injEq, Prod.mk.injEq] at hj
        obtain ⟨_, rfl⟩ := hj
        intro y hy; simp at hy
      · simp at hj
    · intro a w hI
      obtain ⟨⟨hlt, F1, hin1, hev1⟩, _⟩ := hμ a w hI
      refine wp_mono (ih x1 lbl.cs (jmpK L l) ex tl ll hl hll (μ a w) (fun a' w' => (∃ k, Inv k a' w') ∧ μ a' w' < μ a w) exPost ?_ (fun id => (hex id).mono (by omega)) (μ a w) (Nat.le_refl _) F1 a w hin1 hev1) ?_
      · refine jmpK_ok hlbl htab hblk fun m' hm' F' a' w' hin' hev' => ?_
        have hinv : Inv m' a' w' := ⟨by omega, F', hin', hev'⟩
        refine ⟨⟨m', hinv⟩, ?_⟩
        have := (hμ a' w' ⟨m', hinv⟩).2 m' hinv
        omega
      · intro e a' w' hq
        cases e <;> exact hq
  | exit id =>
    intro x s K ex t bl h hbl n post exPost hK hex m hmn F a w hin hev
    simp only [compC] at h
    exact wp_exit (hex id s t bl h hbl m hmn F a w hin hev)
  | ret =>
    intro x s K ex t bl h hbl n post exPost hK hex m hmn F a w hin hev
    simp only [compC] at h
    split at h
    case h_2 => simp at h
    rename_i t1 hr
    simp only [Option.some.injEq, Prod.mk.injEq] at h
    obtain ⟨rfl, rfl⟩ := h
    exact wp_ret (hR s t1 hr m F a w hin hev)
  | rangeFunc f ps c1 c2 => intro x s K ex t bl h; simp [compC] at h
  | scope c ih => intro x s K ex t bl h; simp [compC] at h
  | label l => intro x s K ex t bl h; simp [compC] at h
  | goto l => intro x s K ex t bl h; simp [compC] at h
  | refuse y => intro x s K ex t bl h; simp [compC] at h

end
end Go.Lf

/- Return: what a function gives back. -/
namespace Go.Lf

/-- A result's leaf; the key whose slice is handed over, if one is. -/
def resLeafQ (mo : Option M) (k : Nat) : Q (Option Nat) := do
  let e ← Q.ent k
  match mo with
  | none => do
    Q.guard (e.st == .va || e.st == .em)
    .ret none
  | some m =>
    if e.st == .em then .ret none
    else do
      let (k2, m', _) ← owner [] k e
      Q.guard (m' == m)
      .ret (some k2)

def resLeavesQ (s : Nat) : Nat → Nat → List (Option M) → Q (List (Nat × Nat))
  | _, _, [] => .ret []
  | j, J, mo :: ms => do
    let tk ← resLeafQ mo (lk s j)
    let rest ← resLeavesQ s (j + 1) (J + 1) ms
    .ret ((tk.map fun k => (k, lk rb J)).toList ++ rest)

def resSlotQ (P : Program) (τ : Ty) : ResultVar → Q Nat
  | .tmp s => do
    let e ← Q.ent (sk s)
    Q.guard (e.st == .pl τ.n τ.isPair)
    .ret s
  | .cell s t => do
    let e ← Q.ent (sk s)
    let τ' ← Q.ofOption (tyOf P deep t)
    Q.guard (e.st == .bx τ.n && τ' == τ)
    .ret s

def resVarsQ (P : Program) : Nat → List ResultVar → List (Ty × List (Option M)) → Q (List (Nat × Nat) × List (Ty × List Od))
  | _, [], [] => .ret ([], [])
  | J, rv :: rvs, (τ, ms) :: rs => do
    let s ← resSlotQ P τ rv
    Q.guard (ms.length == τ.n)
    let a ← resLeavesQ s 0 J ms
    let (b, out) ← resVarsQ P (J + τ.n) rvs rs
    .ret (a ++ b, (τ, (List.range τ.n).map fun j => .k (lk s j)) :: out)
  | _, _, _ => .fail

def findQ (want : ES) : List Nat → Q Nat
  | [] => .fail
  | k :: ks => do
    let e ← Q.ent k
    if e.st == want then do
      let s ← Q.ent (sk (k / 16))
      Q.guard (s.st.leafy && Nat.blt (k % 16) s.st.cells && Nat.blt (k % 16) 15)
      .ret k
    else findQ want ks

def lentLeavesQ (cands : List Nat) (i : Nat) : Nat → List (Ty × Option M) → Q (List (Nat × Nat) × List Od)
  | _, [] => .ret ([], [])
  | j, (t, none) :: ms => do
    let (a, b) ← lentLeavesQ cands i (j + 1) ms
    .ret (a, .c (zeroCst t) :: b)
  | j, (_, some m) :: ms => do
    let k ← findQ (.ro m (some (lk i j))) cands
    let (a, b) ← lentLeavesQ cands i (j + 1) ms
    .ret ((k, lk i j) :: a, .k k :: b)

def lentsQ (cands : List Nat) : Nat → List PK → Q (List (Nat × Nat) × List (Ty × List Od))
  | _, [] => .ret ([], [])
  | i, .io τ ms :: ps => do
    Q.guard (ms.length == τ.n && Nat.blt τ.n 15)
    let (a, b) ← lentLeavesQ cands i 0 (τ.leaves.zip ms)
    let (c, d) ← lentsQ cands (i + 1) ps
    .ret (a ++ c, (τ, b) :: d)
  | _, .q _ _ :: _ => .fail
  | i, _ :: ps => lentsQ cands (i + 1) ps

def retQ (P : Program) (s : Sig) (results : List ResultVar) (cands : List Nat) : Q Tree := do
  let (a, b) ← resVarsQ P 0 results s.rs
  let (c, d) ← lentsQ cands 0 s.ps
  Q.guard (nodupB ((a ++ c).map (·.1)))
  .ret (.ret (b ++ d))

/-- The labels behind the return. -/
def rlab (mv : List (Nat × Nat)) (lab : Nat → Lab) (b : Nat) : Lab :=
  match lab b with
  | .own (k :: q) =>
    match mv.lookup k with
    | some k' => .own (k' :: q)
    | none => .imm
  | l => l

section
variable {F F0 : Fr} {clk : Clk} {P : Program} {mv : List (Nat × Nat)} {a : Act} {w : World}

theorem rlab_shr {b : Nat} (h : (F.lab b).shared) : (rlab mv F.lab b).shared := by
  unfold rlab
  cases hl : F.lab b with
  | imm => trivial
  | own p => rw [hl] at h; exact h.elim

theorem lookup_mem {mv : List (Nat × Nat)} (hn : (mv.map (·.1)).Nodup) {k k' : Nat} (h : (k, k') ∈ mv) : mv.lookup k = some k' := by
  induction mv with
  | nil => simp at h
  | cons x l ih =>
    obtain ⟨a, b⟩ := x
    simp only [List.map_cons, List.nodup_cons] at hn
    rw [List.lookup_cons]
    rcases List.mem_cons.1 h with h1 | h1
    · simp only [Prod.mk.injEq] at h1
      obtain ⟨rfl, rfl⟩ := h1
      simp
    · have hne : k ≠ a := fun he => hn.1 (List.mem_map.2 ⟨(k, k'), h1, he⟩)
      have : (k == a) = false := by simpa using hne
      rw [this]; exact ih hn.2 h1

/-- What is owned goes to its new place. -/
theorem rlab_rd {k k' : Nat} (hn : (mv.map (·.1)).Nodup) (hm : (k, k') ∈ mv) {m : M} {cs : List Value} {τ : Ty} {x : τ.T} (h : Rd F.H F.lab m [k] cs τ x) : Rd F.H (rlab mv F.lab) m [k'] cs τ x := by
  refine h.carry ⟨fun b o s ho hl => ⟨ho, ?_⟩, fun b o ho hl => ⟨ho, rlab_shr hl⟩⟩
  have hl' : F.lab b = .own (k :: s) := by simpa using hl
  simp [rlab, hl', lookup_mem hn hm]

/-- A leaf of a result as the caller will read it. -/
def LeafRes (F : Fr) (mv : List (Nat × Nat)) (J : Nat) (mo : Option M) (v : Value) (z : Dyn) : Prop :=
  match mo with
  | none => Rd F.H (rlab mv F.lab) z.τ.shr [] [v] z.τ z.v
  | some m => Rd F.H (rlab mv F.lab) (.sl .own m) [lk rb J] [v] z.τ z.v

theorem em_rd {H : Array Obj} {lab : Nat → Lab} {m : M} {pos : List Nat} {md : Md} {v : Value} {y : Dyn} (h : ∃ a e, v = .slice a 0 0 ∧ y = ⟨.slice e, []⟩) : Rd H lab (.sl md m) pos [v] y.τ y.v := by
  obtain ⟨a, e, rfl, rfl⟩ := h
  simp only [Rd]
  refine ⟨a, 0, rfl, ?_⟩
  cases a with
  | none => exact ⟨trivial, rfl⟩
  | some p => exact .inl ⟨trivial, rfl⟩

theorem resLeafQ_run (h : St F clk) {mo : Option M} {k : Nat} {tk : Option Nat} {v : Value} (hr : (resLeafQ mo k).run F.G = some tk) (hc : F.cell k v) (hl : LeafOk F k (F.G k).st v) {J : Nat}
    (hn : (mv.map (·.1)).Nodup) (hm : ∀ k2, tk = some k2 → (k2, lk rb J) ∈ mv) : LeafRes F mv J mo v (F.env k) := by
  simp only [resLeafQ, Q.run_bind', Q.run_ent, Option.bind_some] at hr
  cases mo with
  | none =>
    simp only [Q.run_bind', Q.run_guard] at hr
    split at hr
    case isFalse => simp at hr
    rename_i hg
    simp only [Bool.or_eq_true, beq_iff_eq] at hg
    unfold LeafRes
    rcases hg with hg | hg <;> rw [hg] at hl
    · exact Rd.shared (H' := F.H) (lab' := rlab mv F.lab) (fun b o h1 h2 => ⟨h1, rlab_shr h2⟩) hl
    · obtain ⟨a, e, h1, h2⟩ := hl
      rw [h2]
      exact em_rd (y := ⟨.slice e, []⟩) ⟨a, e, h1, rfl⟩
  | some m =>
    simp only at hr
    split at hr
    · rename_i hem
      have hem : (F.G k).st = .em := by simpa using hem
      rw [hem] at hl
      exact em_rd hl
    · simp only [Q.run_bind'] at hr
      cases ho : (owner [] k (F.G k)).run F.G with
      | none => rw [ho] at hr; simp at hr
      | some x =>
        obtain ⟨k2, m', org⟩ := x
        rw [ho] at hr
        simp only [Option.bind_some, Q.run_guard] at hr
        split at hr
        case isFalse => simp at hr
        rename_i hmm
        have hmm : m' = m := by simpa using hmm
        subst hmm
        simp only [Option.bind_some, Q.run, Option.some.injEq] at hr
        obtain ⟨o1, o2, o3, o4⟩ := owner_run h (by rfl) ho hc hl
        unfold LeafRes
        rw [o4]
        exact rlab_rd hn (hm k2 hr.symm) o3.1

theorem resLeavesQ_run (h : St F clk) {s : Nat} {cs : List Value} (hh : F.has s cs) (hl : ∀ j v, cs[j]? = some v → LeafOk F (lk s j) (F.G (lk s j)).st v) (hn : (mv.map (·.1)).Nodup) :
    ∀ {ms : List (Option M)} {j J : Nat} {a : List (Nat × Nat)}, (resLeavesQ s j J ms).run F.G = some a → (∀ x ∈ a, x ∈ mv) → j + ms.length ≤ cs.length →
      ∀ (i : Nat) (m : Option M) (v : Value), ms[i]? = some m → cs[j + i]? = some v → LeafRes F mv (J + i) m v (F.env (lk s (j + i)))
  | [], _, _, _, _, _, _, i, m, v, hm, _ => by simp at hm
  | mo :: ms, j, J, a, hr, ha, hj, i, m, v, hm, hv => by
    simp only [resLeavesQ, Q.run_bind'] at hr
    cases h1 : (resLeafQ mo (lk s j)).run F.G with
    | none => rw [h1] at hr; simp at hr
    | some tk =>
      rw [h1] at hr
      simp only [Option.bind_some] at hr
      cases h2 : (resLeavesQ s (j + 1) (J + 1) ms).run F.G with
      | none => rw [h2] at hr; simp at hr
      | some rest =>
        rw [h2] at hr
        simp only [Option.bind_some, Q.run, Option.some.injEq] at hr
        subst hr
        simp only [List.length_cons] at hj
        have hle := hh.2
        cases i with
        | zero =>
          simp at hm
          subst hm
          simp only [Nat.add_zero] at hv ⊢
          refine resLeafQ_run h h1 ⟨cs, by rw [lk_div (by omega)]; exact hh, by rw [lk_mod (by omega)]; exact hv⟩ (hl j v hv) hn fun k2 hk2 => ha _ ?_
          subst hk2; simp
        | succ i =>
          have := resLeavesQ_run h hh hl hn h2 (fun x hx => ha x (by simp [hx])) (by omega) i m v (by simpa using hm) (by rw [show j + 1 + i = j + (i + 1) by omega]; exact hv)
          rw [show J + 1 + i = J + (i + 1) by omega, show j + 1 + i = j + (i + 1) by omega] at this
          exact this

def All2 {α β : Type} (R : α → β → Prop) : List α → List β → Prop
  | [], [] => True
  | a :: l, b :: m => R a b ∧ All2 R l m
  | _, _ => False

/-- The value of one result. -/
def rvSem (tmps : Array Value) : ResultVar → Sem Value
  | .tmp t => pure (tmps.getD t undef)
  | .cell x t => do loadVar t (← asAddr (tmps.getD x undef))

def rvRun (P : Program) (a : Act) (w : World) (rv : ResultVar) (V : Value) : Prop := (rvSem a.tmps rv).run P w = .ok V w

theorem resSlotQ_run (h : St F clk) (hno : noCh F.G) {nt : Nat} (hrel : Rel F a w nt) {τ : Ty} {rv : ResultVar} {s : Nat} (hr : (resSlotQ P τ rv).run F.G = some s) :
    ∃ V cs, rvRun P a w rv V ∧ F.has s cs ∧ cs.length = τ.n ∧ V = mkVal τ.isPair cs ∧ ∀ j v, cs[j]? = some v → LeafOk F (lk s j) (F.G (lk s j)).st v := by
  have hcl : ∀ s, Claim F s (F.G (sk s)).st := fun s => h.claim (by rw [hno s]; rfl)
  cases rv with
  | tmp t =>
    simp only [resSlotQ, Q.run_bind', Q.run_ent, Option.bind_some, Q.run_guard] at hr
    split at hr
    case isFalse => simp at hr
    rename_i hg
    have hg : (F.G (sk t)).st = .pl τ.n τ.isPair := by simpa using hg
    simp only [Option.bind_some, Q.run, Option.some.injEq] at hr
    subst hr
    have hc := hcl t
    rw [hg] at hc
    obtain ⟨cs, hh, hl⟩ := hc
    have hH := hh.1
    rw [hg] at hH
    refine ⟨F.val t, cs, ?_, hh, hH.2.1, hH.1, hl⟩
    unfold rvRun rvSem
    have := hrel.val t
    simp only [Act.eval] at this
    simp only [this]
    rfl
  | cell x t =>
    simp only [resSlotQ, Q.run_bind', Q.run_ent, Option.bind_some, Q.run_ofOption] at hr
    cases ht : tyOf P deep t with
    | none => rw [ht] at hr; simp at hr
    | some τ' =>
      rw [ht] at hr
      simp only [Option.bind_some, Q.run_guard] at hr
      split at hr
      case isFalse => simp at hr
      rename_i hg
      simp only [Bool.and_eq_true, beq_iff_eq] at hg
      obtain ⟨hg, rfl⟩ := hg
      simp only [Option.bind_some, Q.run, Option.some.injEq] at hr
      subst hr
      have hrow := tyOf_row ht
      have hc := hcl x
      rw [hg] at hc
      obtain ⟨cs, hh, hl⟩ := hc
      have hH := hh.1
      rw [hg] at hH
      obtain ⟨b, c, ty, h1, h2, h3, h4, h5⟩ := hH
      have hcl : c.size = τ'.n := by rw [← h5, h4]; simp
      refine ⟨mkVal τ'.isPair cs, cs, ?_, hh, h5, rfl, hl⟩
      unfold rvRun rvSem
      have hv := hrel.val x
      simp only [Act.eval] at hv
      simp only [hv, h1]
      have := hrow.loadVar (w := w) (b := b) (off := 0) (c := c) (by rw [← hrel.H]; exact h3) (by omega)
      have hcut : cut c 0 τ'.n = cs := by
        rw [h4]; simp [cut]; rw [List.take_of_length_le (by simp; omega)]
      rw [hcut] at this
      exact this

theorem resVarsQ_run (h : St F clk) (hno : noCh F.G) {nt : Nat} (hrel : Rel F a w nt) (hn : (mv.map (·.1)).Nodup) : ∀ {rvs : List ResultVar} {rs : List (Ty × List (Option M))} {J : Nat} {A : List (Nat × Nat)} {out : List (Ty × List Od)},
    (resVarsQ P J rvs rs).run F.G = some (A, out) → (∀ x ∈ A, x ∈ mv) →
      ∃ Vs cs, All2 (rvRun P a w) rvs Vs ∧ PartsOk Vs (rs.map fun r => (r.1.n, r.1.isPair)) cs ∧ out.map (·.1) = rs.map (·.1) ∧ (rs.flatMap (·.2)).length = cs.length ∧ (out.flatMap (·.2)).length = cs.length ∧
        ∀ (i : Nat) (m : Option M) (v : Value) (od : Od), (rs.flatMap (·.2))[i]? = some m → cs[i]? = some v → (out.flatMap (·.2))[i]? = some od → LeafRes F mv (J + i) m v (od.rd F.env)
  | [], [], J, A, out, hr, _ => by
    simp only [resVarsQ, Q.run, Option.some.injEq, Prod.mk.injEq] at hr
    obtain ⟨rfl, rfl⟩ := hr
    exact ⟨[], [], trivial, rfl, rfl, rfl, rfl, fun i m v od hm => by simp at hm⟩
  | [], _ :: _, _, _, _, hr, _ => by simp [resVarsQ, Q.run] at hr
  | _ :: _, [], _, _, _, hr, _ => by simp [resVarsQ, Q.run] at hr
  | rv :: rvs, (τ, ms) :: rs, J, A, out, hr, hA => by
    simp only [resVarsQ, Q.run_bind'] at hr
    cases h1 : (resSlotQ P τ rv).run F.G with
    | none => rw [h1] at hr; simp at hr
    | some s =>
      rw [h1] at hr
      simp only [Option.bind_some, Q.run_guard] at hr
      split at hr
      case isFalse => simp at hr
      rename_i hms
      have hms : ms.length = τ.n := by simpa using hms
      simp only [Option.bind_some] at hr
      cases h2 : (resLeavesQ s 0 J ms).run F.G with
      | none => rw [h2] at hr; simp at hr
      | some a1 =>
        rw [h2] at hr
        simp only [Option.bind_some] at hr
        cases h3 : (resVarsQ P (J + τ.n) rvs rs).run F.G with
        | none => rw [h3] at hr; simp at hr
        | some r =>
          obtain ⟨b1, o1⟩ := r
          rw [h3] at hr
          simp only [Option.bind_some, Q.run, Option.some.injEq, Prod.mk.injEq] at hr
          obtain ⟨rfl, rfl⟩ := hr
          obtain ⟨V, c1, hV, hh, hcl, hVe, hl⟩ := resSlotQ_run h hno hrel h1
          obtain ⟨Vs, c2, g1, g2, g3, g4, g5, g6⟩ := resVarsQ_run h hno hrel hn h3 (fun x hx => hA x (by simp [hx]))
          have hleaf := resLeavesQ_run h hh hl hn h2 (fun x hx => hA x (by simp [hx])) (by omega)
          refine ⟨V :: Vs, c1 ++ c2, ⟨hV, g1⟩, ⟨c1, c2, rfl, hcl, fun hp => Ty.n_one hp, hVe, g2⟩, by simp [g3], by simp [g4, hms, hcl], by simp [g5, hcl], fun i m v od hm hv ho => ?_⟩
          simp only [List.flatMap_cons] at hm ho
          by_cases hi : i < τ.n
          · rw [List.getElem?_append_left (by omega)] at hm hv
            rw [List.getElem?_append_left (by simpa using hi)] at ho
            have := hleaf i m v hm (by simpa using hv)
            simp only [Nat.zero_add] at this
            rw [List.getElem?_map, List.getElem?_range hi] at ho
            simp only [Option.map_some, Option.some.injEq] at ho
            rw [← ho]
            exact this
          · rw [List.getElem?_append_right (by omega)] at hm hv
            rw [List.getElem?_append_right (by simp; omega)] at ho
            simp only [List.length_map, List.length_range] at ho
            have := g6 (i - τ.n) m v od (by rw [← hms]; exact hm) (by rw [← hcl]; exact hv) ho
            rw [show J + τ.n + (i - τ.n) = J + i by omega] at this
            exact this

theorem findQ_run (h : St F clk) (hno : noCh F.G) {want : ES} : ∀ {ks : List Nat} {k : Nat}, (findQ want ks).run F.G = some k → (F.G k).st = want ∧ k % 16 < 15 ∧ ∃ v, F.cell k v ∧ LeafOk F k want v
  | [], k, hr => by simp [findQ, Q.run] at hr
  | k0 :: ks, k, hr => by
    simp only [findQ, Q.run_bind', Q.run_ent, Option.bind_some] at hr
    split at hr
    · rename_i hw
      have hw : (F.G k0).st = want := by simpa using hw
      simp only [Q.run_bind', Q.run_ent, Option.bind_some, Q.run_guard] at hr
      split at hr
      case isFalse => simp at hr
      rename_i hg
      simp only [Bool.and_eq_true, Nat.blt_eq] at hg
      obtain ⟨⟨g1, g2⟩, g3⟩ := hg
      simp only [Option.bind_some, Q.run, Option.some.injEq] at hr
      subst hr
      have hcl : Claim F (k0 / 16) (F.G (sk (k0 / 16))).st := h.claim (by rw [hno]; rfl)
      rw [claim_leafy g1] at hcl
      obtain ⟨cs, hh, hl⟩ := hcl
      have hc := Fr.has_cells hh
      have hj : k0 % 16 < cs.length := by omega
      have hv : cs[k0 % 16]? = some cs[k0 % 16] := List.getElem?_eq_getElem hj
      have := hl _ _ hv
      rw [lk_divmod, hw] at this
      exact ⟨hw, g3, _, ⟨cs, hh, hv⟩, this⟩
    · exact findQ_run h hno hr

theorem lentLeavesQ_run (h : St F clk) (hno : noCh F.G) (hn : (mv.map (·.1)).Nodup) {cands : List Nat} {i : Nat} : ∀ {l : List (Ty × Option M)} {j : Nat} {A : List (Nat × Nat)} {ods : List Od},
    (lentLeavesQ cands i j l).run F.G = some (A, ods) → (∀ x ∈ A, x ∈ mv) → ods.length = l.length ∧ ∀ (q : Nat) (t : Ty) (m : M) (od : Od), l[q]? = some (t, some m) → ods[q]? = some od →
      ∃ v, v = F.org (lk i (j + q)) ∧ Rd F.H (rlab mv F.lab) (.sl .own m) [lk i (j + q)] [v] (od.rd F.env).τ (od.rd F.env).v
  | [], j, A, ods, hr, _ => by
    simp only [lentLeavesQ, Q.run, Option.some.injEq, Prod.mk.injEq] at hr
    obtain ⟨rfl, rfl⟩ := hr
    exact ⟨rfl, fun q t m od hq => by simp at hq⟩
  | (t0, none) :: l, j, A, ods, hr, hA => by
    simp only [lentLeavesQ, Q.run_bind'] at hr
    cases h2 : (lentLeavesQ cands i (j + 1) l).run F.G with
    | none => rw [h2] at hr; simp at hr
    | some r =>
      obtain ⟨a, b⟩ := r
      rw [h2] at hr
      simp only [Option.bind_some, Q.run, Option.some.injEq, Prod.mk.injEq] at hr
      obtain ⟨rfl, rfl⟩ := hr
      obtain ⟨g1, g2⟩ := lentLeavesQ_run h hno hn h2 hA
      refine ⟨by simp [g1], fun q t m od hq ho => ?_⟩
      cases q with
      | zero => simp at hq
      | succ q =>
        have := g2 q t m od (by simpa using hq) (by simpa using ho)
        rwa [show j + 1 + q = j + (q + 1) by omega] at this
  | (t0, some m0) :: l, j, A, ods, hr, hA => by
    simp only [lentLeavesQ, Q.run_bind'] at hr
    cases h1 : (findQ (.ro m0 (some (lk i j))) cands).run F.G with
    | none => rw [h1] at hr; simp at hr
    | some k =>
      rw [h1] at hr
      simp only [Option.bind_some] at hr
      cases h2 : (lentLeavesQ cands i (j + 1) l).run F.G with
      | none => rw [h2] at hr; simp at hr
      | some r =>
        obtain ⟨a, b⟩ := r
        rw [h2] at hr
        simp only [Option.bind_some, Q.run, Option.some.injEq, Prod.mk.injEq] at hr
        obtain ⟨rfl, rfl⟩ := hr
        obtain ⟨g1, g2⟩ := lentLeavesQ_run h hno hn h2 (fun x hx => hA x (by simp [hx]))
        refine ⟨by simp [g1], fun q t m od hq ho => ?_⟩
        cases q with
        | zero =>
          simp at hq ho
          obtain ⟨_, rfl⟩ := hq
          subst ho
          obtain ⟨_, _, v, _, hv2⟩ := findQ_run h hno h1
          simp only [LeafOk] at hv2
          exact ⟨v, hv2.2 _ rfl, by
            simp only [Od.rd]
            exact rlab_rd hn (hA _ (by simp)) hv2.1⟩
        | succ q =>
          have := g2 q t m od (by simpa using hq) (by simpa using ho)
          rwa [show j + 1 + q = j + (q + 1) by omega] at this

end
end Go.Lf

/- Functions: the contract of a compiled function. -/
namespace Go.Lf

section
variable {F F0 : Fr} {clk : Clk} {P : Program} {mv : List (Nat × Nat)} {a : Act} {w w0 : World} {s : Sig}

theorem lentsQ_run (h : St F clk) (hno : noCh F.G) (hn : (mv.map (·.1)).Nodup) (horg : F.org = F0.org) {cands : List Nat} : ∀ {ps : List PK} {i : Nat} {A : List (Nat × Nat)} {out : List (Ty × List Od)} {ls : List Dyn},
    (lentsQ cands i ps).run F.G = some (A, out) → (∀ x ∈ A, x ∈ mv) → argsD F.env out = some ls →
    (∀ (q : Nat) (τ : Ty) (ms : List (Option M)), ps[q]? = some (.io τ ms) → ∀ j, j < τ.n → j < 15 → ∃ v, F0.cell (lk (i + q) j) v ∧ F0.org (lk (i + q) j) = v) → BacksOk F0 F.H (rlab mv F.lab) i ps ls
  | [], i, A, out, ls, hr, _, hd, _ => by
    simp only [lentsQ, Q.run, Option.some.injEq, Prod.mk.injEq] at hr
    obtain ⟨rfl, rfl⟩ := hr
    simp only [argsD, Option.some.injEq] at hd
    exact hd.symm
  | p :: ps, i, A, out, ls, hr, hA, hd, hc => by
    have rest : ∀ {A' : List (Nat × Nat)} {out' : List (Ty × List Od)} {ls' : List Dyn}, (lentsQ cands (i + 1) ps).run F.G = some (A', out') → (∀ x ∈ A', x ∈ mv) → argsD F.env out' = some ls' → BacksOk F0 F.H (rlab mv F.lab) (i + 1) ps ls' := by
      intro A' out' ls' h1 h2 h3
      refine lentsQ_run h hno hn horg h1 h2 h3 fun q τ ms hq j hj hj15 => ?_
      have := hc (q + 1) τ ms (by simpa using hq) j hj hj15
      rwa [show i + (q + 1) = i + 1 + q by omega] at this
    cases p with
    | io τ ms =>
      simp only [lentsQ, Q.run_bind', Q.run_guard] at hr
      split at hr
      case isFalse => simp at hr
      rename_i hg
      simp only [Bool.and_eq_true, beq_iff_eq, Nat.blt_eq] at hg
      simp only [Option.bind_some] at hr
      cases h1 : (lentLeavesQ cands i 0 (τ.leaves.zip ms)).run F.G with
      | none => rw [h1] at hr; simp at hr
      | some r1 =>
        obtain ⟨a1, b1⟩ := r1
        rw [h1] at hr
        simp only [Option.bind_some] at hr
        cases h2 : (lentsQ cands (i + 1) ps).run F.G with
        | none => rw [h2] at hr; simp at hr
        | some r2 =>
          obtain ⟨c1, d1⟩ := r2
          rw [h2] at hr
          simp only [Option.bind_some, Q.run, Option.some.injEq, Prod.mk.injEq] at hr
          obtain ⟨rfl, rfl⟩ := hr
          simp only [argsD] at hd
          split at hd
          case h_2 => simp at hd
          rename_i x hx
          split at hd
          case h_2 => simp at hd
          rename_i ls' hls
          simp only [Option.some.injEq] at hd
          subst hd
          obtain ⟨g1, g2⟩ := lentLeavesQ_run h hno hn h1 (fun x hx => hA x (by simp [hx]))
          simp only [BacksOk, PK.lent]
          refine ⟨⟨rfl, fun j m hm => ?_⟩, rest h2 (fun x hx => hA x (by simp [hx])) hls⟩
          have hjm : j < ms.length := (List.getElem?_eq_some_iff.1 hm).1
          obtain ⟨v0, hv0, ho0⟩ := hc 0 τ ms rfl j (by omega) (by omega)
          simp only [Nat.add_zero] at hv0 ho0
          have hjl : j < τ.leaves.length := by rw [Ty.leaves_len]; omega
          have hz : (τ.leaves.zip ms)[j]? = some (τ.leaves[j], some m) := by
            rw [List.getElem?_zip_eq_some]
            exact ⟨List.getElem?_eq_getElem hjl, hm⟩
          have hjb : j < b1.length := by rw [g1]; simp; omega
          obtain ⟨v, e1, e2⟩ := g2 j _ m b1[j] hz (List.getElem?_eq_getElem hjb)
          simp only [Nat.zero_add] at e1 e2
          rw [horg, ho0] at e1
          subst e1
          refine ⟨v, b1[j].rd F.env, hv0, ?_, e2⟩
          have hfl := build_flat hx
          rw [← hfl, List.getElem?_map, List.getElem?_eq_getElem hjb]
          rfl
    | q τ ms => simp [lentsQ, Q.run] at hr
    | v τ => simp only [lentsQ] at hr; simp only [BacksOk, PK.lent]; exact rest hr hA hd
    | p τ => simp only [lentsQ] at hr; simp only [BacksOk, PK.lent]; exact rest hr hA hd
    | m τ ms => simp only [lentsQ] at hr; simp only [BacksOk, PK.lent]; exact rest hr hA hd
    | c f caps => simp only [lentsQ] at hr; simp only [BacksOk, PK.lent]; exact rest hr hA hd

/-- The value that a function hands back. -/
def retVal : List Value → Value
  | [V] => V
  | Vs => .tuple Vs.toArray

theorem results_run {fn : Func} {Vs : List Value} (h : All2 (rvRun P a w) fn.results.toList Vs) : (results fn a.tmps).run P w = .ok (retVal Vs) w := by
  have key : ∀ (rvs : List ResultVar) (Vs : List Value), All2 (rvRun P a w) rvs Vs → (rvs.mapM (m := Sem) (rvSem a.tmps)).run P w = .ok Vs w := by
    intro rvs
    induction rvs with
    | nil => intro Vs h; cases Vs with
      | nil => rfl
      | cons _ _ => exact h.elim
    | cons rv rvs ih =>
      intro Vs h
      cases Vs with
      | nil => exact h.elim
      | cons V Vs =>
        rw [List.mapM_cons]
        have h1 : (rvSem a.tmps rv).run P w = .ok V w := h.1
        rw [run_then P _ _ h1]
        rw [run_then P _ _ (ih Vs h.2)]
        rfl
  have heq : results fn a.tmps = (fn.results.mapM (rvSem a.tmps)) >>= fun vs => pure (if h : vs.size = 1 then vs[0] else .tuple vs) := by
    unfold results
    congr 1
  rw [heq, Array.mapM_eq_mapM_toList]
  simp only [bind_map_left]
  rw [run_then P _ _ (key _ _ h)]
  match Vs with
  | [] => rfl
  | [V] => rfl
  | _ :: _ :: _ => rfl

theorem resKind_of {H : Array Obj} {lab : Nat → Lab} {rs : List (Ty × List (Option M))} {Vs cs : List Value} (h : PartsOk Vs (rs.map fun r => (r.1.n, r.1.isPair)) cs) : Has H lab 0 (resKind rs) (retVal Vs) cs := by
  match rs, Vs, h with
  | [], [], h => exact ⟨[], rfl, h⟩
  | [r], [V], h =>
    obtain ⟨c1, c2, rfl, h1, h2, h3, h4⟩ := h
    simp only [List.map_nil, PartsOk] at h4
    subst h4
    simp only [List.append_nil]
    exact ⟨h3, h1, h2⟩
  | r1 :: r2 :: rs, V1 :: V2 :: Vs, h => exact ⟨_, rfl, h⟩
  | [], _ :: _, h => exact h.elim
  | _ :: _, [], h => exact h.elim
  | [_], _ :: _ :: _, h => obtain ⟨_, _, _, _, _, _, h⟩ := h; exact h.elim
  | _ :: _ :: _, [_], h => obtain ⟨_, _, _, _, _, _, h⟩ := h; exact h.elim

theorem argsD_flat {env : Env} : ∀ {l : List (Ty × List Od)} {ds : List Dyn}, argsD env l = some ds → ds.map Dyn.τ = l.map (·.1) ∧ (ds.flatMap fun y => flat y.τ y.v) = (l.flatMap (·.2)).map (Od.rd env)
  | [], ds, h => by simp only [argsD, Option.some.injEq] at h; subst h; exact ⟨rfl, rfl⟩
  | (τ, ods) :: l, ds, h => by
    simp only [argsD] at h
    split at h
    case h_2 => simp at h
    rename_i x hx
    split at h
    case h_2 => simp at h
    rename_i ds' hds
    simp only [Option.some.injEq] at h
    subst h
    obtain ⟨h1, h2⟩ := argsD_flat hds
    refine ⟨by simp [h1], ?_⟩
    simp only [List.flatMap_cons, List.map_append, h2]
    rw [build_flat hx]

/-- A RETURN. -/
theorem retQ_ok (h : St F clk) (hno : noCh F.G) {nt : Nat} (hrel : Rel F a w nt) (hext : Ext F0 w0 F w) (hH0 : F0.H = w0.heap) {fn : Func} {cands : List Nat} {t : Tree} (hr : (retQ P s fn.results.toList cands).run F.G = some t) {r : List Dyn} {D J : DT}
    (hev : eval D J t F.env = some r)
    (hent : ∀ (q : Nat) (τ : Ty) (ms : List (Option M)), s.ps[q]? = some (.io τ ms) → ∀ j, j < τ.n → j < 15 → ∃ v, F0.cell (lk q j) v ∧ F0.org (lk q j) = v) :
    ∃ V, (results fn a.tmps).run P w = .ok V w ∧ ∃ lab', Gives s F0 w0 r V w lab' := by
  simp only [retQ, Q.run_bind'] at hr
  cases h1 : (resVarsQ P 0 fn.results.toList s.rs).run F.G with
  | none => rw [h1] at hr; simp at hr
  | some r1 =>
    obtain ⟨A, b⟩ := r1
    rw [h1] at hr
    simp only [Option.bind_some] at hr
    cases h2 : (lentsQ cands 0 s.ps).run F.G with
    | none => rw [h2] at hr; simp at hr
    | some r2 =>
      obtain ⟨c, d⟩ := r2
      rw [h2] at hr
      simp only [Option.bind_some, Q.run_guard] at hr
      split at hr
      case isFalse => simp at hr
      rename_i hnd
      simp only [Option.bind_some, Q.run, Option.some.injEq] at hr
      subst hr
      have hn := nodupB_nodup hnd
      simp only [eval] at hev
      obtain ⟨rs, ls, hrs, hls, rfl⟩ := argsD_append hev
      obtain ⟨Vs, cs, g1, g2, g3, g4, g5, g6⟩ := resVarsQ_run h hno hrel hn h1 (fun x hx => List.mem_append.2 (.inl hx))
      obtain ⟨k1, k2⟩ := argsD_flat hrs
      refine ⟨_, results_run g1, rlab (A ++ c) F.lab, ?_⟩
      refine ⟨hext.os, hext.tape, hext.output, ?_, ?_, ?_, ?_, rs, ls, cs, rfl, by rw [k1, g3], resKind_of g2, ?_, g4, ?_⟩
      · rw [← hH0, ← hrel.H]; exact hext.size
      · intro b hb
        have := h.labs b (by rw [hrel.H]; exact hb)
        simp [rlab, this]
      · intro b o ho hl
        have := hext.imm b o (by rw [hH0]; exact ho) hl
        rw [← hrel.H]
        exact ⟨this.1, by simp [rlab, this.2]⟩
      · intro b o ho hl
        have := hext.frn b o (by rw [hH0]; exact ho) hl
        rw [← hrel.H]
        exact ⟨this.1, by simp [rlab, this.2]⟩
      · intro j m v hm hv
        have hj : j < cs.length := (List.getElem?_eq_some_iff.1 hv).1
        have ho : (b.flatMap (·.2))[j]? = some ((b.flatMap (·.2))[j]'(by omega)) := List.getElem?_eq_getElem (by omega)
        have := g6 j m v _ hm hv ho
        simp only [Nat.zero_add] at this
        refine ⟨_, by rw [k2, List.getElem?_map, ho]; rfl, ?_⟩
        rw [← hrel.H]
        cases m <;> exact this
      · rw [← hrel.H]
        exact lentsQ_run h hno hn hext.org h2 (fun x hx => List.mem_append.2 (.inr hx)) hls fun q τ ms hq j hj hj15 => by
          rw [Nat.zero_add]; exact hent q τ ms hq j hj hj15

end

/- ---- a function ---- -/

structure FnIR where
  t : Tree
  blocks : List (Nat × Tree)

def irBlk (L : List Lbl) (bl : List (Nat × Tree)) : Blk := fun l =>
  match L[l]?, bl.lookup l with
  | some lb, some t => some (lb.st, t)
  | _, _ => none

/-- Told of a function: tables of its labels (the first is its start), its code's annotations, keys that may hold what was lent. -/
structure FAnn where
  L : List Lbl
  x : CAnn
  cands : List Nat

/-- The compiler of a function: the blocks, the first of which is the start. -/
def compFn (P : Program) (sigs : Nat → Option Sig) (s : Sig) (A : FAnn) : Option (List (Nat × Tree)) :=
  match P.funcs[s.f]? with
  | some fn =>
    match fn.body, A.L[0]? with
    | some c, some lb =>
      let R : CS → Option Tree := fun cs => (retQ P s fn.results.toList A.cands).run cs.t.get
      match A.L.all (fun l => tabOk l.tab) && coOk (entryG s.ps) (tabG lb.tab) lb.tab lb.st && Nat.ble s.ps.length fn.ntmps with
      | true =>
        match compC ⟨P, sigs, fn.ntmps⟩ A.L R c A.x lb.cs (fun cs => (R cs).map fun t => (t, [])) (fun _ _ => none) with
        | some (t, bl) =>
          match nodupB (0 :: bl.map (·.1)) && bl.all (fun x => Nat.blt x.1 A.L.length) with
          | true => some ((0, t) :: bl)
          | false => none
        | none => none
      | false => none
    | _, _ => none
  | none => none

/-- What a compiled function computes, with n turns at most. -/
def runF (D : DT) (s : Sig) (L : List Lbl) (bl : List (Nat × Tree)) (n : Nat) (l : List Dyn) : Option (List Dyn) :=
  match entryEnv 0 s.ps l (fun _ => ⟨.bool, false⟩), L[0]? with
  | some env, some lb => runJ D (irBlk L bl) n 0 (lb.st.map env)
  | _, _ => none

theorem St.tmps {F F' : Fr} {clk : Clk} (h : St F clk) (hv : ∀ s, F'.val s = F.val s) (hH : F'.H = F.H) (hl : F'.lab = F.lab) (he : F'.env = F.env) (hG : F'.G = F.G) (ho : F'.org = F.org) : St F' clk := by
  have hc : ∀ s cs, F.has s cs → F'.has s cs := by
    intro s cs hh
    unfold Fr.has at *
    rw [hH, hl, hG, hv]; exact hh
  have hcell : ∀ k v, F.cell k v → F'.cell k v := fun k v ⟨cs, h1, h2⟩ => ⟨cs, hc _ _ h1, h2⟩
  have hlf : ∀ k st v, LeafOk F k st v → LeafOk F' k st v := by
    intro k st v hl'
    cases st <;> simp only [LeafOk, hH, hl, he, hG, ho] at hl' ⊢
    case va => rw [he]; exact hl'
    case em => exact hl'
    case ro m org => rw [he]; exact hl'
    case rf k2 kv => exact fun hh => ⟨hcell _ _ (hl' hh).1, (hl' hh).2⟩
    case ef k2 kv i iv off =>
      intro h1 h2
      obtain ⟨a0, n, b, o, e, c, ty, ⟨kd, z, z1, z2⟩, ⟨o', len, cap, xs, x1, x2, x3, x4⟩, r⟩ := hl' h1 h2
      exact ⟨a0, n, b, o, e, c, ty, ⟨kd, z, by rw [he]; exact z1, z2⟩, ⟨o', len, cap, xs, hcell _ _ x1, by rw [he]; exact x2, x3, x4⟩, r⟩
  refine ⟨fun s => ?_, fun k => by rw [hG]; exact h.refs k, fun k => by rw [hG]; exact h.vers k, fun b hb => by rw [hl]; exact h.labs b (by rw [← hH]; exact hb)⟩
  have hs := h.slots s
  unfold SlotOk at hs ⊢
  rw [he, hG, hv]
  split
  · rename_i hh
    rw [if_pos hh] at hs
    cases hst : (F.G (sk s)).st <;> rw [hst] at hs <;> simp only [Claim] at hs ⊢
    case al s2 sv off => rw [hG, hv, hv]; exact hs
    case ea k2 kv i iv off =>
      rw [hG, hv]
      intro h1 h2
      obtain ⟨n, b, o, e, ⟨kd, z, z1, z2⟩, ⟨o', len, cap, xs, x1, x2, x3, x4⟩, r⟩ := hs h1 h2
      exact ⟨n, b, o, e, ⟨kd, z, by rw [he]; exact z1, z2⟩, ⟨o', len, cap, xs, hcell _ _ x1, by rw [he]; exact x2, x3, x4⟩, r⟩
    case cl f caps =>
      rw [hv]
      obtain ⟨ps, h1, h2, h3⟩ := hs
      exact ⟨ps, h1, h2, fun i c hc hver => by rw [hv]; exact h3 i c hc (by rw [← hG]; exact hver)⟩
    all_goals
      obtain ⟨cs, h1, h2⟩ := hs
      exact ⟨cs, hc _ _ h1, fun j v hj => by rw [hG]; exact hlf _ _ _ (h2 j v hj)⟩
  · rename_i hh
    rw [if_neg hh] at hs
    exact hs

/-- THE CONTRACT OF A COMPILED FUNCTION. -/
theorem compFn_keeps {P : Program} {sigs : Nat → Option Sig} {s : Sig} {A : FAnn} {bl : List (Nat × Tree)} {D : DT} (hc : compFn P sigs s A = some bl) (hm : P.follows .mixedOrders = true)
    (hD : ∀ i s, sigs i = some s → Callee P s (D i)) (n : Nat) : Keeps P s (runF D s A.L bl n) := by
  intro F0 w l r hent hrun
  unfold compFn at hc
  split at hc
  case h_2 => simp at hc
  rename_i fn hfn
  split at hc
  case h_2 => simp at hc
  rename_i c lb hbody hlb
  simp only at hc
  split at hc
  case h_2 => simp at hc
  rename_i hok
  simp only [Bool.and_eq_true, Nat.ble_eq] at hok
  obtain ⟨⟨htabs, hco⟩, hnt⟩ := hok
  split at hc
  case h_2 => simp at hc
  rename_i t bl' hcomp
  split at hc
  case h_2 => simp at hc
  rename_i hnd
  simp only [Option.some.injEq] at hc
  subst hc
  have htabs : ∀ lb ∈ A.L, tabOk lb.tab = true := fun lb hlb => List.all_eq_true.1 htabs lb hlb
  unfold runF at hrun
  rw [hent.env, hlb] at hrun
  simp only at hrun
  simp only [Bool.and_eq_true] at hnd
  obtain ⟨hnd, hlts⟩ := hnd
  have hnd' := nodupB_nodup hnd
  have hblk : ∀ x ∈ (0, t) :: bl', (irBlk A.L ((0, t) :: bl')) x.1 = (A.L[x.1]?).map fun lb => (lb.st, x.2) := by
    intro x hx
    unfold irBlk
    have hl : ((0, t) :: bl').lookup x.1 = some x.2 := by
      have key : ∀ (l : List (Nat × Tree)), (l.map (·.1)).Nodup → x ∈ l → l.lookup x.1 = some x.2 := by
        intro l
        induction l with
        | nil => intro _ h; simp at h
        | cons y l ih =>
          intro hn h
          obtain ⟨k, t'⟩ := y
          simp only [List.map_cons, List.nodup_cons] at hn
          rw [List.lookup_cons]
          rcases List.mem_cons.1 h with h1 | h1
          · subst h1; simp
          · have hne : x.1 ≠ k := fun he => hn.1 (List.mem_map.2 ⟨x, h1, he⟩)
            have : (x.1 == k) = false := by simpa using hne
            rw [this]; exact ih hn.2 h1
      exact key _ (by simpa using hnd') hx
    rw [hl]
    cases A.L[x.1]? <;> rfl
  cases n with
  | zero => simp [runJ] at hrun
  | succ n =>
    have hb0 : irBlk A.L ((0, t) :: bl') 0 = some (lb.st, t) := by
      have := hblk (0, t) (by simp)
      simp only [hlb] at this
      exact this
    simp only [runJ, hb0] at hrun
    refine calls_of_wp hfn hbody ?_
    -- the frame at the start
    let F1 : Fr := { F0 with tmps := F0.tmps ++ Array.replicate (fn.ntmps - F0.tmps.size) undef }
    have hval : ∀ x, F1.val x = F0.val x := by
      intro x
      simp only [Fr.val, F1, Array.getD_eq_getD_getElem?]
      by_cases hx : x < F0.tmps.size
      · rw [Array.getElem?_append_left hx]
      · rw [Array.getElem?_append_right (by omega), Array.getElem?_replicate, Array.getElem?_eq_none (by omega)]
        split <;> rfl
    have hst1 : St F1 (· = 0) := hent.st.tmps hval rfl rfl rfl rfl rfl
    have hno1 : noCh F1.G := by
      intro x
      show (F0.G (sk x)).ch = []
      rw [hent.G]
      unfold entryG
      split
      · rfl
      · split <;> rfl
    have hlb' : lb ∈ A.L := List.mem_of_getElem? hlb
    have hcs := co_state (F := F1) (tab := lb.tab) (st := lb.st) hst1 hno1 (htabs lb hlb') (by show coOk F0.G _ _ _ = true; rw [hent.G]; exact hco)
    have hin : InS ⟨P, sigs, fn.ntmps⟩ F0 w lb.cs (coFr F1 (tabG lb.tab) lb.st) { tmps := F0.tmps ++ Array.replicate (fn.ntmps - F0.tmps.size) undef, defers := [] } w := by
      refine ⟨rfl, hcs.1, hcs.2, ⟨rfl, hent.H, rfl, ?_⟩, ?_⟩
      · show (F0.tmps ++ Array.replicate (fn.ntmps - F0.tmps.size) undef).size = fn.ntmps
        have := hent.size
        simp; omega
      · refine ⟨rfl, rfl, rfl, Nat.le_refl _, fun b o ho hl => ⟨ho, ?_⟩, fun b o ho hl => ⟨ho, ?_⟩, rfl⟩
        · show clab F1.G _ F0.lab b = _; simp [clab, hl]
        · exact clab_frn hl
    have hentio : ∀ (q : Nat) (τ : Ty) (ms : List (Option M)), s.ps[q]? = some (.io τ ms) → ∀ j, j < τ.n → j < 15 → ∃ v, F0.cell (lk q j) v ∧ F0.org (lk q j) = v := by
      intro q τ ms hq j hj hj15
      have hG : F0.G (sk q) = ⟨0, [], .pl τ.n τ.isPair⟩ := by
        rw [hent.G]
        unfold entryG
        rw [sk_div, hq]
        simp only
        rw [if_pos (by unfold sk; omega)]
        rfl
      have hcl := hent.st.claim (s := q) (by rw [hG]; rfl)
      rw [hG] at hcl
      obtain ⟨cs, hh, _⟩ := hcl
      have hcells := Fr.has_cells hh
      rw [hG] at hcells
      simp only [ES.cells] at hcells
      have hv : cs[j]? = some (cs[j]'(by omega)) := List.getElem?_eq_getElem (by omega)
      have hcell : F0.cell (lk q j) (cs[j]'(by omega)) := ⟨cs, by rw [lk_div (by omega)]; exact hh, by rw [lk_mod (by omega)]; exact hv⟩
      exact ⟨_, hcell, hent.org _ _ hcell⟩
    have hR : ∀ (cs : CS) (t' : Tree), (retQ P s fn.results.toList A.cands).run cs.t.get = some t' → ∀ m F a w', InS ⟨P, sigs, fn.ntmps⟩ F0 w cs F a w' → eval D (runJ D (irBlk A.L ((0, t) :: bl')) m) t' F.env = some r →
        (a.defers = [] ∧ ∃ V, (results fn a.tmps).run P w' = .ok V w' ∧ ∃ V' lab', Ending.returned V = .returned V' ∧ Gives s F0 w r V' w' lab') := by
      intro cs t' h1 m F a w' hin' hev
      obtain ⟨V, g1, lab', g2⟩ := retQ_ok hin'.st hin'.no hin'.rel hin'.ext hent.H (by rw [hin'.G]; exact h1) hev hentio
      exact ⟨hin'.rel.calm, V, g1, V, lab', rfl, g2⟩
    refine wp_mono (compC_sound (B := ⟨P, sigs, fn.ntmps⟩) (L := A.L) (R := fun cs => (retQ P s fn.results.toList A.cands).run cs.t.get) (D := D) (blk := irBlk A.L ((0, t) :: bl')) (r := r) (F0 := F0) (w0 := w)
      (RetPost := fun a w' => a.defers = [] ∧ ∃ V, (results fn a.tmps).run P w' = .ok V w' ∧ ∃ V' lab', Ending.returned V = .returned V' ∧ Gives s F0 w r V' w' lab') hm hD htabs hR
      c A.x lb.cs _ _ t bl' hcomp ?_ n (fun a w' => a.defers = [] ∧ ∃ V, (results fn a.tmps).run P w' = .ok V w' ∧ ∃ V' lab', Ending.returned V = .returned V' ∧ Gives s F0 w r V' w' lab') (fun _ _ _ => False) ?_ ?_ n (Nat.le_refl _) _ _ _ hin hrun) ?_
    · intro x hx
      have hlt := List.all_eq_true.1 hlts x hx
      simp only [Nat.blt_eq] at hlt
      refine ⟨A.L[x.1], List.getElem?_eq_getElem hlt, ?_⟩
      rw [hblk x (List.mem_cons_of_mem _ hx), List.getElem?_eq_getElem hlt]
      rfl
    · intro cs t' l' hk _ m _ F a w' hin' hev
      have hk : ((retQ P s fn.results.toList A.cands).run cs.t.get).map (fun t => (t, ([] : List (Nat × Tree)))) = some (t', l') := hk
      cases hq : (retQ P s fn.results.toList A.cands).run cs.t.get with
      | none => rw [hq] at hk; simp at hk
      | some t2 =>
        rw [hq] at hk
        simp only [Option.map_some, Option.some.injEq, Prod.mk.injEq] at hk
        obtain ⟨rfl, _⟩ := hk
        exact hR cs t2 hq m F a w' hin' hev
    · intro id cs t' l' hk; simp at hk
    · intro e a w' hq
      cases e with
      | normal => exact hq
      | ret => exact hq
      | exit id => exact hq.elim
      | goto l => exact hq.elim
      | panic ch => exact hq.elim
      | outgrown => exact hq.elim

end Go.Lf

/- What a function computes, without a count of turns; and its text, step by step. -/
namespace Go.Lf
open Classical

/-- What comes out with enough turns. -/
noncomputable def lim (g : Nat → Option (List Dyn)) : Option (List Dyn) :=
  if h : ∃ r, ∃ n, g n = some r then some (Classical.choose h) else none

theorem lim_some {g : Nat → Option (List Dyn)} {r : List Dyn} (h : lim g = some r) : ∃ n, g n = some r := by
  unfold lim at h
  split at h
  · rename_i hh
    simp only [Option.some.injEq] at h
    subst h
    exact Classical.choose_spec hh
  · cases h

theorem lim_of {g : Nat → Option (List Dyn)} (hm : ∀ n m r, n ≤ m → g n = some r → g m = some r) {n : Nat} {r : List Dyn} (h : g n = some r) : lim g = some r := by
  have hh : ∃ r, ∃ n, g n = some r := ⟨r, n, h⟩
  unfold lim
  rw [dif_pos hh]
  obtain ⟨m, hm'⟩ := Classical.choose_spec hh
  congr 1
  have h1 := hm n (max n m) r (Nat.le_max_left _ _) h
  have h2 := hm m (max n m) _ (Nat.le_max_right _ _) hm'
  rw [h1] at h2
  exact (Option.some.inj h2).symm

theorem eval_mono {D J J' : DT} (h : ∀ l x r, J l x = some r → J' l x = some r) : ∀ {t : Tree} {env : Env} {r : List Dyn}, eval D J t env = some r → eval D J' t env = some r
  | .ret out, env, r, he => he
  | .jump l ks, env, r, he => h _ _ _ he
  | .ite c t e, env, r, he => by
    simp only [eval] at he ⊢
    split at he
    · rename_i b hb
      cases b
      · exact eval_mono h he
      · exact eval_mono h he
    · cases he
  | .ins rs t, env, r, he => by
    simp only [eval] at he ⊢
    split at he
    · exact eval_mono h he
    · cases he

theorem runJ_mono {D : DT} {blk : Blk} : ∀ {n m : Nat} {l : Nat} {x : List Dyn} {r : List Dyn}, n ≤ m → runJ D blk n l x = some r → runJ D blk m l x = some r := by
  intro n
  induction n with
  | zero => intro m l x r _ h; simp [runJ] at h
  | succ n ih =>
    intro m l x r hm h
    cases m with
    | zero => omega
    | succ m =>
      simp only [runJ] at h ⊢
      split at h
      · exact eval_mono (fun l x r => ih (by omega)) h
      · cases h

/-- What a label computes. -/
noncomputable def Jl (D : DT) (blk : Blk) : DT := fun l x => lim fun n => runJ D blk n l x

theorem Jl_some {D : DT} {blk : Blk} {l : Nat} {x r : List Dyn} (h : Jl D blk l x = some r) : ∃ n, runJ D blk n l x = some r := lim_some h
theorem Jl_of {D : DT} {blk : Blk} {l n : Nat} {x r : List Dyn} (h : runJ D blk n l x = some r) : Jl D blk l x = some r := lim_of (fun _ _ _ hm h => runJ_mono hm h) h

theorem eval_lim {D : DT} {blk : Blk} : ∀ {t : Tree} {env : Env} {r : List Dyn}, eval D (Jl D blk) t env = some r → ∃ n, eval D (runJ D blk n) t env = some r
  | .ret out, env, r, he => ⟨0, he⟩
  | .jump l ks, env, r, he => Jl_some he
  | .ite c t e, env, r, he => by
    simp only [eval] at he ⊢
    split at he
    · rename_i b hb
      cases b
      · exact eval_lim he
      · exact eval_lim he
    · cases he
  | .ins rs t, env, r, he => by
    simp only [eval] at he ⊢
    split at he
    · exact eval_lim he
    · cases he

/-- A LABEL, STEP BY STEP. -/
theorem Jl_eq {D : DT} {blk : Blk} {l : Nat} {x : List Dyn} : Jl D blk l x = match blk l with | some (st, t) => eval D (Jl D blk) t (envOf st x) | none => none := by
  apply Option.ext
  intro r
  constructor
  · intro h
    obtain ⟨n, hn⟩ := Jl_some h
    cases n with
    | zero => simp [runJ] at hn
    | succ n =>
      simp only [runJ] at hn
      split at hn
      · rename_i st t hb
        first
          | (rw [hb]; exact eval_mono (fun l x r h => Jl_of h) hn)
          | exact eval_mono (fun l x r h => Jl_of h) hn
      · cases hn
  · intro h
    cases hb : blk l with
    | none => rw [hb] at h; simp at h
    | some p =>
      obtain ⟨st, t⟩ := p
      rw [hb] at h
      obtain ⟨n, hn⟩ := eval_lim h
      exact Jl_of (n := n + 1) (by simp only [runJ, hb]; exact hn)

/-- What a compiled function computes. -/
noncomputable def fnD (D : DT) (s : Sig) (L : List Lbl) (bl : List (Nat × Tree)) (l : List Dyn) : Option (List Dyn) :=
  match entryEnv 0 s.ps l (fun _ => ⟨.bool, false⟩), L[0]? with
  | some env, some lb => Jl D (irBlk L bl) 0 (lb.st.map env)
  | _, _ => none

theorem fnD_keeps {P : Program} {sigs : Nat → Option Sig} {s : Sig} {A : FAnn} {bl : List (Nat × Tree)} {D : DT} (hc : compFn P sigs s A = some bl) (hm : P.follows .mixedOrders = true)
    (hD : ∀ i s, sigs i = some s → Callee P s (D i)) : Keeps P s (fnD D s A.L bl) := by
  intro F0 w l r hent hr
  unfold fnD at hr
  split at hr
  · rename_i env lb he hl
    obtain ⟨n, hn⟩ := Jl_some hr
    exact compFn_keeps hc hm hD n F0 w l r hent (by unfold runF; rw [he, hl]; exact hn)
  · cases hr

theorem Keeps.mono {P : Program} {s : Sig} {D D' : List Dyn → Option (List Dyn)} (h : Keeps P s D) (hd : ∀ l r, D' l = some r → D l = some r) : Keeps P s D' :=
  fun F0 w l r he hr => h F0 w l r he (hd l r hr)

/- ---- step by step, with what follows handed on ---- -/

section
variable {α : Type}

/-- What may be called, with what follows. -/
abbrev DK := (α : Type) → Nat → List Dyn → (List Dyn → Option α) → Option α

def at? {β : Type} (l : List β) (i : Int) : Option β := if 0 ≤ i then l[i.toNat]? else none

theorem mkOk_ex : ∃ f : Int → Bool, ∀ n, f n = decide (0 ≤ n ∧ n < (room : Int)) := ⟨_, fun _ => rfl⟩
theorem fits_ex : ∃ f : Nat → Bool, ∀ n, f n = decide (n < room) := ⟨_, fun _ => rfl⟩
/-- A length that a slice can be made with (not to be unfolded by the kernel). -/
noncomputable def mkOk : Int → Bool := Classical.choose mkOk_ex
/-- A length that a slice can have (not to be unfolded by the kernel). -/
noncomputable def fits : Nat → Bool := Classical.choose fits_ex
theorem mkOk_eq (n : Int) : mkOk n = decide (0 ≤ n ∧ n < (room : Int)) := Classical.choose_spec mkOk_ex n
theorem fits_eq (n : Nat) : fits n = decide (n < room) := Classical.choose_spec fits_ex n

theorem bif_decide {β : Type} {p : Prop} [Decidable p] {a b : β} : (bif decide p then a else b) = if p then a else b := by by_cases h : p <;> simp [h]

noncomputable def binK (op : BinOp) (x y : Dyn) (k : Dyn → Option α) : Option α :=
  match x, y with
  | ⟨.int kx, x⟩, ⟨.int ky, y⟩ =>
    match op with
    | .add => if kx = ky then k ⟨.int kx, kx.wrap (x + y)⟩ else none
    | .sub => if kx = ky then k ⟨.int kx, kx.wrap (x - y)⟩ else none
    | .mul => if kx = ky then k ⟨.int kx, kx.wrap (x * y)⟩ else none
    | .quo => if kx = ky then (if y = 0 then none else k ⟨.int kx, kx.wrap (x.tdiv y)⟩) else none
    | .rem => if kx = ky then (if y = 0 then none else k ⟨.int kx, x.tmod y⟩) else none
    | .eql => if kx = ky then k ⟨.bool, x == y⟩ else none
    | .neq => if kx = ky then k ⟨.bool, x != y⟩ else none
    | .lss => if kx = ky then k ⟨.bool, decide (x < y)⟩ else none
    | .leq => if kx = ky then k ⟨.bool, decide (x ≤ y)⟩ else none
    | .gtr => if kx = ky then k ⟨.bool, decide (x > y)⟩ else none
    | .geq => if kx = ky then k ⟨.bool, decide (x ≥ y)⟩ else none
    | .shl => if ky = .i64 then (if 0 ≤ y then k ⟨.int kx, kx.wrap (x * 2 ^ (min y.toNat kx.bits))⟩ else none) else none
    | .shr => if ky = .i64 then (if 0 ≤ y then k ⟨.int kx, x.fdiv (2 ^ (min y.toNat kx.bits))⟩ else none) else none
    | op => (binD op ⟨.int kx, x⟩ ⟨.int ky, y⟩).bind k
  | ⟨.str, x⟩, ⟨.str, y⟩ =>
    match op with
    | .add => bif fits (x.size + y.size) then k ⟨.str, x ++ y⟩ else none
    | .eql => k ⟨.bool, x.toList == y.toList⟩
    | .neq => k ⟨.bool, !(x.toList == y.toList)⟩
    | _ => none
  | x, y => (binD op x y).bind k

theorem binK_eq {op : BinOp} {x y : Dyn} {k : Dyn → Option α} : binK op x y k = (binD op x y).bind k := by
  obtain ⟨τx, x⟩ := x
  obtain ⟨τy, y⟩ := y
  cases τx <;> cases τy <;> try rfl
  case int.int kx ky =>
    cases op <;> simp only [binK, binD] <;> (repeat' split) <;> simp_all
  case str.str =>
    cases op <;> simp only [binK, binD, fits_eq, bif_decide] <;> (repeat' split) <;> simp_all

def atK (t : Option Ty) (c i : Dyn) (k : Dyn → Option α) : Option α :=
  match c, i with
  | ⟨.slice e, l⟩, ⟨.int _, i⟩ => if t = none ∨ t = some e then (at? l i).bind fun x => k ⟨e, x⟩ else none
  | _, _ => none

theorem atK_eq {t : Option Ty} {c i : Dyn} {k : Dyn → Option α} : atK t c i k = (atD t c i).bind k := by
  obtain ⟨τx, x⟩ := c
  obtain ⟨τy, y⟩ := i
  cases τx <;> cases τy <;> try rfl
  simp only [atK, atD, at?]
  split
  · split
    · cases (x : List _)[Int.toNat y]? <;> rfl
    · rfl
  · rfl

noncomputable def appK (t : Ty) (a b : Dyn) (k : Dyn → Option α) : Option α :=
  match a, b with
  | ⟨.slice e, x⟩, ⟨.slice e', y⟩ => if h : e = t then (if h' : e' = t then (bif fits (x.length + y.length) then k ⟨.slice t, (h ▸ x : List t.T) ++ (h' ▸ y : List t.T)⟩ else none) else none) else none
  | _, _ => none

theorem appK_eq {t : Ty} {a b : Dyn} {k : Dyn → Option α} : appK t a b k = (appD t a b).bind k := by
  obtain ⟨τx, x⟩ := a
  obtain ⟨τy, y⟩ := b
  cases τx <;> cases τy <;> try rfl
  simp only [appK, appD, fits_eq, bif_decide]
  repeat' split
  all_goals rfl

noncomputable def mkK (e : Ty) (n : Dyn) (k : Dyn → Option α) : Option α :=
  match n with
  | ⟨.int _, n⟩ => bif mkOk n then k ⟨.slice e, List.replicate n.toNat e.zero⟩ else none
  | _ => none

theorem mkK_eq {e : Ty} {n : Dyn} {k : Dyn → Option α} : mkK e n k = (mkD e n).bind k := by
  obtain ⟨τx, x⟩ := n
  cases τx <;> try rfl
  simp only [mkK, mkD, mkOk_eq, bif_decide]
  split <;> rfl

def setK (off : Nat) (ts : List Ty) (new : List Dyn) (c i : Dyn) (k : Dyn → Option α) : Option α :=
  match c, i with
  | ⟨.slice e, l⟩, ⟨.int _, i⟩ =>
    if new.map Dyn.τ = ts then
      (at? l i).bind fun x => match build e (patch off new (flat e x)) with
        | some y => k ⟨.slice e, l.set i.toNat y⟩
        | none => none
    else none
  | _, _ => none

theorem setK_eq {off : Nat} {ts : List Ty} {new : List Dyn} {c i : Dyn} {k : Dyn → Option α} : setK off ts new c i k = (setD off ts new c i).bind k := by
  obtain ⟨τx, x⟩ := c
  obtain ⟨τy, y⟩ := i
  cases τx <;> cases τy <;> try rfl
  rename_i e kd
  simp only [setK, setD, at?]
  by_cases h1 : new.map Dyn.τ = ts
  · by_cases h2 : (0 : Int) ≤ y
    · rw [if_pos h1, if_pos h2, if_pos ⟨h2, h1⟩]
      cases (x : List _)[Int.toNat y]? with
      | none => rfl
      | some z =>
        simp only [Option.bind_some]
        cases build e (patch off new (flat e z)) <;> rfl
    · rw [if_pos h1, if_neg h2, if_neg (fun h => h2 h.1)]; rfl
  · rw [if_neg h1, if_neg (fun h => h1 h.2)]; rfl

/-- A bound of a slice expression. -/
def subK (t : Ty) (lo hi : Option Dyn) (c : Dyn) (k : Dyn → Option α) : Option α :=
  match c with
  | ⟨.slice e, l⟩ =>
    if e = t then
      match hi with
      | none =>
        match lo with
        | none => k ⟨.slice e, l.take l.length⟩
        | some ⟨.int _, z⟩ => if 0 ≤ z ∧ z ≤ (l.length : Int) then k ⟨.slice e, (l.take l.length).drop z.toNat⟩ else none
        | _ => none
      | some ⟨.int _, z⟩ =>
        if 0 ≤ z ∧ z ≤ (l.length : Int) then
          match lo with
          | none => k ⟨.slice e, l.take z.toNat⟩
          | some ⟨.int _, z'⟩ => if 0 ≤ z' ∧ z' ≤ (z.toNat : Int) then k ⟨.slice e, (l.take z.toNat).drop z'.toNat⟩ else none
          | _ => none
        else none
      | _ => none
    else none
  | _ => none

theorem subK_eq {t : Ty} {lo hi : Option Dyn} {c : Dyn} {k : Dyn → Option α} : subK t lo hi c k = (subD t lo hi c).bind k := by
  obtain ⟨τx, x⟩ := c
  cases τx <;> try rfl
  rename_i e
  simp only [subK, subD]
  by_cases he : e = t
  · rw [if_pos he, if_pos he]
    cases hi with
    | none =>
      simp only
      cases lo with
      | none => rfl
      | some z =>
        obtain ⟨τz, z⟩ := z
        cases τz <;> try rfl
        simp only
        split <;> rfl
    | some z =>
      obtain ⟨τz, z⟩ := z
      cases τz <;> try rfl
      simp only
      by_cases hz : 0 ≤ z ∧ z ≤ ((x : List _).length : Int)
      · rw [if_pos hz, if_pos hz]
        simp only
        cases lo with
        | none => rfl
        | some z' =>
          obtain ⟨τz', z'⟩ := z'
          cases τz' <;> try rfl
          simp only
          split <;> rfl
      · rw [if_neg hz, if_neg hz]; rfl
  · rw [if_neg he, if_neg he]; rfl

/-- One of two data of one type. -/
def pickK (c a b : Dyn) (k : Dyn → Option α) : Option α :=
  match c with
  | ⟨.bool, c⟩ => if h : b.τ = a.τ then k ⟨a.τ, match c with | true => a.v | false => h ▸ b.v⟩ else (match c with | true => k a | false => k b)
  | _ => none

theorem pickK_eq {c a b : Dyn} {k : Dyn → Option α} : pickK c a b k = (pickD c a b).bind k := by
  obtain ⟨τc, c⟩ := c
  cases τc <;> try rfl
  simp only [pickK, pickD]
  split
  · rename_i h
    obtain ⟨τa, a⟩ := a
    obtain ⟨τb, b⟩ := b
    simp only at h
    subst h
    cases c <;> rfl
  · cases c <;> rfl

/-- One instruction, with what follows. -/
noncomputable def Ik (D : DK) (env : Env) (k : Env → Option α) : I → Option α
  | .cp d x => k (env.set d (x.rd env))
  | .bin op d x y => binK op (x.rd env) (y.rd env) fun v => k (env.set d v)
  | .beq ng d x y => (beqD ng (x.rd env) (y.rd env)).bind fun v => k (env.set d v)
  | .not d x => (notD (x.rd env)).bind fun v => k (env.set d v)
  | .neg d x => (negD (x.rd env)).bind fun v => k (env.set d v)
  | .conv kd d x => (convD kd (x.rd env)).bind fun v => k (env.set d v)
  | .pick d c a b => pickK (c.rd env) (a.rd env) (b.rd env) fun v => k (env.set d v)
  | .mnx big d x y => (mnxD big (x.rd env) (y.rd env)).bind fun v => k (env.set d v)
  | .len s d x => (lenD s (x.rd env)).bind fun v => k (env.set d v)
  | .idx e ds off c i => atK e (c.rd env) (i.rd env) fun x => (env.puts ds (((flat x.τ x.v).drop off).take ds.length)).bind k
  | .chk e c i => atK (some e) (c.rd env) (i.rd env) fun _ => k env
  | .app e d x y => appK e (x.rd env) (y.rd env) fun v => k (env.set d v)
  | .lst d e rows => (rowsD e env rows).bind fun l => k (env.set d ⟨.slice e, l⟩)
  | .mk d e n => mkK e (n.rd env) fun v => k (env.set d v)
  | .sub e d x lo hi => subK e (lo.map (Od.rd env)) (hi.map (Od.rd env)) (x.rd env) fun v => k (env.set d v)
  | .setE d i off ts src => setK off ts (src.map (Od.rd env)) (env d) (i.rd env) fun v => k (env.set d v)
  | .call f args outs => (argsD env args).bind fun l => D α f l fun r => (env.outs outs r).bind k

theorem set1_bind {env : Env} {d : Nat} {x : Option Dyn} {k : Env → Option α} : (set1 env d x).bind k = x.bind fun v => k (env.set d v) := by cases x <;> rfl

theorem Ik_eq {D : DT} {DK : DK} (hD : ∀ (α : Type) (f : Nat) (l : List Dyn) (k : List Dyn → Option α), DK α f l k = (D f l).bind k) {env : Env} {k : Env → Option α} : ∀ {i : I}, Ik DK env k i = (i.den D env).bind k := by
  intro i
  cases i <;> simp only [Ik, I.den, set1_bind, binK_eq, appK_eq, mkK_eq, setK_eq, subK_eq, pickK_eq, atK_eq, hD]
  case cp d x => rfl
  case idx e ds off c i => cases atD e (c.rd env) (i.rd env) <;> rfl
  case chk e c i => cases atD (some e) (c.rd env) (i.rd env) <;> rfl
  case lst d e rows => cases rowsD e env rows <;> rfl
  case call f args outs =>
    cases argsD env args with
    | none => rfl
    | some l =>
      simp only [Option.bind_some]
      cases D f l <;> rfl

noncomputable def Isk (D : DK) (env : Env) (k : Env → Option α) : List I → Option α
  | [] => k env
  | i :: is => Ik D env (fun e => Isk D e k is) i

theorem Isk_eq {D : DT} {DK : DK} (hD : ∀ (α : Type) (f : Nat) (l : List Dyn) (k : List Dyn → Option α), DK α f l k = (D f l).bind k) {k : Env → Option α} : ∀ {is : List I} {env : Env}, Isk DK env k is = (I.dens D env is).bind k
  | [], env => rfl
  | i :: is, env => by
    simp only [Isk, I.dens, Ik_eq hD]
    cases i.den D env with
    | none => rfl
    | some e => exact Isk_eq hD

noncomputable def RSk (D : DK) : RS → Env → {β : Type} → (Env → Option β) → Option β
  | .nil, env, _, k => k env
  | .grp [] is r, env, _, k => Isk D env (fun e => RSk D r e k) is
  | .grp ch is r, env, _, k => match holds env ch with
    | true => Isk D env (fun e => RSk D r e k) is
    | false => RSk D r env k
  | .sel d c T a F b r, env, _, k =>
    ((boolOf (env c)).bind fun x => match x with
      | true => RSk D T env fun e => boolOf (a.rd e)
      | false => RSk D F env fun e => boolOf (b.rd e)).bind fun v => RSk D r (env.set d ⟨.bool, v⟩) k

theorem RSk_eq {D : DT} {DK : DK} (hD : ∀ (α : Type) (f : Nat) (l : List Dyn) (k : List Dyn → Option α), DK α f l k = (D f l).bind k) : ∀ {rs : RS} {env : Env} {β : Type} {k : Env → Option β}, RSk DK rs env k = (runRS D rs env).bind k := by
  intro rs
  induction rs with
  | nil => intro env β k; rfl
  | grp ch is r ih =>
    intro env β k
    cases ch with
    | nil =>
      simp only [RSk, runRS, runGroup, Isk_eq hD]
      have : holds env [] = true := rfl
      rw [if_pos this]
      cases I.dens D env is with
      | none => rfl
      | some e => simp only [Option.bind_some]; exact ih
    | cons c ch =>
      simp only [RSk, runRS, runGroup]
      cases hh : holds env (c :: ch) with
      | true =>
        simp only [if_true, Isk_eq hD]
        cases I.dens D env is with
        | none => rfl
        | some e => simp only [Option.bind_some]; exact ih
      | false => simp only [Bool.false_eq_true, if_false, Option.bind_some]; exact ih
  | sel d c T a F b r ihT ihF ih =>
    intro env β k
    simp only [RSk, runRS]
    cases boolOf (env c) with
    | none => rfl
    | some x =>
      simp only [Option.bind_some]
      cases x with
      | true =>
        simp only [ihT]
        cases runRS D T env with
        | none => rfl
        | some e =>
          simp only [Option.bind_some]
          cases boolOf (a.rd e) with
          | none => rfl
          | some v => simp only [Option.bind_some]; exact ih
      | false =>
        simp only [ihF]
        cases runRS D F env with
        | none => rfl
        | some e =>
          simp only [Option.bind_some]
          cases boolOf (b.rd e) with
          | none => rfl
          | some v => simp only [Option.bind_some]; exact ih

/-- A tree, with what becomes of the results. -/
noncomputable def TK (D : DK) (J : Nat → List Dyn → Option α) (k : List Dyn → Option α) : Tree → Env → Option α
  | .ret out, env => (argsD env out).bind k
  | .jump l ks, env => J l (ks.map env)
  | .ite c t e, env => (boolOf (c.rd env)).bind fun b => match b with
    | true => TK D J k t env
    | false => TK D J k e env
  | .ins rs t, env => RSk D rs env fun e => TK D J k t e

theorem TK_eq {D : DT} {DK : DK} (hD : ∀ (α : Type) (f : Nat) (l : List Dyn) (k : List Dyn → Option α), DK α f l k = (D f l).bind k) {J : DT} {k : List Dyn → Option α} :
    ∀ {t : Tree} {env : Env}, TK DK (fun l x => (J l x).bind k) k t env = (eval D J t env).bind k
  | .ret out, env => rfl
  | .jump l ks, env => rfl
  | .ite c t e, env => by
    simp only [TK, eval]
    generalize c.rd env = y
    obtain ⟨τ, x⟩ := y
    cases τ <;> try rfl
    simp only [boolOf, Option.bind_some]
    cases x with
    | true => exact TK_eq hD
    | false => exact TK_eq hD
  | .ins rs t, env => by
    simp only [TK, eval, RSk_eq hD]
    cases runRS D rs env with
    | none => rfl
    | some e => simp only [Option.bind_some]; exact TK_eq hD

/-- A label's text. -/
theorem Jstep {D : DT} {DK : DK} (hD : ∀ (α : Type) (f : Nat) (l : List Dyn) (k : List Dyn → Option α), DK α f l k = (D f l).bind k) {blk : Blk} {l : Nat} {st : List Nat} {t : Tree} (hb : blk l = some (st, t)) {x : List Dyn} {k : List Dyn → Option α} :
    (Jl D blk l x).bind k = TK DK (fun l x => (Jl D blk l x).bind k) k t (envOf st x) := by
  rw [TK_eq hD, Jl_eq, hb]

/-- A label's text, the label looked up. -/
theorem Jstep2 {D : DT} {DK : DK} (hD : ∀ (α : Type) (f : Nat) (l : List Dyn) (k : List Dyn → Option α), DK α f l k = (D f l).bind k) {blk : Blk} {l : Nat} {x : List Dyn} {k : List Dyn → Option α} :
    (Jl D blk l x).bind k = match blk l with
      | some (st, t) => TK DK (fun l x => (Jl D blk l x).bind k) k t (envOf st x)
      | none => none := by
  cases hb : blk l with
  | none => rw [Jl_eq, hb]; rfl
  | some p => obtain ⟨st, t⟩ := p; exact Jstep hD hb

end

/- ---- functions of data ---- -/

def ArgF : List Ty → Type → Type
  | [], R => R
  | t :: ts, R => t.T → ArgF ts R

def Outs : List Ty → Type
  | [] => Unit
  | [t] => t.T
  | t :: ts => t.T × Outs ts

def castD (t : Ty) (x : Dyn) : Option t.T := if h : x.τ = t then some (h ▸ x.v) else none

def readOuts : (ts : List Ty) → List Dyn → Option (Outs ts)
  | [], l => match l with
    | [] => some ()
    | _ :: _ => none
  | [t], l => match l with
    | [] => none
    | x :: xs => match xs with
      | [] => castD t x
      | _ :: _ => none
  | t :: t' :: ts, l => match l with
    | [] => none
    | x :: xs => (castD t x).bind fun a => (readOuts (t' :: ts) xs).bind fun b => some (a, b)

def outsD : (ts : List Ty) → Outs ts → List Dyn
  | [], _ => []
  | [t], a => [⟨t, a⟩]
  | t :: t' :: ts, (a, b) => ⟨t, a⟩ :: outsD (t' :: ts) b

theorem castD_eq {t : Ty} {x : Dyn} {a : t.T} (h : castD t x = some a) : x = ⟨t, a⟩ := by
  unfold castD at h
  split at h
  · rename_i hh
    obtain ⟨τ, v⟩ := x
    simp only at hh
    subst hh
    simp only [Option.some.injEq] at h
    rw [← h]
  · cases h

theorem readOuts_eq (ts : List Ty) : ∀ (l : List Dyn) (z : Outs ts), readOuts ts l = some z → outsD ts z = l := by
  induction ts with
  | nil =>
    intro l z h
    cases l with
    | nil => rfl
    | cons x xs => exact absurd (show none = some z from h) (by simp)
  | cons t ts ih =>
    cases ts with
    | nil =>
      intro l z h
      cases l with
      | nil => exact absurd (show none = some z from h) (by simp)
      | cons x xs =>
        cases xs with
        | nil =>
          have h : castD t x = some z := h
          show [(⟨t, z⟩ : Dyn)] = [x]
          rw [castD_eq h]
        | cons y ys => exact absurd (show none = some z from h) (by simp)
    | cons t' ts =>
      intro l z h
      cases l with
      | nil => exact absurd (show none = some z from h) (by simp)
      | cons x xs =>
        have h : ((castD t x).bind fun a => (readOuts (t' :: ts) xs).bind fun b => some ((a, b) : t.T × Outs (t' :: ts))) = some z := h
        cases h1 : castD t x with
        | none => rw [h1] at h; cases h
        | some a =>
          rw [h1] at h
          cases h2 : readOuts (t' :: ts) xs with
          | none => rw [h2] at h; cases h
          | some b =>
            rw [h2] at h
            have h := Option.some.inj h
            subst h
            show (⟨t, a⟩ : Dyn) :: outsD (t' :: ts) b = x :: xs
            rw [ih xs b h2, castD_eq h1]

/-- A function of lists of data as a function of data. -/
def curry : (ts : List Ty) → {R : Type} → (List Dyn → R) → ArgF ts R
  | [], _, g => g []
  | t :: ts, _, g => fun a => curry ts fun l => g (⟨t, a⟩ :: l)

def applyD : (ts : List Ty) → {R : Type} → ArgF ts R → List Dyn → Option R
  | [], _, f, [] => some f
  | t :: ts, _, f, x :: xs => (castD t x).bind fun a => applyD ts (f a) xs
  | _, _, _, _ => none

theorem applyD_curry : ∀ {ts : List Ty} {R : Type} {g : List Dyn → R} {l : List Dyn} {r : R}, applyD ts (curry ts g) l = some r → r = g l
  | [], R, g, [], r, h => by simp only [applyD, curry, Option.some.injEq] at h; exact h.symm
  | [], _, _, _ :: _, _, h => by simp [applyD] at h
  | t :: ts, _, _, [], _, h => by simp [applyD] at h
  | t :: ts, R, g, x :: xs, r, h => by
    simp only [applyD] at h
    cases h1 : castD t x with
    | none => rw [h1] at h; simp at h
    | some a =>
      rw [h1] at h
      simp only [Option.bind_some, curry] at h
      have := applyD_curry h
      rw [this, castD_eq h1]

def tyd (ts ρs : List Ty) (g : List Dyn → Option (List Dyn)) : ArgF ts (Option (Outs ρs)) := curry ts fun l => (g l).bind (readOuts ρs)

/-- A function of data as one that may be called. -/
def wrapK (ts ρs : List Ty) (f : ArgF ts (Option (Outs ρs))) {α : Type} (l : List Dyn) (k : List Dyn → Option α) : Option α :=
  match applyD ts f l with
  | some o => o.bind fun r => k (outsD ρs r)
  | none => none

def wrapD (ts ρs : List Ty) (f : ArgF ts (Option (Outs ρs))) (l : List Dyn) : Option (List Dyn) := wrapK ts ρs f l some

theorem wrapK_eq {ts ρs : List Ty} {f : ArgF ts (Option (Outs ρs))} {α : Type} {l : List Dyn} {k : List Dyn → Option α} : wrapK ts ρs f l k = (wrapD ts ρs f l).bind k := by
  unfold wrapD wrapK
  cases applyD ts f l with
  | none => rfl
  | some o => cases o <;> rfl

theorem wrap_tyd {ts ρs : List Ty} {g : List Dyn → Option (List Dyn)} {l r : List Dyn} (h : wrapD ts ρs (tyd ts ρs g) l = some r) : g l = some r := by
  unfold wrapD wrapK at h
  split at h
  · rename_i o ho
    have := applyD_curry ho
    subst this
    cases hg : g l with
    | none => rw [hg] at h; simp at h
    | some r' =>
      rw [hg] at h
      simp only [Option.bind_some] at h
      cases hr : readOuts ρs r' with
      | none => rw [hr] at h; simp at h
      | some z =>
        rw [hr] at h
        simp only [Option.bind_some, Option.some.injEq] at h
        rw [← h, readOuts_eq _ _ _ hr]
  · cases h

/-- What may be called from a function: signatures and functions of data. -/
structure Fn where
  s : Sig
  ts : List Ty
  ρs : List Ty
  f : ArgF ts (Option (Outs ρs))

def sigsOf (cs : List Fn) (i : Nat) : Option Sig :=
  match cs[i]? with
  | some c => some c.s
  | none => none

def DOf (cs : List Fn) : DT := fun i l =>
  match cs[i]? with
  | some c => wrapD c.ts c.ρs c.f l
  | none => none

def DKOf (cs : List Fn) : DK := fun _ i l k =>
  match cs[i]? with
  | some c => wrapK c.ts c.ρs c.f l k
  | none => none

theorem DKOf_eq (cs : List Fn) : ∀ (α : Type) (f : Nat) (l : List Dyn) (k : List Dyn → Option α), DKOf cs α f l k = (DOf cs f l).bind k := by
  intro α f l k
  unfold DKOf DOf
  cases cs[f]? with
  | none => rfl
  | some c => exact wrapK_eq

/-- A function that may be called. -/
def Good (P : Program) (c : Fn) : Prop := Callee P c.s (wrapD c.ts c.ρs c.f)

theorem DOf_good {P : Program} {cs : List Fn} (h : ∀ c ∈ cs, Good P c) : ∀ i s, sigsOf cs i = some s → Callee P s (DOf cs i) := by
  intro i s hs
  unfold sigsOf at hs
  cases hc : cs[i]? with
  | none => rw [hc] at hs; simp at hs
  | some c =>
    rw [hc] at hs
    simp only [Option.some.injEq] at hs
    subst hs
    have := h c (List.mem_of_getElem? hc)
    unfold Good at this
    have e : DOf cs i = wrapD c.ts c.ρs c.f := by funext l; unfold DOf; rw [hc]
    rw [e]
    exact this

/-- A compiled function may be called. -/
theorem good_of {P : Program} {cs : List Fn} (hcs : ∀ c ∈ cs, Good P c) {s : Sig} {A : FAnn} {bl : List (Nat × Tree)} (hc : compFn P (sigsOf cs) s A = some bl) (hm : P.follows .mixedOrders = true) (he : Enters P s.f) (ts ρs : List Ty) :
    Good P ⟨s, ts, ρs, tyd ts ρs (fnD (DOf cs) s A.L bl)⟩ :=
  ⟨(fnD_keeps hc hm (DOf_good hcs)).mono fun _ _ h => wrap_tyd h, he⟩

end Go.Lf
