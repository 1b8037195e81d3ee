/-
  Part 6 of what a proof of this claim uses: rules, contracts and plain laws. No condition.
-/
import Derived.Test.YtcnpkmdooekmgaaGreatDoorP5
namespace Go.Proofs.YtcnpkmdooekmgaaGreatDoor
open Go Sl
abbrev dnN (D : Dk) (m : Nd) : Nd := if D.down then nd0 else m
abbrev dnE (D : Dk) : Nat := if D.down then 30 else 0
/-- a value that may not be there. -/
abbrev gotV (o : Option (List Nat)) (e : Nat) : Value := .tuple #[v44 (o.getD z44), .bool o.isSome, i64 e]
/-- at the end of a search in a leaf. -/
theorem below_hit {kv : KV} {k : Nat} (hs : Srt kv) : get? k kv = if k ∈ kv.map (·.1) then (kv.map (·.2))[below (kv.map (·.1)) k]? else none := by
  induction kv with
  | nil => rfl
  | cons a l ih =>
    obtain ⟨h1, h2⟩ := List.pairwise_cons.1 hs
    obtain ⟨j, w⟩ := a
    by_cases hj : j = k
    · subst hj
      have h0 : below (((j, w) :: l).map (·.1)) j = 0 := by
        rw [below, List.countP_eq_zero]
        intro x hx
        rcases List.mem_cons.1 hx with rfl | hx
        · simp
        · obtain ⟨y, hy, rfl⟩ := List.mem_map.1 hx
          have := h1 y hy
          simp at this ⊢; omega
      rw [h0]
      simp [get?]
    · have hj' : ¬ k = j := fun e => hj e.symm
      have hg : get? k ((j, w) :: l) = get? k l := by simp [get?, hj']
      rw [hg, ih h2]
      by_cases hm : k ∈ l.map (·.1)
      · have hlt : j < k := by
          obtain ⟨y, hy, rfl⟩ := List.mem_map.1 hm
          exact h1 y hy
        have hb : below (((j, w) :: l).map (·.1)) k = below (l.map (·.1)) k + 1 := by
          simp [below, hlt]
        rw [if_pos hm, if_pos (by simp; exact .inr (by simpa using hm)), hb]
        rfl
      · rw [if_neg hm, if_neg (by simp only [List.map_cons, List.mem_cons, not_or]; exact ⟨fun h => hj h.symm, hm⟩)]
attribute [local irreducible] cw sw J Exit.then Exit.inBlock Exit.noGoto bodyPost swG swL permL
theorem tload_c (ps N : Nat) (S : St) (D : Dk) (r : Rf) (m : Nd) (hr : r.wt) (hS : S.wf) (hK : S.K r.sec ≠ none) (hm : m.right) (hw : m.wt) (hsec : S.sec r.sec = m.enc) (hsum : r.sum = shaM m.enc) (ha : Agr S D) (hN : N ≤ 900000000) (Φ : Base) :
    Sl.Fn Tryz.prog Φ F.shadow_Store_Load [ptr ps, .agg (rcells r).toArray] [store ps S, disk S.pd D, hlog S.pl N] (fun _ : NR => True) (fun y => .tuple #[nV (dnN D m) y, i64 (dnE D)])
      (fun y => [store ps S, disk S.pd D, hlog S.pl (N + 1), node (dnN D m) y]) := by
  have hrg := hS.rng _ hK
  unfold dnN dnE
  rcases hd : D.down with _ | _
  · have := sload_s ps N S D r m hr hrg.1 hrg.2 hm hw (by rw [ha.sec _ hK]; exact hsec) ha.size hd hN Φ
    simp only [ldN, if_pos hsum.symm] at this
    simpa only [Bool.false_eq_true, if_false] using this
  · simp only [if_true]
    refine Fn.conseq (Fn.frame (sload_d ps S D r hr hrg.1 hrg.2 hd Φ) [hlog S.pl N]) (fun F _ _ s => s) (fun _ _ => ⟨nr0, trivial, rfl, fun F => ?_⟩)
    dsimp only [List.cons_append, List.nil_append]
    exact Ent.trans (Le.ent (A := hlog S.pl N :: store ps S :: disk S.pd D :: node nd0 nr0 :: F)) ((hlogUp (N' := N + 1) (by omega) _).trans Le.ent)
theorem tget_c (ps pd pl N k : Nat) (S : St) (D : Dk) (t : Tre) (hk : k < 18446744073709551616) (ht : TOk S.g t) (hS : S.wf) (ha : Agr S D) (hN : N ≤ 600000000) (hkv : t.kv.length ≤ 1000000) (hpd : S.pd = pd) (hpl : S.pl = pl) (Φ : Base) :
    Sl.Fn Tryz.prog Φ F.mtree_Tree_Get [ptr t.p, w64 k] [tree t.p ps t.rt, store ps S, disk pd D, hlog pl N] (fun _ : Unit => True) (fun _ => if t.rt.isSome ∧ D.down = true then gotV none 30 else gotV (get? k t.kv) 0) (fun _ => [tree t.p ps t.rt, store ps S, disk pd D, hlog pl (N + 200)]) := by
  obtain rfl := hpd
  obtain rfl := hpl
  have hw := oWt_of ht
  refine fo fun F => ?_
  repeat refine s1 ?_
  refine al (cs := z44.map u8) (fun t4 => ?_)
  repeat refine s1 ?_
  refine al (cs := z44.map u8) (fun t7 => ?_)
  repeat refine s1 ?_
  refine cl (made_c t.p ps t.rt Φ) ?_
  repeat refine s1 ?_
  refine ld rfl (tc_has hw) ?_
  rcases hrt : t.rt with _ | r0
  · rw [Option.isSome_none]
    have hkv0 := ht.nil hrt
    repeat refine s1 ?_
    refine r_storeW (vs := z44.map u8) rfl rfl (by rfl) (by rfl) (by simp [Value.oneCell']) rfl ?_
    repeat refine s1 ?_
    refine jh [hlog S.pl N] (j_ent (hlogUp (N' := N + 200) (by omega) _) ?_)
    exact j_fin rfl (.cons (rv_agg (l := z44.map u8) (fr := (0, 0)) rfl (by rfl)) (.cons (rv_tmp rfl) (.cons (rv_tmp rfl) .nil))) () (by rw [if_neg (by simp), hkv0]; rfl) trivial
  · rw [Option.isSome_some]
    rw [hrt] at hw
    have hrw : r0.wt := hw
    obtain ⟨hsrt, hne, H, U, hsh⟩ := ht.sh hrt
    have hh10 := pow_small (sh_size hsh).2 hkv
    repeat refine s1 ?_
    refine r_loadA (vs := rcells r0) (off := 1) rfl (by simp [hrw.sum.1]) (tc_root (o := some r0)) rfl rfl ?_
    refine al (cs := rcells Rf0) (fun t8 => ?_)
    refine r_storeW (vs := rcells r0) rfl rfl (by simp [hrw.sum.1]) (by rfl) (by simp [Value.oneCell']) rfl ?_
    repeat refine s1 ?_
    refine t_loop (σ := Nat × Rf × Nat) (fun z => [(8, ptr z.2.2), (7, ptr t7), (4, ptr t4), (0, ptr t.p), (1, w64 k), (5, .bool false), (6, i64 0)])
      (fun z => pt z.2.2 (.cells (rcells z.2.1).toArray T.api_Ref (0, 0)) :: pt t7 (.cells (z44.map u8).toArray T.a44_uint8 (0, 0)) :: pt t4 (.cells (z44.map u8).toArray T.a44_uint8 (0, 0)) :: tree t.p ps (some r0) :: store ps S :: disk S.pd D :: hlog S.pl (N + (H - z.1)) :: F)
      (fun z => z.1 ≤ H ∧ ∃ lo kv' U, Sh S.g lo z.1 z.2.1 kv' U ∧ Srt kv' ∧ get? k kv' = get? k t.kv) (fun z => z.1) (H, r0, t8) ⟨Nat.le_refl _, 1, t.kv, U, hsh, hsrt, rfl⟩ ⟨rfl, rfl, rfl, rfl, rfl, rfl, rfl, trivial⟩ (by dsimp only; rw [Nat.sub_self, Nat.add_zero]; exact Le.ent) ?_
    rintro ⟨h, r, t8⟩ ⟨hle, lo, kv, U, hsh, hs, hg⟩
    dsimp only at hle hsh hs hg ⊢
    obtain ⟨hr, m, V, hn, hmr, hlo, hsec, hsum, hK, rfl⟩ := hsh
    have hmw := nsh_wt hn
    repeat refine s1 ?_
    refine t_meet (σ := NR × Nat) (fun z => [(9, ptr z.2), (10, i64 (dnE D)), (8, ptr t8), (7, ptr t7), (4, ptr t4), (0, ptr t.p), (1, w64 k), (5, .bool false), (6, i64 0)])
      (fun z => pt z.2 (.cells (nbx (dnN D m) z.1).toArray T.node_Node (0, 0)) :: node (dnN D m) z.1 :: pt t8 (.cells (rcells r).toArray T.api_Ref (0, 0)) :: pt t7 (.cells (z44.map u8).toArray T.a44_uint8 (0, 0)) :: pt t4 (.cells (z44.map u8).toArray T.a44_uint8 (0, 0)) :: tree t.p ps (some r0) :: store ps S :: disk S.pd D :: hlog S.pl (N + (H - h) + 1) :: F) (fun _ => True) ?_ ?_
    · have HA : ∀ y : NR, True := fun _ => trivial
      refine t_draw2 [tree t.p ps (some r0), pt t8 (.cells (rcells r).toArray T.api_Ref (0, 0))] [3, 4] 5 9 [9, 0, 1, 2, 3, 4, 5, 6, 7, 8, 10, 11] mixed (by decide +kernel) ?_ ?_
      · repeat refine s1 ?_
        refine s_loadW (vs := rcells r) rfl (by simp [hr.sum.1]) rfl rfl ?_
        repeat refine s1 ?_
        refine cx (tload_c ps (N + (H - h)) S D r m hr hS (by rw [show S.K r.sec = S.g.K r.sec from rfl, hK]; simp) hmr hmw hsec hsum ha (by omega) Φ) (fun y _ => ?_)
        generalize hmm : dnN D m = m2
        repeat refine s1 ?_
        refine al (cs := nbx nd0 nr0) (fun t9 => ?_)
        repeat refine s1 ?_
        refine r_storeW (vs := nbx m2 y) rfl rfl (by rfl) (by rfl) (by simp [Value.oneCell']) rfl ?_
        repeat refine s1 ?_
        rw [← hmm]
        exact j_meet (y, t9) trivial ⟨rfl, rfl, rfl, rfl, rfl, rfl, rfl, rfl, rfl, trivial⟩ (by first | exact Le.ent | (dsimp only; exact Le.ent) | (dsimp only [List.cons_append, List.nil_append]; exact Le.ent) | (dsimp only [List.cons_append, List.nil_append]; simp only [List.take_zero, List.map_nil, List.flatMap_nil, List.length_nil]; exact Le.ent))
      · repeat refine s1 ?_
        refine al (cs := nbx nd0 nr0) (fun t9 => ?_)
        repeat refine s1 ?_
        refine s_loadW (vs := rcells r) rfl (by simp [hr.sum.1]) rfl rfl ?_
        repeat refine s1 ?_
        refine cx (tload_c ps (N + (H - h)) S D r m hr hS (by rw [show S.K r.sec = S.g.K r.sec from rfl, hK]; simp) hmr hmw hsec hsum ha (by omega) Φ) (fun y _ => ?_)
        generalize hmm : dnN D m = m2
        repeat refine s1 ?_
        refine r_storeW (vs := nbx m2 y) rfl rfl (by rfl) (by rfl) (by simp [Value.oneCell']) rfl ?_
        repeat refine s1 ?_
        rw [← hmm]
        exact j_meet (y, t9) trivial ⟨rfl, rfl, rfl, rfl, rfl, rfl, rfl, rfl, rfl, trivial⟩ (by first | exact Le.ent | (dsimp only; exact Le.ent) | (dsimp only [List.cons_append, List.nil_append]; exact Le.ent) | (dsimp only [List.cons_append, List.nil_append]; simp only [List.take_zero, List.map_nil, List.flatMap_nil, List.length_nil]; exact Le.ent))
    rintro ⟨y, t9⟩ _
    rcases hd : D.down with _ | _
    · unfold dnN dnE
      simp only [hd, Bool.false_eq_true, if_false]
      repeat refine s2 ?_
      cases h with
      | zero =>
        obtain ⟨rfl, rfl, hok⟩ := hn
        have hkl : kv.length ≤ 9 := by have := (hmr.leaf rfl).2.1; simpa [leafN] using this
        rw [show (leafN kv).leaf = true from rfl, Bool.not_true]
        have hkeys : (leafN kv).keys = kv.map (·.1) := rfl
        repeat refine s1 ?_
        refine cl (find_c (leafN kv) y k hmr.rise (by simp [leafN]; omega) Φ) ?_
        have hbl := below_hit (k := k) hs
        rw [hg] at hbl
        by_cases hm : k ∈ kv.map (·.1)
        · rw [hkeys, decide_eq_true hm]
          rw [if_pos hm] at hbl
          have hlt : below (kv.map (·.1)) k < kv.length := by
            rcases Nat.lt_or_ge (below (kv.map (·.1)) k) kv.length with h0 | h0
            · exact h0
            · rw [List.getElem?_eq_none (by simpa using h0)] at hbl
              rw [← hg] at hbl
              exact absurd hm (get_iff.1 hbl)
          generalize below (kv.map (·.1)) k = i at hbl hlt ⊢
          have hil : i < (leafN kv).vals.length := by simpa [leafN] using hlt
          have hvi : (leafN kv).vals[i]? = get? k t.kv := hbl.symm
          obtain ⟨u, hu⟩ : ∃ u, (leafN kv).vals[i]? = some u := ⟨_, List.getElem?_eq_getElem hil⟩
          have hgu : get? k t.kv = some u := by rw [← hvi, hu]
          have hul : u.length = 44 := (hmw.vals u (List.mem_of_getElem? hu)).1
          have hxs : ∀ (j : Nat) (v : Value), (u.map u8)[j]? = some v → ((leafN kv).vals.flatMap fun v => v.map u8)[i * 44 + j]? = some v := fun j v hv => by
            have hj := (List.getElem?_eq_some_iff.1 hv).1
            rw [flat_in (f := fun v : List Nat => v.map u8) (c := 44) (fun z hz => by simpa using (hmw.vals z hz).1) hu (by simpa [hul] using hj)]
            exact hv
          refine jh [node (leafN kv) y] (j_ent (Ent.unnode _) ?_)
          refine jh [valsA (leafN kv) y] (j_leni (fun _ _ hka => ?_))
          obtain ⟨kb, ko, hkb⟩ := hka (by omega)
          obtain ⟨mka, mkc, mva, mvc, mra, mrc⟩ := y
          dsimp only at hkb
          subst hkb
          dsimp only
          repeat refine s1 ?_
          refine ix rfl rfl hil ?_
          refine r_loadIA (off := ko) (n := (leafN kv).vals.length) (cap := mvc) (E := T.a44_uint8) (s := 44) (xs := (leafN kv).vals.flatMap fun v => v.map u8) (vs := u.map u8) rfl (j := i * 44) (by omega) (by simp [hul]) hxs rfl rfl ?_
          repeat refine s1 ?_
          refine r_storeW (vs := u.map u8) rfl rfl (by simp [hul]) (by rfl) (by simp [Value.oneCell']) rfl ?_
          repeat refine s1 ?_
          refine jh [hlog S.pl (N + (H - 0) + 1)] (j_ent (hlogUp (N' := N + 200) (by omega) _) ?_)
          exact j_fin rfl (.cons (rv_agg (l := u.map u8) (fr := (0, 0)) rfl (by simp [hul])) (.cons (rv_tmp rfl) (.cons (rv_tmp rfl) .nil))) () (by rw [if_neg (by simp [hd]), hgu]; rfl) trivial
        · rw [hkeys, decide_eq_false hm]
          rw [if_neg hm] at hbl
          repeat refine s1 ?_
          refine r_storeW (vs := z44.map u8) rfl rfl (by rfl) (by rfl) (by simp [Value.oneCell']) rfl ?_
          repeat refine s1 ?_
          refine jh [hlog S.pl (N + (H - 0) + 1)] (j_ent (hlogUp (N' := N + 200) (by omega) _) ?_)
          exact j_fin rfl (.cons (rv_agg (l := z44.map u8) (fr := (0, 0)) rfl (by rfl)) (.cons (rv_tmp rfl) (.cons (rv_tmp rfl) .nil))) () (by rw [if_neg (by simp [hd]), hbl]; rfl) trivial
      | succ h =>
        have hlf : m.leaf = false := nsh_leaf hn
        have hwh : m.keys.length ≤ 11 := hmr.most
        obtain ⟨cs, hmi, hkv', hV, hcs⟩ := nsh_succ.1 hn
        have hrise := hmr.rise
        have hrl : m.kids.length = cs.length := by rw [hmi]; simp [inner]
        have hpos : 2 ≤ cs.length := by have := (hmr.inner hlf).1; have : m.keys.length = cs.length := (by rw [hmi]; simp [inner]); omega
        obtain ⟨A, c, B, hcut, hAl, hc1, hc2⟩ := way_cut (k := k) (cs := cs) (by intro e; rw [e] at hpos; simp at hpos) (by have := hrise; rw [hmi] at this; exact this)
        have hwk : way m.keys k = A.length := by rw [hAl, hmi]; rfl
        have hcc := hcs c (by rw [hcut]; simp)
        have hsrt' := hs
        rw [hkv', hcut] at hsrt'
        obtain ⟨hsA, hsB⟩ := way_sides (k := k) hsrt' (fun d hd => (hcs d (by rw [hcut]; exact hd)).1) hc1 hc2
        have hkid : m.kids[A.length]? = some c.rf := by rw [hmi, hcut]; simp [inner]
        have hAlt : A.length < m.kids.length := by rw [hrl, hcut]; simp
        have hkid2 : m.kids[A.length] = c.rf := by have := (List.getElem?_eq_some_iff.1 hkid).2; exact this
        rw [hlf, Bool.not_false]
        refine jh [node m y] (j_ent (Ent.unnode _) ?_)
        refine jh [kidsA m y] (j_leni (fun _ _ hka => ?_))
        obtain ⟨kb, ko, hkb⟩ := hka (by omega)
        obtain ⟨mka, mkc, mva, mvc, mra, mrc⟩ := y
        dsimp only at hkb
        subst hkb
        repeat refine s1 ?_
        refine t_draw [pt t9 (.cells (nbx m ⟨mka, mkc, mva, mvc, some ⟨kb, ko, none⟩, mrc⟩).toArray T.node_Node (0, 0))] [1, 2] mixed (by decide +kernel) ?_
        repeat refine s1 ?_
        refine cl (way_c m ⟨mka, mkc, mva, mvc, some ⟨kb, ko, none⟩, mrc⟩ k hrise (by omega) Φ) ?_
        rw [hwk]
        dsimp only
        refine ix rfl rfl hAlt ?_
        refine r_loadIA (off := ko) (n := m.kids.length) (cap := mrc) (E := T.api_Ref) (s := 33) (xs := m.kids.flatMap rcells) (vs := rcells c.rf) rfl (j := A.length * 33) (by omega) (by simp [hcc.2.1.sum.1]) (by
          have := kid_at hmw hAlt
          rw [hkid2] at this; exact this) rfl rfl ?_
        refine r_storeW (vs := rcells c.rf) rfl rfl (by simp [hcc.2.1.sum.1]) (by simp [hr.sum.1]) (by simp [Value.oneCell']) rfl ?_
        repeat refine s1 ?_
        refine r_loadW (vs := rcells c.rf) rfl (by simp [hcc.2.1.sum.1]) rfl rfl ?_
        repeat refine s1 ?_
        refine al (cs := rcells Rf0) (fun t8' => ?_)
        refine r_storeW (vs := rcells c.rf) rfl rfl (by simp [hcc.2.1.sum.1]) (by rfl) (by simp [Value.oneCell']) rfl ?_
        repeat refine s1 ?_
        exact j_again (h, c.rf, t8') ⟨by omega, 4, c.kv, c.U, hcc.2, srt_mid hsrt', by
          rw [← hg, hkv', hcut]
          exact (get_mid hsA hsB).symm⟩ (Nat.lt_succ_self h) ⟨rfl, rfl, rfl, rfl, rfl, rfl, rfl, trivial⟩ (by
          dsimp only
          rw [show N + (H - (h + 1)) + 1 = N + (H - h) by omega]
          exact Le.ent)
    · unfold dnN dnE
      simp only [hd, if_true]
      repeat refine s2 ?_
      refine r_storeW (vs := z44.map u8) rfl rfl (by rfl) (by rfl) (by simp [Value.oneCell']) rfl ?_
      repeat refine s1 ?_
      refine jh [hlog S.pl (N + (H - h) + 1)] (j_ent (hlogUp (N' := N + 200) (by omega) _) ?_)
      exact j_fin rfl (.cons (rv_agg (l := z44.map u8) (fr := (0, 0)) rfl (by rfl)) (.cons (rv_tmp rfl) (.cons (rv_tmp rfl) .nil))) () (by rw [if_pos (by simp)]; rfl) trivial
end Go.Proofs.YtcnpkmdooekmgaaGreatDoor
namespace Go.Proofs.YtcnpkmdooekmgaaGreatDoor
open Go Sl
abbrev yl (l : Nat) : Value := .func (.yield l) #[] #[]
theorem Ent.mid (A : List Assn) (z : Assn) (B : List Assn) : Ent (A ++ z :: B) (z :: (A ++ B)) := by
  induction A with
  | nil => exact Ent.refl _
  | cons a A ih => exact (Ent.cons a ih).trans (Ent.swap _ _ _)
theorem Ent.unmid (A : List Assn) (z : Assn) (B : List Assn) : Ent (z :: (A ++ B)) (A ++ z :: B) := by
  induction A with
  | nil => exact Ent.refl _
  | cons a A ih => exact (Ent.swap _ _ _).trans (Ent.cons a ih)
/-- what a call of yield does. -/
def Yd (P : Program) (Φ : Base) (l : Nat) (args : List Value) (Pre : Assn) (b : Bool) (Post : Assn) : Prop :=
  ∀ F w, Holds Φ (Pre :: F) w → upS P (fun v w' => v = .bool b ∧ Holds Φ (Post :: F) w') ((Instr.yield l args.toArray).run P w)
/-- an iterator's way: what comes of a state, and whether it came to the end. -/
def rounds {σ ξ : Type} (nxt : σ → ξ → σ) (go : σ → ξ → Bool) : σ → List ξ → σ × Bool
  | s, [] => (s, true)
  | s, x :: xs => if go s x then rounds nxt go (nxt s x) xs else (nxt s x, false)
abbrev fin2 {σ : Type} (B Bx : σ → Assn) (r : σ × Bool) : Assn := if r.2 then B r.1 else Bx r.1
/-- an iterator: it hands over xs, in order, till one answers 'no more'. -/
def SeqOk (P : Program) (Φ : Base) (gf : Nat) (lb : List Value) {ξ : Type} (enc : ξ → List Value) (xs : List ξ) (Pre : List Assn) {α : Type} (q : α → Prop) (Post : α → List Assn) : Prop :=
  ∀ (l : Nat) (σ : Type) (B Bx : σ → Assn) (nxt : σ → ξ → σ) (go : σ → ξ → Bool) (Iv : σ → List ξ → Prop), (∀ s x rem, Iv s (x :: rem) → Yd P Φ l (enc x) (B s) (go s x) (if go s x then B (nxt s x) else Bx (nxt s x))) → (∀ s x rem, Iv s (x :: rem) → go s x = true → Iv (nxt s x) rem) → ∀ s0, Iv s0 xs →
    Sl.Fn P Φ gf (yl l :: lb) (B s0 :: Pre) q (fun _ => .tuple #[]) (fun z => fin2 B Bx (rounds nxt go s0 xs) :: Post z)
def jcode : Exit → Code
  | .exit id => .exit id
  | _ => .ret
/-- how a round ends. -/
def RndQ (Φ : Base) (jx : Exit) (b : Bool) (G Gx : List Assn) : Exit → Act → World → Prop
  | .normal, _, w => b = true ∧ Holds Φ G w
  | .ret, _, w => jx = .ret ∧ b = false ∧ Holds Φ Gx w
  | .exit id, _, w => jx = .exit id ∧ b = false ∧ Holds Φ Gx w
  | _, _, _ => False
section
variable {X : Cx} {e : Env} {L : List Assn} {Q : Exit → Act → World → Prop}
theorem j_rnd {jx : Exit} {G Gx : List Assn} (hE : Ent L G) : J X e L (RndQ X.Φ jx true G Gx .normal) := fun _ _ _ hh => ⟨rfl, hh.ent hE⟩
theorem j_rnd_ret {G Gx : List Assn} (hE : Ent L Gx) : J X e L (RndQ X.Φ .ret false G Gx .ret) := fun _ _ _ hh => ⟨rfl, rfl, hh.ent hE⟩
theorem j_rnd_exit {id : Nat} {G Gx : List Assn} (hE : Ent L Gx) : J X e L (RndQ X.Φ (.exit id) false G Gx (.exit id)) := fun _ _ _ hh => ⟨rfl, rfl, hh.ent hE⟩
/-- the environment of a round. -/
def penv : List Nat → List Value → Env → Env
  | p :: ps, v :: vs, e => penv ps vs ((p, v) :: e)
  | _, _, e => e
theorem penv_mt {n : Nat} : ∀ (ps : List Nat) (vs : List Value) (e : Env) (tmps : Array Value), (∀ p ∈ ps, Nat.blt p n = true) → Mt [] n e { tmps := tmps, defers := [] } →
    Mt [] n (penv ps vs e) { tmps := (ps.zip vs).foldl (fun t (p : Nat × Value) => t.setIfInBounds p.1 p.2) tmps, defers := [] }
  | [], _, e, tmps, _, m => by simpa [penv] using m
  | _ :: _, [], e, tmps, _, m => by simpa [penv] using m
  | p :: ps, v :: vs, e, tmps, hp, m => by
    have h1 := Mt.put (v := v) m (hp p (by simp))
    have := penv_mt ps vs ((p, v) :: e) (tmps.setIfInBounds p v) (fun p' h => hp p' (by simp [h])) h1
    simpa [penv] using this
theorem t_range {σ ξ ζ : Type} {g : Operand} {gf : Nat} {lb : List Value} {ps : List Nat} {asg body : Code} {enc : ξ → List Value} {xs : List ξ} {Pre R : List Assn} {α : Type} {q : α → Prop} {Post : α → List Assn} [tf : TFn X.P gf]
    (hg : ev e g = some (.func (.func gf) #[] lb.toArray)) (hseq : SeqOk X.P X.Φ gf lb enc xs Pre q Post)
    (B Bx : σ → Assn) (nxt : σ → ξ → σ) (go : σ → ξ → Bool) (Iv : σ → List ξ → Prop) (hIv : ∀ s x rem, Iv s (x :: rem) → go s x = true → Iv (nxt s x) rem) (jx : Exit) (hjx : jx = .ret ∨ ∃ id, jx = .exit id) (s0 : σ) (hI0 : Iv s0 xs) (E : σ → ξ → ζ → Env) (M : σ → ξ → ζ → List Assn)
    (hL : Ent L (B s0 :: (Pre ++ R)))
    (hps : ∀ x, (enc x).length = ps.length) (hpn : ∀ p ∈ ps, Nat.blt p X.n = true) (hra : noR asg = true) (hrb : noR body = true)
    (hasg : ∀ s x rem, Iv s (x :: rem) → ∀ F, J ⟨X.P, X.Φ, X.n, []⟩ (penv ps (enc x) e) (B s :: F) (cw X.P asg (Meet ⟨X.P, X.Φ, X.n, []⟩ (E s x) (fun z => M s x z ++ F) (fun _ => True) (fun _ _ _ => False))))
    (hbody : ∀ s x rem, Iv s (x :: rem) → ∀ z F, J ⟨X.P, X.Φ, X.n, []⟩ (E s x z) (M s x z ++ F) (cw X.P body (RndQ X.Φ jx (go s x) (B (nxt s x) :: F) (Bx (nxt s x) :: F))))
    (hend : ∀ D z, q z → (rounds nxt go s0 xs).2 = true → J ⟨X.P, X.Φ, X.n, { target := .collected D, args := #[] } :: X.ds⟩ e (pt D (.deferred (some [])) :: B (rounds nxt go s0 xs).1 :: (Post z ++ R)) (Q .normal))
    (hstop : ∀ D z, q z → (rounds nxt go s0 xs).2 = false → J ⟨X.P, X.Φ, X.n, { target := .collected D, args := #[] } :: X.ds⟩ e (pt D (.deferred (some [])) :: Bx (rounds nxt go s0 xs).1 :: (Post z ++ R)) (Q jx)) :
    J X e L (cw X.P (Code.rangeFunc g ps.toArray asg body) Q) := fun a w m hh ro hr => by
  obtain rfl := hr.resolve_right (by simp [noR])
  refine wpIn_rangeFunc ?_
  intro fn hfn
  obtain ⟨rec, hrec⟩ : ∃ rec : LoopState → Option Code → Loop, rec = fun st pe => { state := st, pending := pe, fn, tmps := a.tmps, params := ps.toArray, assign := asg, body, defers := w.heap.size } := ⟨_, rfl⟩
  obtain ⟨W1, hW1⟩ : ∃ W1, (w.alloc (.deferred (some []))).alloc (.loop (rec .ready none)) = W1 := ⟨_, rfl⟩
  have hh1 : Holds X.Φ (pt (w.heap.size + 1) (.loop (rec .ready none)) :: pt w.heap.size (.deferred (some [])) :: L) W1 := by
    have h1 := hh.alloc (w' := w.alloc (.deferred (some []))) (.deferred (some [])) rfl rfl rfl rfl
    have h2 := h1.alloc (w' := W1) (.loop (rec .ready none)) (by rw [← hW1]; rfl) (by rw [← hW1]; rfl) (by rw [← hW1]; rfl) (by rw [← hW1]; rfl)
    rwa [World.size_alloc] at h2
  have hev : a.eval g = .func (.func gf) #[] lb.toArray := m.ev hg
  refine ⟨w.heap.size + 1, [{ target := .collected w.heap.size, args := #[] }], W1, { target := .fn (.func gf) lb.toArray, args := #[.func (.yield (w.heap.size + 1)) #[] #[]] }, W1, gf,
    #[.func (.yield (w.heap.size + 1)) #[] #[]] ++ lb.toArray, W1, ?_, ?_, fun f' _ => trivial, ?_, fun h => (by cases h), ?_⟩
  · rw [← hW1, hrec]; exact run_enterLoop_outer _ _ _ _ _
  · simp only [resolve, hev]
    simp [go_sem]
  · simp [invoke, go_sem, tf.run]
  · generalize hl : w.heap.size + 1 = l at hh1 ⊢
    generalize hD : w.heap.size = D at hh1 ⊢
    have hargs : #[.func (.yield l) #[] #[]] ++ lb.toArray = (yl l :: lb).toArray := by simp
    rw [hargs]
    have hY : ∀ s x rem, Iv s (x :: rem) → Yd X.P X.Φ l (enc x) (all [pt l (.loop (rec .ready none)), B s]) (go s x) (if go s x then all [pt l (.loop (rec .ready none)), B (nxt s x)] else all [pt l (.loop (rec .done (some (jcode jx)))), Bx (nxt s x)]) := by
      intro s x rem hx F w1 hw1
      have hw1 : Holds X.Φ (pt l (.loop (rec .ready none)) :: B s :: F) w1 := hw1.ent (Ent.all _ _)
      have hlw : w1.heap[l]? = some (.loop (rec .ready none)) := hw1.rd
      have hy := run_yield (P := X.P) (args := (enc x).toArray) hlw (by rw [hrec]; simpa using hps x)
      rw [hy]
      have hw1' : Holds X.Φ (B s :: pt l (.loop (rec .ready none)) :: F) w1 := hw1.ent (Ent.swap _ _ _)
      have hmt : Mt [] X.n (penv ps (enc x) e) { tmps := (((rec .ready none).params.zip (enc x).toArray).foldl (fun tmps (t, a) => tmps.setIfInBounds t a) (rec .ready none).tmps), defers := [] } := by
        have := penv_mt ps (enc x) e a.tmps hpn ⟨m.size, rfl, m.val⟩
        rw [hrec]
        simpa [Array.zip, List.zip, ← Array.foldl_toList] using this
      have hrt : RoundIn Fence.wide 0 X.P l fn (((rec .ready none).params.zip (enc x).toArray).foldl (fun tmps (t, a) => tmps.setIfInBounds t a) (rec .ready none).tmps) asg body w1
          (fun e' w' => ∃ v, e' = .returned v ∧ v = .bool (go s x) ∧ Holds X.Φ ((if go s x then all [pt l (.loop (rec .ready none)), B (nxt s x)] else all [pt l (.loop (rec .done (some (jcode jx)))), Bx (nxt s x)]) :: F) w') := by
        refine roundIn_of_wpIn trivial (wpIn_mono (hasg s x rem hx (pt l (.loop (rec .ready none)) :: F) _ w1 hmt hw1' (some l) (.inr hra)) ?_)
        intro x' a1 w2 hx'
        cases x' with
        | normal =>
          obtain ⟨z, _, hm1, hw2⟩ := hx'
          have hw2' := hw2.ent (Ent.mid _ _ _)
          have hl2 : w2.heap[l]? = some (.loop (rec .ready none)) := hw2'.rd
          refine ⟨_, run_beginRound hl2 (by rw [hrec]), ?_⟩
          have hlt : l < w2.heap.size := (Array.getElem?_eq_some_iff.1 hl2).1
          have hbz : ({ rec .ready none with state := .busy } : Loop) = rec .busy none := by rw [hrec]
          rw [hbz]
          have hw3 : Holds X.Φ (pt l (.loop (rec .busy none)) :: (M s x z ++ F)) (w2.putObj l (.loop (rec .busy none))) := hw2'.upd (World.putObj_heap_same hlt) (fun c hc => World.putObj_heap_other hc) rfl rfl rfl
          refine wpIn_mono (hbody s x rem hx z (pt l (.loop (rec .busy none)) :: F) a1 _ hm1 (hw3.ent (Ent.unmid _ _ _)) (some l) (.inr hrb)) ?_
          intro x2 a2 w4 h4
          have fin : ∀ (jump : Option Code) (G : Assn), Holds X.Φ (G :: pt l (.loop (rec .busy none)) :: F) w4 → ∃ w5, (Instr.endRound l jump).run X.P w4 = .ok (.bool jump.isNone) w5 ∧ Holds X.Φ (all [pt l (.loop (rec (if jump.isNone then .ready else .done) jump)), G] :: F) w5 := fun jump G hG => by
            have h5 := hG.ent (Ent.swap _ _ _)
            have hl5 : w4.heap[l]? = some (.loop (rec .busy none)) := h5.rd
            have hlt5 : l < w4.heap.size := (Array.getElem?_eq_some_iff.1 hl5).1
            refine ⟨_, run_endRound jump hl5, ?_⟩
            have he : ({ rec .busy none with state := if jump.isNone then .ready else .done, pending := jump } : Loop) = rec (if jump.isNone then .ready else .done) jump := by rw [hrec]
            rw [he]
            exact (h5.upd (o' := .loop (rec (if jump.isNone then .ready else .done) jump)) (World.putObj_heap_same hlt5) (fun c hc => World.putObj_heap_other hc) rfl rfl rfl).ent (Ent.unall [pt l (.loop (rec (if jump.isNone then .ready else .done) jump)), G] F)
          cases x2 with
          | normal =>
            obtain ⟨hb, h4⟩ := h4
            obtain ⟨w5, h6, h7⟩ := fin none _ h4
            exact ⟨_, _, h6, _, rfl, by rw [hb]; rfl, by rw [hb]; exact h7⟩
          | ret =>
            obtain ⟨hj, hb, h4⟩ := h4
            obtain ⟨w5, h6, h7⟩ := fin (some .ret) _ h4
            exact ⟨_, _, h6, _, rfl, by rw [hb]; rfl, by rw [hb, hj]; exact h7⟩
          | exit id =>
            obtain ⟨hj, hb, h4⟩ := h4
            obtain ⟨w5, h6, h7⟩ := fin (some (.exit id)) _ h4
            exact ⟨_, _, h6, _, rfl, by rw [hb]; rfl, by rw [hb, hj]; exact h7⟩
          | goto => exact h4.elim
          | panic => exact h4.elim
          | outgrown => exact h4.elim
        | exit => exact hx'.elim
        | ret => exact hx'.elim
        | goto => exact hx'.elim
        | panic => exact hx'.elim
        | outgrown => exact hx'.elim
      have hfx : (rec .ready none).fn = fn ∧ (rec .ready none).assign = asg ∧ (rec .ready none).body = body := by rw [hrec]; exact ⟨rfl, rfl, rfl⟩
      rw [hfx.1, hfx.2.1, hfx.2.2]
      exact hrt
    have hW : Holds X.Φ ((all [pt l (.loop (rec .ready none)), B s0] :: Pre) ++ (pt D (.deferred (some [])) :: R)) W1 := by
      refine hh1.ent ((Ent.cons _ (Ent.cons _ hL)).trans ((Ent.cons _ (Ent.swap _ _ _)).trans ((Ent.cons _ (Ent.cons _ (Ent.unmid _ _ _))).trans ?_)))
      exact Ent.unall [pt l (.loop (rec .ready none)), B s0] _
    refine (fen_calls none (hseq l σ (fun s => all [pt l (.loop (rec .ready none)), B s]) (fun s => all [pt l (.loop (rec .done (some (jcode jx)))), Bx s]) nxt go Iv hY hIv s0 hI0 (pt D (.deferred (some [])) :: R) W1 hW)).mono ?_
    rintro _ w3 ⟨z, hq, rfl, hw3⟩
    have hmt2 : Mt ({ target := .collected D, args := #[] } :: X.ds) X.n e { a with defers := [{ target := .collected D, args := #[] }] ++ a.defers } := ⟨m.size, by simp [m.defers], m.val⟩
    have hout : ∀ (st : LoopState) (pe : Option Code) (G : Assn), st ≠ .busy → Holds X.Φ ((all [pt l (.loop (rec st pe)), G] :: Post z) ++ (pt D (.deferred (some [])) :: R)) w3 → ∃ w4, (Instr.endLoop l).run X.P w3 = .ok pe w4 ∧ Holds X.Φ (pt D (.deferred (some [])) :: G :: (Post z ++ R)) w4 := fun st pe G hst hG => by
      have h5 : Holds X.Φ (pt l (.loop (rec st pe)) :: G :: (Post z ++ pt D (.deferred (some [])) :: R)) w3 := hG.ent (Ent.all [pt l (.loop (rec st pe)), G] _)
      have hl5 : w3.heap[l]? = some (.loop (rec st pe)) := h5.rd
      have hlt5 : l < w3.heap.size := (Array.getElem?_eq_some_iff.1 hl5).1
      have h6 := run_endLoop (P := X.P) hl5 (by rw [hrec]; exact hst)
      refine ⟨_, by rw [hrec] at h6; exact h6, ?_⟩
      have h7 : Holds X.Φ (pt l (.loop { rec st pe with state := .exhausted }) :: G :: (Post z ++ pt D (.deferred (some [])) :: R)) (w3.putObj l (.loop { rec st pe with state := .exhausted })) := h5.upd (World.putObj_heap_same hlt5) (fun c hc => World.putObj_heap_other hc) rfl rfl rfl
      rw [hrec] at h7
      exact h7.ent ((Ent.drop _ _).trans ((Ent.cons _ (Ent.mid _ _ _)).trans (Ent.swap _ _ _)))
    cases hr2 : (rounds nxt go s0 xs).2 with
    | true =>
      rw [fin2, hr2, if_pos rfl] at hw3
      obtain ⟨w4, h4, h5⟩ := hout .ready none _ (by simp) hw3
      exact ⟨none, w4, h4, hend D z hq hr2 _ w4 hmt2 h5⟩
    | false =>
      rw [fin2, hr2, if_neg (by simp)] at hw3
      obtain ⟨w4, h4, h5⟩ := hout .done (some (jcode jx)) _ (by simp) hw3
      refine ⟨some (jcode jx), w4, h4, ?_⟩
      have := hstop D z hq hr2 _ w4 hmt2 h5
      rcases hjx with rfl | ⟨id, rfl⟩
      · exact wpIn_ret this
      · exact wpIn_exit this
/-- a call of yield. -/
theorem r_yield {A : List Assn} {S : List Nat} {ops : Array Oper} {k : Nat} {lo : List Oper} {K : Act → World → Prop} {d : Nat} {T : TypeId} {pos : String} {af : Array Edge} {l : Nat} {x : Operand} {os : List Operand} {ts : Array TypeId} {vs : List Value} {Pre Post : Assn} {b : Bool} {F : List Assn}
    (hx : ev e x = some (yl l)) (hy : Yd X.P X.Φ l vs Pre b Post) [sp : Split [Pre] L F] [st : Stay A (Post :: F)]
    (h : J X ((d, .bool b) :: e) (Post :: F) (sw X.P (Holds X.Φ A) S ops K (k + 1) lo)) (hvs : evL e os = some vs := by rfl) (hs : S.contains k = false := by rfl) (hd : Nat.blt d X.n = true := by rfl) :
    J X e L (sw X.P (Holds X.Φ A) S ops K k (⟨some d, .call { callee := .value x, args := os.toArray, argTypes := ts }, T, pos, af, none⟩ :: lo)) :=
  r_write (α := Unit) (q := fun _ => True) (V := fun _ => .bool b) (M := fun _ => Post :: F) rfl (by simp only [cls, hs]; cases x <;> rfl) (blt_some hd) (fun _ => st) (fun a w m hh => by
    have h1 : os.toArray.map a.eval = vs.toArray := by rw [← m.evL hvs]; simp
    have h2 := hy F w (hh.ent sp.ent)
    have h3 : (execOp a.eval (⟨some d, .call { callee := .value x, args := os.toArray, argTypes := ts }, T, pos, af, none⟩ : Oper)).run X.P w = (Instr.yield l vs.toArray).run X.P w := by
      simp only [execOp, resolve, m.ev hx, h1]
      simp [Deferred.ofValue, invoke, go_sem]
    rw [h3]
    exact upS_mono (fun v w' ⟨h4, h5⟩ => ⟨(), trivial, h4, h5⟩) h2) (fun _ _ => h)
/-- a loop in which ranges over functions lay their marks. -/
def AgainD (X : Cx) {σ : Type} (ds : σ → List Deferred) (E : σ → Env) (M : σ → List Assn) (I : σ → Prop) (μ : σ → Nat) (s : σ) (a : Act) (w : World) : Prop :=
  ∃ s', (I s' ∧ Mt (ds s') X.n (E s') a ∧ Holds X.Φ (M s') w) ∧ μ s' < μ s
theorem t_loopD {σ : Type} {c : Code} (ds : σ → List Deferred) (E : σ → Env) (M : σ → List Assn) (I : σ → Prop) (μ : σ → Nat) (s : σ) (hs : I s) (hds : X.ds = ds s)
    (he : Sub (E s) e) (hm : Ent L (M s))
    (round : ∀ s, I s → J ⟨X.P, X.Φ, X.n, ds s⟩ (E s) (M s) (cw X.P c (Exit.then (AgainD X ds E M I μ s) Q))) : J X e L (cw X.P (Code.loop c) Q) := fun a w m hh ro hr =>
  wp_loop_by (fun s a w => I s ∧ Mt (ds s) X.n (E s) a ∧ Holds X.Φ (M s) w) μ ro (fun s a w ⟨h1, h2, h3⟩ => round s h1 a w h2 h3 ro hr) s a w
    ⟨hs, ⟨m.size, m.defers.trans hds, fun t v ht => m.val t v (he.lk t v ht)⟩, hh.ent hm⟩
theorem j_againD {σ : Type} {X0 : Cx} {ds : σ → List Deferred} {E : σ → Env} {M : σ → List Assn} {I : σ → Prop} {μ : σ → Nat} {s : σ} (s' : σ) (hs : I s') (hlt : μ s' < μ s) (hds : X.ds = ds s')
    (he : Sub (E s') e) (hm : Ent L (M s')) (hn : X.n = X0.n := by rfl) (hΦ : X.Φ = X0.Φ := by rfl) : J X e L (AgainD X0 ds E M I μ s) := fun _ _ m hh =>
  ⟨s', ⟨hs, ⟨m.size.trans hn, m.defers.trans hds, fun t v ht => m.val t v (he.lk t v ht)⟩, by rw [← hΦ]; exact hh.ent hm⟩, hlt⟩
/- a function that holds ranges over functions -/
def marks (Ds : List Nat) : List Deferred := Ds.map fun D => { target := .collected D, args := #[] }
def mkA (Ds : List Nat) : Assn := all (Ds.map fun D => pt D (.deferred (some [])))
theorem mkA_nil (L : List Assn) : Ent L (mkA [] :: L) := Ent.unall [] L
theorem mkA_cons (D : Nat) (Ds : List Nat) (L : List Assn) : Ent (pt D (.deferred (some [])) :: mkA Ds :: L) (mkA (D :: Ds) :: L) := (Ent.cons _ (Ent.all _ L)).trans (Ent.unall (pt D (.deferred (some [])) :: Ds.map fun D => pt D (.deferred (some []))) L)
theorem foM {P : Program} {Φ : Base} {f : FuncId} {fn : Func} {c : Code} {n : Nat} {args : List Value} {Pre : List Assn} {α : Type} {q : α → Prop} {V : α → Value} {Post : α → List Assn} {E : Env} {C : List Assn → List Assn}
    [tb : TBody P f fn n] [ae : AEnv args E] [ap : ∀ F, AppL Pre F (C F)] (h : ∀ F, J ⟨P, Φ, n, []⟩ E (C F) (cw P c (bodyPostM Fence.wide 0 P fn (PostR Φ q V Post F))))
    (hb : fn.body = some c := by rfl) (hl : Nat.ble args.length n = true := by rfl) : Sl.Fn P Φ f args Pre q V Post := fun F w hh =>
  callsIn_wide.1 (callsIn_of_wp_marks (n := 0) tb.hf hb trivial (h F _ w ⟨by have := Nat.le_of_ble_eq_true hl; rw [← tb.hn] at this ⊢; simp; omega, rfl, fun t v ht => by
    rw [← ae.eq] at ht
    obtain ⟨_, h2⟩ := argEnv_spec args 0 t v ht
    have hlt := (List.getElem?_eq_some_iff.1 h2).1
    simp only [Nat.sub_zero] at h2 hlt
    rw [Array.getElem?_append_left (by simpa using hlt)]
    simpa using h2⟩ (by rw [← (ap F).eq]; exact hh) none (.inl rfl)))
theorem leaveM {X : Cx} {fn : Func} {tmps : Array Value} {R : Ending → World → Prop} {L : List Assn} (h : ∀ w, Holds X.Φ L w → ∃ v, (results fn tmps).run X.P w = .ok v w ∧ R (.returned v) w) : ∀ (Ds : List Nat) (w : World), Holds X.Φ (mkA Ds :: L) w → LeavesInM Fence.wide 0 X.P fn tmps R (marks Ds) .returning w
  | [], w, hh => h w (hh.ent (Ent.drop _ _))
  | D :: Ds, w, hh => by
    have h1 : Holds X.Φ (pt D (.deferred (some [])) :: ((Ds.map fun D => pt D (.deferred (some []))) ++ L)) w := hh.ent (Ent.all (pt D (.deferred (some [])) :: Ds.map fun D => pt D (.deferred (some []))) L)
    have h2 : w.heap[D]? = some (.deferred (some [])) := h1.rd
    refine ⟨by simp, .inl ⟨D, _, rfl, run_takeDeferred h2, leaveM h Ds _ ?_⟩⟩
    have h3 : Holds X.Φ (pt D (.deferred none) :: ((Ds.map fun D => pt D (.deferred (some []))) ++ L)) (w.putObj D (.deferred none)) := h1.upd (World.putObj_heap_same (Array.getElem?_eq_some_iff.1 h2).1) (fun c hc => World.putObj_heap_other hc) rfl rfl rfl
    exact h3.ent ((Ent.drop _ _).trans (Ent.unall _ L))
theorem j_finM {X : Cx} {e : Env} {L F : List Assn} {fn : Func} {rs : List ResultVar} {vs : List Value} {α : Type} {q : α → Prop} {V : α → Value} {Post : α → List Assn} (Ds : List Nat) (hds : X.ds = marks Ds) (hr : fn.results = rs.toArray) (h : RvsOK X e L rs vs)
    (x : α) (hV : V x = pack vs) (hq : q x) [ft : Fits (Post x) F L] :
    J X e (mkA Ds :: L) (bodyPostM Fence.wide 0 X.P fn (PostR X.Φ q V Post F) .ret) := fun a w m hh => by
  show LeavesInM Fence.wide 0 X.P fn a.tmps _ a.defers .returning w
  rw [m.defers.trans hds]
  exact leaveM (fun w hw => ⟨pack vs, results_ok hr h m hw, x, hq, by rw [hV], hw.ent ft.ent⟩) Ds w hh
end
end Go.Proofs.YtcnpkmdooekmgaaGreatDoor
namespace Go.Proofs.YtcnpkmdooekmgaaGreatDoor
open Go Sl
abbrev encP (x : Nat × List Nat) : List Value := [.agg (w64 x.1 :: x.2.map u8).toArray]
abbrev filt (k : Nat) (kv : KV) : KV := kv.filter fun x => decide (k ≤ x.1)
theorem rounds_app {σ ξ : Type} (nxt : σ → ξ → σ) (go : σ → ξ → Bool) : ∀ (xs ys : List ξ) (s : σ), rounds nxt go s (xs ++ ys) = if (rounds nxt go s xs).2 then rounds nxt go (rounds nxt go s xs).1 ys else rounds nxt go s xs
  | [], ys, s => by simp [rounds]
  | x :: xs, ys, s => by
    simp only [List.cons_append, rounds]
    split
    · exact rounds_app nxt go xs ys _
    · simp
theorem rounds_inv {σ ξ : Type} {nxt : σ → ξ → σ} {go : σ → ξ → Bool} {Iv : σ → List ξ → Prop} (hst : ∀ s x rem, Iv s (x :: rem) → go s x = true → Iv (nxt s x) rem) {ys : List ξ} : ∀ {xs : List ξ} {s : σ}, Iv s (xs ++ ys) → (rounds nxt go s xs).2 = true → Iv (rounds nxt go s xs).1 ys
  | [], s, h, _ => h
  | x :: xs, s, h, hr => by
    simp only [rounds] at hr ⊢
    split at hr
    · rename_i hg
      rw [if_pos hg]
      exact rounds_inv hst (hst s x _ h hg) hr
    · cases hr
theorem filt_none {k : Nat} {kv : KV} (h : ∀ x ∈ kv, x.1 < k) : filt k kv = [] := List.filter_eq_nil_iff.2 fun x hx => by have := h x hx; simp; omega
theorem filt_app (k : Nat) (a b : KV) : filt k (a ++ b) = filt k a ++ filt k b := List.filter_append ..
/-- in a leaf: from where on. -/
theorem filt_drop {k : Nat} : ∀ {kv : KV}, Srt kv → filt k kv = kv.drop (below (kv.map (·.1)) k)
  | [], _ => rfl
  | a :: l, h => by
    obtain ⟨h1, h2⟩ := List.pairwise_cons.1 h
    by_cases hk : a.1 < k
    · have hb : below ((a :: l).map (·.1)) k = below (l.map (·.1)) k + 1 := by simp [below, hk]
      rw [hb, List.drop_succ_cons, ← filt_drop h2]
      simp [filt, show ¬ k ≤ a.1 by omega]
    · have hb : below ((a :: l).map (·.1)) k = 0 := by
        rw [below, List.countP_eq_zero]
        intro x hx
        rcases List.mem_cons.1 hx with rfl | hx
        · simpa using hk
        · obtain ⟨y, hy, rfl⟩ := List.mem_map.1 hx
          have := h1 y hy
          simp; omega
      rw [hb, List.drop_zero]
      refine List.filter_eq_self.2 fun x hx => ?_
      rcases List.mem_cons.1 hx with rfl | hx
      · simpa using hk
      · have := h1 x hx
        simp; omega
abbrev wkPre (bt br bf bk tp pf : Nat) (r : Rf) (k e : Nat) : List Assn := [pt bt (.cells [ptr tp].toArray T.p_mtree_Tree (0, 0)), pt br (.cells (rcells r).toArray T.api_Ref (0, 0)), pt bf (.cells [ptr pf].toArray T.p_api_Errno (0, 0)), pt bk (.cells [w64 k].toArray T.uint64 (0, 0)), pt pf (.cells [i64 e].toArray T.api_Errno (0, 0))]
instance : TAgg Tryz.prog 256 false := ⟨Go.Proofs.Tryz.isAgg256⟩
attribute [local irreducible] cw sw J Exit.then Exit.inBlock Exit.noGoto bodyPost swG swL permL
theorem walkf_c (tp pf k : Nat) (r : Rf) (Φ : Base) : Sl.Fn Tryz.prog Φ F.mtree_Tree_walk [ptr tp, .agg (rcells r).toArray, w64 k, ptr pf] [] (fun _ : Nat × Nat × Nat × Nat => True) (fun z => .func (.func 126) #[] [ptr z.1, ptr z.2.1, ptr z.2.2.1, ptr z.2.2.2].toArray)
    (fun z => [pt z.1 (.cells [ptr tp].toArray T.p_mtree_Tree (0, 0)), pt z.2.1 (.cells (rcells r).toArray T.api_Ref (0, 0)), pt z.2.2.1 (.cells [ptr pf].toArray T.p_api_Errno (0, 0)), pt z.2.2.2 (.cells [w64 k].toArray T.uint64 (0, 0))]) := by
  refine fo fun F => ?_
  repeat refine s1 ?_
  refine r_box (cs := [ptr tp]) rfl rfl rfl rfl (fun b4 => ?_)
  refine r_box (cs := rcells r) rfl rfl rfl rfl (fun b5 => ?_)
  refine r_box (cs := [w64 k]) rfl rfl rfl rfl (fun b6 => ?_)
  refine r_box (cs := [ptr pf]) rfl rfl rfl rfl (fun b7 => ?_)
  repeat refine s1 ?_
  refine mkf (vs := [ptr b4, ptr b5, ptr b7, ptr b6]) rfl ?_
  repeat refine s1 ?_
  exact f1 (b4, b5, b7, b6)
set_option maxHeartbeats 2000000 in
theorem walk_s (tp ps pf k : Nat) (o : Option Rf) (S : St) (D : Dk) (hS : S.wf) (ha : Agr S D) (Φ : Base) : ∀ (h N : Nat) (r : Rf) (lo : Nat) (kv : KV) (U : List Nat) (bt br bf bk : Nat), Sh S.g lo h r kv U → Srt kv → N + U.length ≤ 700000000 →
    SeqOk Tryz.prog Φ F.mtree_Tree_walk_c1 [ptr bt, ptr br, ptr bf, ptr bk] encP (if D.down then [] else filt k kv) (wkPre bt br bf bk tp pf r k 0 ++ [tree tp ps o, store ps S, disk S.pd D, hlog S.pl N]) (fun _ : Unit => True) (fun _ => wkPre bt br bf bk tp pf r k (dnE D) ++ [tree tp ps o, store ps S, disk S.pd D, hlog S.pl (N + U.length)]) := by
  intro h
  induction h using Nat.strongRecOn with
  | _ h ih =>
  intro N r lo kv U bt br bf bk hsh hs hN
  obtain ⟨hr, m, V, hn, hmr, hlo, hsec, hsum, hK, rfl⟩ := hsh
  have hmw := nsh_wt hn
  have hkvok := nsh_ok hn
  rw [List.length_cons] at hN
  intro l σ B Bx nxt go Iv hy hst s0 hI0
  refine foM fun F => ?_
  dsimp only [List.cons_append, List.nil_append]
  repeat refine s1 ?_
  refine r_box (cs := [yl l]) rfl rfl rfl rfl (fun t5 => ?_)
  repeat refine s1 ?_
  refine t_meet (σ := NR × Nat) (fun z => [(6, ptr z.2), (7, i64 (dnE D)), (5, ptr t5), (1, ptr bt), (2, ptr br), (3, ptr bf), (4, ptr bk)])
    (fun z => pt z.2 (.cells (nbx (dnN D m) z.1).toArray T.node_Node (0, 0)) :: node (dnN D m) z.1 :: pt t5 (.cells [yl l].toArray T.func_256 (0, 0)) :: B s0 :: (wkPre bt br bf bk tp pf r k 0 ++ tree tp ps o :: store ps S :: disk S.pd D :: hlog S.pl (N + 1) :: F)) (fun _ => True) ?_ ?_
  · refine t_draw2 [pt bt (.cells [ptr tp].toArray T.p_mtree_Tree (0, 0)), pt br (.cells (rcells r).toArray T.api_Ref (0, 0)), tree tp ps o] [0, 3, 4] 5 9 [9, 0, 1, 2, 3, 4, 5, 6, 7, 8, 10, 11] mixed (by decide +kernel) ?_ ?_
    · repeat refine s1 ?_
      refine s_loadW (vs := rcells r) rfl (by simp [hr.sum.1]) rfl rfl ?_
      repeat refine s1 ?_
      refine cx (tload_c ps N S D r m hr hS (by rw [show S.K r.sec = S.g.K r.sec from rfl, hK]; simp) hmr hmw hsec hsum ha (by omega) Φ) (fun y _ => ?_)
      generalize hmm : dnN D m = m2
      repeat refine s1 ?_
      refine al (cs := nbx nd0 nr0) (fun t9 => ?_)
      repeat refine s1 ?_
      refine r_storeW (vs := nbx m2 y) rfl rfl (by rfl) (by rfl) (by simp [Value.oneCell']) rfl ?_
      repeat refine s1 ?_
      rw [← hmm]
      exact j_meet (y, t9) trivial ⟨rfl, rfl, rfl, rfl, rfl, rfl, rfl, trivial⟩ (by first | exact Le.ent | (dsimp only; exact Le.ent) | (dsimp only [List.cons_append, List.nil_append]; exact Le.ent) | (dsimp only [List.cons_append, List.nil_append]; simp only [List.take_zero, List.map_nil, List.flatMap_nil, List.length_nil]; exact Le.ent))
    · repeat refine s1 ?_
      refine al (cs := nbx nd0 nr0) (fun t9 => ?_)
      repeat refine s1 ?_
      refine s_loadW (vs := rcells r) rfl (by simp [hr.sum.1]) rfl rfl ?_
      repeat refine s1 ?_
      refine cx (tload_c ps N S D r m hr hS (by rw [show S.K r.sec = S.g.K r.sec from rfl, hK]; simp) hmr hmw hsec hsum ha (by omega) Φ) (fun y _ => ?_)
      generalize hmm : dnN D m = m2
      repeat refine s1 ?_
      refine r_storeW (vs := nbx m2 y) rfl rfl (by rfl) (by rfl) (by simp [Value.oneCell']) rfl ?_
      repeat refine s1 ?_
      rw [← hmm]
      exact j_meet (y, t9) trivial ⟨rfl, rfl, rfl, rfl, rfl, rfl, rfl, trivial⟩ (by first | exact Le.ent | (dsimp only; exact Le.ent) | (dsimp only [List.cons_append, List.nil_append]; exact Le.ent) | (dsimp only [List.cons_append, List.nil_append]; simp only [List.take_zero, List.map_nil, List.flatMap_nil, List.length_nil]; exact Le.ent))
  rintro ⟨y, t6⟩ _
  dsimp only [List.cons_append, List.nil_append]
  rcases hd : D.down with _ | _
  · unfold dnN dnE
    simp only [hd, Bool.false_eq_true, if_false]
    simp only [dnE, hd, Bool.false_eq_true, if_false] at hI0 ih
    repeat refine s2 ?_
    cases h with
    | zero =>
      obtain ⟨rfl, rfl, hok⟩ := hn
      have hkl : kv.length ≤ 9 := by have := (hmr.leaf rfl).2.1; simpa [leafN] using this
      rw [show (leafN kv).leaf = true from rfl]
      have hkeys : (leafN kv).keys = kv.map (·.1) := rfl
      repeat refine s1 ?_
      refine cl (find_c (leafN kv) y k hmr.rise (by simp [leafN]; omega) Φ) ?_
      rw [hkeys]
      have hfl := filt_drop (k := k) hs
      have hble : below (kv.map (·.1)) k ≤ kv.length := by have := List.countP_le_length (p := fun x => decide (x < k)) (l := kv.map (·.1)); simpa [below] using this
      generalize below (kv.map (·.1)) k = b0 at hfl hble ⊢
      have hpos : 1 ≤ kv.length := by have := hmr.pos; simpa [leafN] using this
      have hln : (leafN kv).vals.length = kv.length := by simp [leafN]
      refine jh [node (leafN kv) y] (j_ent (Ent.unnode _) ?_)
      refine jh [keysA (leafN kv) y] (j_leni (fun _ _ hka => ?_))
      obtain ⟨kb, ko, hkb⟩ := hka (by simp [leafN]; omega)
      refine jh [valsA (leafN kv) y] (j_leni (fun _ _ hva => ?_))
      obtain ⟨vb, vo, hvb⟩ := hva (by simp [leafN]; omega)
      obtain ⟨mka, mkc, mva, mvc, mra, mrc⟩ := y
      dsimp only at hkb hvb
      subst hkb
      subst hvb
      repeat refine s1 ?_
      refine t_loop (σ := Nat × σ) (fun z => [(8, i64 z.1), (6, ptr t6), (5, ptr t5), (1, ptr bt), (2, ptr br), (3, ptr bf), (4, ptr bk)])
        (fun z => isl (some ⟨kb, ko, none⟩) (leafN kv).keys.length mkc T.uint64 1 ((leafN kv).keys.map w64) :: isl (some ⟨vb, vo, none⟩) (leafN kv).vals.length mvc T.a44_uint8 44 ((leafN kv).vals.flatMap fun v => v.map u8) ::
          pt t6 (.cells [.bool (leafN kv).leaf, .slice (some ⟨kb, ko, none⟩) (leafN kv).keys.length mkc, .slice (some ⟨vb, vo, none⟩) (leafN kv).vals.length mvc, .slice mra (leafN kv).kids.length mrc].toArray T.node_Node (0, 0)) :: pt t5 (.cells [yl l].toArray T.func_256 (0, 0)) :: B z.2 :: (wkPre bt br bf bk tp pf r k 0 ++ tree tp ps o :: store ps S :: disk S.pd D :: hlog S.pl (N + 1) :: F))
        (fun z => b0 ≤ z.1 ∧ z.1 ≤ kv.length ∧ rounds nxt go s0 ((kv.take z.1).drop b0) = (z.2, true) ∧ Iv z.2 (kv.drop z.1)) (fun z => kv.length - z.1) (b0, s0) ⟨Nat.le_refl _, hble, by show rounds nxt go s0 ((kv.take b0).drop b0) = (s0, true); rw [show (kv.take b0).drop b0 = [] from List.drop_eq_nil_of_le (List.length_take_le _ _)]; rfl, by rw [hfl] at hI0; exact hI0⟩ ⟨rfl, rfl, rfl, rfl, rfl, rfl, rfl, trivial⟩ (by first | exact Le.ent | (dsimp only; exact Le.ent) | (dsimp only [List.cons_append, List.nil_append]; exact Le.ent) | (dsimp only [List.cons_append, List.nil_append]; simp only [List.take_zero, List.map_nil, List.flatMap_nil, List.length_nil]; exact Le.ent)) ?_
      rintro ⟨i, s⟩ ⟨h1, h2, h3, h4⟩
      dsimp only [List.cons_append, List.nil_append] at h1 h2 h3 h4 ⊢
      repeat refine s1 ?_
      refine r_iop rfl rfl rfl rfl ?_
      repeat refine s1 ?_
      refine t_condSB rfl (fun hq => ?_) (fun hq => ?_)
      · have hi : i < kv.length := by have := of_decide_eq_true hq; simp [leafN] at this; omega
        have hil : i < (leafN kv).vals.length := by rw [hln]; exact hi
        have hik : i < (leafN kv).keys.length := by simp [leafN]; exact hi
        rcases hkvi : kv[i] with ⟨key, u⟩
        have hku : (leafN kv).keys[i]? = some key := by simp [leafN, hkvi, hi]
        have hu : (leafN kv).vals[i]? = some u := by simp [leafN, hkvi, hi]
        have hul : u.length = 44 := (hmw.vals u (List.mem_of_getElem? hu)).1
        have hxs : ∀ (j : Nat) (v : Value), (u.map u8)[j]? = some v → ((leafN kv).vals.flatMap fun v => v.map u8)[i * 44 + j]? = some v := fun j v hv => by
          have hj := (List.getElem?_eq_some_iff.1 hv).1
          rw [flat_in (f := fun v : List Nat => v.map u8) (c := 44) (fun z hz => by simpa using (hmw.vals z hz).1) hu (by simpa [hul] using hj)]
          exact hv
        have htk : (kv.take (i + 1)).drop b0 = (kv.take i).drop b0 ++ [(key, u)] := by
          rw [List.take_add_one, List.getElem?_eq_getElem hi, hkvi, Option.toList_some, List.drop_append_of_le_length (by simp; omega)]
        have hdi : kv.drop i = (key, u) :: kv.drop (i + 1) := by rw [List.drop_eq_getElem_cons hi, hkvi]
        rw [hdi] at h4
        have hyx := hy s (key, u) _ h4
        have hro : rounds nxt go s0 ((kv.take (i + 1)).drop b0) = (nxt s (key, u), go s (key, u)) := by
          rw [htk, rounds_app, h3, if_pos rfl]
          simp only [rounds]
          split <;> simp_all
        repeat refine s1 ?_
        refine ix rfl rfl hik ?_
        refine r_loadI (n := (leafN kv).keys.length) (cap := mkc) (E := T.uint64) (s := 1) (xs := (leafN kv).keys.map w64) (off := ko) rfl (j := i) (v := w64 key) (by omega) (by rw [List.getElem?_map, hku]; rfl) rfl rfl ?_
        repeat refine s1 ?_
        refine ix rfl rfl hil ?_
        refine r_loadIA (off := vo) (n := (leafN kv).vals.length) (cap := mvc) (E := T.a44_uint8) (s := 44) (xs := (leafN kv).vals.flatMap fun v => v.map u8) (vs := u.map u8) rfl (j := i * 44) (by omega) (by simp [hul]) hxs rfl rfl ?_
        refine r_build (cells := w64 key :: u.map u8) rfl (by simp [fillL, hul, Value.cells]) rfl ?_
        refine r_yield rfl hyx ?_
        rcases hgo : go s (key, u) with _ | _
        · simp only [Bool.false_eq_true, if_false]
          repeat refine s1 ?_
          have hf : fin2 B Bx (rounds nxt go s0 (filt k kv)) = Bx (nxt s (key, u)) := by
            rw [hfl, ← List.take_append_drop (i + 1) kv, List.drop_append_of_le_length (by simp; omega), rounds_app, hro, hgo]
            simp
          rw [hf]
          refine jh [hlog S.pl (N + 1)] (j_ent (hlogUp (N' := N + (r.sec :: ([] : List Nat)).length) (by simp) _) ?_)
          refine j_ent (mkA_nil _) ?_
          exact j_finM (rs := []) [] rfl rfl .nil () rfl trivial
        · simp only [if_true]
          repeat refine s1 ?_
          rw [hgo] at hro
          exact j_again (i + 1, nxt s (key, u)) ⟨by omega, by omega, hro, hst s (key, u) _ h4 hgo⟩ (by omega) ⟨rfl, rfl, rfl, rfl, rfl, rfl, rfl, trivial⟩ (by first | exact Le.ent | (dsimp only; exact Le.ent) | (dsimp only [List.cons_append, List.nil_append]; exact Le.ent) | (dsimp only [List.cons_append, List.nil_append]; simp only [List.take_zero, List.map_nil, List.flatMap_nil, List.length_nil]; exact Le.ent))
      · have hi : i = kv.length := by have := of_decide_eq_false hq; simp [leafN] at this; omega
        subst hi
        rw [List.take_length, ← hfl] at h3
        repeat refine s1 ?_
        have hf : fin2 B Bx (rounds nxt go s0 (filt k kv)) = B s := by rw [h3]; simp
        rw [hf]
        refine jh [hlog S.pl (N + 1)] (j_ent (hlogUp (N' := N + (r.sec :: ([] : List Nat)).length) (by simp) _) ?_)
        refine j_ent (mkA_nil _) ?_
        exact j_finM (rs := []) [] rfl rfl .nil () rfl trivial
    | succ h =>
      have hlf : m.leaf = false := nsh_leaf hn
      have hwh : m.keys.length ≤ 11 := hmr.most
      obtain ⟨cs, hmi, hkv, hV, hcs⟩ := nsh_succ.1 hn
      have hrise := hmr.rise
      have hrl : m.kids.length = cs.length := by rw [hmi]; simp [inner]
      have hpos : 2 ≤ cs.length := by have := (hmr.inner hlf).1; have : m.keys.length = cs.length := (by rw [hmi]; simp [inner]); omega
      obtain ⟨A, c, C, hcut, hAl, hc1, hc2⟩ := way_cut (k := k) (cs := cs) (by intro e; rw [e] at hpos; simp at hpos) (by have := hrise; rw [hmi] at this; exact this)
      have hwk : way m.keys k = A.length := by rw [hAl, hmi]; rfl
      have hcl11 : cs.length ≤ 11 := by have : m.keys.length = cs.length := (by rw [hmi]; simp [inner]); omega
      have hsrt' := hs
      rw [hkv, hcut] at hsrt'
      obtain ⟨hsA, hsB⟩ := way_sides (k := k) hsrt' (fun d hd => (hcs d (by rw [hcut]; exact hd)).1) hc1 hc2
      rw [hlf]
      repeat refine s1 ?_
      refine cl (way_c m y k hrise (by omega) Φ) ?_
      rw [hwk]
      refine jh [node m y] (j_ent (Ent.unnode _) ?_)
      refine jh [kidsA m y] (j_leni (fun _ _ hka => ?_))
      obtain ⟨kb, ko, hkb⟩ := hka (by omega)
      obtain ⟨mka, mkc, mva, mvc, mra, mrc⟩ := y
      dsimp only at hkb
      subst hkb
      repeat refine s1 ?_
      refine jh [hlog S.pl (N + 1)] (j_ent (hlogUp (N' := N + 1 + ((cs.take A.length).flatMap (·.U)).length) (by omega) _) ?_)
      refine j_ent (mkA_nil _) ?_
      refine t_loopD (σ := Nat × σ × List Nat) (fun z => marks z.2.2) (fun z => [(10, i64 z.1), (6, ptr t6), (5, ptr t5), (1, ptr bt), (2, ptr br), (3, ptr bf), (4, ptr bk)])
        (fun z => mkA z.2.2 :: isl (some ⟨kb, ko, none⟩) m.kids.length mrc T.api_Ref 33 (m.kids.flatMap rcells) ::
          pt t6 (.cells [.bool m.leaf, .slice mka m.keys.length mkc, .slice mva m.vals.length mvc, .slice (some ⟨kb, ko, none⟩) m.kids.length mrc].toArray T.node_Node (0, 0)) :: pt t5 (.cells [yl l].toArray T.func_256 (0, 0)) :: B z.2.1 :: (wkPre bt br bf bk tp pf r k 0 ++ tree tp ps o :: store ps S :: disk S.pd D :: hlog S.pl (N + 1 + ((cs.take z.1).flatMap (·.U)).length) :: F))
        (fun z => z.1 ≤ cs.length ∧ rounds nxt go s0 (filt k ((cs.take z.1).flatMap (·.kv))) = (z.2.1, true) ∧ Iv z.2.1 (filt k ((cs.drop z.1).flatMap (·.kv)))) (fun z => cs.length - z.1) (A.length, s0, []) ⟨by rw [hcut]; simp, by dsimp only; rw [hcut, List.take_left, filt_none hsA]; rfl, by dsimp only; rw [hkv, hcut, List.flatMap_append, filt_app, filt_none hsA, List.nil_append] at hI0; rw [hcut, List.drop_left]; exact hI0⟩ rfl ⟨rfl, rfl, rfl, rfl, rfl, rfl, rfl, trivial⟩ ?_ ?_
      · dsimp only [List.cons_append, List.nil_append]
        exact Le.ent
      rintro ⟨i, s, Ds⟩ ⟨h1, h2, h3⟩
      dsimp only [List.cons_append, List.nil_append] at h1 h2 h3 ⊢
      repeat refine s1 ?_
      refine r_iop rfl rfl rfl rfl ?_
      repeat refine s1 ?_
      refine t_condSB rfl (fun hq => ?_) (fun hq => ?_)
      · have hi : i < cs.length := by have := of_decide_eq_true hq; omega
        have hik : i < m.kids.length := by omega
        have hcc := hcs cs[i] (List.getElem_mem hi)
        have hkid : m.kids[i] = cs[i].rf := by simp [hmi, inner]
        generalize hci : cs[i] = c' at hcc hkid
        have htk : cs.take (i + 1) = cs.take i ++ [c'] := by rw [List.take_add_one, List.getElem?_eq_getElem hi, hci]; rfl
        repeat refine s1 ?_
        refine ix rfl rfl hik ?_
        refine r_loadIA (off := ko) (n := m.kids.length) (cap := mrc) (E := T.api_Ref) (s := 33) (xs := m.kids.flatMap rcells) (vs := rcells c'.rf) rfl (j := i * 33) (by omega) (by simp [hcc.2.1.sum.1]) (by
          have := kid_at hmw hik
          rw [hkid] at this; exact this) rfl rfl ?_
        repeat refine s1 ?_
        refine cx (walkf_c tp pf k c'.rf Φ) (fun z _ => ?_)
        obtain ⟨b1, b2, b3, b4⟩ := z
        dsimp only
        repeat refine s1 ?_
        have hkv2 : kv = (cs.take i).flatMap (·.kv) ++ (c'.kv ++ (cs.drop (i + 1)).flatMap (·.kv)) := by
          rw [hkv]
          conv => lhs; rw [← List.take_append_drop (i + 1) cs, htk]
          simp
        have hcsrt : Srt c'.kv := by
          have := hs
          rw [hkv2] at this
          exact (List.pairwise_append.1 (List.pairwise_append.1 this).2.1).1
        have hUl : ((cs.take (i + 1)).flatMap (·.U)).length = ((cs.take i).flatMap (·.U)).length + c'.U.length := by rw [htk]; simp
        have hUV : ((cs.take (i + 1)).flatMap (·.U)).length ≤ V.length := by
          rw [hV]
          conv => rhs; rw [← List.take_append_drop (i + 1) cs]
          rw [List.flatMap_append, List.length_append]
          omega
        have hdi : cs.drop i = c' :: cs.drop (i + 1) := by rw [List.drop_eq_getElem_cons hi, hci]
        rw [hdi, List.flatMap_cons, filt_app] at h3
        have hlen : ∀ x ∈ filt k c'.kv, x.2.length = 44 := fun x hx => (hkvok x (by rw [hkv2]; simp only [List.mem_append]; exact .inr (.inl (List.mem_filter.1 hx).1))).2.1
        have hfs : filt k ((cs.take (i + 1)).flatMap (·.kv)) = filt k ((cs.take i).flatMap (·.kv)) ++ filt k c'.kv := by
          rw [htk, List.flatMap_append, filt_app]; simp
        have hinv : (rounds nxt go s (filt k c'.kv)).2 = true → Iv (rounds nxt go s (filt k c'.kv)).1 (filt k ((cs.drop (i + 1)).flatMap (·.kv))) := fun h5 => rounds_inv hst h3 h5
        have hro : rounds nxt go s0 (filt k ((cs.take (i + 1)).flatMap (·.kv))) = rounds nxt go s (filt k c'.kv) := by
          rw [hfs, rounds_app, h2, if_pos rfl]
        refine t_range (ps := [74]) (ζ := Nat) (lb := [ptr b1, ptr b2, ptr b3, ptr b4])
          (R := mkA Ds :: isl (some ⟨kb, ko, none⟩) m.kids.length mrc T.api_Ref 33 (m.kids.flatMap rcells) :: pt t6 (.cells [.bool m.leaf, .slice mka m.keys.length mkc, .slice mva m.vals.length mvc, .slice (some ⟨kb, ko, none⟩) m.kids.length mrc].toArray T.node_Node (0, 0)) ::
            pt bt (.cells [ptr tp].toArray T.p_mtree_Tree (0, 0)) :: pt br (.cells (rcells r).toArray T.api_Ref (0, 0)) :: pt bf (.cells [ptr pf].toArray T.p_api_Errno (0, 0)) :: pt bk (.cells [w64 k].toArray T.uint64 (0, 0)) :: F)
          rfl (ih h (Nat.lt_succ_self h) (N + 1 + ((cs.take i).flatMap (·.U)).length) c'.rf 4 c'.kv c'.U b1 b2 b3 b4 hcc.2 hcsrt (by omega))
          (fun s => all [pt t5 (.cells [yl l].toArray T.func_256 (0, 0)), B s]) (fun s => all [pt t5 (.cells [yl l].toArray T.func_256 (0, 0)), Bx s]) nxt go (fun s' rem => Iv s' (rem ++ filt k ((cs.drop (i + 1)).flatMap (·.kv))) ∧ ∀ x ∈ rem, x.2.length = 44) (fun s' x rem h5 hgo => ⟨hst s' x _ h5.1 hgo, fun y hy => h5.2 y (by simp [hy])⟩) .ret (.inl rfl) s ⟨h3, hlen⟩ (fun _ _ z => [(11, ptr z), (5, ptr t5)])
          (fun s x z => [pt z (.cells (w64 x.1 :: x.2.map u8).toArray T.mtree_Pair (0, 0)), all [pt t5 (.cells [yl l].toArray T.func_256 (0, 0)), B s]]) ?_ (fun _ => rfl) (by simp) rfl rfl ?_ ?_ ?_ ?_
        · refine Ent.trans ?_ (Ent.unall [pt t5 (.cells [yl l].toArray T.func_256 (0, 0)), B s] _)
          dsimp only [wkPre, List.cons_append, List.nil_append]
          exact Le.ent
        · intro s' x rem hx F'
          dsimp only [penv]
          repeat refine s1 ?_
          refine al (cs := w64 0 :: z44.map u8) (fun t11 => ?_)
          refine r_storeW (vs := w64 x.1 :: x.2.map u8) rfl rfl (by simp [hx.2 x (by simp)]) (by rfl) (by simp [Value.oneCell']) rfl ?_
          repeat refine s1 ?_
          exact j_meet t11 trivial ⟨rfl, rfl, trivial⟩ (by first | exact Le.ent | (dsimp only; exact Le.ent) | (dsimp only [List.cons_append, List.nil_append]; exact Le.ent) | (dsimp only [List.cons_append, List.nil_append]; simp only [List.take_zero, List.map_nil, List.flatMap_nil, List.length_nil]; exact Le.ent))
        · intro s' x rem hx z F'
          dsimp only [List.cons_append, List.nil_append]
          refine jh [all [pt t5 (.cells [yl l].toArray T.func_256 (0, 0)), B s']] (j_all ?_)
          dsimp only [List.cons_append, List.nil_append]
          repeat refine s1 ?_
          refine r_loadW (vs := w64 x.1 :: x.2.map u8) rfl (by simp [hx.2 x (by simp)]) rfl rfl ?_
          refine r_yield rfl (hy s' x _ hx.1) ?_
          rcases hgo : go s' x with _ | _
          · simp only [Bool.false_eq_true, if_false]
            repeat refine s1 ?_
            exact j_rnd_ret ((Le.ent (A := pt t5 (.cells [yl l].toArray T.func_256 (0, 0)) :: Bx (nxt s' x) :: F')).trans (Ent.unall [pt t5 (.cells [yl l].toArray T.func_256 (0, 0)), Bx (nxt s' x)] F'))
          · simp only [if_true]
            repeat refine s1 ?_
            exact j_rnd ((Le.ent (A := pt t5 (.cells [yl l].toArray T.func_256 (0, 0)) :: B (nxt s' x) :: F')).trans (Ent.unall [pt t5 (.cells [yl l].toArray T.func_256 (0, 0)), B (nxt s' x)] F'))
        · intro Dm z _ hr2
          dsimp only [wkPre, List.cons_append, List.nil_append]
          refine jh [all [pt t5 (.cells [yl l].toArray T.func_256 (0, 0)), B (rounds nxt go s (filt k c'.kv)).1]] (j_all ?_)
          refine js [pt Dm (.deferred (some [])), mkA Ds] (B := mkA (Dm :: Ds)) (fun L => mkA_cons Dm Ds L) ?_
          rw [show N + 1 + ((cs.take i).flatMap (·.U)).length + c'.U.length = N + 1 + ((cs.take (i + 1)).flatMap (·.U)).length by omega]
          repeat refine s2 ?_
          exact j_againD (i + 1, (rounds nxt go s (filt k c'.kv)).1, Dm :: Ds) ⟨by omega, by rw [hro]; exact Prod.ext rfl hr2, hinv hr2⟩ (by dsimp only; omega) rfl ⟨rfl, rfl, rfl, rfl, rfl, rfl, rfl, trivial⟩ (by first | exact Le.ent | (dsimp only; exact Le.ent) | (dsimp only [List.cons_append, List.nil_append]; exact Le.ent) | (dsimp only [List.cons_append, List.nil_append]; simp only [List.take_zero, List.map_nil, List.flatMap_nil, List.length_nil]; exact Le.ent))
        · intro Dm z _ hr2
          dsimp only [wkPre, List.cons_append, List.nil_append]
          refine jh [all [pt t5 (.cells [yl l].toArray T.func_256 (0, 0)), Bx (rounds nxt go s (filt k c'.kv)).1]] (j_all ?_)
          refine js [pt Dm (.deferred (some [])), mkA Ds] (B := mkA (Dm :: Ds)) (fun L => mkA_cons Dm Ds L) ?_
          repeat refine s1 ?_
          have hf : fin2 B Bx (rounds nxt go s0 (filt k kv)) = Bx (rounds nxt go s (filt k c'.kv)).1 := by
            have h5 : kv = (cs.take (i + 1)).flatMap (·.kv) ++ (cs.drop (i + 1)).flatMap (·.kv) := by rw [hkv, ← List.flatMap_append, List.take_append_drop]
            rw [h5, filt_app, rounds_app, hro, hr2]
            simp [fin2, hr2]
          rw [hf]
          refine jh [hlog S.pl (N + 1 + ((cs.take i).flatMap (·.U)).length + c'.U.length)] (j_ent (hlogUp (N' := N + (r.sec :: V).length) (by rw [List.length_cons]; omega) _) ?_)
          refine jh [mkA (Dm :: Ds)] ?_
          exact j_finM (rs := []) (Dm :: Ds) rfl rfl .nil () rfl trivial
      · have hi : i = cs.length := by have := of_decide_eq_false hq; omega
        subst hi
        rw [List.take_length, ← hkv] at h2
        repeat refine s1 ?_
        have hf : fin2 B Bx (rounds nxt go s0 (filt k kv)) = B s := by rw [h2]; simp
        rw [hf]
        refine jh [hlog S.pl (N + 1 + ((cs.take cs.length).flatMap (·.U)).length)] (j_ent (hlogUp (N' := N + (r.sec :: V).length) (by rw [List.length_cons, List.take_length, hV]; omega) _) ?_)
        refine jh [mkA Ds] ?_
        exact j_finM (rs := []) Ds rfl rfl .nil () rfl trivial
  · unfold dnN dnE
    simp only [hd, if_true]
    repeat refine s2 ?_
    refine so rfl rfl ?_
    repeat refine s1 ?_
    have hf : fin2 B Bx (rounds nxt go s0 ([] : KV)) = B s0 := by simp [rounds]
    rw [hf]
    refine jh [hlog S.pl (N + 1)] (j_ent (hlogUp (N' := N + (V.length + 1)) (by omega) _) ?_)
    refine j_ent (mkA_nil _) ?_
    refine j_finM (rs := []) [] rfl rfl .nil () rfl ?_
    trivial
end Go.Proofs.YtcnpkmdooekmgaaGreatDoor
namespace Go.Proofs.YtcnpkmdooekmgaaGreatDoor
open Go Sl
abbrev pcell (x : Nat × List Nat) : List Value := w64 x.1 :: x.2.map u8
abbrev prow (a : Option Addr) (n c : Nat) (l : KV) : Assn := vec a n c T.mtree_Pair 45 (l.flatMap pcell)
theorem prow_nil (L : List Assn) : Ent L (prow none ([] : KV).length 0 [] :: L) := Ent.vecNil (E := T.mtree_Pair) (s := 45) L
def nxtR (b : Nat) (s : KV) (x : Nat × List Nat) : KV := if b < x.1 then s else s ++ [x]
def goR (b : Nat) (n : Int) (s : KV) (x : Nat × List Nat) : Bool := !decide (b < x.1) && !decide (((s.length + 1 : Nat) : Int) = n)
def rngL (a b : Nat) (n : Int) (kv : KV) : KV := ((kv.filter fun x => decide (a ≤ x.1)).filter fun x => decide (x.1 ≤ b)).take n.toNat
theorem rounds_rng {b : Nat} {n : Int} : ∀ {xs s : KV}, Srt xs → (s.length : Int) < n → (rounds (nxtR b) (goR b n) s xs).1 = s ++ (xs.filter fun x => decide (x.1 ≤ b)).take (n.toNat - s.length)
  | [], s, _, _ => by simp [rounds]
  | x :: xs, s, hs, hn => by
    obtain ⟨h1, h2⟩ := List.pairwise_cons.1 hs
    by_cases hb : b < x.1
    · have hf : (x :: xs).filter (fun x => decide (x.1 ≤ b)) = [] := List.filter_eq_nil_iff.2 fun y hy => by
        rcases List.mem_cons.1 hy with rfl | hy
        · simp; omega
        · have := h1 y hy; simp; omega
      rw [hf]
      simp [rounds, goR, nxtR, hb]
    · have hf : (x :: xs).filter (fun x => decide (x.1 ≤ b)) = x :: xs.filter (fun x => decide (x.1 ≤ b)) := List.filter_cons_of_pos (by simp; omega)
      rw [hf]
      have hsub : n.toNat - s.length = (n.toNat - (s.length + 1)) + 1 := by omega
      rw [hsub, List.take_succ_cons]
      by_cases hl : ((s.length + 1 : Nat) : Int) = n
      · have : n.toNat - (s.length + 1) = 0 := by omega
        rw [this, List.take_zero]
        simp [rounds, goR, nxtR, hb, hl]
      · have := rounds_rng (b := b) (n := n) (xs := xs) (s := s ++ [x]) h2 (by simp; omega)
        have hg : goR b n s x = true := by simp [goR, hb]; omega
        have hx : nxtR b s x = s ++ [x] := by simp [nxtR, hb]
        simp only [rounds, hg, if_true, hx]
        rw [this, List.length_append, List.append_assoc]
        rfl
/-- what Range hands back. -/
def rngO (D : Dk) (t : Tre) (a b : Nat) (n : Int) : KV := if t.rt.isSome = true ∧ ¬ n < 1 ∧ ¬ b < a ∧ D.down = false then rngL a b n t.kv else []
def rngE (D : Dk) (t : Tre) (a b : Nat) (n : Int) : Nat := if t.rt.isSome = true ∧ ¬ n < 1 ∧ ¬ b < a ∧ D.down = true then 30 else 0
/-- what Range has gathered. -/
abbrev gotA (t10 t6 t7 b : Nat) (n : Int) (s : KV) (z : Option Addr × Nat) : List Assn := [pt t10 (.cells [.slice z.1 s.length z.2].toArray T.sl_mtree_Pair (0, 0)), prow z.1 s.length z.2 s, pt t6 (.cells [w64 b].toArray T.uint64 (0, 0)), pt t7 (.cells [.int .i64 n].toArray T.int (0, 0))]
def gotB (t10 t6 t7 b : Nat) (n : Int) (s : KV) : Assn := ex fun z : Option Addr × Nat => all (gotA t10 t6 t7 b n s z)
theorem gotB_of {t10 t6 t7 b : Nat} {n : Int} {s : KV} (z : Option Addr × Nat) (L : List Assn) : Ent (gotA t10 t6 t7 b n s z ++ L) (gotB t10 t6 t7 b n s :: L) := (Ent.unall (gotA t10 t6 t7 b n s z) L).trans (Ent.mkEx (f := fun z => all (gotA t10 t6 t7 b n s z)) z)
theorem j_got {X : Cx} {e : Env} {L : List Assn} {G : Act → World → Prop} {t10 t6 t7 b : Nat} {n : Int} {s : KV} (h : ∀ z, J X e (gotA t10 t6 t7 b n s z ++ L) G) : J X e (gotB t10 t6 t7 b n s :: L) G := j_ex fun z => j_all (h z)
attribute [local irreducible] cw sw J Exit.then Exit.inBlock Exit.noGoto bodyPost swG swL permL
set_option maxHeartbeats 2000000 in
theorem trange_c (ps pd pl N a b : Nat) (n : Int) (S : St) (D : Dk) (t : Tre) (ht : TOk S.g t) (hS : S.wf) (ha : Agr S D) (hN : N ≤ 600000000) (hkv : t.kv.length ≤ 1000000) (hpd : S.pd = pd) (hpl : S.pl = pl) (Φ : Base) :
    Sl.Fn Tryz.prog Φ F.mtree_Tree_Range [ptr t.p, w64 a, w64 b, .int .i64 n] [tree t.p ps t.rt, store ps S, disk pd D, hlog pl N] (fun _ : Option Addr × Nat => True) (fun x => .tuple #[.slice x.1 (rngO D t a b n).length x.2, i64 (rngE D t a b n)])
      (fun x => [prow x.1 (rngO D t a b n).length x.2 (rngO D t a b n), tree t.p ps t.rt, store ps S, disk pd D, hlog pl (N + t.kv.length + 1)]) := by
  obtain rfl := hpd
  obtain rfl := hpl
  have hw := oWt_of ht
  refine foM fun F => ?_
  repeat refine s1 ?_
  refine r_box (cs := [w64 b]) rfl rfl rfl rfl (fun t6 => ?_)
  repeat refine s1 ?_
  refine r_box (cs := [.int .i64 n]) rfl rfl rfl rfl (fun t7 => ?_)
  repeat refine s1 ?_
  refine cl (made_c t.p ps t.rt Φ) ?_
  repeat refine s1 ?_
  refine ld rfl (tc_has hw) ?_
  rcases hrt : t.rt with _ | r
  · rw [Option.isSome_none]
    repeat refine s1 ?_
    have h0 : rngO D t a b n = [] := by simp [rngO, hrt]
    have h1 : rngE D t a b n = 0 := by simp [rngE, hrt]
    rw [h0, h1]
    refine j_ent (prow_nil _) ?_
    refine jh [hlog S.pl N] (j_ent (hlogUp (N' := N + t.kv.length + 1) (by omega) _) ?_)
    refine j_ent (mkA_nil _) ?_
    exact j_finM (rs := [.tmp 8, .tmp 9]) [] rfl rfl (.cons (rv_tmp rfl) (.cons (rv_tmp rfl) .nil)) (none, 0) rfl trivial
  · rw [Option.isSome_some]
    rw [hrt] at hw
    have hrw : r.wt := hw
    obtain ⟨hsrt, hne, H, U, hsh⟩ := ht.sh hrt
    have hul : U.length ≤ t.kv.length + 1 := by have := (sh_size hsh).1; omega
    repeat refine s1 ?_
    refine r_iop rfl rfl rfl rfl ?_
    by_cases hn : n < 1
    · rw [decide_eq_true hn]
      repeat refine s1 ?_
      have h0 : rngO D t a b n = [] := by simp [rngO, hn]
      have h1 : rngE D t a b n = 0 := by simp [rngE, hn]
      rw [h0, h1]
      refine j_ent (prow_nil _) ?_
      refine jh [hlog S.pl N] (j_ent (hlogUp (N' := N + t.kv.length + 1) (by omega) _) ?_)
      refine j_ent (mkA_nil _) ?_
      exact j_finM (rs := [.tmp 8, .tmp 9]) [] rfl rfl (.cons (rv_tmp rfl) (.cons (rv_tmp rfl) .nil)) (none, 0) rfl trivial
    · rw [decide_eq_false hn]
      repeat refine s1 ?_
      refine r_icmp rfl rfl rfl rfl ?_
      by_cases hab : b < a
      · rw [decide_eq_true (show (b : Int) < (a : Int) by omega)]
        repeat refine s1 ?_
        have h0 : rngO D t a b n = [] := by simp [rngO, hab]
        have h1 : rngE D t a b n = 0 := by simp [rngE, hab]
        rw [h0, h1]
        refine j_ent (prow_nil _) ?_
        refine jh [hlog S.pl N] (j_ent (hlogUp (N' := N + t.kv.length + 1) (by omega) _) ?_)
        refine j_ent (mkA_nil _) ?_
        exact j_finM (rs := [.tmp 8, .tmp 9]) [] rfl rfl (.cons (rv_tmp rfl) (.cons (rv_tmp rfl) .nil)) (none, 0) rfl trivial
      · rw [decide_eq_false (show ¬ (b : Int) < (a : Int) by omega)]
        repeat refine s1 ?_
        refine al (cs := [.slice none 0 0]) (fun t10 => ?_)
        repeat refine s1 ?_
        refine al (cs := [i64 0]) (fun t11 => ?_)
        repeat refine s1 ?_
        refine so rfl rfl ?_
        repeat refine s1 ?_
        refine r_loadA (vs := rcells r) (off := 1) rfl (by simp [hrw.sum.1]) (tc_root (o := some r)) rfl rfl ?_
        repeat refine s1 ?_
        refine cx (walkf_c t.p t11 a r Φ) (fun z _ => ?_)
        obtain ⟨b1, b2, b3, b4⟩ := z
        dsimp only
        repeat refine s1 ?_
        have hseq := walk_s t.p ps t11 a (some r) S D hS ha Φ H N r 1 t.kv U b1 b2 b3 b4 hsh hsrt (by omega)
        refine t_range (ps := [37]) (ζ := Nat) (lb := [ptr b1, ptr b2, ptr b3, ptr b4]) (R := F) rfl hseq (gotB t10 t6 t7 b n) (gotB t10 t6 t7 b n) (nxtR b) (goR b n) (fun s rem => s.length + rem.length ≤ 1000000 ∧ ∀ x ∈ rem, x.2.length = 44) (fun s x rem h5 _ => ⟨by
            have h6 := h5.1
            rw [List.length_cons] at h6
            unfold nxtR
            split
            · omega
            · rw [List.length_append, List.length_singleton]; omega, fun y hy => h5.2 y (by simp [hy])⟩) (.exit 0) (.inr ⟨0, rfl⟩) [] ⟨?_, ?_⟩ (fun _ _ z => [(12, ptr z), (6, ptr t6), (7, ptr t7), (10, ptr t10)])
          (fun s x z => [pt z (.cells (pcell x).toArray T.mtree_Pair (0, 0)), gotB t10 t6 t7 b n s]) ?_ (fun _ => rfl) (by simp) rfl rfl ?_ ?_ ?_ ?_
        · split
          · simp
          · have := List.length_filter_le (fun x : Nat × List Nat => decide (a ≤ x.1)) t.kv
            simp only [List.length_nil, Nat.zero_add, filt]; omega
        · intro x hx
          split at hx
          · cases hx
          · exact (ht.kvok x (List.mem_filter.1 hx).1).2.1
        · refine Ent.trans ?_ (gotB_of (none, 0) _)
          dsimp only [wkPre, List.cons_append, List.nil_append]
          exact (prow_nil _).trans Le.ent
        · intro s' x rem hx F'
          dsimp only [penv]
          repeat refine s1 ?_
          refine al (cs := w64 0 :: z44.map u8) (fun t11 => ?_)
          refine r_storeW (vs := pcell x) rfl rfl (by simp [hx.2 x (by simp)]) (by rfl) (by simp [Value.oneCell']) rfl ?_
          repeat refine s1 ?_
          exact j_meet t11 trivial ⟨rfl, rfl, rfl, rfl, trivial⟩ (by first | exact Le.ent | (dsimp only; exact Le.ent) | (dsimp only [List.cons_append, List.nil_append]; exact Le.ent) | (dsimp only [List.cons_append, List.nil_append]; simp only [List.take_zero, List.map_nil, List.flatMap_nil, List.length_nil]; exact Le.ent))
        · intro s' x rem hx z F'
          have hxl := hx.2 x (by simp)
          have hsl := hx.1
          rw [List.length_cons] at hsl
          dsimp only [List.cons_append, List.nil_append]
          refine jh [gotB t10 t6 t7 b n s'] (j_got fun z2 => ?_)
          obtain ⟨oa, oc⟩ := z2
          dsimp only [List.cons_append, List.nil_append]
          repeat refine s1 ?_
          refine r_icmp rfl rfl rfl rfl ?_
          by_cases hbx : b < x.1
          · rw [decide_eq_true (show (b : Int) < (x.1 : Int) by omega)]
            have hg : goR b n s' x = false := by simp [goR, hbx]
            have hnx : nxtR b s' x = s' := by simp [nxtR, hbx]
            rw [hg, hnx]
            repeat refine s1 ?_
            refine js (gotA t10 t6 t7 b n s' (oa, oc)) (B := gotB t10 t6 t7 b n s') (fun L => gotB_of (oa, oc) L) ?_
            exact j_rnd_exit Le.ent
          · rw [decide_eq_false (show ¬ (b : Int) < (x.1 : Int) by omega)]
            have hnx : nxtR b s' x = s' ++ [x] := by simp [nxtR, hbx]
            rw [hnx]
            repeat refine s1 ?_
            refine r_loadW (vs := pcell x) rfl (by simp [hxl]) rfl rfl ?_
            refine r_buildA1 (v := pcell x) rfl (by simp [hxl]) (by decide) (fun bv => ?_)
            refine r_append (n := s'.length) (m := 1) (s := 45) (xs := s'.flatMap pcell) (ys := pcell x) rfl rfl (by decide) (by rfl) (by simp [Value.oneCell']) (by omega) (by omega) rfl rfl (fun a' c' _ => ?_)
            have he : s'.flatMap pcell ++ pcell x = (s' ++ [x]).flatMap pcell := by simp
            have hln : s'.length + 1 = (s' ++ [x]).length := by simp
            rw [he, hln]
            refine so rfl rfl ?_
            repeat refine s1 ?_
            refine r_icmp rfl rfl rfl rfl ?_
            by_cases hl : (((s' ++ [x]).length : Nat) : Int) = n
            · rw [decide_eq_true hl]
              have hg : goR b n s' x = false := by rw [← hln] at hl; simp [goR, hl]
              rw [hg]
              repeat refine s1 ?_
              refine js (gotA t10 t6 t7 b n (s' ++ [x]) (a', c')) (B := gotB t10 t6 t7 b n (s' ++ [x])) (fun L => gotB_of (a', c') L) ?_
              exact j_rnd_exit Le.ent
            · rw [decide_eq_false hl]
              have hg : goR b n s' x = true := by
                rw [← hln] at hl
                simp only [goR, decide_eq_false hbx, decide_eq_false hl, Bool.not_false, Bool.and_true]
              rw [hg]
              repeat refine s1 ?_
              refine js (gotA t10 t6 t7 b n (s' ++ [x]) (a', c')) (B := gotB t10 t6 t7 b n (s' ++ [x])) (fun L => gotB_of (a', c') L) ?_
              exact j_rnd Le.ent
        all_goals
          intro Dm z _ hr2
          dsimp only [wkPre, dnE, List.cons_append, List.nil_append]
          have hl : D.down = false → (rounds (nxtR b) (goR b n) [] (if D.down = true then [] else filt a t.kv)).1 = rngL a b n t.kv := fun hd => by
            simp only [hd, Bool.false_eq_true, if_false]
            rw [rounds_rng (hsrt.sublist List.filter_sublist) (by simp; omega)]
            simp [rngL]
          generalize (rounds (nxtR b) (goR b n) [] (if D.down = true then [] else filt a t.kv)).1 = out at hl ⊢
          refine j_ent (mkA_nil _) ?_
          refine js [pt Dm (.deferred (some [])), mkA []] (B := mkA [Dm]) (fun L => mkA_cons Dm [] L) ?_
          refine jh [hlog S.pl (N + U.length)] (j_ent (hlogUp (N' := N + t.kv.length + 1) (by omega) _) ?_)
          rcases hd : D.down with _ | _
          · have h0 : rngO D t a b n = out := by simp only [rngO, hrt, hd]; rw [if_pos ⟨rfl, hn, hab, trivial⟩, hl hd]
            have h1 : rngE D t a b n = 0 := by simp [rngE, hd]
            rw [h0, h1]
            simp only [Bool.false_eq_true, if_false]
            refine jh [gotB t10 t6 t7 b n out] (j_got fun z2 => ?_)
            obtain ⟨oa, oc⟩ := z2
            dsimp only [List.cons_append, List.nil_append]
            repeat refine s2 ?_
            refine jh [mkA [Dm]] ?_
            exact j_finM (rs := [.tmp 8, .tmp 9]) [Dm] rfl rfl (.cons (rv_tmp rfl) (.cons (rv_tmp rfl) .nil)) (oa, oc) rfl trivial
          · have h0 : rngO D t a b n = [] := by simp [rngO, hd]
            have h1 : rngE D t a b n = 30 := by simp only [rngE, hrt, hd]; rw [if_pos ⟨rfl, hn, hab, trivial⟩]
            rw [h0, h1]
            simp only [if_true]
            repeat refine s2 ?_
            refine j_ent (prow_nil _) ?_
            refine jh [mkA [Dm]] ?_
            exact j_finM (rs := [.tmp 8, .tmp 9]) [Dm] rfl rfl (.cons (rv_tmp rfl) (.cons (rv_tmp rfl) .nil)) (none, 0) rfl trivial
end Go.Proofs.YtcnpkmdooekmgaaGreatDoor
namespace Go.Proofs.YtcnpkmdooekmgaaGreatDoor
open Go Sl
structure RP where
  k : Nat
  v : List Nat
  a : Option Addr
  c : Nat
abbrev rpc (x : RP) : List Value := [w64 x.k, .slice x.a x.v.length x.c]
abbrev valA (x : RP) : Assn := isl x.a x.v.length x.c T.uint8 1 (x.v.map u8)
abbrev kvs (l : List RP) : KV := l.map fun x => (x.k, x.v)
/-- a list's values; nobody turns them. -/
def rvals (l : List RP) : Assn := im' (fun im => ∀ x ∈ l, (valA x).sat im Hp.emp) (fun hm h x hx => (valA x).mono hm (h x hx))
instance (l : List RP) : Pers (rvals l) := ⟨fun _ _ h => h⟩
abbrev rowR (a : Option Addr) (n c : Nat) (l : List RP) : Assn := isl a n c T.casemateref15_Pair 2 (l.flatMap rpc)
abbrev rowV (a : Option Addr) (n c : Nat) (l : List RP) : Assn := vec a n c T.casemateref15_Pair 2 (l.flatMap rpc)
theorem rvals_nil (L : List Assn) : Ent L (rvals [] :: L) := fun _ h s => ⟨Hp.emp, h, Hp.emp_le _, Hp.le_refl _, Hp.emp_dis _, fun x hx => (by cases hx), s⟩
theorem rvals_one (x : RP) (L : List Assn) : Ent (valA x :: L) (rvals [x] :: L) := by
  rintro im h ⟨a1, a2, e1, e2, e3, hn, s⟩
  exact ⟨Hp.emp, h, Hp.emp_le _, Hp.le_refl _, Hp.emp_dis _, fun z hz => by simp only [List.mem_singleton] at hz; subst hz; exact hn, satL_mono (Hp.le_refl _) e2 s⟩
theorem rvals_app (l m : List RP) (L : List Assn) : Ent (rvals l :: rvals m :: L) (rvals (l ++ m) :: L) := by
  rintro im h ⟨a1, a2, e1, e2, e3, hn, b1, b2, f1, f2, f3, hm, s⟩
  refine ⟨Hp.emp, h, Hp.emp_le _, Hp.le_refl _, Hp.emp_dis _, fun x hx => ?_, satL_mono (Hp.le_refl _) (Hp.le_trans f2 e2) s⟩
  rcases List.mem_append.1 hx with hx | hx
  · exact hn x hx
  · exact hm x hx
theorem rvals_sub {l m : List RP} (hs : ∀ x ∈ m, x ∈ l) (L : List Assn) : Ent (rvals l :: L) (rvals m :: rvals l :: L) := by
  rintro im h ⟨a1, a2, e1, e2, e3, hn, s⟩
  exact ⟨Hp.emp, h, Hp.emp_le _, Hp.le_refl _, Hp.emp_dis _, fun x hx => hn x (hs x hx), a1, a2, e1, e2, e3, hn, s⟩
theorem rvals_at {l : List RP} {x : RP} (hx : x ∈ l) (L : List Assn) : Ent (rvals l :: L) (valA x :: rvals l :: L) := by
  rintro im h ⟨a1, a2, e1, e2, e3, hn, s⟩
  exact ⟨Hp.emp, h, Hp.emp_le _, Hp.le_refl _, Hp.emp_dis _, hn x hx, a1, a2, e1, e2, e3, hn, s⟩
theorem rpc_at {l : List RP} {i : Nat} {x : RP} (h : l[i]? = some x) : (l.flatMap rpc)[i * 2]? = some (w64 x.k) ∧ (l.flatMap rpc)[i * 2 + 1]? = some (.slice x.a x.v.length x.c) := by
  have h1 := flat_in (f := rpc) (c := 2) (l := l) (fun _ _ => rfl) h (j := 0) (by decide)
  have h2 := flat_in (f := rpc) (c := 2) (l := l) (fun _ _ => rfl) h (j := 1) (by decide)
  exact ⟨h1, h2⟩
theorem rpc_all {l : List RP} {i : Nat} {x : RP} (h : l[i]? = some x) : ∀ (j : Nat) (v : Value), (rpc x)[j]? = some v → (l.flatMap rpc)[i * 2 + j]? = some v := fun j v hv => by
  rw [flat_in (f := rpc) (c := 2) (l := l) (fun _ _ => rfl) h (by have := (List.getElem?_eq_some_iff.1 hv).1; simpa using this)]
  exact hv
theorem filter_take {p : RP → Bool} {l : List RP} {i : Nat} {x : RP} (h : l[i]? = some x) : (l.take (i + 1)).filter p = (l.take i).filter p ++ if p x then [x] else [] := by
  rw [List.take_add_one, h, Option.toList_some, List.filter_append]
  congr 1
  simp only [List.filter_cons, List.filter_nil]
theorem rowV_nil (L : List Assn) : Ent L (rowV none ([] : List RP).length 0 [] :: L) := Ent.vecNil (E := T.casemateref15_Pair) (s := 2) L
attribute [local irreducible] cw sw J Exit.then Exit.inBlock Exit.noGoto bodyPost swG swL permL
theorem rdel_c (a : Option Addr) (c k : Nat) (l : List RP) (hl : l.length ≤ 1000000) (Φ : Base) :
    Sl.Fn Tryz.prog Φ F.casemateref15_Del [.slice a l.length c, w64 k] [rowR a l.length c l] (fun z : List RP × Option Addr × Nat => z.1 = l.filter fun x => decide (x.k ≠ k)) (fun z => .slice z.2.1 z.1.length z.2.2) (fun z => [rowR z.2.1 z.1.length z.2.2 z.1]) := by
  refine fo fun F => ?_
  repeat refine s1 ?_
  refine j_ent (rowV_nil _) ?_
  refine t_loop (σ := Nat × List RP × Option Addr × Nat) (fun z => [(6, i64 z.1), (5, .slice z.2.2.1 z.2.1.length z.2.2.2), (0, .slice a l.length c), (1, w64 k)]) (fun z => rowV z.2.2.1 z.2.1.length z.2.2.2 z.2.1 :: rowR a l.length c l :: F)
    (fun z => z.1 ≤ l.length ∧ z.2.1.length ≤ z.1 ∧ z.2.1 = (l.take z.1).filter fun x => decide (x.k ≠ k)) (fun z => l.length - z.1) (0, [], none, 0) ⟨Nat.zero_le _, Nat.le_refl _, rfl⟩ ⟨rfl, rfl, rfl, rfl, trivial⟩ (by first | exact Le.ent | (dsimp only; exact Le.ent) | (dsimp only [List.cons_append, List.nil_append]; exact Le.ent) | (dsimp only [List.cons_append, List.nil_append]; simp only [List.take_zero, List.map_nil, List.flatMap_nil, List.length_nil]; exact Le.ent)) ?_
  rintro ⟨i, out, oa, oc⟩ ⟨h1, h2, h3⟩
  dsimp only at h1 h2 h3 ⊢
  refine jh [rowR a l.length c l] (j_leni (fun _ _ hla => ?_))
  repeat refine s1 ?_
  refine r_iop rfl rfl rfl rfl ?_
  repeat refine s1 ?_
  refine t_condSB rfl (fun hq => ?_) (fun hq => ?_)
  · have hi : i < l.length := by have := of_decide_eq_true hq; omega
    obtain ⟨lb, lo, rfl⟩ := hla (by omega)
    obtain ⟨x, hx⟩ : ∃ x, l[i]? = some x := ⟨_, List.getElem?_eq_getElem hi⟩
    have hat := rpc_at hx
    have hft := filter_take (p := fun x => decide (x.k ≠ k)) hx
    rw [← h3] at hft
    repeat refine s1 ?_
    refine ix rfl rfl hi ?_
    repeat refine s1 ?_
    refine r_loadI (off := lo) (n := l.length) (cap := c) (E := T.casemateref15_Pair) (s := 2) (xs := l.flatMap rpc) (v := w64 x.k) rfl (j := i * 2) (by omega) hat.1 rfl rfl ?_
    repeat refine s1 ?_
    refine r_icmp rfl rfl rfl rfl ?_
    by_cases hk : x.k = k
    · rw [show (!decide ((x.k : Int) = (k : Int))) = false by simp [hk]]
      rw [if_neg (by simp [hk]), List.append_nil] at hft
      repeat refine s1 ?_
      exact j_again (i + 1, out, oa, oc) ⟨by omega, by dsimp only; omega, hft.symm⟩ (by dsimp only; omega) ⟨rfl, rfl, rfl, rfl, trivial⟩ (by first | exact Le.ent | (dsimp only; exact Le.ent) | (dsimp only [List.cons_append, List.nil_append]; exact Le.ent) | (dsimp only [List.cons_append, List.nil_append]; simp only [List.take_zero, List.map_nil, List.flatMap_nil, List.length_nil]; exact Le.ent))
    · rw [show (!decide ((x.k : Int) = (k : Int))) = true by simp; omega]
      rw [if_pos (by simp [hk])] at hft
      repeat refine s1 ?_
      refine ix rfl rfl hi ?_
      repeat refine s1 ?_
      refine r_loadIA (off := lo) (n := l.length) (cap := c) (E := T.casemateref15_Pair) (s := 2) (xs := l.flatMap rpc) (vs := rpc x) rfl (j := i * 2) (by omega) (by rfl) (rpc_all hx) rfl rfl ?_
      refine r_buildA1 (v := rpc x) rfl (by rfl) (by decide) (fun bv => ?_)
      refine r_append (n := out.length) (m := 1) (s := 2) (xs := out.flatMap rpc) (ys := rpc x) rfl rfl (by decide) (by rfl) (by simp [Value.oneCell']) (by omega) (by omega) rfl rfl (fun oa' oc' _ => ?_)
      rw [show out.flatMap rpc ++ rpc x = (out ++ [x]).flatMap rpc by simp, show out.length + 1 = (out ++ [x]).length by simp]
      repeat refine s1 ?_
      exact j_again (i + 1, out ++ [x], oa', oc') ⟨by omega, by dsimp only; rw [List.length_append, List.length_singleton]; omega, hft.symm⟩ (by dsimp only; omega) ⟨rfl, rfl, rfl, rfl, trivial⟩ (by first | exact Le.ent | (dsimp only; exact Le.ent) | (dsimp only [List.cons_append, List.nil_append]; exact Le.ent) | (dsimp only [List.cons_append, List.nil_append]; simp only [List.take_zero, List.map_nil, List.flatMap_nil, List.length_nil]; exact Le.ent))
  · have hi : i = l.length := by have := of_decide_eq_false hq; omega
    subst hi
    rw [List.take_length] at h3
    repeat refine s1 ?_
    refine jh [rowV oa out.length oc out] (fz ?_)
    exact f1 (out, oa, oc) (hq := h3)
end Go.Proofs.YtcnpkmdooekmgaaGreatDoor
namespace Go.Proofs.YtcnpkmdooekmgaaGreatDoor
open Go Sl
theorem take_step {l : List RP} {x : RP} {n : Nat} : (l ++ [x]).take n = if (l.take n).length < n then l.take n ++ [x] else l.take n := by
  split
  · rename_i h
    rw [List.length_take] at h
    have hl : l.length < n := by omega
    rw [List.take_of_length_le (by simp; omega), List.take_of_length_le (by omega)]
  · rename_i h
    rw [List.length_take] at h
    rw [List.take_append_of_le_length (by omega)]
def inR (a b : Nat) (x : RP) : Bool := decide (a ≤ x.k) && decide (x.k ≤ b)
attribute [local irreducible] cw sw J Exit.then Exit.inBlock Exit.noGoto bodyPost swG swL permL
theorem rrange_c (a : Option Addr) (c f t : Nat) (m : Int) (l : List RP) (hl : l.length ≤ 1000000) (Φ : Base) :
    Sl.Fn Tryz.prog Φ F.casemateref15_Range [.slice a l.length c, w64 f, w64 t, .int .i64 m] [rowR a l.length c l] (fun z : List RP × Option Addr × Nat => z.1 = (l.filter (inR f t)).take m.toNat) (fun z => .slice z.2.1 z.1.length z.2.2) (fun z => [rowR z.2.1 z.1.length z.2.2 z.1]) := by
  refine fo fun F => ?_
  repeat refine s1 ?_
  refine j_ent (rowV_nil _) ?_
  refine t_loop (σ := Nat × List RP × Option Addr × Nat) (fun z => [(10, i64 z.1), (9, .slice z.2.2.1 z.2.1.length z.2.2.2), (0, .slice a l.length c), (1, w64 f), (2, w64 t), (3, .int .i64 m)]) (fun z => rowV z.2.2.1 z.2.1.length z.2.2.2 z.2.1 :: rowR a l.length c l :: F)
    (fun z => z.1 ≤ l.length ∧ z.2.1.length ≤ z.1 ∧ z.2.1 = ((l.take z.1).filter (inR f t)).take m.toNat) (fun z => l.length - z.1) (0, [], none, 0) ⟨Nat.zero_le _, Nat.le_refl _, by simp⟩ ⟨rfl, rfl, rfl, rfl, rfl, rfl, trivial⟩ (by first | exact Le.ent | (dsimp only; exact Le.ent) | (dsimp only [List.cons_append, List.nil_append]; exact Le.ent) | (dsimp only [List.cons_append, List.nil_append]; simp only [List.take_zero, List.map_nil, List.flatMap_nil, List.length_nil]; exact Le.ent)) ?_
  rintro ⟨i, out, oa, oc⟩ ⟨h1, h2, h3⟩
  dsimp only at h1 h2 h3 ⊢
  refine jh [rowR a l.length c l] (j_leni (fun _ _ hla => ?_))
  repeat refine s1 ?_
  refine r_iop rfl rfl rfl rfl ?_
  repeat refine s1 ?_
  refine t_condSB rfl (fun hq => ?_) (fun hq => ?_)
  · have hi : i < l.length := by have := of_decide_eq_true hq; omega
    obtain ⟨lb, lo, rfl⟩ := hla (by omega)
    obtain ⟨x, hx⟩ : ∃ x, l[i]? = some x := ⟨_, List.getElem?_eq_getElem hi⟩
    have hat := rpc_at hx
    have hft := filter_take (p := inR f t) hx
    repeat refine s1 ?_
    refine ix rfl rfl hi ?_
    repeat refine s1 ?_
    refine r_loadI (off := lo) (n := l.length) (cap := c) (E := T.casemateref15_Pair) (s := 2) (xs := l.flatMap rpc) (v := w64 x.k) rfl (j := i * 2) (by omega) hat.1 rfl rfl ?_
    repeat refine s1 ?_
    refine r_icmp rfl rfl rfl rfl ?_
    by_cases hf : f ≤ x.k
    · rw [decide_eq_true (show (f : Int) ≤ (x.k : Int) by omega)]
      repeat refine s1 ?_
      refine ix rfl rfl hi ?_
      repeat refine s1 ?_
      refine r_loadI (off := lo) (n := l.length) (cap := c) (E := T.casemateref15_Pair) (s := 2) (xs := l.flatMap rpc) (v := w64 x.k) rfl (j := i * 2) (by omega) hat.1 rfl rfl ?_
      repeat refine s1 ?_
      refine r_icmp rfl rfl rfl rfl ?_
      by_cases ht : x.k ≤ t
      · rw [decide_eq_true (show (x.k : Int) ≤ (t : Int) by omega)]
        rw [if_pos (by simp [inR, hf, ht])] at hft
        repeat refine s1 ?_
        refine r_iop rfl rfl rfl rfl ?_
        by_cases hm : (out.length : Int) < m
        · rw [decide_eq_true hm]
          repeat refine s1 ?_
          refine ix rfl rfl hi ?_
          repeat refine s1 ?_
          refine r_loadIA (off := lo) (n := l.length) (cap := c) (E := T.casemateref15_Pair) (s := 2) (xs := l.flatMap rpc) (vs := rpc x) rfl (j := i * 2) (by omega) (by rfl) (rpc_all hx) rfl rfl ?_
          refine r_buildA1 (v := rpc x) rfl (by rfl) (by decide) (fun bv => ?_)
          refine r_append (n := out.length) (m := 1) (s := 2) (xs := out.flatMap rpc) (ys := rpc x) rfl rfl (by decide) (by rfl) (by simp [Value.oneCell']) (by omega) (by omega) rfl rfl (fun oa' oc' _ => ?_)
          rw [show out.flatMap rpc ++ rpc x = (out ++ [x]).flatMap rpc by simp, show out.length + 1 = (out ++ [x]).length by simp]
          repeat refine s1 ?_
          exact j_again (i + 1, out ++ [x], oa', oc') ⟨by omega, by dsimp only; rw [List.length_append, List.length_singleton]; omega, by dsimp only; rw [hft, take_step, ← h3, if_pos (by omega)]⟩ (by dsimp only; omega) ⟨rfl, rfl, rfl, rfl, rfl, rfl, trivial⟩ (by first | exact Le.ent | (dsimp only; exact Le.ent) | (dsimp only [List.cons_append, List.nil_append]; exact Le.ent) | (dsimp only [List.cons_append, List.nil_append]; simp only [List.take_zero, List.map_nil, List.flatMap_nil, List.length_nil]; exact Le.ent))
        · rw [decide_eq_false hm]
          repeat refine s1 ?_
          exact j_again (i + 1, out, oa, oc) ⟨by omega, by dsimp only; omega, by dsimp only; rw [hft, take_step, ← h3, if_neg (by omega)]⟩ (by dsimp only; omega) ⟨rfl, rfl, rfl, rfl, rfl, rfl, trivial⟩ (by first | exact Le.ent | (dsimp only; exact Le.ent) | (dsimp only [List.cons_append, List.nil_append]; exact Le.ent) | (dsimp only [List.cons_append, List.nil_append]; simp only [List.take_zero, List.map_nil, List.flatMap_nil, List.length_nil]; exact Le.ent))
      · rw [decide_eq_false (show ¬ (x.k : Int) ≤ (t : Int) by omega)]
        rw [if_neg (by simp [inR, ht]), List.append_nil] at hft
        repeat refine s1 ?_
        exact j_again (i + 1, out, oa, oc) ⟨by omega, by dsimp only; omega, by dsimp only; rw [hft, ← h3]⟩ (by dsimp only; omega) ⟨rfl, rfl, rfl, rfl, rfl, rfl, trivial⟩ (by first | exact Le.ent | (dsimp only; exact Le.ent) | (dsimp only [List.cons_append, List.nil_append]; exact Le.ent) | (dsimp only [List.cons_append, List.nil_append]; simp only [List.take_zero, List.map_nil, List.flatMap_nil, List.length_nil]; exact Le.ent))
    · rw [decide_eq_false (show ¬ (f : Int) ≤ (x.k : Int) by omega)]
      rw [if_neg (by simp [inR, hf]), List.append_nil] at hft
      repeat refine s1 ?_
      exact j_again (i + 1, out, oa, oc) ⟨by omega, by dsimp only; omega, by dsimp only; rw [hft, ← h3]⟩ (by dsimp only; omega) ⟨rfl, rfl, rfl, rfl, rfl, rfl, trivial⟩ (by first | exact Le.ent | (dsimp only; exact Le.ent) | (dsimp only [List.cons_append, List.nil_append]; exact Le.ent) | (dsimp only [List.cons_append, List.nil_append]; simp only [List.take_zero, List.map_nil, List.flatMap_nil, List.length_nil]; exact Le.ent))
  · have hi : i = l.length := by have := of_decide_eq_false hq; omega
    subst hi
    rw [List.take_length] at h3
    repeat refine s1 ?_
    refine jh [rowV oa out.length oc out] (fz ?_)
    exact f1 (out, oa, oc) (hq := h3)
theorem get_take {l : List RP} {i k : Nat} {x : RP} (h : l[i]? = some x) (h0 : get? k (kvs (l.take i)) = none) : get? k (kvs (l.take (i + 1))) = if x.k = k then some x.v else none := by
  rw [List.take_add_one, h, Option.toList_some, kvs, List.map_append, get_app]
  rw [kvs] at h0
  rw [h0, Option.none_or]
  simp only [List.map_cons, List.map_nil, get?]
  by_cases hk : x.k = k
  · simp [hk]
  · have : ¬ k = x.k := fun e => hk e.symm
    simp [hk, this]
theorem get_pre {l : List RP} {i k : Nat} {v : List Nat} (h : get? k (kvs (l.take i)) = some v) : get? k (kvs l) = some v := by
  conv => lhs; rw [← List.take_append_drop i l, kvs, List.map_append, get_app]
  rw [kvs] at h
  rw [h]; rfl
set_option maxHeartbeats 400000 in
theorem rget_c (a : Option Addr) (c k : Nat) (l : List RP) (hl : l.length ≤ 1000000) (Φ : Base) :
    Sl.Fn Tryz.prog Φ F.casemateref15_Get [.slice a l.length c, w64 k] [rowR a l.length c l, rvals l] (fun z : List Nat × Option Addr × Nat => z.1 = (get? k (kvs l)).getD z44) (fun z => .tuple #[.slice z.2.1 z.1.length z.2.2, .bool (get? k (kvs l)).isSome]) (fun z => [isl z.2.1 z.1.length z.2.2 T.uint8 1 (z.1.map u8)]) := by
  refine fo fun F => ?_
  repeat refine s1 ?_
  refine t_loop (σ := Nat) (fun z => [(6, i64 z), (0, .slice a l.length c), (1, w64 k)]) (fun z => rowR a l.length c l :: rvals l :: F)
    (fun z => z ≤ l.length ∧ get? k (kvs (l.take z)) = none) (fun z => l.length - z) 0 ⟨Nat.zero_le _, rfl⟩ ⟨rfl, rfl, rfl, trivial⟩ (by first | exact Le.ent | (dsimp only; exact Le.ent) | (dsimp only [List.cons_append, List.nil_append]; exact Le.ent) | (dsimp only [List.cons_append, List.nil_append]; simp only [List.take_zero, List.map_nil, List.flatMap_nil, List.length_nil]; exact Le.ent)) ?_
  rintro i ⟨h1, h2⟩
  refine jh [rowR a l.length c l] (j_leni (fun _ _ hla => ?_))
  repeat refine s1 ?_
  refine r_iop rfl rfl rfl rfl ?_
  repeat refine s1 ?_
  refine t_condSB rfl (fun hq => ?_) (fun hq => ?_)
  · have hi : i < l.length := by have := of_decide_eq_true hq; omega
    obtain ⟨lb, lo, rfl⟩ := hla (by omega)
    obtain ⟨x, hx⟩ : ∃ x, l[i]? = some x := ⟨_, List.getElem?_eq_getElem hi⟩
    have hat := rpc_at hx
    have hgt := get_take hx h2
    repeat refine s1 ?_
    refine ix rfl rfl hi ?_
    repeat refine s1 ?_
    refine r_loadI (off := lo) (n := l.length) (cap := c) (E := T.casemateref15_Pair) (s := 2) (xs := l.flatMap rpc) (v := w64 x.k) rfl (j := i * 2) (by omega) hat.1 rfl rfl ?_
    repeat refine s1 ?_
    refine r_icmp rfl rfl rfl rfl ?_
    by_cases hk : x.k = k
    · rw [decide_eq_true (show (x.k : Int) = (k : Int) by omega)]
      rw [if_pos hk] at hgt
      have hg := get_pre hgt
      repeat refine s1 ?_
      refine ix rfl rfl hi ?_
      repeat refine s1 ?_
      refine r_loadI (off := lo) (n := l.length) (cap := c) (E := T.casemateref15_Pair) (s := 2) (xs := l.flatMap rpc) (v := .slice x.a x.v.length x.c) rfl (j := i * 2 + 1) (by omega) hat.2 rfl rfl ?_
      repeat refine s1 ?_
      rw [hg]
      refine jh [rvals l] (j_ent (rvals_at (List.mem_of_getElem? hx) _) ?_)
      exact f2 (x.v, x.a, x.c) (hq := rfl)
    · rw [decide_eq_false (show ¬ (x.k : Int) = (k : Int) by omega)]
      rw [if_neg hk] at hgt
      repeat refine s1 ?_
      exact j_again (i + 1) ⟨by omega, hgt⟩ (by omega) ⟨rfl, rfl, rfl, trivial⟩ (by first | exact Le.ent | (dsimp only; exact Le.ent) | (dsimp only [List.cons_append, List.nil_append]; exact Le.ent) | (dsimp only [List.cons_append, List.nil_append]; simp only [List.take_zero, List.map_nil, List.flatMap_nil, List.length_nil]; exact Le.ent))
  · have hi : i = l.length := by have := of_decide_eq_false hq; omega
    subst hi
    rw [List.take_length] at h2
    rw [h2]
    repeat refine s1 ?_
    refine r_makeSlice (n := 44) (c := 44) rfl rfl (by decide) (by decide) (by decide) rfl rfl rfl (fun b => ?_)
    refine fz ?_
    repeat refine s1 ?_
    refine js [isl (some ⟨b, 0, none⟩) 44 44 T.uint8 1 (List.replicate 44 (Value.int .u8 0))] (B := isl (some ⟨b, 0, none⟩) z44.length 44 T.uint8 1 (z44.map u8)) (fun L => Ent.refl _) ?_
    exact f2 (z44, some ⟨b, 0, none⟩, 44) (hq := rfl)
/-- one step of Put. -/
def putS (x : RP) (s : Bool × List RP) (y : RP) : Bool × List RP :=
  let s1 := if !s.1 && decide (x.k ≤ y.k) then (true, s.2 ++ [x]) else s
  if y.k ≠ x.k then (s1.1, s1.2 ++ [y]) else s1
def putL (x : RP) (l : List RP) : List RP :=
  let s := l.foldl (putS x) (false, [])
  if s.1 then s.2 else s.2 ++ [x]
def bn : Bool → Nat
  | true => 0
  | false => 1
theorem putS_len (x : RP) : ∀ (l : List RP) (s : Bool × List RP), (l.foldl (putS x) s).2.length + bn (l.foldl (putS x) s).1 ≤ s.2.length + bn s.1 + l.length
  | [], s => Nat.le_refl _
  | y :: l, s => by
    have := putS_len x l (putS x s y)
    have h2 : (putS x s y).2.length + bn (putS x s y).1 ≤ s.2.length + bn s.1 + 1 := by
      obtain ⟨b, o⟩ := s
      unfold putS
      rcases b with _ | _ <;> by_cases h3 : x.k ≤ y.k <;> by_cases h4 : y.k = x.k <;> simp [h3, h4, bn]
    rw [List.foldl_cons, List.length_cons]
    omega
theorem putS_done (x : RP) : ∀ (l : List RP) (o : List RP), (∀ y ∈ l, y.k ≠ x.k) → l.foldl (putS x) (true, o) = (true, o ++ l)
  | [], o, _ => by simp
  | y :: l, o, h => by
    have h1 : putS x (true, o) y = (true, o ++ [y]) := by simp [putS, h y (by simp)]
    rw [List.foldl_cons, h1, putS_done x l _ (fun z hz => h z (by simp [hz]))]
    simp
theorem putS_ins (x : RP) : ∀ (l : List RP) (o : List RP), Srt (kvs l) → kvs (if (l.foldl (putS x) (false, o)).1 then (l.foldl (putS x) (false, o)).2 else (l.foldl (putS x) (false, o)).2 ++ [x]) = kvs o ++ ins x.k x.v (kvs l)
  | [], o, _ => by simp [kvs, ins]
  | y :: l, o, h => by
    obtain ⟨h1, h2⟩ := List.pairwise_cons.1 h
    have hgt : ∀ z ∈ l, y.k < z.k := fun z hz => h1 (z.k, z.v) (List.mem_map.2 ⟨z, hz, rfl⟩)
    rw [List.foldl_cons]
    by_cases h3 : x.k ≤ y.k
    · by_cases h4 : y.k = x.k
      · have hs : putS x (false, o) y = (true, o ++ [x]) := by simp [putS, h3, h4]
        rw [hs, putS_done x l _ (fun z hz => by have := hgt z hz; omega)]
        simp [kvs, ins, h4]
      · have hs : putS x (false, o) y = (true, o ++ [x] ++ [y]) := by simp [putS, h3, h4]
        rw [hs, putS_done x l _ (fun z hz => by have := hgt z hz; omega)]
        have : x.k < y.k := by omega
        simp [kvs, ins, this]
    · have hs : putS x (false, o) y = (false, o ++ [y]) := by simp [putS, h3]; intro h5; omega
      rw [hs, putS_ins x l _ h2]
      have h5 : ¬ x.k < y.k := by omega
      have h6 : ¬ x.k = y.k := by omega
      simp [kvs, ins, h5, h6]
theorem put_ins {x : RP} {l : List RP} (h : Srt (kvs l)) : kvs (putL x l) = ins x.k x.v (kvs l) := by
  have := putS_ins x l [] h
  simpa [putL] using this
theorem putL_eq (x : RP) (l : List RP) : putL x l = if (l.foldl (putS x) (false, [])).1 then (l.foldl (putS x) (false, [])).2 else (l.foldl (putS x) (false, [])).2 ++ [x] := rfl
theorem fold_take {x y : RP} {l : List RP} {i : Nat} (h : l[i]? = some y) : (l.take (i + 1)).foldl (putS x) (false, []) = putS x ((l.take i).foldl (putS x) (false, [])) y := by
  rw [List.take_add_one, h, Option.toList_some, List.foldl_append]; rfl
def step1 (x : RP) (s : Bool × List RP) (y : RP) : Bool × List RP := if !s.1 && decide (x.k ≤ y.k) then (true, s.2 ++ [x]) else s
theorem putS_eq (x : RP) (s : Bool × List RP) (y : RP) : putS x s y = if y.k ≠ x.k then ((step1 x s y).1, (step1 x s y).2 ++ [y]) else step1 x s y := rfl
theorem putS_mem (x : RP) : ∀ (l : List RP) (s : Bool × List RP) (z : RP), z ∈ (l.foldl (putS x) s).2 → z ∈ s.2 ∨ z = x ∨ z ∈ l
  | [], s, z, h => .inl h
  | y :: l, s, z, h => by
    rcases putS_mem x l (putS x s y) z h with h1 | h1 | h1
    · obtain ⟨b, o⟩ := s
      unfold putS at h1
      rcases b with _ | _ <;> by_cases h3 : x.k ≤ y.k <;> by_cases h4 : y.k = x.k <;> simp [h3, h4] at h1 ⊢ <;> grind
    · exact .inr (.inl h1)
    · exact .inr (.inr (by simp [h1]))
theorem putL_mem {x : RP} {l : List RP} {z : RP} (h : z ∈ putL x l) : z = x ∨ z ∈ l := by
  rw [putL_eq] at h
  split at h
  · rcases putS_mem x l _ z h with h1 | h1
    · cases h1
    · exact h1
  · rcases List.mem_append.1 h with h | h
    · rcases putS_mem x l _ z h with h1 | h1
      · cases h1
      · exact h1
    · exact .inl (by simpa using h)
set_option maxHeartbeats 1000000 in
theorem rput_c (a : Option Addr) (c : Nat) (p : RP) (l : List RP) (hl : l.length ≤ 1000000) (Φ : Base) :
    Sl.Fn Tryz.prog Φ F.casemateref15_Put [.slice a l.length c, w64 p.k, .slice p.a p.v.length p.c] [rowR a l.length c l] (fun z : List RP × Option Addr × Nat => z.1 = putL p l) (fun z => .slice z.2.1 z.1.length z.2.2) (fun z => [rowR z.2.1 z.1.length z.2.2 z.1]) := by
  refine fo fun F => ?_
  repeat refine s1 ?_
  refine j_ent (rowV_nil _) ?_
  refine t_loop (σ := Nat × Bool × List RP × Option Addr × Nat) (fun z => [(9, i64 z.1), (8, .bool z.2.1), (7, .slice z.2.2.2.1 z.2.2.1.length z.2.2.2.2), (0, .slice a l.length c), (1, w64 p.k), (2, .slice p.a p.v.length p.c)]) (fun z => rowV z.2.2.2.1 z.2.2.1.length z.2.2.2.2 z.2.2.1 :: rowR a l.length c l :: F)
    (fun z => z.1 ≤ l.length ∧ (z.2.1, z.2.2.1) = (l.take z.1).foldl (putS p) (false, [])) (fun z => l.length - z.1) (0, false, [], none, 0) ⟨Nat.zero_le _, rfl⟩ ⟨rfl, rfl, rfl, rfl, rfl, rfl, trivial⟩ (by first | exact Le.ent | (dsimp only; exact Le.ent) | (dsimp only [List.cons_append, List.nil_append]; exact Le.ent) | (dsimp only [List.cons_append, List.nil_append]; simp only [List.take_zero, List.map_nil, List.flatMap_nil, List.length_nil]; exact Le.ent)) ?_
  rintro ⟨i, dn, out, oa, oc⟩ ⟨h1, h3⟩
  dsimp only at h1 h3 ⊢
  have hln := putS_len p (l.take i) (false, [])
  rw [← h3, List.length_take_of_le h1] at hln
  have h2 : out.length ≤ i + 1 := by simp only [List.length_nil, bn] at hln; omega
  clear hln
  refine jh [rowR a l.length c l] (j_leni (fun _ _ hla => ?_))
  repeat refine s1 ?_
  refine r_iop rfl rfl rfl rfl ?_
  repeat refine s1 ?_
  refine t_condSB rfl (fun hq => ?_) (fun hq => ?_)
  · have hi : i < l.length := by have := of_decide_eq_true hq; omega
    obtain ⟨lb, lo, rfl⟩ := hla (by omega)
    obtain ⟨x, hx⟩ : ∃ x, l[i]? = some x := ⟨_, List.getElem?_eq_getElem hi⟩
    have hat := rpc_at hx
    have hft := fold_take (x := p) hx
    rw [← h3] at hft
    rcases dn with _ | _
    · repeat refine s1 ?_
      refine ix rfl rfl hi ?_
      repeat refine s1 ?_
      refine r_loadI (off := lo) (n := l.length) (cap := c) (E := T.casemateref15_Pair) (s := 2) (xs := l.flatMap rpc) (v := w64 x.k) rfl (j := i * 2) (by omega) hat.1 rfl rfl ?_
      repeat refine s1 ?_
      refine r_icmp rfl rfl rfl rfl ?_
      by_cases h4 : p.k ≤ x.k
      · rw [decide_eq_true (show (p.k : Int) ≤ (x.k : Int) by omega)]
        repeat refine s1 ?_
        refine r_build (cells := rpc p) rfl (by rfl) rfl ?_
        refine r_buildA1 (v := rpc p) rfl (by rfl) (by decide) (fun bv => ?_)
        refine r_append (n := out.length) (m := 1) (s := 2) (xs := out.flatMap rpc) (ys := rpc p) rfl rfl (by decide) (by rfl) (by simp [Value.oneCell']) (by omega) (by omega) rfl rfl (fun oa' oc' _ => ?_)
        rw [show out.flatMap rpc ++ rpc p = (out ++ [p]).flatMap rpc by simp, show out.length + 1 = (out ++ [p]).length by simp]
        have hst : step1 p (false, out) x = (true, out ++ [p]) := by simp [step1, h4]
        have hln2 : (out ++ [p]).length ≤ i + 2 := by rw [List.length_append, List.length_singleton]; omega
        generalize out ++ [p] = out at hst hln2 ⊢
        repeat refine s1 ?_
        refine ix rfl rfl hi ?_
        repeat refine s1 ?_
        refine r_loadI (off := lo) (n := l.length) (cap := c) (E := T.casemateref15_Pair) (s := 2) (xs := l.flatMap rpc) (v := w64 x.k) rfl (j := i * 2) (by omega) hat.1 rfl rfl ?_
        repeat refine s1 ?_
        refine r_icmp rfl rfl rfl rfl ?_
        by_cases h5 : x.k = p.k
        · rw [show (!decide ((x.k : Int) = (p.k : Int))) = false by simp [h5]]
          repeat refine s1 ?_
          exact j_again (i + 1, true, out, oa', oc') ⟨by omega, by dsimp only; rw [hft]; rw [putS_eq, hst, if_neg (by simp [h5])]⟩ (by dsimp only; omega) ⟨rfl, rfl, rfl, rfl, rfl, rfl, trivial⟩ (by first | exact Le.ent | (dsimp only; exact Le.ent) | (dsimp only [List.cons_append, List.nil_append]; exact Le.ent) | (dsimp only [List.cons_append, List.nil_append]; simp only [List.take_zero, List.map_nil, List.flatMap_nil, List.length_nil]; exact Le.ent))
        · rw [show (!decide ((x.k : Int) = (p.k : Int))) = true by simp; omega]
          repeat refine s1 ?_
          refine ix rfl rfl hi ?_
          repeat refine s1 ?_
          refine r_loadIA (off := lo) (n := l.length) (cap := c) (E := T.casemateref15_Pair) (s := 2) (xs := l.flatMap rpc) (vs := rpc x) rfl (j := i * 2) (by omega) (by rfl) (rpc_all hx) rfl rfl ?_
          refine r_buildA1 (v := rpc x) rfl (by rfl) (by decide) (fun bv => ?_)
          refine r_append (n := out.length) (m := 1) (s := 2) (xs := out.flatMap rpc) (ys := rpc x) rfl rfl (by decide) (by rfl) (by simp [Value.oneCell']) (by omega) (by omega) rfl rfl (fun ob' od' _ => ?_)
          rw [show out.flatMap rpc ++ rpc x = (out ++ [x]).flatMap rpc by simp, show out.length + 1 = (out ++ [x]).length by simp]
          repeat refine s1 ?_
          exact j_again (i + 1, true, out ++ [x], ob', od') ⟨by omega, by dsimp only; rw [hft]; rw [putS_eq, hst, if_pos h5]⟩ (by dsimp only; omega) ⟨rfl, rfl, rfl, rfl, rfl, rfl, trivial⟩ (by first | exact Le.ent | (dsimp only; exact Le.ent) | (dsimp only [List.cons_append, List.nil_append]; exact Le.ent) | (dsimp only [List.cons_append, List.nil_append]; simp only [List.take_zero, List.map_nil, List.flatMap_nil, List.length_nil]; exact Le.ent))
      · rw [decide_eq_false (show ¬ (p.k : Int) ≤ (x.k : Int) by omega)]
        have hst : step1 p (false, out) x = (false, out) := by simp [step1, h4]
        have hln2 : out.length ≤ i + 2 := by omega
        repeat refine s1 ?_
        refine ix rfl rfl hi ?_
        repeat refine s1 ?_
        refine r_loadI (off := lo) (n := l.length) (cap := c) (E := T.casemateref15_Pair) (s := 2) (xs := l.flatMap rpc) (v := w64 x.k) rfl (j := i * 2) (by omega) hat.1 rfl rfl ?_
        repeat refine s1 ?_
        refine r_icmp rfl rfl rfl rfl ?_
        by_cases h5 : x.k = p.k
        · rw [show (!decide ((x.k : Int) = (p.k : Int))) = false by simp [h5]]
          repeat refine s1 ?_
          exact j_again (i + 1, false, out, oa, oc) ⟨by omega, by dsimp only; rw [hft]; rw [putS_eq, hst, if_neg (by simp [h5])]⟩ (by dsimp only; omega) ⟨rfl, rfl, rfl, rfl, rfl, rfl, trivial⟩ (by first | exact Le.ent | (dsimp only; exact Le.ent) | (dsimp only [List.cons_append, List.nil_append]; exact Le.ent) | (dsimp only [List.cons_append, List.nil_append]; simp only [List.take_zero, List.map_nil, List.flatMap_nil, List.length_nil]; exact Le.ent))
        · rw [show (!decide ((x.k : Int) = (p.k : Int))) = true by simp; omega]
          repeat refine s1 ?_
          refine ix rfl rfl hi ?_
          repeat refine s1 ?_
          refine r_loadIA (off := lo) (n := l.length) (cap := c) (E := T.casemateref15_Pair) (s := 2) (xs := l.flatMap rpc) (vs := rpc x) rfl (j := i * 2) (by omega) (by rfl) (rpc_all hx) rfl rfl ?_
          refine r_buildA1 (v := rpc x) rfl (by rfl) (by decide) (fun bv => ?_)
          refine r_append (n := out.length) (m := 1) (s := 2) (xs := out.flatMap rpc) (ys := rpc x) rfl rfl (by decide) (by rfl) (by simp [Value.oneCell']) (by omega) (by omega) rfl rfl (fun ob' od' _ => ?_)
          rw [show out.flatMap rpc ++ rpc x = (out ++ [x]).flatMap rpc by simp, show out.length + 1 = (out ++ [x]).length by simp]
          repeat refine s1 ?_
          exact j_again (i + 1, false, out ++ [x], ob', od') ⟨by omega, by dsimp only; rw [hft]; rw [putS_eq, hst, if_pos h5]⟩ (by dsimp only; omega) ⟨rfl, rfl, rfl, rfl, rfl, rfl, trivial⟩ (by first | exact Le.ent | (dsimp only; exact Le.ent) | (dsimp only [List.cons_append, List.nil_append]; exact Le.ent) | (dsimp only [List.cons_append, List.nil_append]; simp only [List.take_zero, List.map_nil, List.flatMap_nil, List.length_nil]; exact Le.ent))
    · have hst : step1 p (true, out) x = (true, out) := by simp [step1]
      have hln2 : out.length ≤ i + 2 := by omega
      repeat refine s1 ?_
      refine ix rfl rfl hi ?_
      repeat refine s1 ?_
      refine r_loadI (off := lo) (n := l.length) (cap := c) (E := T.casemateref15_Pair) (s := 2) (xs := l.flatMap rpc) (v := w64 x.k) rfl (j := i * 2) (by omega) hat.1 rfl rfl ?_
      repeat refine s1 ?_
      refine r_icmp rfl rfl rfl rfl ?_
      by_cases h5 : x.k = p.k
      · rw [show (!decide ((x.k : Int) = (p.k : Int))) = false by simp [h5]]
        repeat refine s1 ?_
        exact j_again (i + 1, true, out, oa, oc) ⟨by omega, by dsimp only; rw [hft]; rw [putS_eq, hst, if_neg (by simp [h5])]⟩ (by dsimp only; omega) ⟨rfl, rfl, rfl, rfl, rfl, rfl, trivial⟩ (by first | exact Le.ent | (dsimp only; exact Le.ent) | (dsimp only [List.cons_append, List.nil_append]; exact Le.ent) | (dsimp only [List.cons_append, List.nil_append]; simp only [List.take_zero, List.map_nil, List.flatMap_nil, List.length_nil]; exact Le.ent))
      · rw [show (!decide ((x.k : Int) = (p.k : Int))) = true by simp; omega]
        repeat refine s1 ?_
        refine ix rfl rfl hi ?_
        repeat refine s1 ?_
        refine r_loadIA (off := lo) (n := l.length) (cap := c) (E := T.casemateref15_Pair) (s := 2) (xs := l.flatMap rpc) (vs := rpc x) rfl (j := i * 2) (by omega) (by rfl) (rpc_all hx) rfl rfl ?_
        refine r_buildA1 (v := rpc x) rfl (by rfl) (by decide) (fun bv => ?_)
        refine r_append (n := out.length) (m := 1) (s := 2) (xs := out.flatMap rpc) (ys := rpc x) rfl rfl (by decide) (by rfl) (by simp [Value.oneCell']) (by omega) (by omega) rfl rfl (fun ob' od' _ => ?_)
        rw [show out.flatMap rpc ++ rpc x = (out ++ [x]).flatMap rpc by simp, show out.length + 1 = (out ++ [x]).length by simp]
        repeat refine s1 ?_
        exact j_again (i + 1, true, out ++ [x], ob', od') ⟨by omega, by dsimp only; rw [hft]; rw [putS_eq, hst, if_pos h5]⟩ (by dsimp only; omega) ⟨rfl, rfl, rfl, rfl, rfl, rfl, trivial⟩ (by first | exact Le.ent | (dsimp only; exact Le.ent) | (dsimp only [List.cons_append, List.nil_append]; exact Le.ent) | (dsimp only [List.cons_append, List.nil_append]; simp only [List.take_zero, List.map_nil, List.flatMap_nil, List.length_nil]; exact Le.ent))
  · have hi : i = l.length := by have := of_decide_eq_false hq; omega
    subst hi
    rw [List.take_length] at h3
    have hpl := putL_eq p l
    rw [← h3] at hpl
    rcases dn with _ | _
    · repeat refine s1 ?_
      refine r_build (cells := rpc p) rfl (by rfl) rfl ?_
      refine r_buildA1 (v := rpc p) rfl (by rfl) (by decide) (fun bv => ?_)
      refine r_append (n := out.length) (m := 1) (s := 2) (xs := out.flatMap rpc) (ys := rpc p) rfl rfl (by decide) (by rfl) (by simp [Value.oneCell']) (by omega) (by omega) rfl rfl (fun oa' oc' _ => ?_)
      rw [show out.flatMap rpc ++ rpc p = (out ++ [p]).flatMap rpc by simp, show out.length + 1 = (out ++ [p]).length by simp]
      repeat refine s1 ?_
      refine jh [rowV oa' (out ++ [p]).length oc' (out ++ [p])] (fz ?_)
      exact f1 (out ++ [p], oa', oc') (hq := hpl.symm)
    · repeat refine s1 ?_
      refine jh [rowV oa out.length oc out] (fz ?_)
      exact f1 (out, oa, oc) (hq := hpl.symm)
end Go.Proofs.YtcnpkmdooekmgaaGreatDoor
namespace Go.Proofs.YtcnpkmdooekmgaaGreatDoor
open Go Sl
theorem imm_isl {b n cap s : Nat} {E U : TypeId} {fr : Nat × Nat} {xs : List Value} (h1 : xs.length = n * s) (h2 : n ≤ cap) (L : List Assn) : Ent (imm b (.cells xs.toArray U fr) :: L) (isl (some ⟨b, 0, none⟩) n cap E s xs :: L) := by
  rintro im h ⟨a1, a2, e1, e2, e3, hb, s⟩
  exact ⟨a1, a2, e1, e2, e3, ⟨h1, h2, .inr ⟨b, 0, _, U, fr, rfl, hb, fun j x hj => by simpa using hj⟩⟩, s⟩
theorem pcell_at {o : KV} (hv : ∀ x ∈ o, x.2.length = 44) {i : Nat} {x : Nat × List Nat} (h : o[i]? = some x) : ∀ (j : Nat) (v : Value), (pcell x)[j]? = some v → (o.flatMap pcell)[i * 45 + j]? = some v := fun j v hj => by
  have hx := hv x (List.mem_of_getElem? h)
  rw [flat_in (f := pcell) (c := 45) (l := o) (fun z hz => by simp [hv z hz]) h (by have := (List.getElem?_eq_some_iff.1 hj).1; simpa [hx] using this)]
  exact hj
section
variable {X : Cx} {e : Env} {L A : List Assn} {S : List Nat} {ops : Array Oper} {k : Nat} {l : List Oper} {R : Act → World → Prop} {d : Nat} {T : TypeId} {pos : String} {af : Array Edge}
/-- a row's string, where the row stays. -/
theorem s_toStr {t u el : TypeId} {x : Operand} {a : Option Addr} {n cap : Nat} (xs : List Nat) [ts : TUnd X.P t (.slice el)] [te : TUnd X.P el (.int .u8)] [td : TUnd X.P u .string] (hx : ev e x = some (.slice a n cap)) {vs : List Value} [g : RdS a n 1 vs A] (hv : vs = xs.map u8)
    (h : J X ((d, .string (bstr xs)) :: e) L (sw X.P (Holds X.Φ A) S ops R (k + 1) l)) (hd : Nat.blt d X.n = true := by rfl) (hs : S.contains k = true := by rfl) : J X e L (sw X.P (Holds X.Φ A) S ops R k (⟨some d, .convert t u x, T, pos, af, none⟩ :: l)) :=
  r_stable rfl hs rfl hd (fun act w m hh => by
    have hr : Reads w a n 1 (xs.map u8) := by rw [← hv]; exact hh.rds
    have h1 := run_toStr (P := X.P) (src := t) (dst := u) (cap := cap) hr
    simp only [execOp, m.ev hx, Sem.run_bind, h1, Result.andThen_ok, Sem.run_pure]) h
end
section
variable {X : Cx} {e : Env} {L A : List Assn} {S : List Nat} {ops : Array Oper} {k : Nat} {l : List Oper} {R : Act → World → Prop} {d : Nat} {T : TypeId} {pos : String} {af : Array Edge}
theorem r_strne {t u : TypeId} {x y : Operand} {xs ys : List Nat} [tu : TUnd X.P t .string] (hx : ev e x = some (.string (bstr xs))) (hy : ev e y = some (.string (bstr ys))) (h1 : ∀ x ∈ xs, x < 256) (h2 : ∀ y ∈ ys, y < 256)
    (h : J X ((d, .bool (!decide (xs = ys))) :: e) L (sw X.P (Holds X.Φ A) S ops R (k + 1) l)) (hd : Nat.blt d X.n = true := by rfl) : J X e L (sw X.P (Holds X.Φ A) S ops R k (⟨some d, .binOp .neq t x y u, T, pos, af, none⟩ :: l)) :=
  r_pure rfl (fun a m w => by
    have h3 : (binOp .neq t (.string (bstr xs)) (.string (bstr ys))).run X.P w = .ok (.bool (!decide (xs = ys))) w := by
      have h4 : ((bstr xs).toList == (bstr ys).toList) = decide (xs = ys) := bstr_beq h1 h2
      have h5 : ((bstr xs).toList != (bstr ys).toList) = !decide (xs = ys) := by rw [bne, h4]
      have h6 : (binOp .neq t (.string (bstr xs)) (.string (bstr ys))).run X.P w = .ok (.bool ((bstr xs).toList != (bstr ys).toList)) w := by
        simp [binOp, Op.stringOp, tu.run, go_sem]
        rw [bne, Bool.not_not]
      rw [h6, h5]
    have h4 : eqGuard .neq t x y (.string (bstr xs)) (.string (bstr ys)) = pure () := rfl
    simp only [execOp, m.ev hx, m.ev hy, Sem.run_bind, h4, Sem.run_pure, h3, Result.andThen_ok]) hd h
end
abbrev mkq (key : Nat) (u : List Nat) (t5 : Nat) : RP := ⟨key, u, some ⟨t5, 0, none⟩, 44⟩
attribute [local irreducible] cw sw J Exit.then Exit.inBlock Exit.noGoto bodyPost swG swL permL
theorem as_c (a : Option Addr) (c : Nat) (o : KV) (hl : o.length ≤ 1000000) (hv : ∀ x ∈ o, x.2.length = 44) (Φ : Base) :
    Sl.Fn Tryz.prog Φ F.casematelaw15_As [.slice a o.length c] [isl a o.length c T.mtree_Pair 45 (o.flatMap pcell)] (fun z : List RP × Option Addr × Nat => kvs z.1 = o) (fun z => .slice z.2.1 z.1.length z.2.2) (fun z => [rowR z.2.1 z.1.length z.2.2 z.1, rvals z.1]) := by
  refine fo fun F => ?_
  repeat refine s1 ?_
  refine j_ent (rowV_nil _) ?_
  refine j_ent (rvals_nil _) ?_
  refine t_loop (σ := Nat × List RP × Option Addr × Nat) (fun z => [(4, i64 z.1), (3, .slice z.2.2.1 z.2.1.length z.2.2.2), (0, .slice a o.length c)]) (fun z => rvals z.2.1 :: rowV z.2.2.1 z.2.1.length z.2.2.2 z.2.1 :: isl a o.length c T.mtree_Pair 45 (o.flatMap pcell) :: F)
    (fun z => z.1 ≤ o.length ∧ kvs z.2.1 = o.take z.1) (fun z => o.length - z.1) (0, [], none, 0) ⟨Nat.zero_le _, rfl⟩ ⟨rfl, rfl, rfl, trivial⟩ (by first | exact Le.ent | (dsimp only; exact Le.ent) | (dsimp only [List.cons_append, List.nil_append]; exact Le.ent) | (dsimp only [List.cons_append, List.nil_append]; simp only [List.take_zero, List.map_nil, List.flatMap_nil, List.length_nil]; exact Le.ent)) ?_
  rintro ⟨i, out, oa, oc⟩ ⟨h1, h2⟩
  dsimp only at h1 h2 ⊢
  have hol : out.length = i := by have := congrArg List.length h2; rw [List.length_map, List.length_take_of_le h1] at this; exact this
  refine jh [isl a o.length c T.mtree_Pair 45 (o.flatMap pcell)] (j_leni (fun _ _ hla => ?_))
  repeat refine s1 ?_
  refine r_iop rfl rfl rfl rfl ?_
  repeat refine s1 ?_
  refine t_condSB rfl (fun hq => ?_) (fun hq => ?_)
  · have hi : i < o.length := by have := of_decide_eq_true hq; omega
    obtain ⟨lb, lo, rfl⟩ := hla (by omega)
    obtain ⟨x, hx⟩ : ∃ x, o[i]? = some x := ⟨_, List.getElem?_eq_getElem hi⟩
    obtain ⟨key, u⟩ := x
    have hat := pcell_at hv hx
    have hul : u.length = 44 := hv _ (List.mem_of_getElem? hx)
    have htk : o.take (i + 1) = o.take i ++ [(key, u)] := by rw [List.take_add_one, hx]; rfl
    repeat refine s1 ?_
    refine ix rfl rfl hi ?_
    repeat refine s1 ?_
    refine r_loadIA (off := lo) (n := o.length) (cap := c) (E := T.mtree_Pair) (s := 45) (xs := o.flatMap pcell) (vs := u.map u8) rfl (j := i * 45 + 1) (by omega) (by simp [hul]) (fun j v hj => by rw [Nat.add_assoc, Nat.add_comm 1 j]; exact hat (j + 1) v (by simpa using hj)) rfl rfl ?_
    refine al (cs := z44.map u8) (fun t5 => ?_)
    refine r_storeW (vs := u.map u8) rfl rfl (by simp [hul]) (by rfl) (by simp [Value.oneCell']) rfl ?_
    repeat refine s1 ?_
    refine ix rfl rfl hi ?_
    repeat refine s1 ?_
    refine r_loadI (off := lo) (n := o.length) (cap := c) (E := T.mtree_Pair) (s := 45) (xs := o.flatMap pcell) (v := w64 key) rfl (j := i * 45) (by omega) (hat 0 _ rfl) rfl rfl ?_
    repeat refine s1 ?_
    rw [show (Value.slice (some ⟨t5, 0, none⟩) 44 44) = .slice (some ⟨t5, 0, none⟩) u.length 44 by rw [hul]]
    refine r_build (cells := rpc (mkq key u t5)) rfl (by rfl) rfl ?_
    refine r_buildA1 (v := rpc (mkq key u t5)) rfl (by rfl) (by decide) (fun bv => ?_)
    refine r_append (n := out.length) (m := 1) (s := 2) (xs := out.flatMap rpc) (ys := rpc (mkq key u t5)) rfl rfl (by decide) (by rfl) (by simp [Value.oneCell']) (by omega) (by omega) rfl rfl (fun oa' oc' _ => ?_)
    rw [show out.flatMap rpc ++ rpc (mkq key u t5) = (out ++ [mkq key u t5]).flatMap rpc by simp, show out.length + 1 = (out ++ [mkq key u t5]).length by simp]
    repeat refine s1 ?_
    refine j_freeze t5 ?_
    refine j_ent (imm_isl (n := u.length) (cap := 44) (E := T.uint8) (s := 1) (by simp) (by omega) _) ?_
    refine js [valA (mkq key u t5)] (B := rvals [mkq key u t5]) (fun L => rvals_one _ L) ?_
    refine js [rvals out, rvals [mkq key u t5]] (B := rvals (out ++ [mkq key u t5])) (fun L => rvals_app _ _ L) ?_
    exact j_again (i + 1, out ++ [mkq key u t5], oa', oc') ⟨by omega, by dsimp only; rw [htk, ← h2]; simp [kvs]⟩ (by dsimp only; omega) ⟨rfl, rfl, rfl, trivial⟩ (by first | exact Le.ent | (dsimp only; exact Le.ent) | (dsimp only [List.cons_append, List.nil_append]; exact Le.ent) | (dsimp only [List.cons_append, List.nil_append]; simp only [List.take_zero, List.map_nil, List.flatMap_nil, List.length_nil]; exact Le.ent))
  · have hi : i = o.length := by have := of_decide_eq_false hq; omega
    subst hi
    rw [List.take_length] at h2
    repeat refine s1 ?_
    refine jh [rowV oa out.length oc out] (fz ?_)
    exact f1 (out, oa, oc) (hq := h2)
theorem same_c (a b : Option Addr) (c d : Nat) (l m : List RP) (hl : l.length ≤ 1000000) (hb1 : ∀ x ∈ l, ∀ y ∈ x.v, y < 256) (hb2 : ∀ x ∈ m, ∀ y ∈ x.v, y < 256) (Φ : Base) :
    Sl.Fn Tryz.prog Φ F.casemateref15_Same [.slice a l.length c, .slice b m.length d] [rowR a l.length c l, rvals l, rowR b m.length d m, rvals m] (fun _ : Unit => True) (fun _ => .bool (decide (kvs l = kvs m))) (fun _ => []) := by
  refine fo fun F => ?_
  repeat refine s1 ?_
  refine r_icmp rfl rfl rfl rfl ?_
  by_cases hlm : l.length = m.length
  · rw [show (!decide ((l.length : Int) = (m.length : Int))) = false by simp [hlm]]
    repeat refine s1 ?_
    refine t_loop (σ := Nat) (fun z => [(5, i64 z), (0, .slice a l.length c), (1, .slice b m.length d)]) (fun z => rowR a l.length c l :: rvals l :: rowR b m.length d m :: rvals m :: F)
      (fun z => z ≤ l.length ∧ kvs (l.take z) = kvs (m.take z)) (fun z => l.length - z) 0 ⟨Nat.zero_le _, rfl⟩ ⟨rfl, rfl, rfl, trivial⟩ (by first | exact Le.ent | (dsimp only; exact Le.ent) | (dsimp only [List.cons_append, List.nil_append]; exact Le.ent) | (dsimp only [List.cons_append, List.nil_append]; simp only [List.take_zero, List.map_nil, List.flatMap_nil, List.length_nil]; exact Le.ent)) ?_
    rintro i ⟨h1, h2⟩
    refine jh [rowR b m.length d m] (j_leni (fun _ _ hlb => ?_))
    refine jh [rowR a l.length c l] (j_leni (fun _ _ hla => ?_))
    repeat refine s1 ?_
    refine r_iop rfl rfl rfl rfl ?_
    repeat refine s1 ?_
    refine t_condSB rfl (fun hq => ?_) (fun hq => ?_)
    · have hi : i < l.length := by have := of_decide_eq_true hq; omega
      obtain ⟨lb, lo, rfl⟩ := hla (by omega)
      obtain ⟨mb, mo, rfl⟩ := hlb (by omega)
      obtain ⟨x, hx⟩ : ∃ x, l[i]? = some x := ⟨_, List.getElem?_eq_getElem hi⟩
      obtain ⟨y, hy⟩ : ∃ y, m[i]? = some y := ⟨_, List.getElem?_eq_getElem (by omega)⟩
      have hat := rpc_at hx
      have hbt := rpc_at hy
      have hxy : kvs (l.take (i + 1)) = kvs (m.take (i + 1)) ↔ x.k = y.k ∧ x.v = y.v := by
        rw [List.take_add_one, List.take_add_one, hx, hy, Option.toList_some, Option.toList_some, kvs, kvs, List.map_append, List.map_append, ← kvs, ← kvs, h2]
        simp
      have hno : kvs (l.take (i + 1)) ≠ kvs (m.take (i + 1)) → kvs l ≠ kvs m := fun h3 h4 => h3 (by
        rw [kvs, kvs, List.map_take, List.map_take]
        rw [kvs, kvs] at h4
        rw [h4])
      refine jh [rvals l] (j_ent (rvals_at (List.mem_of_getElem? hx) _) ?_)
      refine jh [rvals m] (j_ent (rvals_at (List.mem_of_getElem? hy) _) ?_)
      repeat refine s1 ?_
      refine t_draw [valA x, valA y] [17, 23] mixed (by decide +kernel) ?_
      repeat refine s1 ?_
      refine ix rfl rfl hi ?_
      repeat refine s1 ?_
      refine r_loadI (off := lo) (n := l.length) (cap := c) (E := T.casemateref15_Pair) (s := 2) (xs := l.flatMap rpc) (v := w64 x.k) rfl (j := i * 2) (by omega) hat.1 rfl rfl ?_
      repeat refine s1 ?_
      refine ix rfl rfl (by omega) ?_
      repeat refine s1 ?_
      refine r_loadI (off := mo) (n := m.length) (cap := d) (E := T.casemateref15_Pair) (s := 2) (xs := m.flatMap rpc) (v := w64 y.k) rfl (j := i * 2) (by omega) hbt.1 rfl rfl ?_
      repeat refine s1 ?_
      refine r_icmp rfl rfl rfl rfl ?_
      by_cases hk : x.k = y.k
      · rw [show (!decide ((x.k : Int) = (y.k : Int))) = false by simp [hk]]
        repeat refine s1 ?_
        refine ix rfl rfl hi ?_
        repeat refine s1 ?_
        refine r_loadI (off := lo) (n := l.length) (cap := c) (E := T.casemateref15_Pair) (s := 2) (xs := l.flatMap rpc) (v := .slice x.a x.v.length x.c) rfl (j := i * 2 + 1) (by omega) hat.2 rfl rfl ?_
        repeat refine s1 ?_
        refine s_toStr x.v rfl rfl ?_
        repeat refine s1 ?_
        refine ix rfl rfl (by omega) ?_
        repeat refine s1 ?_
        refine r_loadI (off := mo) (n := m.length) (cap := d) (E := T.casemateref15_Pair) (s := 2) (xs := m.flatMap rpc) (v := .slice y.a y.v.length y.c) rfl (j := i * 2 + 1) (by omega) hbt.2 rfl rfl ?_
        repeat refine s1 ?_
        refine s_toStr y.v rfl rfl ?_
        repeat refine s1 ?_
        refine r_strne rfl rfl (hb1 x (List.mem_of_getElem? hx)) (hb2 y (List.mem_of_getElem? hy)) ?_
        by_cases hv : x.v = y.v
        · rw [decide_eq_true hv, Bool.not_true]
          repeat refine s1 ?_
          exact j_again (i + 1) ⟨by omega, hxy.2 ⟨hk, hv⟩⟩ (by omega) ⟨rfl, rfl, rfl, trivial⟩ (by first | exact Le.ent | (dsimp only; exact Le.ent) | (dsimp only [List.cons_append, List.nil_append]; exact Le.ent) | (dsimp only [List.cons_append, List.nil_append]; simp only [List.take_zero, List.map_nil, List.flatMap_nil, List.length_nil]; exact Le.ent))
        · rw [decide_eq_false hv, Bool.not_false]
          rw [decide_eq_false (hno (fun h3 => hv (hxy.1 h3).2))]
          repeat refine s1 ?_
          exact f1 ()
      · rw [show (!decide ((x.k : Int) = (y.k : Int))) = true by simp; omega]
        rw [decide_eq_false (hno (fun h3 => hk (hxy.1 h3).1))]
        repeat refine s1 ?_
        exact f1 ()
    · have hi : i = l.length := by have := of_decide_eq_false hq; omega
      subst hi
      rw [List.take_length, hlm, List.take_length] at h2
      rw [decide_eq_true h2]
      repeat refine s1 ?_
      exact f1 ()
  · rw [show (!decide ((l.length : Int) = (m.length : Int))) = true by simp; omega]
    have hne : kvs l ≠ kvs m := fun h => hlm (by have := congrArg List.length h; simpa [kvs] using this)
    rw [decide_eq_false hne]
    repeat refine s1 ?_
    exact f1 ()
end Go.Proofs.YtcnpkmdooekmgaaGreatDoor
namespace Go.Proofs.YtcnpkmdooekmgaaGreatDoor
open Go Sl
def valL (by_ key : Nat) : List Nat := by_ :: (key % 256) :: (List.replicate 41 0 ++ [by_])
theorem valL_bytes {b k : Nat} (h : b < 256) : bytes 44 (valL b k) := ⟨by simp [valL], fun x hx => by
  simp only [valL, List.mem_cons, List.mem_append, List.mem_replicate, List.not_mem_nil, or_false] at hx
  omega⟩
section
variable {X : Cx} {e : Env} {L A : List Assn} {S : List Nat} {ops : Array Oper} {k : Nat} {l : List Oper} {R : Act → World → Prop} {d : Nat} {T : TypeId} {pos : String} {af : Array Edge}
theorem r_buildF {t : TypeId} {parts : Array (Nat × Operand)} {vs : List (Nat × Value)} {cells : List Value} (hp : evP e parts.toList = some vs) (hb : X.P.built t vs = some cells.toArray)
    (h : J X ((d, .agg cells.toArray) :: e) L (sw X.P (Holds X.Φ A) S ops R (k + 1) l)) (hd : Nat.blt d X.n = true := by rfl) : J X e L (sw X.P (Holds X.Φ A) S ops R k (⟨some d, .build t parts, T, pos, af, none⟩ :: l)) :=
  r_pure rfl (fun a m w => by
    have e1 : (parts.map fun (i, x) => (i, a.eval x)).toList = vs := by rw [← m.evP hp, Array.toList_map]
    have h1 : (Instr.build t (parts.map fun (i, x) => (i, a.eval x))).run X.P w = .ok (.agg cells.toArray) w := run_build w t _ _ (by rw [e1, hb])
    simp only [execOp, Sem.run_bind, h1, Result.andThen_ok, Sem.run_pure]) hd h
end
theorem wrap8 (k : Nat) : IntKind.u8.wrap (k : Int) = ((k % 256 : Nat) : Int) := by simp [IntKind.wrap, IntKind.signed, IntKind.bits]
theorem built51 (u v w : Value) (hu : u.cells = #[u]) (hv : v.cells = #[v]) (hw : w.cells = #[w]) : Program.built Tryz.prog 51 [(0, u), (1, v), (43, w)] = some ([u, v] ++ List.replicate 41 (u8 0) ++ [w]).toArray := by
  have h1 : Program.built Tryz.prog 51 [(0, u), (1, v), (43, w)] = Instr.fill (fun i => some (i * 1, 1)) (List.replicate 44 (u8 0)).toArray [(0, u), (1, v), (43, w)] := by kernel_rfl
  rw [h1]
  simp [Instr.fill, hu, hv, hw]
  done
attribute [local irreducible] cw sw J Exit.then Exit.inBlock Exit.noGoto bodyPost swG swL permL
theorem val_c (b k : Nat) (Φ : Base) : Sl.Fn Tryz.prog Φ F.casematelaw15_Val [u8 b, w64 k] [] (fun _ : Unit => True) (fun _ => v44 (valL b k)) (fun _ => []) := by
  refine fo fun F => ?_
  repeat refine s1 ?_
  refine al (cs := z44.map u8) (fun t4 => ?_)
  repeat refine s1 ?_
  rw [wrap8]
  refine r_buildF (cells := (valL b k).map u8) rfl ?_ ?_
  · rw [built51 _ _ _ rfl rfl rfl]; simp [valL]
  refine r_storeW (vs := (valL b k).map u8) rfl rfl (by rfl) (by rfl) (by simp [Value.oneCell']) rfl ?_
  repeat refine s1 ?_
  exact j_fin rfl (.cons (rv_agg (l := (valL b k).map u8) (U := T.a44_uint8) (fr := (0, 0)) rfl (by rfl)) .nil) () rfl trivial
abbrev Dk0 (n : Nat) : Dk := ⟨n, fun _ => none, fun _ => none, [], reg0, 0, false, 0, false⟩
theorem begin_c (n : Nat) (h1 : 1 ≤ n) (h2 : n ≤ 60000) (Φ : Base) : Sl.Fn Tryz.prog Φ F.casematelaw15_Begin [i64 n] [] (fun _ : Nat × Nat × Nat => True) (fun z => .tuple #[ptr z.1, ptr z.2.1, .bool true]) (fun z => [store z.2.1 (St0 z.1 z.2.2 3 n), disk z.1 (Dk0 (n + 3)), hlog z.2.2 0]) := by
  refine fo fun F => ?_
  repeat refine s1 ?_
  refine r_addN (m := n) (n := 3) rfl rfl (by omega) rfl ?_
  refine cx (dnew_c (n + 3) (by omega) (by omega) Φ) (fun pd _ => ?_)
  repeat refine s2 ?_
  refine cx (hlognew_c Φ) (fun pl _ => ?_)
  refine cx (snew_c pd pl 3 n (Dk0 (n + 3)) h1 (by show 3 + n ≤ n + 3; omega) Φ) (fun ps _ => ?_)
  repeat refine s2 ?_
  exact f3 (pd, ps, pl)
theorem all_c (ps pd pl N : Nat) (S : St) (D : Dk) (t : Tre) (ht : TOk S.g t) (hS : S.wf) (ha : Agr S D) (hN : N ≤ 600000000) (hkv : t.kv.length ≤ 1000000) (hpd : S.pd = pd) (hpl : S.pl = pl) (Φ : Base) :
    Sl.Fn Tryz.prog Φ F.casematelaw15_All [ptr t.p] [tree t.p ps t.rt, store ps S, disk pd D, hlog pl N] (fun z : List RP × Option Addr × Nat => (D.down = false ∨ t.rt = none) → kvs z.1 = t.kv) (fun z => .tuple #[.slice z.2.1 z.1.length z.2.2, .bool (decide (D.down = false ∨ t.rt = none))])
      (fun z => [rowR z.2.1 z.1.length z.2.2 z.1, rvals z.1, tree t.p ps t.rt, store ps S, disk pd D, hlog pl (N + t.kv.length + 1)]) := by
  have hall : rngO D t 0 18446744073709551615 1048576 = if D.down = false ∨ t.rt = none then t.kv else [] := by
    have hf : rngL 0 18446744073709551615 1048576 t.kv = t.kv := by
      unfold rngL
      rw [show t.kv.filter (fun x => decide (0 ≤ x.1)) = t.kv from List.filter_eq_self.2 (fun x hx => by simp), List.filter_eq_self.2 (fun x hx => by have := (ht.kvok x hx).1; simp; omega), List.take_of_length_le (by show _ ≤ 1048576; omega)]
    unfold rngO
    rcases hr : t.rt with _ | r
    · simp [ht.nil hr]
    · rcases hd : D.down with _ | _
      · simp [hf]
      · simp
  have hE : rngE D t 0 18446744073709551615 1048576 = if D.down = false ∨ t.rt = none then 0 else 30 := by
    unfold rngE
    rcases hr : t.rt with _ | r
    · simp
    · rcases hd : D.down with _ | _ <;> simp
  have hlen : ∀ x ∈ rngO D t 0 18446744073709551615 1048576, x.2.length = 44 := fun x hx => by
    rw [hall] at hx
    split at hx
    · exact (ht.kvok x hx).2.1
    · cases hx
  have hll : (rngO D t 0 18446744073709551615 1048576).length ≤ 1000000 := by
    rw [hall]
    split
    · exact hkv
    · simp
  refine fo fun F => ?_
  repeat refine s1 ?_
  refine cx (trange_c ps pd pl N 0 18446744073709551615 1048576 S D t ht hS ha hN hkv hpd hpl Φ) (fun x _ => ?_)
  obtain ⟨oa, oc⟩ := x
  dsimp only
  generalize rngO D t 0 18446744073709551615 1048576 = o at hall hlen hll ⊢
  rw [hE]
  refine jh [prow oa o.length oc o] (fz ?_)
  repeat refine s1 ?_
  refine cx (as_c oa oc o hll hlen Φ) (fun z hz => ?_)
  repeat refine s1 ?_
  refine r_icmp rfl rfl rfl rfl ?_
  repeat refine s1 ?_
  exact f2 z (hV := by by_cases hP : D.down = false ∨ t.rt = none <;> simp [hP]) (hq := fun hP => by rw [hall, if_pos hP] at hz; exact hz)
end Go.Proofs.YtcnpkmdooekmgaaGreatDoor
namespace Go.Proofs.YtcnpkmdooekmgaaGreatDoor
open Go Sl
/-- a play: a store and its trees; the disk fails by no plan. -/
structure Lv (pd pl n : Nat) (S : St) (D : Dk) (ts : List Tre) : Prop where
  ok : TsOk S ts
  agr : Agr S D
  cnt : S.cnt = n
  plan : D.plan = false
  up : D.down = false
  pd : S.pd = pd
  pl : S.pl = pl
theorem Lv.begin (pd pl n p : Nat) : Lv pd pl n (St0 pd pl 3 n) (Dk0 (n + 3)) [⟨p, none, []⟩] :=
  ⟨⟨fun s => by simp [hold, hd1], St0_wf _ _ _ _, fun s hs => absurd rfl hs, fun t ht => by simp only [List.mem_singleton] at ht; subst ht; rfl⟩,
    ⟨fun s hs => absurd rfl hs, by show 3 + n ≤ n + 3; omega, by show 0 ≤ _; decide⟩, rfl, rfl, rfl, rfl, rfl⟩
theorem Lv.room {pd pl n : Nat} {S : St} {D : Dk} {ts : List Tre} (h : Lv pd pl n S D ts) : 3 * card S.K ≤ (ts.map fun t => t.kv.length + 2).sum := h.ok.used
/-- a change that had room is done. -/
theorem Lv.done {pd pl n : Nat} {S : St} {D : Dk} {A B : List Tre} {t : Tre} {kv' : KV} {Y : Prop} {x : Nat × Option Rf × St × Dk} (h : Lv pd pl n S D (A ++ t :: B)) (q : TrQ S D A B t kv' Y x) (hr : card S.K + (2 * Nat.log2 t.kv.length + 4) < n) (hy : ¬ Y) :
    x.1 = 0 ∧ Lv pd pl n x.2.2.1 x.2.2.2 (A ++ ⟨t.p, x.2.1, kv'⟩ :: B) := by
  have hu := q.dle.up h.plan
  have h0 : x.1 = 0 := by
    rcases Nat.eq_zero_or_pos x.1 with h0 | h0
    · exact h0
    · rcases (q.er (by omega)).2.2.2 with ⟨_, h1⟩ | ⟨_, h1⟩ | ⟨_, h1⟩
      · rw [h.cnt] at h1; omega
      · rw [hu, h.up] at h1; cases h1
      · exact absurd h1 hy
  exact ⟨h0, q.ok h0, q.agr, q.cnt.trans h.cnt, q.dle.plan.trans h.plan, hu.trans h.up, q.pd.trans h.pd, q.pl.trans h.pl⟩
theorem card_pos {K : Kp} (hf : ∃ l, Rep l K) {s : Nat} (hs : K s ≠ none) : 1 ≤ card K := by
  obtain ⟨l, hl⟩ := hf
  rw [card_rep hl]
  have := (rep_keys hl s).2 hs
  cases l with
  | nil => simp at this
  | cons a l => simp
theorem built51o (u : Value) (hu : u.cells = #[u]) : Program.built Tryz.prog 51 [(0, u)] = some ([u] ++ List.replicate 43 (u8 0)).toArray := by
  have h1 : Program.built Tryz.prog 51 [(0, u)] = Instr.fill (fun i => some (i * 1, 1)) (List.replicate 44 (u8 0)).toArray [(0, u)] := by kernel_rfl
  rw [h1]
  simp [Instr.fill, hu]
def oneL (b : Nat) : List Nat := b :: List.replicate 43 0
theorem oneL_bytes {b : Nat} (h : b < 256) : bytes 44 (oneL b) := ⟨by simp [oneL], fun x hx => by
  simp only [oneL, List.mem_cons, List.mem_replicate] at hx
  omega⟩
attribute [local irreducible] cw sw J Exit.then Exit.inBlock Exit.noGoto bodyPost swG swL permL
set_option maxHeartbeats 1000000 in
theorem alive_c (Φ : Base) (hT : Tab Φ) : Sl.Fn Tryz.prog Φ F.casematelaw15_alive [] [] (fun _ : Unit => True) (fun _ => .bool true) (fun _ => []) := by
  refine fo fun F => ?_
  repeat refine s1 ?_
  refine cx (begin_c 20 (by decide) (by decide) Φ) (fun z _ => ?_)
  obtain ⟨pd, ps, pl⟩ := z
  dsimp only
  repeat refine s1 ?_
  refine cx (tnew_c ps Φ) (fun tp _ => ?_)
  repeat refine s1 ?_
  refine r_buildF (cells := (oneL 7).map u8) rfl ?_ ?_
  · rw [built51o _ rfl]; simp [oneL]
  have l0 := Lv.begin pd pl 20 tp
  refine cx (tput_c ps pd pl 0 1 (oneL 7) (St0 pd pl 3 20) (Dk0 23) [] [] ⟨tp, none, []⟩ (by decide) (oneL_bytes (by decide)) l0.ok l0.agr (by decide) (by show 0 ≤ _; decide) (by show 0 ≤ _; decide) (by show 1 ≤ _; decide) rfl rfl Φ hT) (fun x hx => ?_)
  obtain ⟨hx0, l1⟩ := l0.done hx (by have := l0.room; simp at this ⊢; omega) (fun h => h)
  obtain ⟨e1, o1, S1, D1⟩ := x
  dsimp only at hx0 l1 ⊢
  subst hx0
  have l1 : Lv pd pl 20 S1 D1 [⟨tp, o1, [(1, oneL 7)]⟩] := l1
  have w1 : D1.waits.length ≤ 70 := by have := hx.dle.len; simpa using this
  repeat refine s1 ?_
  refine r_buildF (cells := (oneL 8).map u8) rfl ?_ ?_
  · rw [built51o _ rfl]; simp [oneL]
  refine cx (tput_c ps pd pl 200 2 (oneL 8) S1 D1 [] [] ⟨tp, o1, [(1, oneL 7)]⟩ (by decide) (oneL_bytes (by decide)) l1.ok l1.agr (by decide) (by omega) (by show 1 ≤ _; decide) (by show 1 ≤ _; decide) l1.pd l1.pl Φ hT) (fun x hx2 => ?_)
  obtain ⟨hx0, l2⟩ := l1.done hx2 (by have h9 := l1.room; simp only [List.map_cons, List.map_nil, List.sum_cons, List.sum_nil, List.length_cons, List.length_nil] at h9; show card S1.K + (2 * Nat.log2 1 + 4) < 20; have : Nat.log2 1 = 0 := (by decide); omega) (fun h => h)
  obtain ⟨e2, o2, S2, D2⟩ := x
  dsimp only at hx0 l2 ⊢
  subst hx0
  have l2 : Lv pd pl 20 S2 D2 [⟨tp, o2, [(1, oneL 7), (2, oneL 8)]⟩] := l2
  have w2 : D2.waits.length ≤ 140 := by have := hx2.dle.len; dsimp only at this; omega
  repeat refine s1 ?_
  refine cx (tdel_c ps pd pl 400 1 S2 D2 [] [] ⟨tp, o2, [(1, oneL 7), (2, oneL 8)]⟩ (by decide) l2.ok l2.agr (by decide) (by omega) (by show 2 ≤ _; decide) (by show 1 ≤ _; decide) l2.pd l2.pl Φ hT) (fun x hx3 => ?_)
  obtain ⟨hx0, l3⟩ := l2.done hx3.1 (by have h9 := l2.room; simp only [List.map_cons, List.map_nil, List.sum_cons, List.sum_nil, List.length_cons, List.length_nil] at h9; show card S2.K + (2 * Nat.log2 2 + 4) < 20; have : Nat.log2 2 = 1 := (by decide); omega) (by simp [get?])
  obtain ⟨e3, o3, S3, D3⟩ := x
  dsimp only at hx0 l3 ⊢
  subst hx0
  have l3 : Lv pd pl 20 S3 D3 [⟨tp, o3, [(2, oneL 8)]⟩] := l3
  rw [show delV 0 = .tuple #[.bool true, i64 0] from rfl]
  have ht3 := l3.ok.each ⟨tp, o3, [(2, oneL 8)]⟩ (by simp)
  have hro : o3.isSome = true := ht3.has.2 (by simp)
  repeat refine s1 ?_
  refine cx (trange_c ps pd pl 600 0 18446744073709551615 9 S3 D3 ⟨tp, o3, [(2, oneL 8)]⟩ ht3 l3.ok.ok l3.agr (by decide) (by show 1 ≤ _; decide) l3.pd l3.pl Φ) (fun x _ => ?_)
  have hout : rngO D3 ⟨tp, o3, [(2, oneL 8)]⟩ 0 18446744073709551615 9 = [(2, oneL 8)] := by
    rw [rngO, if_pos ⟨hro, by decide, by decide, l3.up⟩]; simp [rngL]
  have hoe : rngE D3 ⟨tp, o3, [(2, oneL 8)]⟩ 0 18446744073709551615 9 = 0 := by simp [rngE, l3.up]
  rw [hout, hoe]
  obtain ⟨ra, rc⟩ := x
  dsimp only
  refine jh [prow ra [(2, oneL 8)].length rc [(2, oneL 8)]] (fz (j_leni (fun _ _ hra => ?_)))
  obtain ⟨rb, rof, rfl⟩ := hra (by decide)
  repeat refine s1 ?_
  refine cl (tget_c ps pd pl 602 2 S3 D3 ⟨tp, o3, [(2, oneL 8)]⟩ (by decide) ht3 l3.ok.ok l3.agr (by decide) (by show 1 ≤ _; decide) l3.pd l3.pl Φ) ?_
  rw [if_neg (by simp [l3.up])]
  rw [show gotV (get? 2 [(2, oneL 8)]) 0 = .tuple #[v44 (oneL 8), .bool true, i64 0] from rfl]
  repeat refine s1 ?_
  refine al (cs := z44.map u8) (fun t11 => ?_)
  refine r_storeW (vs := (oneL 8).map u8) rfl rfl (by rfl) (by rfl) (by simp [Value.oneCell']) rfl ?_
  repeat refine s2 ?_
  refine ix (i := 0) rfl rfl (by decide) ?_
  repeat refine s1 ?_
  refine r_loadI (off := rof) (n := [(2, oneL 8)].length) (cap := rc) (E := T.mtree_Pair) (s := 45) (xs := [(2, oneL 8)].flatMap pcell) (v := w64 2) rfl (j := 0) (by omega) (by rfl) rfl rfl ?_
  repeat refine s2 ?_
  have hc1 : 1 ≤ card S3.K := by
    obtain ⟨r, rfl⟩ := Option.isSome_iff_exists.1 hro
    exact card_pos l3.ok.ok.fin (tok_root ht3 rfl)
  have hc2 : card S3.K = 1 := by
    have h9 := l3.room
    simp only [List.map_cons, List.map_nil, List.sum_cons, List.sum_nil, List.length_cons, List.length_nil] at h9
    omega
  refine cl (sused_c ps S3 noδ Φ) ?_
  rw [hc2]
  repeat refine s2 ?_
  exact f1 ()
end Go.Proofs.YtcnpkmdooekmgaaGreatDoor
namespace Go.Proofs.YtcnpkmdooekmgaaGreatDoor
open Go Sl
structure Opn where
  kind : Int
  key : Nat
  to : Nat
  by_ : Nat
  n : Int
structure Opn.wt (o : Opn) : Prop where
  key : o.key < 18446744073709551616
  to : o.to < 18446744073709551616
  by_ : o.by_ < 256
abbrev ocells (o : Opn) : List Value := [.int .i64 o.kind, w64 o.key, w64 o.to, u8 o.by_, .int .i64 o.n]
def stepKV (o : Opn) (kv : KV) : KV := if o.kind = 0 then ins o.key (valL o.by_ o.key) kv else if o.kind = 1 then del o.key kv else kv
structure DoQ (pd pl n : Nat) (D : Dk) (t : Tre) (o : Opn) (z : (List RP × Option Addr × Nat) × Option Rf × St × Dk) : Prop where
  kvs : kvs z.1.1 = stepKV o t.kv
  lv : Lv pd pl n z.2.2.1 z.2.2.2 [⟨t.p, z.2.1, stepKV o t.kv⟩]
  waits : z.2.2.2.waits.length ≤ D.waits.length + 70
theorem kvs_filter (p : Nat → Bool) (l : List RP) : kvs (l.filter fun x => p x.k) = (kvs l).filter fun x => p x.1 := by
  rw [kvs, kvs, List.filter_map]; rfl
theorem rngO_up {D : Dk} {t : Tre} {g : Gd} (ht : TOk g t) (hd : D.down = false) (a b : Nat) (n : Int) : rngO D t a b n = rngL a b n t.kv := by
  unfold rngO
  split
  · rfl
  · rename_i h
    unfold rngL
    by_cases h1 : t.rt.isSome = true
    · by_cases h2 : n < 1
      · rw [show n.toNat = 0 by omega, List.take_zero]
      · by_cases h3 : b < a
        · rw [List.filter_eq_nil_iff.2 (fun x hx => by have := (List.mem_filter.1 hx).2; simp at this ⊢; omega)]; simp
        · exact absurd ⟨h1, h2, h3, hd⟩ h
    · have : t.kv = [] := Decidable.byContradiction fun h0 => h1 (ht.has.2 h0)
      rw [this]; simp
theorem rngL_kvs (l : List RP) (a b : Nat) (n : Int) : kvs ((l.filter (inR a b)).take n.toNat) = rngL a b n (kvs l) := by
  rw [rngL, List.filter_filter, kvs, List.map_take, ← kvs]
  congr 1
  rw [show inR a b = fun x : RP => (fun k => decide (a ≤ k) && decide (k ≤ b)) x.k from rfl, kvs_filter fun k => decide (a ≤ k) && decide (k ≤ b)]
  congr 1
  funext x
  rw [Bool.and_comm]
theorem kvs_bytes {l : List RP} (h : KVok (kvs l)) : ∀ x ∈ l, ∀ y ∈ x.v, y < 256 := fun x hx => (h (x.k, x.v) (List.mem_map.2 ⟨x, hx, rfl⟩)).2.2
theorem rngL_sub {a b : Nat} {n : Int} {kv : KV} : ∀ x ∈ rngL a b n kv, x ∈ kv := fun x hx => (List.mem_filter.1 (List.mem_filter.1 (List.mem_of_mem_take hx)).1).1
theorem rngL_len {a b : Nat} {n : Int} {kv : KV} : (rngL a b n kv).length ≤ kv.length := Nat.le_trans (List.length_take_le' _ _) (Nat.le_trans (List.length_filter_le _ _) (List.length_filter_le _ _))
attribute [local irreducible] cw sw J Exit.then Exit.inBlock Exit.noGoto bodyPost swG swL permL
set_option maxHeartbeats 1000000 in
theorem do_c (ps pd pl n N : Nat) (S : St) (D : Dk) (t : Tre) (a : Option Addr) (c : Nat) (l : List RP) (o : Opn) (ho : o.wt) (hl : kvs l = t.kv) (hv : Lv pd pl n S D [t]) (hN : N ≤ 500000000) (hwt : D.waits.length ≤ 600000000) (hkv : t.kv.length ≤ 400) (hn : 300 ≤ n) (Φ : Base) (hT : Tab Φ) :
    Sl.Fn Tryz.prog Φ F.casematelaw15_Do [ptr t.p, .slice a l.length c, .agg (ocells o).toArray] [rowR a l.length c l, rvals l, tree t.p ps t.rt, store ps S, disk pd D, hlog pl N] (DoQ pd pl n D t o) (fun z => .tuple #[.slice z.1.2.1 z.1.1.length z.1.2.2, .bool true])
      (fun z => [rowR z.1.2.1 z.1.1.length z.1.2.2 z.1.1, rvals z.1.1, tree t.p ps z.2.1, store ps z.2.2.1, disk pd z.2.2.2, hlog pl (N + 1000)]) := by
  obtain ⟨kind, key, to, by_, m⟩ := o
  obtain ⟨hk, hto, hby⟩ := ho
  dsimp only at hk hto hby
  have ht := hv.ok.each t (by simp)
  have hll : l.length = t.kv.length := by have := congrArg List.length hl; simpa [kvs] using this
  have hlg : Nat.log2 t.kv.length ≤ 8 := by
    by_cases h0 : t.kv.length = 0
    · rw [h0]; decide
    · have : Nat.log2 t.kv.length < 9 := (Nat.log2_lt h0).2 (by omega)
      omega
  have hroom : card S.K + (2 * Nat.log2 t.kv.length + 4) < n := by
    have h9 := hv.room
    simp only [List.map_cons, List.map_nil, List.sum_cons, List.sum_nil] at h9
    omega
  have hsame : stepKV ⟨kind, key, to, by_, m⟩ t.kv = t.kv → DoQ pd pl n D t ⟨kind, key, to, by_, m⟩ ((l, a, c), t.rt, S, D) := fun h => ⟨by rw [h]; exact hl, by rw [h]; exact hv, by dsimp only; omega⟩
  refine fo fun F => ?_
  repeat refine s1 ?_
  refine r_box (cs := ocells ⟨kind, key, to, by_, m⟩) rfl rfl rfl rfl (fun t5 => ?_)
  repeat refine s1 ?_
  refine r_icmp rfl rfl rfl rfl ?_
  by_cases k0 : kind = 0
  · subst k0
    rw [decide_eq_true rfl]
    repeat refine s1 ?_
    refine cl (val_c by_ key Φ) ?_
    refine al (cs := z44.map u8) (fun t8 => ?_)
    refine r_storeW (vs := (valL by_ key).map u8) rfl rfl (by rfl) (by rfl) (by simp [Value.oneCell']) rfl ?_
    repeat refine s1 ?_
    refine t_draw [pt t5 (.cells (ocells ⟨0, key, to, by_, m⟩).toArray T.casematelaw15_Op (0, 0)), pt t8 (.cells ((valL by_ key).map u8).toArray T.a44_uint8 (0, 0))] [2, 7, 8] mixed (by decide +kernel) ?_
    repeat refine s1 ?_
    refine cx (rput_c a c (mkq key (valL by_ key) t8) l (by omega) Φ) (fun z1 hz1 => ?_)
    obtain ⟨l1, a1, c1⟩ := z1
    dsimp only at hz1 ⊢
    repeat refine s1 ?_
    refine cx (tput_c ps pd pl N key (valL by_ key) S D [] [] t hk (valL_bytes hby) hv.ok hv.agr (by omega) hwt (by omega) (by simp) hv.pd hv.pl Φ hT) (fun x hx => ?_)
    obtain ⟨hx0, l2⟩ := hv.done (A := []) (B := []) hx hroom (fun h => h)
    have hw := hx.dle.len
    obtain ⟨e2, o2, S2, D2⟩ := x
    dsimp only at hx0 l2 hw ⊢
    subst hx0
    repeat refine s2 ?_
    refine j_freeze t8 ?_
    refine j_ent (imm_isl (n := (valL by_ key).length) (cap := 44) (E := T.uint8) (s := 1) (by simp) (by simp [valL]) _) ?_
    refine js [valA (mkq key (valL by_ key) t8)] (B := rvals [mkq key (valL by_ key) t8]) (fun L => rvals_one _ L) ?_
    refine js [rvals [mkq key (valL by_ key) t8], rvals l] (B := rvals ([mkq key (valL by_ key) t8] ++ l)) (fun L => rvals_app _ _ L) ?_
    refine jh [rvals ([mkq key (valL by_ key) t8] ++ l)] (j_ent (rvals_sub (m := l1) (fun y hy => by
      rw [hz1] at hy
      rcases putL_mem hy with rfl | hy
      · simp
      · simp [hy]) _) ?_)
    refine jh [hlog pl (N + 200)] (j_ent (hlogUp (N' := N + 1000) (by omega) _) ?_)
    have hs1 : Srt (kvs l) := by rw [hl]; exact ht.srt
    have hst : stepKV ⟨0, key, to, by_, m⟩ t.kv = ins key (valL by_ key) t.kv := rfl
    exact f2 ((l1, a1, c1), o2, S2, D2) (hq := ⟨by rw [hz1, put_ins hs1, hl]; rfl, l2, hw⟩)
  · rw [decide_eq_false k0]
    repeat refine s1 ?_
    refine r_icmp rfl rfl rfl rfl ?_
    by_cases k1 : kind = 1
    · subst k1
      rw [decide_eq_true rfl]
      repeat refine s1 ?_
      refine cx (rget_c a c key l (by omega) Φ) (fun z1 hz1 => ?_)
      obtain ⟨v1, a1, c1⟩ := z1
      dsimp only at hz1 ⊢
      repeat refine s1 ?_
      refine cx (tdel_c ps pd pl N key S D [] [] t hk hv.ok hv.agr (by omega) hwt (by omega) (by simp) hv.pd hv.pl Φ hT) (fun x hx => ?_)
      obtain ⟨hx, hx0⟩ := hx
      have hw := hx.dle.len
      have hs0 : (kvs l) = t.kv := hl
      have hst : stepKV ⟨1, key, to, by_, m⟩ t.kv = del key t.kv := rfl
      have hkd : kvs (l.filter fun x => decide (x.k ≠ key)) = del key t.kv := by
        rw [← hl, kvs_filter fun k => decide (k ≠ key)]
        unfold del
        congr 1
        funext x
        by_cases h : x.1 = key <;> simp [h]
      have key1 : (x.1 = 0 ∧ (get? key (kvs l)).isSome = true ∨ x.1 = 4 ∧ (get? key (kvs l)).isSome = false) ∧ Lv pd pl n x.2.2.1 x.2.2.2 [⟨t.p, x.2.1, del key t.kv⟩] := by
        by_cases hg : get? key t.kv = none
        · have h4 : x.1 = 4 := by
            by_cases h0 : x.1 = 0
            · exact absurd hg (hx0 h0)
            · rcases (hx.er h0).2.2.2 with ⟨_, h1⟩ | ⟨_, h1⟩ | ⟨h1, _⟩
              · rw [hv.cnt] at h1; omega
              · rw [hx.dle.up hv.plan, hv.up] at h1; cases h1
              · exact h1
          have her := hx.er (by omega)
          refine ⟨.inr ⟨h4, by rw [hl, hg]; rfl⟩, ?_⟩
          have hdl : del key t.kv = t.kv := del_none fun y hy hyk => by
            have := get_iff.1 hg
            exact this (List.mem_map.2 ⟨y, hy, hyk⟩)
          rw [hdl, her.1]
          exact ⟨her.2.1, hx.agr, hx.cnt.trans hv.cnt, hx.dle.plan.trans hv.plan, (hx.dle.up hv.plan).trans hv.up, hx.pd.trans hv.pd, hx.pl.trans hv.pl⟩
        · obtain ⟨h0, l2⟩ := hv.done (A := []) (B := []) hx hroom hg
          exact ⟨.inl ⟨h0, by rw [hl]; exact Option.isSome_iff_ne_none.2 hg⟩, l2⟩
      obtain ⟨e2, o2, S2, D2⟩ := x
      dsimp only at key1 hw ⊢
      obtain ⟨key1, l2⟩ := key1
      have hdv : delV e2 = .tuple #[.bool (get? key (kvs l)).isSome, i64 0] := by
        rcases key1 with ⟨rfl, h⟩ | ⟨rfl, h⟩ <;> rw [h] <;> rfl
      rw [hdv]
      generalize (get? key (kvs l)).isSome = gb
      repeat refine s1 ?_
      refine cx (rdel_c a c key l (by omega) Φ) (fun z2 hz2 => ?_)
      obtain ⟨l3, a3, c3⟩ := z2
      dsimp only at hz2 ⊢
      repeat refine s2 ?_
      refine r_beq rfl rfl rfl ?_
      rw [show (gb == gb) = true by simp]
      repeat refine s1 ?_
      refine jh [rvals l] (j_ent (rvals_sub (m := l3) (fun y hy => by rw [hz2] at hy; exact (List.mem_filter.1 hy).1) _) ?_)
      refine jh [hlog pl (N + 200)] (j_ent (hlogUp (N' := N + 1000) (by omega) _) ?_)
      exact f2 ((l3, a3, c3), o2, S2, D2) (hq := ⟨by rw [hz2, hkd]; rfl, l2, hw⟩)
    · rw [decide_eq_false k1]
      repeat refine s1 ?_
      refine r_icmp rfl rfl rfl rfl ?_
      by_cases k2 : kind = 2
      · subst k2
        rw [decide_eq_true rfl]
        have hst : stepKV ⟨2, key, to, by_, m⟩ t.kv = t.kv := rfl
        repeat refine s1 ?_
        refine cx (trange_c ps pd pl N key to m S D t ht hv.ok.ok hv.agr (by omega) (by omega) hv.pd hv.pl Φ) (fun x _ => ?_)
        obtain ⟨oa, oc⟩ := x
        dsimp only
        have hoe : rngE D t key to m = 0 := by simp [rngE, hv.up]
        rw [hoe]
        have hor := rngO_up ht hv.up key to m
        have hkvo : KVok (rngO D t key to m) := fun x hx => ht.kvok x (rngL_sub x (by rw [hor] at hx; exact hx))
        have hol : (rngO D t key to m).length ≤ 1000000 := by rw [hor]; exact Nat.le_trans rngL_len (by omega)
        generalize rngO D t key to m = out at hor hkvo hol ⊢
        refine jh [prow oa out.length oc out] (fz ?_)
        repeat refine s1 ?_
        refine t_draw [pt t5 (.cells (ocells ⟨2, key, to, by_, m⟩).toArray T.casematelaw15_Op (0, 0))] [8, 10, 12] mixed (by decide +kernel) ?_
        repeat refine s2 ?_
        refine cx (as_c oa oc out hol (fun x hx => (hkvo x hx).2.1) Φ) (fun z1 hz1 => ?_)
        obtain ⟨l1, a1, c1⟩ := z1
        dsimp only at hz1 ⊢
        repeat refine s1 ?_
        refine cx (rrange_c a c key to m l (by omega) Φ) (fun z2 hz2 => ?_)
        obtain ⟨l3, a3, c3⟩ := z2
        dsimp only at hz2 ⊢
        repeat refine s1 ?_
        have hk3 : kvs l3 = out := by rw [hz2, rngL_kvs, hl, hor]
        refine jh [rvals l] (j_ent (rvals_sub (m := l3) (fun y hy => by rw [hz2] at hy; exact (List.mem_filter.1 (List.mem_of_mem_take hy)).1) _) ?_)
        have hl1l : l1.length ≤ 1000000 := by have := congrArg List.length hz1; simp [kvs] at this; omega
        refine cl (same_c a1 a3 c1 c3 l1 l3 hl1l (kvs_bytes (by rw [hz1]; exact hkvo)) (kvs_bytes (by rw [hk3]; exact hkvo)) Φ) ?_
        rw [hz1, hk3, decide_eq_true rfl]
        repeat refine s1 ?_
        refine jh [hlog pl (N + t.kv.length + 1)] (j_ent (hlogUp (N' := N + 1000) (by omega) _) ?_)
        exact f2 ((l, a, c), t.rt, S, D) (hq := hsame hst)
      · rw [decide_eq_false k2]
        repeat refine s1 ?_
        refine r_icmp rfl rfl rfl rfl ?_
        by_cases k3 : kind = 3
        · subst k3
          rw [decide_eq_true rfl]
          have hst : stepKV ⟨3, key, to, by_, m⟩ t.kv = t.kv := rfl
          repeat refine s1 ?_
          refine cl (tget_c ps pd pl N key S D t hk ht hv.ok.ok hv.agr (by omega) (by omega) hv.pd hv.pl Φ) ?_
          rw [if_neg (by simp [hv.up])]
          have hgl : ((get? key t.kv).getD z44).length = 44 := by
            rcases hg : get? key t.kv with _ | u
            · rfl
            · exact (ht.kvok _ (get_mem hg)).2.1
          have hgb : ∀ y ∈ (get? key t.kv).getD z44, y < 256 := by
            rcases hg : get? key t.kv with _ | u
            · intro y hy; simp at hy; omega
            · exact (ht.kvok _ (get_mem hg)).2.2
          generalize hgg : (get? key t.kv).getD z44 = gv at hgl hgb
          have hgv : gotV (get? key t.kv) 0 = .tuple #[v44 gv, .bool (get? key t.kv).isSome, i64 0] := by rw [← hgg]
          rw [hgv]
          repeat refine s1 ?_
          refine al (cs := z44.map u8) (fun t15 => ?_)
          refine r_storeW (vs := gv.map u8) rfl rfl (by simp [hgl]) (by rfl) (by simp [Value.oneCell']) rfl ?_
          repeat refine s1 ?_
          refine cx (rget_c a c key l (by omega) Φ) (fun z1 hz1 => ?_)
          obtain ⟨v1, a1, c1⟩ := z1
          dsimp only at hz1 ⊢
          rw [hl, hgg] at hz1
          subst hz1
          rw [hl]
          generalize (get? key t.kv).isSome = gb
          refine j_freeze t15 ?_
          refine j_ent (imm_isl (n := v1.length) (cap := 44) (E := T.uint8) (s := 1) (by simp) (by omega) _) ?_
          repeat refine s1 ?_
          refine t_draw [isl (some ⟨t15, 0, none⟩) v1.length 44 T.uint8 1 (v1.map u8), isl a1 v1.length c1 T.uint8 1 (v1.map u8)] [10, 12] mixed (by decide +kernel) ?_
          repeat refine s2 ?_
          refine r_beq rfl rfl rfl ?_
          rw [show (gb == gb) = true by simp]
          repeat refine s1 ?_
          rw [show (Value.slice (some ⟨t15, 0, none⟩) 44 44) = .slice (some ⟨t15, 0, none⟩) v1.length 44 by rw [hgl]]
          refine s_toStr v1 rfl rfl ?_
          repeat refine s1 ?_
          refine s_toStr v1 rfl rfl ?_
          repeat refine s1 ?_
          refine r_streq rfl rfl rfl ?_
          rw [show ((bstr v1).toList == (bstr v1).toList) = true by simp]
          repeat refine s1 ?_
          refine jh [hlog pl (N + 200)] (j_ent (hlogUp (N' := N + 1000) (by omega) _) ?_)
          exact f2 ((l, a, c), t.rt, S, D) (hq := hsame hst)
        · rw [decide_eq_false k3]
          have hst : stepKV ⟨kind, key, to, by_, m⟩ t.kv = t.kv := by simp [stepKV, k0, k1]
          repeat refine s1 ?_
          refine jh [hlog pl N] (j_ent (hlogUp (N' := N + 1000) (by omega) _) ?_)
          exact f2 ((l, a, c), t.rt, S, D) (hq := hsame hst)
end Go.Proofs.YtcnpkmdooekmgaaGreatDoor
namespace Go.Proofs.YtcnpkmdooekmgaaGreatDoor
open Go Sl
theorem stepKV_len (o : Opn) (kv : KV) : (stepKV o kv).length ≤ kv.length + 1 := by
  unfold stepKV
  split
  · exact (ins_len kv).2
  · split
    · exact Nat.le_trans del_le (by omega)
    · omega
theorem ocells_at {os : List Opn} {i : Nat} {o : Opn} (h : os[i]? = some o) : ∀ (j : Nat) (v : Value), (ocells o)[j]? = some v → (os.flatMap ocells)[i * 5 + j]? = some v := fun j v hv => by
  rw [flat_in (f := ocells) (c := 5) (l := os) (fun _ _ => rfl) h (by have := (List.getElem?_eq_some_iff.1 hv).1; simpa using this)]
  exact hv
attribute [local irreducible] cw sw J Exit.then Exit.inBlock Exit.noGoto bodyPost swG swL permL
set_option maxHeartbeats 1000000 in
theorem lives_c (a : Option Addr) (c : Nat) (os : List Opn) (ho : ∀ o ∈ os, o.wt) (Φ : Base) (hT : Tab Φ) :
    Sl.Fn Tryz.prog Φ F.casematelaw15_MtreeLives [.slice a os.length c] [isl a os.length c T.casematelaw15_Op 5 (os.flatMap ocells)] (fun _ : Unit => True) (fun _ => .bool true) (fun _ => []) := by
  refine fo fun F => ?_
  repeat refine s1 ?_
  refine cx (begin_c 400 (by decide) (by decide) Φ) (fun z _ => ?_)
  obtain ⟨pd, ps, pl⟩ := z
  dsimp only
  repeat refine s1 ?_
  refine cx (tnew_c ps Φ) (fun tp _ => ?_)
  repeat refine s1 ?_
  refine j_ent (rvals_nil _) ?_
  refine j_ent (rowV_nil _) (fz ?_)
  refine t_loop (σ := Nat × (List RP × Option Addr × Nat) × Option Rf × St × Dk × KV) (fun z => [(8, i64 z.1), (7, .slice z.2.1.2.1 z.2.1.1.length z.2.1.2.2), (6, ptr tp), (0, .slice a os.length c), (4, ptr ps)])
    (fun z => rowR z.2.1.2.1 z.2.1.1.length z.2.1.2.2 z.2.1.1 :: rvals z.2.1.1 :: tree tp ps z.2.2.1 :: store ps z.2.2.2.1 :: disk pd z.2.2.2.2.1 :: hlog pl (1000 * z.1) :: isl a os.length c T.casematelaw15_Op 5 (os.flatMap ocells) :: F)
    (fun z => z.1 ≤ os.length ∧ z.1 ≤ 300 ∧ kvs z.2.1.1 = z.2.2.2.2.2 ∧ Lv pd pl 400 z.2.2.2.1 z.2.2.2.2.1 [⟨tp, z.2.2.1, z.2.2.2.2.2⟩] ∧ z.2.2.2.2.2.length ≤ z.1 ∧ z.2.2.2.2.1.waits.length ≤ 70 * z.1) (fun z => os.length - z.1)
    (0, ([], none, 0), none, St0 pd pl 3 400, Dk0 403, []) ⟨Nat.zero_le _, Nat.zero_le _, rfl, Lv.begin pd pl 400 tp, Nat.le_refl _, Nat.le_refl _⟩ ⟨rfl, rfl, rfl, rfl, rfl, trivial⟩ (by first | exact Le.ent | (dsimp only; exact Le.ent) | (dsimp only [List.cons_append, List.nil_append]; exact Le.ent) | (dsimp only [List.cons_append, List.nil_append]; simp only [List.take_zero, List.map_nil, List.flatMap_nil, List.length_nil]; exact Le.ent)) ?_
  rintro ⟨i, ⟨l, la, lc⟩, rt, S, D, kv⟩ ⟨h1, h2, h3, h4, h5, h6⟩
  dsimp only at h1 h2 h3 h4 h5 h6 ⊢
  refine jh [isl a os.length c T.casematelaw15_Op 5 (os.flatMap ocells)] (j_leni (fun _ _ hoa => ?_))
  repeat refine s1 ?_
  refine r_iop rfl rfl rfl rfl ?_
  by_cases hi : i < os.length
  · rw [decide_eq_true (show (i : Int) < (os.length : Int) by omega)]
    repeat refine s1 ?_
    refine r_iop rfl rfl rfl rfl ?_
    by_cases hi3 : i < 300
    · rw [decide_eq_true (show (i : Int) < 300 by omega)]
      obtain ⟨ob, oo, rfl⟩ := hoa (by omega)
      obtain ⟨o, hox⟩ : ∃ o, os[i]? = some o := ⟨_, List.getElem?_eq_getElem hi⟩
      have how := ho o (List.mem_of_getElem? hox)
      repeat refine s1 ?_
      refine ix rfl rfl hi ?_
      refine r_loadIA (off := oo) (n := os.length) (cap := c) (E := T.casematelaw15_Op) (s := 5) (xs := os.flatMap ocells) (vs := ocells o) rfl (j := i * 5) (by omega) (by rfl) (ocells_at hox) rfl rfl ?_
      refine cx (do_c ps pd pl 400 (1000 * i) S D ⟨tp, rt, kv⟩ la lc l o how h3 h4 (by omega) (by omega) (by show kv.length ≤ 400; omega) (by decide) Φ hT) (fun z hz => ?_)
      obtain ⟨⟨l2, a2, c2⟩, rt2, S2, D2⟩ := z
      obtain ⟨hz1, hz2, hz3⟩ := hz
      have hlen := stepKV_len o kv
      dsimp only at hz1 hz2 hz3 ⊢
      have ht2 := hz2.ok.each _ (List.mem_singleton_self _)
      have hl2 : l2.length = (stepKV o kv).length := by have := congrArg List.length hz1; simpa [kvs] using this
      repeat refine s1 ?_
      refine cl (root_c tp ps rt2 (oWt_of ht2) Φ) ?_
      repeat refine s1 ?_
      refine al (cs := rcells Rf0) (fun t11 => ?_)
      refine r_storeW (vs := rcells (oR rt2)) rfl rfl (by simp [(oWt_of ht2).sum.1]) (by rfl) (by simp [Value.oneCell']) rfl ?_
      repeat refine s1 ?_
      refine r_iop rfl rfl rfl rfl ?_
      have hhs : rt2.isSome = decide ((0 : Int) < (l2.length : Int)) := by
        have h7 := ht2.has
        dsimp only at h7
        rcases hr : rt2.isSome with _ | _
        · rw [hr] at h7
          have : stepKV o kv = [] := Decidable.byContradiction fun h0 => by have := h7.2 h0; cases this
          rw [this] at hl2
          symm; apply decide_eq_false; simp at hl2; rw [hl2]; simp
        · have := h7.1 hr
          have h8 : 0 < (stepKV o kv).length := List.length_pos_iff.2 this
          symm; apply decide_eq_true; omega
      rw [hhs]
      refine r_bne rfl rfl rfl ?_
      rw [show (!((decide ((0 : Int) < (l2.length : Int))) == (decide ((0 : Int) < (l2.length : Int))))) = false by simp]
      repeat refine s1 ?_
      refine jh [hlog pl (1000 * i + 1000)] (j_ent (hlogUp (N' := 1000 * (i + 1)) (by omega) _) ?_)
      exact j_again (i + 1, (l2, a2, c2), rt2, S2, D2, stepKV o kv) ⟨by omega, by omega, hz1, hz2, by dsimp only; omega, by dsimp only; omega⟩ (by dsimp only; omega) ⟨rfl, rfl, rfl, rfl, rfl, trivial⟩ (by first | exact Le.ent | (dsimp only; exact Le.ent) | (dsimp only [List.cons_append, List.nil_append]; exact Le.ent) | (dsimp only [List.cons_append, List.nil_append]; simp only [List.take_zero, List.map_nil, List.flatMap_nil, List.length_nil]; exact Le.ent))
    · rw [decide_eq_false (show ¬ (i : Int) < 300 by omega)]
      repeat refine s1 ?_
      have htt := h4.ok.each _ (List.mem_singleton_self _)
      refine cx (all_c ps pd pl (1000 * i) S D ⟨tp, rt, kv⟩ htt h4.ok.ok h4.agr (by omega) (by show kv.length ≤ 1000000; omega) h4.pd h4.pl Φ) (fun z hz => ?_)
      obtain ⟨l2, a2, c2⟩ := z
      have hk2 : kvs l2 = kv := hz (.inl h4.up)
      have hll : l.length ≤ 1000000 := by have := congrArg List.length h3; simp [kvs] at this; omega
      rw [decide_eq_true (show D.down = false ∨ Tre.rt ⟨tp, rt, kv⟩ = none from .inl h4.up)]
      dsimp only
      repeat refine s1 ?_
      refine cl (alive_c Φ hT) ?_
      repeat refine s1 ?_
      refine cl (same_c la a2 lc c2 l l2 hll (kvs_bytes (by rw [h3]; exact htt.kvok)) (kvs_bytes (by rw [hk2]; exact htt.kvok)) Φ) ?_
      rw [h3, hk2, decide_eq_true rfl]
      repeat refine s1 ?_
      exact f1 ()
  · rw [decide_eq_false (show ¬ (i : Int) < (os.length : Int) by omega)]
    repeat refine s1 ?_
    have htt := h4.ok.each _ (List.mem_singleton_self _)
    refine cx (all_c ps pd pl (1000 * i) S D ⟨tp, rt, kv⟩ htt h4.ok.ok h4.agr (by omega) (by show kv.length ≤ 1000000; omega) h4.pd h4.pl Φ) (fun z hz => ?_)
    obtain ⟨l2, a2, c2⟩ := z
    have hk2 : kvs l2 = kv := hz (.inl h4.up)
    have hll : l.length ≤ 1000000 := by have := congrArg List.length h3; simp [kvs] at this; omega
    rw [decide_eq_true (show D.down = false ∨ Tre.rt ⟨tp, rt, kv⟩ = none from .inl h4.up)]
    dsimp only
    repeat refine s1 ?_
    refine cl (alive_c Φ hT) ?_
    repeat refine s1 ?_
    refine cl (same_c la a2 lc c2 l l2 hll (kvs_bytes (by rw [h3]; exact htt.kvok)) (kvs_bytes (by rw [hk2]; exact htt.kvok)) Φ) ?_
    rw [h3, hk2, decide_eq_true rfl]
    repeat refine s1 ?_
    exact f1 ()
end Go.Proofs.YtcnpkmdooekmgaaGreatDoor
