/-
  Part 6 of what a proof of this claim uses: rules, contracts and plain laws. No condition.
-/
import Derived.Test.YtcnpkmdooekmgaaGreatDoorR5
namespace Go.Proofs.YtcnpkmdooekmgaaGreatDoor
open Go Sl
/-- the store of other trees: on the same disk. -/
structure FrQ (S : St) (ts : List Tre) (S' : St) : Prop where
  pd : S'.pd = S.pd
  pl : S'.pl = S.pl
  frm : S'.frm = S.frm
  cnt : S'.cnt = S.cnt
  agr : ∀ D, Agr S D → Agr S' D
  ok : TsOk S' ts
theorem tok_root {g : Gd} {t : Tre} {r : Rf} (h : TOk g t) (hr : t.rt = some r) : g.K r.sec ≠ none := by
  obtain ⟨_, _, hh, U, hs⟩ := h.sh hr
  obtain ⟨ks, hk, _⟩ := sh_known hs _ (sh_root hs)
  rw [hk]; simp
theorem TsOk.clone {S : St} {ts : List Tre} {t : Tre} (h : TsOk S ts) (ht : TOk S.g t) : TsOk (S.turn none t.rt) (t :: ts) := by
  refine ⟨fun s => ?_, turn_wf h.ok (fun r hr => tok_root ht hr), fun s hs => ?_, fun x hx => ?_⟩
  · rw [hold_cons]
    show S.E s + hdO t.rt s - hdO none s = hdO t.rt s + _
    rw [h.E]
    have : hdO none s = 0 := rfl
    omega
  · rcases h.tight s hs with h0 | h0
    · left
      show 0 < S.E s + hdO t.rt s - hdO none s
      have : hdO none s = 0 := rfl
      omega
    · exact .inr h0
  · rcases List.mem_cons.1 hx with rfl | hx
    · exact ht
    · exact h.each x hx
theorem TsOk.freed {S : St} {A B : List Tre} {t : Tre} {K : Kp} (h : TsOk S (A ++ t :: B)) (l : Less S.K (S.turn t.rt none).E K) (ll : Loose K (S.turn t.rt none).E fun _ => False) : FrQ S (A ++ B) ((S.turn t.rt none).withK K) := by
  have hE : ∀ s, (S.turn t.rt none).E s = hold (A ++ B) s := fun s => by
    show S.E s + hdO none s - hdO t.rt s = _
    rw [h.E, hold_mid]
    show hdO t.rt s + _ + 0 - _ = _
    omega
  have hw : (S.turn t.rt none).wf := turn_wf h.ok (fun r hr => by cases hr)
  refine ⟨rfl, rfl, rfl, rfl, fun D a => TsOk.agr a l.sub, hE, l.ok hw, ll.tight (l.ok hw), fun x hx => ?_⟩
  have hx' : x ∈ A ++ t :: B := by rcases List.mem_append.1 hx with hx | hx <;> simp [hx]
  exact (h.each x hx').less l (fun r hr => by rw [hE]; exact hold_at hx hr)
theorem TsOk.became {S : St} {A B : List Tre} {t o : Tre} {K : Kp} (h : TsOk S (A ++ t :: B)) (ho : TOk S.g o) (l : Less S.K (S.turn t.rt o.rt).E K) (ll : Loose K (S.turn t.rt o.rt).E fun _ => False) : FrQ S (A ++ ⟨t.p, o.rt, o.kv⟩ :: B) ((S.turn t.rt o.rt).withK K) := by
  have hw : (S.turn t.rt o.rt).wf := turn_wf h.ok (fun r hr => tok_root ho hr)
  have ht : TOk S.g ⟨t.p, o.rt, o.kv⟩ := ho
  have := h.settled (t' := ⟨t.p, o.rt, o.kv⟩) (K := K) rfl (Gd.le_refl _) h.ok ht (l.swept (ll.tight (l.ok hw)))
  exact ⟨rfl, rfl, rfl, rfl, fun D a => TsOk.agr a l.sub, this⟩
section
variable {X : Cx} {e : Env} {L A : List Assn} {S : List Nat} {ops : Array Oper} {k : Nat} {l : List Oper} {R : Act → World → Prop} {d : Nat} {T : TypeId} {pos : String} {af : Array Edge}
/-- a pointer is itself. -/
theorem r_pneR {t u E : TypeId} {n : Nat} {x y : Operand} {p : Addr} [tu : TUnd X.P t (.pointer E)] [ts : TSize X.P E n] (hx : ev e x = some (.pointer (some p))) (hy : ev e y = some (.pointer (some p)))
    (h : J X ((d, .bool false) :: e) L (sw X.P (Holds X.Φ A) S ops R (k + 1) l)) (hd : Nat.blt d X.n = true := by rfl) : J X e L (sw X.P (Holds X.Φ A) S ops R k (⟨some d, .binOp .neq t x y u, T, pos, af, none⟩ :: l)) :=
  r_pure rfl (fun a mt w => by
    have h2 : (binOp .neq t (.pointer (some p)) (.pointer (some p))).run X.P w = .ok (.bool false) w := by
      refine run_neq_by (b := true) rfl (fun d => ?_)
      simp only [Op.equalIn, Sem.run_bind, tu.run, Result.andThen_ok, ts.run]
      split
      · simp [sameAddr]
      · simp
    have h3 : eqGuard .neq t x y (.pointer (some p)) (.pointer (some p)) = pure () := rfl
    simp only [execOp, mt.ev hx, mt.ev hy, Sem.run_bind, h3, Sem.run_pure, h2, Result.andThen_ok]) hd h
end
theorem z35_one : ∀ v ∈ Value.pointer none :: (rcells Rf0 ++ [.bool false]), v.oneCell' = true := fun v hv => by
  rcases List.mem_cons.1 hv with rfl | hv
  · rfl
  · exact tc_one (ps := 0) (o := none) v (by simp only [tcells, List.mem_cons]; exact .inr hv)
attribute [local irreducible] cw sw J Exit.then Exit.inBlock Exit.noGoto bodyPost swG swL permL
theorem tclone_c (ps : Nat) (S : St) (t : Tre) (hw : oWt t.rt) (hk : ∀ r, t.rt = some r → S.K r.sec ≠ none) (hE : ∀ s, S.E s < 1000000000) (Φ : Base) :
    Sl.Fn Tryz.prog Φ F.mtree_Tree_Clone [ptr t.p] [tree t.p ps t.rt, store ps S] (fun _ : Nat => True) (fun x => ptr x) (fun x => [tree x ps t.rt, tree t.p ps t.rt, store ps (S.turn none t.rt)]) := by
  refine fo fun F => ?_
  repeat refine s1 ?_
  refine cl (made_c t.p ps t.rt Φ) ?_
  repeat refine s1 ?_
  refine r_loadW (vs := tcells ps t.rt) rfl (tc_len hw) rfl rfl ?_
  refine al (cs := .pointer none :: (rcells Rf0 ++ [.bool false])) (fun t3 => ?_)
  refine r_storeW (vs := tcells ps t.rt) rfl rfl (tc_len hw) (by rfl) tc_one rfl ?_
  repeat refine s1 ?_
  refine ld rfl (tc_has hw) ?_
  rcases hr : t.rt with _ | r
  · rw [Option.isSome_none]
    repeat refine s1 ?_
    rw [turn_none]
    exact f1 t3
  · rw [Option.isSome_some]
    rw [hr] at hw
    have hrw : r.wt := hw
    repeat refine s1 ?_
    refine r_loadA (vs := rcells r) (off := 1) rfl (by simp [hrw.sum.1]) (tc_root (o := some r)) rfl rfl ?_
    refine cl (shold_c ps S r hrw (hk r hr) (hE _) Φ) ?_
    rw [turn_up]
    repeat refine s1 ?_
    exact f1 t3
theorem tfree_c (ps : Nat) (S : St) (A B : List Tre) (t : Tre) (h : TsOk S (A ++ t :: B)) (Φ : Base) :
    Sl.Fn Tryz.prog Φ F.mtree_Tree_Free [ptr t.p] [tree t.p ps t.rt, store ps S] (FrQ S (A ++ B)) (fun _ => i64 0) (fun x => [tnull t.p, store ps x]) := by
  have ht := h.each t (by simp)
  have hw := oWt_of ht
  refine fo fun F => ?_
  repeat refine s1 ?_
  refine cl (made_c t.p ps t.rt Φ) ?_
  repeat refine s1 ?_
  refine ld rfl (tc_has hw) ?_
  repeat refine s1 ?_
  refine t_meet (σ := St) (fun _ => [(0, ptr t.p), (2, i64 0)]) (fun x => tree t.p ps t.rt :: store ps x :: F) (FrQ S (A ++ B)) ?_ (fun x hx => ?_)
  · rcases hr : t.rt with _ | r
    · rw [Option.isSome_none]
      repeat refine s1 ?_
      refine j_meet S ?_ ⟨rfl, rfl, trivial⟩ (by first | exact Le.ent | (dsimp only; exact Le.ent) | (dsimp only [List.cons_append, List.nil_append]; exact Le.ent) | (dsimp only [List.cons_append, List.nil_append]; simp only [List.take_zero, List.map_nil, List.flatMap_nil, List.length_nil]; exact Le.ent))
      have := h.freed (K := S.K)
      rw [hr, turn_none] at this
      exact this (Less.refl h.ok) (h.tight.loose h.ok)
    · rw [Option.isSome_some]
      rw [hr] at hw
      have hrw : r.wt := hw
      repeat refine s1 ?_
      refine r_loadA (vs := rcells r) (off := 1) rfl (by simp [hrw.sum.1]) (tc_root (o := some r)) rfl rfl ?_
      refine cx (sdrop_c ps S r (fun _ => False) hrw h.ok (by rw [h.E]; exact hold_at (by simp) hr) (h.tight.loose h.ok) Φ) (fun K hK => ?_)
      rw [turn_down] at hK ⊢
      repeat refine s1 ?_
      refine j_meet ((S.turn (some r) none).withK K) ?_ ⟨rfl, rfl, trivial⟩ (by first | exact Le.ent | (dsimp only; exact Le.ent) | (dsimp only [List.cons_append, List.nil_append]; exact Le.ent) | (dsimp only [List.cons_append, List.nil_append]; simp only [List.take_zero, List.map_nil, List.flatMap_nil, List.length_nil]; exact Le.ent))
      have := h.freed (K := K)
      rw [hr] at this
      exact this hK.1 hK.2
  · repeat refine s1 ?_
    refine r_build (cells := .pointer none :: (rcells Rf0 ++ [.bool false])) rfl (by rfl) rfl ?_
    repeat refine s1 ?_
    refine r_storeW (vs := .pointer none :: (rcells Rf0 ++ [.bool false])) rfl rfl (by rfl) (tc_len hw) z35_one rfl ?_
    repeat refine s1 ?_
    exact f1 x (hq := hx)
theorem tbecome_c (ps : Nat) (S : St) (A B : List Tre) (t o : Tre) (h : TsOk S (A ++ t :: B)) (ho : TOk S.g o) (hl : (A ++ t :: B).length ≤ 1000000) (Φ : Base) :
    Sl.Fn Tryz.prog Φ F.mtree_Tree_Become [ptr t.p, ptr o.p] [tree t.p ps t.rt, tree o.p ps o.rt, store ps S] (FrQ S (A ++ ⟨t.p, o.rt, o.kv⟩ :: B)) (fun _ => i64 0) (fun x => [tree t.p ps o.rt, tree o.p ps o.rt, store ps x]) := by
  have ht := h.each t (by simp)
  have hw := oWt_of ht
  have how := oWt_of ho
  have hlow := tre_low h hl
  refine fo fun F => ?_
  repeat refine s1 ?_
  refine cl (made_c t.p ps t.rt Φ) ?_
  repeat refine s1 ?_
  refine cl (made_c o.p ps o.rt Φ) ?_
  repeat refine s1 ?_
  refine r_pneR rfl rfl ?_
  repeat refine s1 ?_
  refine ld rfl (tc_has how) ?_
  repeat refine s1 ?_
  refine t_meet (σ := Unit) (fun _ => [(0, ptr t.p), (1, ptr o.p)]) (fun _ => tree t.p ps t.rt :: tree o.p ps o.rt :: store ps (S.turn none o.rt) :: F) (fun _ => True) ?_ (fun _ _ => ?_)
  · rcases hr : o.rt with _ | r
    · rw [Option.isSome_none]
      repeat refine s1 ?_
      rw [turn_none]
      exact j_meet () trivial ⟨rfl, rfl, trivial⟩ (by first | exact Le.ent | (dsimp only; exact Le.ent) | (dsimp only [List.cons_append, List.nil_append]; exact Le.ent) | (dsimp only [List.cons_append, List.nil_append]; simp only [List.take_zero, List.map_nil, List.flatMap_nil, List.length_nil]; exact Le.ent))
    · rw [Option.isSome_some]
      rw [hr] at how
      have hrw : r.wt := how
      repeat refine s1 ?_
      refine r_loadA (vs := rcells r) (off := 1) rfl (by simp [hrw.sum.1]) (tc_root (o := some r)) rfl rfl ?_
      refine cl (shold_c ps S r hrw (tok_root ho hr) (hlow.1 _) Φ) ?_
      rw [turn_up]
      repeat refine s1 ?_
      exact j_meet () trivial ⟨rfl, rfl, trivial⟩ (by first | exact Le.ent | (dsimp only; exact Le.ent) | (dsimp only [List.cons_append, List.nil_append]; exact Le.ent) | (dsimp only [List.cons_append, List.nil_append]; simp only [List.take_zero, List.map_nil, List.flatMap_nil, List.length_nil]; exact Le.ent))
  have hS1 : (S.turn none o.rt).wf := turn_wf h.ok (fun r hr => tok_root ho hr)
  have hE1 : ∀ s, S.E s ≤ (S.turn none o.rt).E s := fun s => by
    show S.E s ≤ S.E s + hdO o.rt s - hdO none s
    have : hdO none s = 0 := rfl
    omega
  have hT1 : Tight S.K (S.turn none o.rt).E := fun s hs => (h.tight s hs).imp (fun h0 => Nat.lt_of_lt_of_le h0 (hE1 s)) id
  repeat refine s1 ?_
  refine ld rfl (tc_has hw) ?_
  repeat refine s1 ?_
  refine t_meet (σ := St) (fun _ => [(0, ptr t.p), (1, ptr o.p)]) (fun x => tree t.p ps t.rt :: tree o.p ps o.rt :: store ps x :: F) (FrQ S (A ++ ⟨t.p, o.rt, o.kv⟩ :: B)) ?_ (fun x hx => ?_)
  · rcases hr : t.rt with _ | r
    · rw [Option.isSome_none]
      repeat refine s1 ?_
      refine j_meet (S.turn none o.rt) ?_ ⟨rfl, rfl, trivial⟩ (by first | exact Le.ent | (dsimp only; exact Le.ent) | (dsimp only [List.cons_append, List.nil_append]; exact Le.ent) | (dsimp only [List.cons_append, List.nil_append]; simp only [List.take_zero, List.map_nil, List.flatMap_nil, List.length_nil]; exact Le.ent))
      have := h.became (K := S.K) ho
      rw [hr] at this
      exact this (Less.refl hS1) (hT1.loose hS1)
    · rw [Option.isSome_some]
      rw [hr] at hw
      have hrw : r.wt := hw
      have hpos := hlow.2 r hr
      repeat refine s1 ?_
      refine r_loadA (vs := rcells r) (off := 1) rfl (by simp [hrw.sum.1]) (tc_root (o := some r)) rfl rfl ?_
      refine cx (sdrop_c ps (S.turn none o.rt) r (fun _ => False) hrw hS1 (Nat.lt_of_lt_of_le hpos (hE1 _)) (hT1.loose hS1) Φ) (fun K hK => ?_)
      rw [turn_down, turn_turn] at hK ⊢
      repeat refine s1 ?_
      refine j_meet ((S.turn (some r) o.rt).withK K) ?_ ⟨rfl, rfl, trivial⟩ (by first | exact Le.ent | (dsimp only; exact Le.ent) | (dsimp only [List.cons_append, List.nil_append]; exact Le.ent) | (dsimp only [List.cons_append, List.nil_append]; simp only [List.take_zero, List.map_nil, List.flatMap_nil, List.length_nil]; exact Le.ent))
      have := h.became (K := K) ho
      rw [hr] at this
      exact this hK.1 hK.2
  · repeat refine s1 ?_
    refine r_loadA (vs := rcells (oR o.rt)) (off := 1) rfl (by simp [how.sum.1]) tc_root rfl rfl ?_
    repeat refine s1 ?_
    refine ld rfl (tc_has how) ?_
    repeat refine s1 ?_
    refine r_storeA (cs' := ptr ps :: (rcells (oR o.rt) ++ [.bool t.rt.isSome])) (vs := rcells (oR o.rt)) (off := 1) rfl rfl (by simp [how.sum.1]) (by rw [tc_len hw]; omega) (by simp [Value.oneCell']) (tc_setroot hw how) rfl ?_
    repeat refine s1 ?_
    refine so (hl := tc_sethas how) rfl rfl ?_ (ho := by simp [how.sum.1])
    repeat refine s1 ?_
    exact f1 x (hq := hx)
end Go.Proofs.YtcnpkmdooekmgaaGreatDoor
namespace Go.Proofs.YtcnpkmdooekmgaaGreatDoor
open Go Sl
abbrev dnN (D : Dk) (m : Nd) : Nd := if D.down then nd0 else m
abbrev dnE (D : Dk) : Nat := if D.down then 30 else 0
/-- a value that may not be there. -/
abbrev gotV (o : Option (List Nat)) (e : Nat) : Value := .tuple #[v44 (o.getD z44), .bool o.isSome, i64 e]
/-- at the end of a search in a leaf. -/
theorem below_hit {kv : KV} {k : Nat} (hs : Srt kv) : get? k kv = if k ∈ kv.map (·.1) then (kv.map (·.2))[below (kv.map (·.1)) k]? else none := by
  induction kv with
  | nil => rfl
  | cons a l ih =>
    obtain ⟨h1, h2⟩ := List.pairwise_cons.1 hs
    obtain ⟨j, w⟩ := a
    by_cases hj : j = k
    · subst hj
      have h0 : below (((j, w) :: l).map (·.1)) j = 0 := by
        rw [below, List.countP_eq_zero]
        intro x hx
        rcases List.mem_cons.1 hx with rfl | hx
        · simp
        · obtain ⟨y, hy, rfl⟩ := List.mem_map.1 hx
          have := h1 y hy
          simp at this ⊢; omega
      rw [h0]
      simp [get?]
    · have hj' : ¬ k = j := fun e => hj e.symm
      have hg : get? k ((j, w) :: l) = get? k l := by simp [get?, hj']
      rw [hg, ih h2]
      by_cases hm : k ∈ l.map (·.1)
      · have hlt : j < k := by
          obtain ⟨y, hy, rfl⟩ := List.mem_map.1 hm
          exact h1 y hy
        have hb : below (((j, w) :: l).map (·.1)) k = below (l.map (·.1)) k + 1 := by
          simp [below, hlt]
        rw [if_pos hm, if_pos (by simp; exact .inr (by simpa using hm)), hb]
        rfl
      · rw [if_neg hm, if_neg (by simp only [List.map_cons, List.mem_cons, not_or]; exact ⟨fun h => hj h.symm, hm⟩)]
attribute [local irreducible] cw sw J Exit.then Exit.inBlock Exit.noGoto bodyPost swG swL permL
theorem tload_c (ps N : Nat) (S : St) (D : Dk) (r : Rf) (m : Nd) (hr : r.wt) (hS : S.wf) (hK : S.K r.sec ≠ none) (hm : m.right) (hw : m.wt) (hsec : S.sec r.sec = m.enc) (hsum : r.sum = shaM m.enc) (ha : Agr S D) (hN : N ≤ 900000000) (Φ : Base) :
    Sl.Fn Tryz.prog Φ F.shadow_Store_Load [ptr ps, .agg (rcells r).toArray] [store ps S, disk S.pd D, hlog S.pl N] (fun _ : NR => True) (fun y => .tuple #[nV (dnN D m) y, i64 (dnE D)])
      (fun y => [store ps S, disk S.pd D, hlog S.pl (N + 1), node (dnN D m) y]) := by
  have hrg := hS.rng _ hK
  unfold dnN dnE
  rcases hd : D.down with _ | _
  · have := sload_s ps N S D r m hr hrg.1 hrg.2 hm hw (by rw [ha.sec _ hK]; exact hsec) ha.size hd hN Φ
    simp only [ldN, if_pos hsum.symm] at this
    simpa only [Bool.false_eq_true, if_false] using this
  · simp only [if_true]
    refine Fn.conseq (Fn.frame (sload_d ps S D r hr hrg.1 hrg.2 hd Φ) [hlog S.pl N]) (fun F _ _ s => s) (fun _ _ => ⟨nr0, trivial, rfl, fun F => ?_⟩)
    dsimp only [List.cons_append, List.nil_append]
    exact Ent.trans (Le.ent (A := hlog S.pl N :: store ps S :: disk S.pd D :: node nd0 nr0 :: F)) ((hlogUp (N' := N + 1) (by omega) _).trans Le.ent)
theorem tget_c (ps pd pl N k : Nat) (S : St) (D : Dk) (t : Tre) (_hk : k < 18446744073709551616) (ht : TOk S.g t) (hS : S.wf) (ha : Agr S D) (hN : N ≤ 600000000) (hkv : t.kv.length ≤ 1000000) (hpd : S.pd = pd) (hpl : S.pl = pl) (Φ : Base) :
    Sl.Fn Tryz.prog Φ F.mtree_Tree_Get [ptr t.p, w64 k] [tree t.p ps t.rt, store ps S, disk pd D, hlog pl N] (fun _ : Unit => True) (fun _ => if t.rt.isSome ∧ D.down = true then gotV none 30 else gotV (get? k t.kv) 0) (fun _ => [tree t.p ps t.rt, store ps S, disk pd D, hlog pl (N + 200)]) := by
  obtain rfl := hpd
  obtain rfl := hpl
  have hw := oWt_of ht
  refine fo fun F => ?_
  repeat refine s1 ?_
  refine al (cs := z44.map u8) (fun t4 => ?_)
  repeat refine s1 ?_
  refine al (cs := z44.map u8) (fun t7 => ?_)
  repeat refine s1 ?_
  refine cl (made_c t.p ps t.rt Φ) ?_
  repeat refine s1 ?_
  refine ld rfl (tc_has hw) ?_
  rcases hrt : t.rt with _ | r0
  · rw [Option.isSome_none]
    have hkv0 := ht.nil hrt
    repeat refine s1 ?_
    refine r_storeW (vs := z44.map u8) rfl rfl (by rfl) (by rfl) (by simp [Value.oneCell']) rfl ?_
    repeat refine s1 ?_
    refine jh [hlog S.pl N] (j_ent (hlogUp (N' := N + 200) (by omega) _) ?_)
    exact j_fin rfl (.cons (rv_agg (l := z44.map u8) (fr := (0, 0)) rfl (by rfl)) (.cons (rv_tmp rfl) (.cons (rv_tmp rfl) .nil))) () (by rw [if_neg (by simp), hkv0]; rfl) trivial
  · rw [Option.isSome_some]
    rw [hrt] at hw
    have hrw : r0.wt := hw
    obtain ⟨hsrt, hne, H, U, hsh⟩ := ht.sh hrt
    have hh10 := pow_small (sh_size hsh).2 hkv
    repeat refine s1 ?_
    refine r_loadA (vs := rcells r0) (off := 1) rfl (by simp [hrw.sum.1]) (tc_root (o := some r0)) rfl rfl ?_
    refine al (cs := rcells Rf0) (fun t8 => ?_)
    refine r_storeW (vs := rcells r0) rfl rfl (by simp [hrw.sum.1]) (by rfl) (by simp [Value.oneCell']) rfl ?_
    repeat refine s1 ?_
    refine t_loop (σ := Nat × Rf × Nat) (fun z => [(8, ptr z.2.2), (7, ptr t7), (4, ptr t4), (0, ptr t.p), (1, w64 k), (5, .bool false), (6, i64 0)])
      (fun z => pt z.2.2 (.cells (rcells z.2.1).toArray T.api_Ref (0, 0)) :: pt t7 (.cells (z44.map u8).toArray T.a44_uint8 (0, 0)) :: pt t4 (.cells (z44.map u8).toArray T.a44_uint8 (0, 0)) :: tree t.p ps (some r0) :: store ps S :: disk S.pd D :: hlog S.pl (N + (H - z.1)) :: F)
      (fun z => z.1 ≤ H ∧ ∃ lo kv' U, Sh S.g lo z.1 z.2.1 kv' U ∧ Srt kv' ∧ get? k kv' = get? k t.kv) (fun z => z.1) (H, r0, t8) ⟨Nat.le_refl _, 1, t.kv, U, hsh, hsrt, rfl⟩ ⟨rfl, rfl, rfl, rfl, rfl, rfl, rfl, trivial⟩ (by dsimp only; rw [Nat.sub_self, Nat.add_zero]; exact Le.ent) ?_
    rintro ⟨h, r, t8⟩ ⟨hle, lo, kv, U, hsh, hs, hg⟩
    dsimp only at hle hsh hs hg ⊢
    obtain ⟨hr, m, V, hn, hmr, hlo, hsec, hsum, hK, rfl⟩ := hsh
    have hmw := nsh_wt hn
    repeat refine s1 ?_
    refine t_meet (σ := NR × Nat) (fun z => [(9, ptr z.2), (10, i64 (dnE D)), (8, ptr t8), (7, ptr t7), (4, ptr t4), (0, ptr t.p), (1, w64 k), (5, .bool false), (6, i64 0)])
      (fun z => pt z.2 (.cells (nbx (dnN D m) z.1).toArray T.node_Node (0, 0)) :: node (dnN D m) z.1 :: pt t8 (.cells (rcells r).toArray T.api_Ref (0, 0)) :: pt t7 (.cells (z44.map u8).toArray T.a44_uint8 (0, 0)) :: pt t4 (.cells (z44.map u8).toArray T.a44_uint8 (0, 0)) :: tree t.p ps (some r0) :: store ps S :: disk S.pd D :: hlog S.pl (N + (H - h) + 1) :: F) (fun _ => True) ?_ ?_
    · have HA : ∀ y : NR, True := fun _ => trivial
      refine t_draw2 [tree t.p ps (some r0), pt t8 (.cells (rcells r).toArray T.api_Ref (0, 0))] [3, 4] 5 9 [9, 0, 1, 2, 3, 4, 5, 6, 7, 8, 10, 11] mixed (by decide +kernel) ?_ ?_
      · repeat refine s1 ?_
        refine s_loadW (vs := rcells r) rfl (by simp [hr.sum.1]) rfl rfl ?_
        repeat refine s1 ?_
        refine cx (tload_c ps (N + (H - h)) S D r m hr hS (by rw [show S.K r.sec = S.g.K r.sec from rfl, hK]; simp) hmr hmw hsec hsum ha (by omega) Φ) (fun y _ => ?_)
        generalize hmm : dnN D m = m2
        repeat refine s1 ?_
        refine al (cs := nbx nd0 nr0) (fun t9 => ?_)
        repeat refine s1 ?_
        refine r_storeW (vs := nbx m2 y) rfl rfl (by rfl) (by rfl) (by simp [Value.oneCell']) rfl ?_
        repeat refine s1 ?_
        rw [← hmm]
        exact j_meet (y, t9) trivial ⟨rfl, rfl, rfl, rfl, rfl, rfl, rfl, rfl, rfl, trivial⟩ (by first | exact Le.ent | (dsimp only; exact Le.ent) | (dsimp only [List.cons_append, List.nil_append]; exact Le.ent) | (dsimp only [List.cons_append, List.nil_append]; simp only [List.take_zero, List.map_nil, List.flatMap_nil, List.length_nil]; exact Le.ent))
      · repeat refine s1 ?_
        refine al (cs := nbx nd0 nr0) (fun t9 => ?_)
        repeat refine s1 ?_
        refine s_loadW (vs := rcells r) rfl (by simp [hr.sum.1]) rfl rfl ?_
        repeat refine s1 ?_
        refine cx (tload_c ps (N + (H - h)) S D r m hr hS (by rw [show S.K r.sec = S.g.K r.sec from rfl, hK]; simp) hmr hmw hsec hsum ha (by omega) Φ) (fun y _ => ?_)
        generalize hmm : dnN D m = m2
        repeat refine s1 ?_
        refine r_storeW (vs := nbx m2 y) rfl rfl (by rfl) (by rfl) (by simp [Value.oneCell']) rfl ?_
        repeat refine s1 ?_
        rw [← hmm]
        exact j_meet (y, t9) trivial ⟨rfl, rfl, rfl, rfl, rfl, rfl, rfl, rfl, rfl, trivial⟩ (by first | exact Le.ent | (dsimp only; exact Le.ent) | (dsimp only [List.cons_append, List.nil_append]; exact Le.ent) | (dsimp only [List.cons_append, List.nil_append]; simp only [List.take_zero, List.map_nil, List.flatMap_nil, List.length_nil]; exact Le.ent))
    rintro ⟨y, t9⟩ _
    rcases hd : D.down with _ | _
    · unfold dnN dnE
      simp only [hd, Bool.false_eq_true, if_false]
      repeat refine s2 ?_
      cases h with
      | zero =>
        obtain ⟨rfl, rfl, hok⟩ := hn
        have hkl : kv.length ≤ 9 := by have := (hmr.leaf rfl).2.1; simpa [leafN] using this
        rw [show (leafN kv).leaf = true from rfl, Bool.not_true]
        have hkeys : (leafN kv).keys = kv.map (·.1) := rfl
        repeat refine s1 ?_
        refine cl (find_c (leafN kv) y k hmr.rise (by simp [leafN]; omega) Φ) ?_
        have hbl := below_hit (k := k) hs
        rw [hg] at hbl
        by_cases hm : k ∈ kv.map (·.1)
        · rw [hkeys, decide_eq_true hm]
          rw [if_pos hm] at hbl
          have hlt : below (kv.map (·.1)) k < kv.length := by
            rcases Nat.lt_or_ge (below (kv.map (·.1)) k) kv.length with h0 | h0
            · exact h0
            · rw [List.getElem?_eq_none (by simpa using h0)] at hbl
              rw [← hg] at hbl
              exact absurd hm (get_iff.1 hbl)
          generalize below (kv.map (·.1)) k = i at hbl hlt ⊢
          have hil : i < (leafN kv).vals.length := by simpa [leafN] using hlt
          have hvi : (leafN kv).vals[i]? = get? k t.kv := hbl.symm
          obtain ⟨u, hu⟩ : ∃ u, (leafN kv).vals[i]? = some u := ⟨_, List.getElem?_eq_getElem hil⟩
          have hgu : get? k t.kv = some u := by rw [← hvi, hu]
          have hul : u.length = 44 := (hmw.vals u (List.mem_of_getElem? hu)).1
          have hxs : ∀ (j : Nat) (v : Value), (u.map u8)[j]? = some v → ((leafN kv).vals.flatMap fun v => v.map u8)[i * 44 + j]? = some v := fun j v hv => by
            have hj := (List.getElem?_eq_some_iff.1 hv).1
            rw [flat_in (f := fun v : List Nat => v.map u8) (c := 44) (fun z hz => by simpa using (hmw.vals z hz).1) hu (by simpa [hul] using hj)]
            exact hv
          refine jh [node (leafN kv) y] (j_ent (Ent.unnode _) ?_)
          refine jh [valsA (leafN kv) y] (j_leni (fun _ _ hka => ?_))
          obtain ⟨kb, ko, hkb⟩ := hka (by omega)
          obtain ⟨mka, mkc, mva, mvc, mra, mrc⟩ := y
          dsimp only at hkb
          subst hkb
          dsimp only
          repeat refine s1 ?_
          refine ix rfl rfl hil ?_
          refine r_loadIA (off := ko) (n := (leafN kv).vals.length) (cap := mvc) (E := T.a44_uint8) (s := 44) (xs := (leafN kv).vals.flatMap fun v => v.map u8) (vs := u.map u8) rfl (j := i * 44) (by omega) (by simp [hul]) hxs rfl rfl ?_
          repeat refine s1 ?_
          refine r_storeW (vs := u.map u8) rfl rfl (by simp [hul]) (by rfl) (by simp [Value.oneCell']) rfl ?_
          repeat refine s1 ?_
          refine jh [hlog S.pl (N + (H - 0) + 1)] (j_ent (hlogUp (N' := N + 200) (by omega) _) ?_)
          exact j_fin rfl (.cons (rv_agg (l := u.map u8) (fr := (0, 0)) rfl (by simp [hul])) (.cons (rv_tmp rfl) (.cons (rv_tmp rfl) .nil))) () (by rw [if_neg (by simp), hgu]; rfl) trivial
        · rw [hkeys, decide_eq_false hm]
          rw [if_neg hm] at hbl
          repeat refine s1 ?_
          refine r_storeW (vs := z44.map u8) rfl rfl (by rfl) (by rfl) (by simp [Value.oneCell']) rfl ?_
          repeat refine s1 ?_
          refine jh [hlog S.pl (N + (H - 0) + 1)] (j_ent (hlogUp (N' := N + 200) (by omega) _) ?_)
          exact j_fin rfl (.cons (rv_agg (l := z44.map u8) (fr := (0, 0)) rfl (by rfl)) (.cons (rv_tmp rfl) (.cons (rv_tmp rfl) .nil))) () (by rw [if_neg (by simp), hbl]; rfl) trivial
      | succ h =>
        have hlf : m.leaf = false := nsh_leaf hn
        have hwh : m.keys.length ≤ 11 := hmr.most
        obtain ⟨cs, hmi, hkv', hV, hcs⟩ := nsh_succ.1 hn
        have hrise := hmr.rise
        have hrl : m.kids.length = cs.length := by rw [hmi]; simp [inner]
        have hpos : 2 ≤ cs.length := by have := (hmr.inner hlf).1; have : m.keys.length = cs.length := (by rw [hmi]; simp [inner]); omega
        obtain ⟨A, c, B, hcut, hAl, hc1, hc2⟩ := way_cut (k := k) (cs := cs) (by intro e; rw [e] at hpos; simp at hpos) (by have := hrise; rw [hmi] at this; exact this)
        have hwk : way m.keys k = A.length := by rw [hAl, hmi]; rfl
        have hcc := hcs c (by rw [hcut]; simp)
        have hsrt' := hs
        rw [hkv', hcut] at hsrt'
        obtain ⟨hsA, hsB⟩ := way_sides (k := k) hsrt' (fun d hd => (hcs d (by rw [hcut]; exact hd)).1) hc1 hc2
        have hkid : m.kids[A.length]? = some c.rf := by rw [hmi, hcut]; simp [inner]
        have hAlt : A.length < m.kids.length := by rw [hrl, hcut]; simp
        have hkid2 : m.kids[A.length] = c.rf := by have := (List.getElem?_eq_some_iff.1 hkid).2; exact this
        rw [hlf, Bool.not_false]
        refine jh [node m y] (j_ent (Ent.unnode _) ?_)
        refine jh [kidsA m y] (j_leni (fun _ _ hka => ?_))
        obtain ⟨kb, ko, hkb⟩ := hka (by omega)
        obtain ⟨mka, mkc, mva, mvc, mra, mrc⟩ := y
        dsimp only at hkb
        subst hkb
        repeat refine s1 ?_
        refine t_draw [pt t9 (.cells (nbx m ⟨mka, mkc, mva, mvc, some ⟨kb, ko, none⟩, mrc⟩).toArray T.node_Node (0, 0))] [1, 2] mixed (by decide +kernel) ?_
        repeat refine s1 ?_
        refine cl (way_c m ⟨mka, mkc, mva, mvc, some ⟨kb, ko, none⟩, mrc⟩ k hrise (by omega) Φ) ?_
        rw [hwk]
        dsimp only
        refine ix rfl rfl hAlt ?_
        refine r_loadIA (off := ko) (n := m.kids.length) (cap := mrc) (E := T.api_Ref) (s := 33) (xs := m.kids.flatMap rcells) (vs := rcells c.rf) rfl (j := A.length * 33) (by omega) (by simp [hcc.2.1.sum.1]) (by
          have := kid_at hmw hAlt
          rw [hkid2] at this; exact this) rfl rfl ?_
        refine r_storeW (vs := rcells c.rf) rfl rfl (by simp [hcc.2.1.sum.1]) (by simp [hr.sum.1]) (by simp [Value.oneCell']) rfl ?_
        repeat refine s1 ?_
        refine r_loadW (vs := rcells c.rf) rfl (by simp [hcc.2.1.sum.1]) rfl rfl ?_
        repeat refine s1 ?_
        refine al (cs := rcells Rf0) (fun t8' => ?_)
        refine r_storeW (vs := rcells c.rf) rfl rfl (by simp [hcc.2.1.sum.1]) (by rfl) (by simp [Value.oneCell']) rfl ?_
        repeat refine s1 ?_
        exact j_again (h, c.rf, t8') ⟨by omega, 4, c.kv, c.U, hcc.2, srt_mid hsrt', by
          rw [← hg, hkv', hcut]
          exact (get_mid hsA hsB).symm⟩ (Nat.lt_succ_self h) ⟨rfl, rfl, rfl, rfl, rfl, rfl, rfl, trivial⟩ (by
          dsimp only
          rw [show N + (H - (h + 1)) + 1 = N + (H - h) by omega]
          exact Le.ent)
    · unfold dnN dnE
      simp only [hd, if_true]
      repeat refine s2 ?_
      refine r_storeW (vs := z44.map u8) rfl rfl (by rfl) (by rfl) (by simp [Value.oneCell']) rfl ?_
      repeat refine s1 ?_
      refine jh [hlog S.pl (N + (H - h) + 1)] (j_ent (hlogUp (N' := N + 200) (by omega) _) ?_)
      exact j_fin rfl (.cons (rv_agg (l := z44.map u8) (fr := (0, 0)) rfl (by rfl)) (.cons (rv_tmp rfl) (.cons (rv_tmp rfl) .nil))) () (by rw [if_pos (by simp)]; rfl) trivial
end Go.Proofs.YtcnpkmdooekmgaaGreatDoor
namespace Go.Proofs.YtcnpkmdooekmgaaGreatDoor
open Go Sl
abbrev yl (l : Nat) : Value := .func (.yield l) #[] #[]
theorem Ent.mid (A : List Assn) (z : Assn) (B : List Assn) : Ent (A ++ z :: B) (z :: (A ++ B)) := by
  induction A with
  | nil => exact Ent.refl _
  | cons a A ih => exact (Ent.cons a ih).trans (Ent.swap _ _ _)
theorem Ent.unmid (A : List Assn) (z : Assn) (B : List Assn) : Ent (z :: (A ++ B)) (A ++ z :: B) := by
  induction A with
  | nil => exact Ent.refl _
  | cons a A ih => exact (Ent.swap _ _ _).trans (Ent.cons a ih)
/-- what a call of yield does. -/
def Yd (P : Program) (Φ : Base) (l : Nat) (args : List Value) (Pre : Assn) (b : Bool) (Post : Assn) : Prop :=
  ∀ F w, Holds Φ (Pre :: F) w → upS P (fun v w' => v = .bool b ∧ Holds Φ (Post :: F) w') ((Instr.yield l args.toArray).run P w)
/-- an iterator's way: what comes of a state, and whether it came to the end. -/
def rounds {σ ξ : Type} (nxt : σ → ξ → σ) (go : σ → ξ → Bool) : σ → List ξ → σ × Bool
  | s, [] => (s, true)
  | s, x :: xs => if go s x then rounds nxt go (nxt s x) xs else (nxt s x, false)
abbrev fin2 {σ : Type} (B Bx : σ → Assn) (r : σ × Bool) : Assn := if r.2 then B r.1 else Bx r.1
/-- an iterator: it hands over xs, in order, till one answers 'no more'. -/
def SeqOk (P : Program) (Φ : Base) (gf : Nat) (lb : List Value) {ξ : Type} (enc : ξ → List Value) (xs : List ξ) (Pre : List Assn) {α : Type} (q : α → Prop) (Post : α → List Assn) : Prop :=
  ∀ (l : Nat) (σ : Type) (B Bx : σ → Assn) (nxt : σ → ξ → σ) (go : σ → ξ → Bool) (Iv : σ → List ξ → Prop), (∀ s x rem, Iv s (x :: rem) → Yd P Φ l (enc x) (B s) (go s x) (if go s x then B (nxt s x) else Bx (nxt s x))) → (∀ s x rem, Iv s (x :: rem) → go s x = true → Iv (nxt s x) rem) → ∀ s0, Iv s0 xs →
    Sl.Fn P Φ gf (yl l :: lb) (B s0 :: Pre) q (fun _ => .tuple #[]) (fun z => fin2 B Bx (rounds nxt go s0 xs) :: Post z)
def jcode : Exit → Code
  | .exit id => .exit id
  | _ => .ret
/-- how a round ends. -/
def RndQ (Φ : Base) (jx : Exit) (b : Bool) (G Gx : List Assn) : Exit → Act → World → Prop
  | .normal, _, w => b = true ∧ Holds Φ G w
  | .ret, _, w => jx = .ret ∧ b = false ∧ Holds Φ Gx w
  | .exit id, _, w => jx = .exit id ∧ b = false ∧ Holds Φ Gx w
  | _, _, _ => False
section
variable {X : Cx} {e : Env} {L : List Assn} {Q : Exit → Act → World → Prop}
theorem j_rnd {jx : Exit} {G Gx : List Assn} (hE : Ent L G) : J X e L (RndQ X.Φ jx true G Gx .normal) := fun _ _ _ hh => ⟨rfl, hh.ent hE⟩
theorem j_rnd_ret {G Gx : List Assn} (hE : Ent L Gx) : J X e L (RndQ X.Φ .ret false G Gx .ret) := fun _ _ _ hh => ⟨rfl, rfl, hh.ent hE⟩
theorem j_rnd_exit {id : Nat} {G Gx : List Assn} (hE : Ent L Gx) : J X e L (RndQ X.Φ (.exit id) false G Gx (.exit id)) := fun _ _ _ hh => ⟨rfl, rfl, hh.ent hE⟩
/-- the environment of a round. -/
def penv : List Nat → List Value → Env → Env
  | p :: ps, v :: vs, e => penv ps vs ((p, v) :: e)
  | _, _, e => e
theorem penv_mt {n : Nat} : ∀ (ps : List Nat) (vs : List Value) (e : Env) (tmps : Array Value), (∀ p ∈ ps, Nat.blt p n = true) → Mt [] n e { tmps := tmps, defers := [] } →
    Mt [] n (penv ps vs e) { tmps := (ps.zip vs).foldl (fun t (p : Nat × Value) => t.setIfInBounds p.1 p.2) tmps, defers := [] }
  | [], _, e, tmps, _, m => by simpa [penv] using m
  | _ :: _, [], e, tmps, _, m => by simpa [penv] using m
  | p :: ps, v :: vs, e, tmps, hp, m => by
    have h1 := Mt.put (v := v) m (hp p (by simp))
    have := penv_mt ps vs ((p, v) :: e) (tmps.setIfInBounds p v) (fun p' h => hp p' (by simp [h])) h1
    simpa [penv] using this
theorem t_range {σ ξ ζ : Type} {g : Operand} {gf : Nat} {lb : List Value} {ps : List Nat} {asg body : Code} {enc : ξ → List Value} {xs : List ξ} {Pre R : List Assn} {α : Type} {q : α → Prop} {Post : α → List Assn} [tf : TFn X.P gf]
    (hg : ev e g = some (.func (.func gf) #[] lb.toArray)) (hseq : SeqOk X.P X.Φ gf lb enc xs Pre q Post)
    (B Bx : σ → Assn) (nxt : σ → ξ → σ) (go : σ → ξ → Bool) (Iv : σ → List ξ → Prop) (hIv : ∀ s x rem, Iv s (x :: rem) → go s x = true → Iv (nxt s x) rem) (jx : Exit) (hjx : jx = .ret ∨ ∃ id, jx = .exit id) (s0 : σ) (hI0 : Iv s0 xs) (E : σ → ξ → ζ → Env) (M : σ → ξ → ζ → List Assn)
    (hL : Ent L (B s0 :: (Pre ++ R)))
    (hps : ∀ x, (enc x).length = ps.length) (hpn : ∀ p ∈ ps, Nat.blt p X.n = true) (hra : noR asg = true) (hrb : noR body = true)
    (hasg : ∀ s x rem, Iv s (x :: rem) → ∀ F, J ⟨X.P, X.Φ, X.n, []⟩ (penv ps (enc x) e) (B s :: F) (cw X.P asg (Meet ⟨X.P, X.Φ, X.n, []⟩ (E s x) (fun z => M s x z ++ F) (fun _ => True) (fun _ _ _ => False))))
    (hbody : ∀ s x rem, Iv s (x :: rem) → ∀ z F, J ⟨X.P, X.Φ, X.n, []⟩ (E s x z) (M s x z ++ F) (cw X.P body (RndQ X.Φ jx (go s x) (B (nxt s x) :: F) (Bx (nxt s x) :: F))))
    (hend : ∀ D z, q z → (rounds nxt go s0 xs).2 = true → J ⟨X.P, X.Φ, X.n, { target := .collected D, args := #[] } :: X.ds⟩ e (pt D (.deferred (some [])) :: B (rounds nxt go s0 xs).1 :: (Post z ++ R)) (Q .normal))
    (hstop : ∀ D z, q z → (rounds nxt go s0 xs).2 = false → J ⟨X.P, X.Φ, X.n, { target := .collected D, args := #[] } :: X.ds⟩ e (pt D (.deferred (some [])) :: Bx (rounds nxt go s0 xs).1 :: (Post z ++ R)) (Q jx)) :
    J X e L (cw X.P (Code.rangeFunc g ps.toArray asg body) Q) := fun a w m hh ro hr => by
  obtain rfl := hr.resolve_right (by simp [noR])
  refine wpIn_rangeFunc ?_
  intro fn hfn
  obtain ⟨rec, hrec⟩ : ∃ rec : LoopState → Option Code → Loop, rec = fun st pe => { state := st, pending := pe, fn, tmps := a.tmps, params := ps.toArray, assign := asg, body, defers := w.heap.size } := ⟨_, rfl⟩
  obtain ⟨W1, hW1⟩ : ∃ W1, (w.alloc (.deferred (some []))).alloc (.loop (rec .ready none)) = W1 := ⟨_, rfl⟩
  have hh1 : Holds X.Φ (pt (w.heap.size + 1) (.loop (rec .ready none)) :: pt w.heap.size (.deferred (some [])) :: L) W1 := by
    have h1 := hh.alloc (w' := w.alloc (.deferred (some []))) (.deferred (some [])) rfl rfl rfl rfl
    have h2 := h1.alloc (w' := W1) (.loop (rec .ready none)) (by rw [← hW1]; rfl) (by rw [← hW1]; rfl) (by rw [← hW1]; rfl) (by rw [← hW1]; rfl)
    rwa [World.size_alloc] at h2
  have hev : a.eval g = .func (.func gf) #[] lb.toArray := m.ev hg
  refine ⟨w.heap.size + 1, [{ target := .collected w.heap.size, args := #[] }], W1, { target := .fn (.func gf) lb.toArray, args := #[.func (.yield (w.heap.size + 1)) #[] #[]] }, W1, gf,
    #[.func (.yield (w.heap.size + 1)) #[] #[]] ++ lb.toArray, W1, ?_, ?_, fun f' _ => trivial, ?_, fun h => (by cases h), ?_⟩
  · rw [← hW1, hrec]; exact run_enterLoop_outer _ _ _ _ _
  · simp only [resolve, hev]
    simp [go_sem]
  · simp [invoke, go_sem, tf.run]
  · generalize hl : w.heap.size + 1 = l at hh1 ⊢
    generalize hD : w.heap.size = D at hh1 ⊢
    have hargs : #[.func (.yield l) #[] #[]] ++ lb.toArray = (yl l :: lb).toArray := by simp
    rw [hargs]
    have hY : ∀ s x rem, Iv s (x :: rem) → Yd X.P X.Φ l (enc x) (all [pt l (.loop (rec .ready none)), B s]) (go s x) (if go s x then all [pt l (.loop (rec .ready none)), B (nxt s x)] else all [pt l (.loop (rec .done (some (jcode jx)))), Bx (nxt s x)]) := by
      intro s x rem hx F w1 hw1
      have hw1 : Holds X.Φ (pt l (.loop (rec .ready none)) :: B s :: F) w1 := hw1.ent (Ent.all _ _)
      have hlw : w1.heap[l]? = some (.loop (rec .ready none)) := hw1.rd
      have hy := run_yield (P := X.P) (args := (enc x).toArray) hlw (by rw [hrec]; simpa using hps x)
      rw [hy]
      have hw1' : Holds X.Φ (B s :: pt l (.loop (rec .ready none)) :: F) w1 := hw1.ent (Ent.swap _ _ _)
      have hmt : Mt [] X.n (penv ps (enc x) e) { tmps := (((rec .ready none).params.zip (enc x).toArray).foldl (fun tmps (t, a) => tmps.setIfInBounds t a) (rec .ready none).tmps), defers := [] } := by
        have := penv_mt ps (enc x) e a.tmps hpn ⟨m.size, rfl, m.val⟩
        rw [hrec]
        simpa [Array.zip, List.zip, ← Array.foldl_toList] using this
      have hrt : RoundIn Fence.wide 0 X.P l fn (((rec .ready none).params.zip (enc x).toArray).foldl (fun tmps (t, a) => tmps.setIfInBounds t a) (rec .ready none).tmps) asg body w1
          (fun e' w' => ∃ v, e' = .returned v ∧ v = .bool (go s x) ∧ Holds X.Φ ((if go s x then all [pt l (.loop (rec .ready none)), B (nxt s x)] else all [pt l (.loop (rec .done (some (jcode jx)))), Bx (nxt s x)]) :: F) w') := by
        refine roundIn_of_wpIn trivial (wpIn_mono (hasg s x rem hx (pt l (.loop (rec .ready none)) :: F) _ w1 hmt hw1' (some l) (.inr hra)) ?_)
        intro x' a1 w2 hx'
        cases x' with
        | normal =>
          obtain ⟨z, _, hm1, hw2⟩ := hx'
          have hw2' := hw2.ent (Ent.mid _ _ _)
          have hl2 : w2.heap[l]? = some (.loop (rec .ready none)) := hw2'.rd
          refine ⟨_, run_beginRound hl2 (by rw [hrec]), ?_⟩
          have hlt : l < w2.heap.size := (Array.getElem?_eq_some_iff.1 hl2).1
          have hbz : ({ rec .ready none with state := .busy } : Loop) = rec .busy none := by rw [hrec]
          rw [hbz]
          have hw3 : Holds X.Φ (pt l (.loop (rec .busy none)) :: (M s x z ++ F)) (w2.putObj l (.loop (rec .busy none))) := hw2'.upd (World.putObj_heap_same hlt) (fun c hc => World.putObj_heap_other hc) rfl rfl rfl
          refine wpIn_mono (hbody s x rem hx z (pt l (.loop (rec .busy none)) :: F) a1 _ hm1 (hw3.ent (Ent.unmid _ _ _)) (some l) (.inr hrb)) ?_
          intro x2 a2 w4 h4
          have fin : ∀ (jump : Option Code) (G : Assn), Holds X.Φ (G :: pt l (.loop (rec .busy none)) :: F) w4 → ∃ w5, (Instr.endRound l jump).run X.P w4 = .ok (.bool jump.isNone) w5 ∧ Holds X.Φ (all [pt l (.loop (rec (if jump.isNone then .ready else .done) jump)), G] :: F) w5 := fun jump G hG => by
            have h5 := hG.ent (Ent.swap _ _ _)
            have hl5 : w4.heap[l]? = some (.loop (rec .busy none)) := h5.rd
            have hlt5 : l < w4.heap.size := (Array.getElem?_eq_some_iff.1 hl5).1
            refine ⟨_, run_endRound jump hl5, ?_⟩
            have he : ({ rec .busy none with state := if jump.isNone then .ready else .done, pending := jump } : Loop) = rec (if jump.isNone then .ready else .done) jump := by rw [hrec]
            rw [he]
            exact (h5.upd (o' := .loop (rec (if jump.isNone then .ready else .done) jump)) (World.putObj_heap_same hlt5) (fun c hc => World.putObj_heap_other hc) rfl rfl rfl).ent (Ent.unall [pt l (.loop (rec (if jump.isNone then .ready else .done) jump)), G] F)
          cases x2 with
          | normal =>
            obtain ⟨hb, h4⟩ := h4
            obtain ⟨w5, h6, h7⟩ := fin none _ h4
            exact ⟨_, _, h6, _, rfl, by rw [hb]; rfl, by rw [hb]; exact h7⟩
          | ret =>
            obtain ⟨hj, hb, h4⟩ := h4
            obtain ⟨w5, h6, h7⟩ := fin (some .ret) _ h4
            exact ⟨_, _, h6, _, rfl, by rw [hb]; rfl, by rw [hb, hj]; exact h7⟩
          | exit id =>
            obtain ⟨hj, hb, h4⟩ := h4
            obtain ⟨w5, h6, h7⟩ := fin (some (.exit id)) _ h4
            exact ⟨_, _, h6, _, rfl, by rw [hb]; rfl, by rw [hb, hj]; exact h7⟩
          | goto => exact h4.elim
          | panic => exact h4.elim
          | outgrown => exact h4.elim
        | exit => exact hx'.elim
        | ret => exact hx'.elim
        | goto => exact hx'.elim
        | panic => exact hx'.elim
        | outgrown => exact hx'.elim
      have hfx : (rec .ready none).fn = fn ∧ (rec .ready none).assign = asg ∧ (rec .ready none).body = body := by rw [hrec]; exact ⟨rfl, rfl, rfl⟩
      rw [hfx.1, hfx.2.1, hfx.2.2]
      exact hrt
    have hW : Holds X.Φ ((all [pt l (.loop (rec .ready none)), B s0] :: Pre) ++ (pt D (.deferred (some [])) :: R)) W1 := by
      refine hh1.ent ((Ent.cons _ (Ent.cons _ hL)).trans ((Ent.cons _ (Ent.swap _ _ _)).trans ((Ent.cons _ (Ent.cons _ (Ent.unmid _ _ _))).trans ?_)))
      exact Ent.unall [pt l (.loop (rec .ready none)), B s0] _
    refine (fen_calls none (hseq l σ (fun s => all [pt l (.loop (rec .ready none)), B s]) (fun s => all [pt l (.loop (rec .done (some (jcode jx)))), Bx s]) nxt go Iv hY hIv s0 hI0 (pt D (.deferred (some [])) :: R) W1 hW)).mono ?_
    rintro _ w3 ⟨z, hq, rfl, hw3⟩
    have hmt2 : Mt ({ target := .collected D, args := #[] } :: X.ds) X.n e { a with defers := [{ target := .collected D, args := #[] }] ++ a.defers } := ⟨m.size, by simp [m.defers], m.val⟩
    have hout : ∀ (st : LoopState) (pe : Option Code) (G : Assn), st ≠ .busy → Holds X.Φ ((all [pt l (.loop (rec st pe)), G] :: Post z) ++ (pt D (.deferred (some [])) :: R)) w3 → ∃ w4, (Instr.endLoop l).run X.P w3 = .ok pe w4 ∧ Holds X.Φ (pt D (.deferred (some [])) :: G :: (Post z ++ R)) w4 := fun st pe G hst hG => by
      have h5 : Holds X.Φ (pt l (.loop (rec st pe)) :: G :: (Post z ++ pt D (.deferred (some [])) :: R)) w3 := hG.ent (Ent.all [pt l (.loop (rec st pe)), G] _)
      have hl5 : w3.heap[l]? = some (.loop (rec st pe)) := h5.rd
      have hlt5 : l < w3.heap.size := (Array.getElem?_eq_some_iff.1 hl5).1
      have h6 := run_endLoop (P := X.P) hl5 (by rw [hrec]; exact hst)
      refine ⟨_, by rw [hrec] at h6; exact h6, ?_⟩
      have h7 : Holds X.Φ (pt l (.loop { rec st pe with state := .exhausted }) :: G :: (Post z ++ pt D (.deferred (some [])) :: R)) (w3.putObj l (.loop { rec st pe with state := .exhausted })) := h5.upd (World.putObj_heap_same hlt5) (fun c hc => World.putObj_heap_other hc) rfl rfl rfl
      rw [hrec] at h7
      exact h7.ent ((Ent.drop _ _).trans ((Ent.cons _ (Ent.mid _ _ _)).trans (Ent.swap _ _ _)))
    cases hr2 : (rounds nxt go s0 xs).2 with
    | true =>
      rw [fin2, hr2, if_pos rfl] at hw3
      obtain ⟨w4, h4, h5⟩ := hout .ready none _ (by simp) hw3
      exact ⟨none, w4, h4, hend D z hq hr2 _ w4 hmt2 h5⟩
    | false =>
      rw [fin2, hr2, if_neg (by simp)] at hw3
      obtain ⟨w4, h4, h5⟩ := hout .done (some (jcode jx)) _ (by simp) hw3
      refine ⟨some (jcode jx), w4, h4, ?_⟩
      have := hstop D z hq hr2 _ w4 hmt2 h5
      rcases hjx with rfl | ⟨id, rfl⟩
      · exact wpIn_ret this
      · exact wpIn_exit this
/-- a call of yield. -/
theorem r_yield {A : List Assn} {S : List Nat} {ops : Array Oper} {k : Nat} {lo : List Oper} {K : Act → World → Prop} {d : Nat} {T : TypeId} {pos : String} {af : Array Edge} {l : Nat} {x : Operand} {os : List Operand} {ts : Array TypeId} {vs : List Value} {Pre Post : Assn} {b : Bool} {F : List Assn}
    (hx : ev e x = some (yl l)) (hy : Yd X.P X.Φ l vs Pre b Post) [sp : Split [Pre] L F] [st : Stay A (Post :: F)]
    (h : J X ((d, .bool b) :: e) (Post :: F) (sw X.P (Holds X.Φ A) S ops K (k + 1) lo)) (hvs : evL e os = some vs := by rfl) (hs : S.contains k = false := by rfl) (hd : Nat.blt d X.n = true := by rfl) :
    J X e L (sw X.P (Holds X.Φ A) S ops K k (⟨some d, .call { callee := .value x, args := os.toArray, argTypes := ts }, T, pos, af, none⟩ :: lo)) :=
  r_write (α := Unit) (q := fun _ => True) (V := fun _ => .bool b) (M := fun _ => Post :: F) rfl (by simp only [cls, hs]; cases x <;> rfl) (blt_some hd) (fun _ => st) (fun a w m hh => by
    have h1 : os.toArray.map a.eval = vs.toArray := by rw [← m.evL hvs]; simp
    have h2 := hy F w (hh.ent sp.ent)
    have h3 : (execOp a.eval (⟨some d, .call { callee := .value x, args := os.toArray, argTypes := ts }, T, pos, af, none⟩ : Oper)).run X.P w = (Instr.yield l vs.toArray).run X.P w := by
      simp only [execOp, resolve, m.ev hx, h1]
      simp [Deferred.ofValue, invoke, go_sem]
    rw [h3]
    exact upS_mono (fun v w' ⟨h4, h5⟩ => ⟨(), trivial, h4, h5⟩) h2) (fun _ _ => h)
/-- a loop in which ranges over functions lay their marks. -/
def AgainD (X : Cx) {σ : Type} (ds : σ → List Deferred) (E : σ → Env) (M : σ → List Assn) (I : σ → Prop) (μ : σ → Nat) (s : σ) (a : Act) (w : World) : Prop :=
  ∃ s', (I s' ∧ Mt (ds s') X.n (E s') a ∧ Holds X.Φ (M s') w) ∧ μ s' < μ s
theorem t_loopD {σ : Type} {c : Code} (ds : σ → List Deferred) (E : σ → Env) (M : σ → List Assn) (I : σ → Prop) (μ : σ → Nat) (s : σ) (hs : I s) (hds : X.ds = ds s)
    (he : Sub (E s) e) (hm : Ent L (M s))
    (round : ∀ s, I s → J ⟨X.P, X.Φ, X.n, ds s⟩ (E s) (M s) (cw X.P c (Exit.then (AgainD X ds E M I μ s) Q))) : J X e L (cw X.P (Code.loop c) Q) := fun a w m hh ro hr =>
  wp_loop_by (fun s a w => I s ∧ Mt (ds s) X.n (E s) a ∧ Holds X.Φ (M s) w) μ ro (fun s a w ⟨h1, h2, h3⟩ => round s h1 a w h2 h3 ro hr) s a w
    ⟨hs, ⟨m.size, m.defers.trans hds, fun t v ht => m.val t v (he.lk t v ht)⟩, hh.ent hm⟩
theorem j_againD {σ : Type} {X0 : Cx} {ds : σ → List Deferred} {E : σ → Env} {M : σ → List Assn} {I : σ → Prop} {μ : σ → Nat} {s : σ} (s' : σ) (hs : I s') (hlt : μ s' < μ s) (hds : X.ds = ds s')
    (he : Sub (E s') e) (hm : Ent L (M s')) (hn : X.n = X0.n := by rfl) (hΦ : X.Φ = X0.Φ := by rfl) : J X e L (AgainD X0 ds E M I μ s) := fun _ _ m hh =>
  ⟨s', ⟨hs, ⟨m.size.trans hn, m.defers.trans hds, fun t v ht => m.val t v (he.lk t v ht)⟩, by rw [← hΦ]; exact hh.ent hm⟩, hlt⟩
/- a function that holds ranges over functions -/
def marks (Ds : List Nat) : List Deferred := Ds.map fun D => { target := .collected D, args := #[] }
def mkA (Ds : List Nat) : Assn := all (Ds.map fun D => pt D (.deferred (some [])))
theorem mkA_nil (L : List Assn) : Ent L (mkA [] :: L) := Ent.unall [] L
theorem mkA_cons (D : Nat) (Ds : List Nat) (L : List Assn) : Ent (pt D (.deferred (some [])) :: mkA Ds :: L) (mkA (D :: Ds) :: L) := (Ent.cons _ (Ent.all _ L)).trans (Ent.unall (pt D (.deferred (some [])) :: Ds.map fun D => pt D (.deferred (some []))) L)
theorem foM {P : Program} {Φ : Base} {f : FuncId} {fn : Func} {c : Code} {n : Nat} {args : List Value} {Pre : List Assn} {α : Type} {q : α → Prop} {V : α → Value} {Post : α → List Assn} {E : Env} {C : List Assn → List Assn}
    [tb : TBody P f fn n] [ae : AEnv args E] [ap : ∀ F, AppL Pre F (C F)] (h : ∀ F, J ⟨P, Φ, n, []⟩ E (C F) (cw P c (bodyPostM Fence.wide 0 P fn (PostR Φ q V Post F))))
    (hb : fn.body = some c := by rfl) (hl : Nat.ble args.length n = true := by rfl) : Sl.Fn P Φ f args Pre q V Post := fun F w hh =>
  callsIn_wide.1 (callsIn_of_wp_marks (n := 0) tb.hf hb trivial (h F _ w ⟨by have := Nat.le_of_ble_eq_true hl; rw [← tb.hn] at this ⊢; simp; omega, rfl, fun t v ht => by
    rw [← ae.eq] at ht
    obtain ⟨_, h2⟩ := argEnv_spec args 0 t v ht
    have hlt := (List.getElem?_eq_some_iff.1 h2).1
    simp only [Nat.sub_zero] at h2 hlt
    rw [Array.getElem?_append_left (by simpa using hlt)]
    simpa using h2⟩ (by rw [← (ap F).eq]; exact hh) none (.inl rfl)))
theorem leaveM {X : Cx} {fn : Func} {tmps : Array Value} {R : Ending → World → Prop} {L : List Assn} (h : ∀ w, Holds X.Φ L w → ∃ v, (results fn tmps).run X.P w = .ok v w ∧ R (.returned v) w) : ∀ (Ds : List Nat) (w : World), Holds X.Φ (mkA Ds :: L) w → LeavesInM Fence.wide 0 X.P fn tmps R (marks Ds) .returning w
  | [], w, hh => h w (hh.ent (Ent.drop _ _))
  | D :: Ds, w, hh => by
    have h1 : Holds X.Φ (pt D (.deferred (some [])) :: ((Ds.map fun D => pt D (.deferred (some []))) ++ L)) w := hh.ent (Ent.all (pt D (.deferred (some [])) :: Ds.map fun D => pt D (.deferred (some []))) L)
    have h2 : w.heap[D]? = some (.deferred (some [])) := h1.rd
    refine ⟨by simp, .inl ⟨D, _, rfl, run_takeDeferred h2, leaveM h Ds _ ?_⟩⟩
    have h3 : Holds X.Φ (pt D (.deferred none) :: ((Ds.map fun D => pt D (.deferred (some []))) ++ L)) (w.putObj D (.deferred none)) := h1.upd (World.putObj_heap_same (Array.getElem?_eq_some_iff.1 h2).1) (fun c hc => World.putObj_heap_other hc) rfl rfl rfl
    exact h3.ent ((Ent.drop _ _).trans (Ent.unall _ L))
theorem j_finM {X : Cx} {e : Env} {L F : List Assn} {fn : Func} {rs : List ResultVar} {vs : List Value} {α : Type} {q : α → Prop} {V : α → Value} {Post : α → List Assn} (Ds : List Nat) (hds : X.ds = marks Ds) (hr : fn.results = rs.toArray) (h : RvsOK X e L rs vs)
    (x : α) (hV : V x = pack vs) (hq : q x) [ft : Fits (Post x) F L] :
    J X e (mkA Ds :: L) (bodyPostM Fence.wide 0 X.P fn (PostR X.Φ q V Post F) .ret) := fun a w m hh => by
  show LeavesInM Fence.wide 0 X.P fn a.tmps _ a.defers .returning w
  rw [m.defers.trans hds]
  exact leaveM (fun w hw => ⟨pack vs, results_ok hr h m hw, x, hq, by rw [hV], hw.ent ft.ent⟩) Ds w hh
end
end Go.Proofs.YtcnpkmdooekmgaaGreatDoor
namespace Go.Proofs.YtcnpkmdooekmgaaGreatDoor
open Go Sl
abbrev encP (x : Nat × List Nat) : List Value := [.agg (w64 x.1 :: x.2.map u8).toArray]
abbrev filt (k : Nat) (kv : KV) : KV := kv.filter fun x => decide (k ≤ x.1)
theorem rounds_app {σ ξ : Type} (nxt : σ → ξ → σ) (go : σ → ξ → Bool) : ∀ (xs ys : List ξ) (s : σ), rounds nxt go s (xs ++ ys) = if (rounds nxt go s xs).2 then rounds nxt go (rounds nxt go s xs).1 ys else rounds nxt go s xs
  | [], ys, s => by simp [rounds]
  | x :: xs, ys, s => by
    simp only [List.cons_append, rounds]
    split
    · exact rounds_app nxt go xs ys _
    · simp
theorem rounds_inv {σ ξ : Type} {nxt : σ → ξ → σ} {go : σ → ξ → Bool} {Iv : σ → List ξ → Prop} (hst : ∀ s x rem, Iv s (x :: rem) → go s x = true → Iv (nxt s x) rem) {ys : List ξ} : ∀ {xs : List ξ} {s : σ}, Iv s (xs ++ ys) → (rounds nxt go s xs).2 = true → Iv (rounds nxt go s xs).1 ys
  | [], s, h, _ => h
  | x :: xs, s, h, hr => by
    simp only [rounds] at hr ⊢
    split at hr
    · rename_i hg
      rw [if_pos hg]
      exact rounds_inv hst (hst s x _ h hg) hr
    · cases hr
theorem filt_none {k : Nat} {kv : KV} (h : ∀ x ∈ kv, x.1 < k) : filt k kv = [] := List.filter_eq_nil_iff.2 fun x hx => by have := h x hx; simp; omega
theorem filt_app (k : Nat) (a b : KV) : filt k (a ++ b) = filt k a ++ filt k b := List.filter_append ..
/-- in a leaf: from where on. -/
theorem filt_drop {k : Nat} : ∀ {kv : KV}, Srt kv → filt k kv = kv.drop (below (kv.map (·.1)) k)
  | [], _ => rfl
  | a :: l, h => by
    obtain ⟨h1, h2⟩ := List.pairwise_cons.1 h
    by_cases hk : a.1 < k
    · have hb : below ((a :: l).map (·.1)) k = below (l.map (·.1)) k + 1 := by simp [below, hk]
      rw [hb, List.drop_succ_cons, ← filt_drop h2]
      simp [filt, show ¬ k ≤ a.1 by omega]
    · have hb : below ((a :: l).map (·.1)) k = 0 := by
        rw [below, List.countP_eq_zero]
        intro x hx
        rcases List.mem_cons.1 hx with rfl | hx
        · simpa using hk
        · obtain ⟨y, hy, rfl⟩ := List.mem_map.1 hx
          have := h1 y hy
          simp; omega
      rw [hb, List.drop_zero]
      refine List.filter_eq_self.2 fun x hx => ?_
      rcases List.mem_cons.1 hx with rfl | hx
      · simpa using hk
      · have := h1 x hx
        simp; omega
abbrev wkPre (bt br bf bk tp pf : Nat) (r : Rf) (k e : Nat) : List Assn := [pt bt (.cells [ptr tp].toArray T.p_mtree_Tree (0, 0)), pt br (.cells (rcells r).toArray T.api_Ref (0, 0)), pt bf (.cells [ptr pf].toArray T.p_api_Errno (0, 0)), pt bk (.cells [w64 k].toArray T.uint64 (0, 0)), pt pf (.cells [i64 e].toArray T.api_Errno (0, 0))]
instance : TAgg Tryz.prog 256 false := ⟨Go.Proofs.Tryz.isAgg256⟩
attribute [local irreducible] cw sw J Exit.then Exit.inBlock Exit.noGoto bodyPost swG swL permL
theorem walkf_c (tp pf k : Nat) (r : Rf) (Φ : Base) : Sl.Fn Tryz.prog Φ F.mtree_Tree_walk [ptr tp, .agg (rcells r).toArray, w64 k, ptr pf] [] (fun _ : Nat × Nat × Nat × Nat => True) (fun z => .func (.func 126) #[] [ptr z.1, ptr z.2.1, ptr z.2.2.1, ptr z.2.2.2].toArray)
    (fun z => [pt z.1 (.cells [ptr tp].toArray T.p_mtree_Tree (0, 0)), pt z.2.1 (.cells (rcells r).toArray T.api_Ref (0, 0)), pt z.2.2.1 (.cells [ptr pf].toArray T.p_api_Errno (0, 0)), pt z.2.2.2 (.cells [w64 k].toArray T.uint64 (0, 0))]) := by
  refine fo fun F => ?_
  repeat refine s1 ?_
  refine r_box (cs := [ptr tp]) rfl rfl rfl rfl (fun b4 => ?_)
  refine r_box (cs := rcells r) rfl rfl rfl rfl (fun b5 => ?_)
  refine r_box (cs := [w64 k]) rfl rfl rfl rfl (fun b6 => ?_)
  refine r_box (cs := [ptr pf]) rfl rfl rfl rfl (fun b7 => ?_)
  repeat refine s1 ?_
  refine mkf (vs := [ptr b4, ptr b5, ptr b7, ptr b6]) rfl ?_
  repeat refine s1 ?_
  exact f1 (b4, b5, b7, b6)
set_option maxHeartbeats 2000000 in
theorem walk_s (tp ps pf k : Nat) (o : Option Rf) (S : St) (D : Dk) (hS : S.wf) (ha : Agr S D) (Φ : Base) : ∀ (h N : Nat) (r : Rf) (lo : Nat) (kv : KV) (U : List Nat) (bt br bf bk : Nat), Sh S.g lo h r kv U → Srt kv → N + U.length ≤ 700000000 →
    SeqOk Tryz.prog Φ F.mtree_Tree_walk_c1 [ptr bt, ptr br, ptr bf, ptr bk] encP (if D.down then [] else filt k kv) (wkPre bt br bf bk tp pf r k 0 ++ [tree tp ps o, store ps S, disk S.pd D, hlog S.pl N]) (fun _ : Unit => True) (fun _ => wkPre bt br bf bk tp pf r k (dnE D) ++ [tree tp ps o, store ps S, disk S.pd D, hlog S.pl (N + U.length)]) := by
  intro h
  induction h using Nat.strongRecOn with
  | _ h ih =>
  intro N r lo kv U bt br bf bk hsh hs hN
  obtain ⟨hr, m, V, hn, hmr, hlo, hsec, hsum, hK, rfl⟩ := hsh
  have hmw := nsh_wt hn
  have hkvok := nsh_ok hn
  rw [List.length_cons] at hN
  intro l σ B Bx nxt go Iv hy hst s0 hI0
  refine foM fun F => ?_
  dsimp only [List.cons_append, List.nil_append]
  repeat refine s1 ?_
  refine r_box (cs := [yl l]) rfl rfl rfl rfl (fun t5 => ?_)
  repeat refine s1 ?_
  refine t_meet (σ := NR × Nat) (fun z => [(6, ptr z.2), (7, i64 (dnE D)), (5, ptr t5), (1, ptr bt), (2, ptr br), (3, ptr bf), (4, ptr bk)])
    (fun z => pt z.2 (.cells (nbx (dnN D m) z.1).toArray T.node_Node (0, 0)) :: node (dnN D m) z.1 :: pt t5 (.cells [yl l].toArray T.func_256 (0, 0)) :: B s0 :: (wkPre bt br bf bk tp pf r k 0 ++ tree tp ps o :: store ps S :: disk S.pd D :: hlog S.pl (N + 1) :: F)) (fun _ => True) ?_ ?_
  · refine t_draw2 [pt bt (.cells [ptr tp].toArray T.p_mtree_Tree (0, 0)), pt br (.cells (rcells r).toArray T.api_Ref (0, 0)), tree tp ps o] [0, 3, 4] 5 9 [9, 0, 1, 2, 3, 4, 5, 6, 7, 8, 10, 11] mixed (by decide +kernel) ?_ ?_
    · repeat refine s1 ?_
      refine s_loadW (vs := rcells r) rfl (by simp [hr.sum.1]) rfl rfl ?_
      repeat refine s1 ?_
      refine cx (tload_c ps N S D r m hr hS (by rw [show S.K r.sec = S.g.K r.sec from rfl, hK]; simp) hmr hmw hsec hsum ha (by omega) Φ) (fun y _ => ?_)
      generalize hmm : dnN D m = m2
      repeat refine s1 ?_
      refine al (cs := nbx nd0 nr0) (fun t9 => ?_)
      repeat refine s1 ?_
      refine r_storeW (vs := nbx m2 y) rfl rfl (by rfl) (by rfl) (by simp [Value.oneCell']) rfl ?_
      repeat refine s1 ?_
      rw [← hmm]
      exact j_meet (y, t9) trivial ⟨rfl, rfl, rfl, rfl, rfl, rfl, rfl, trivial⟩ (by first | exact Le.ent | (dsimp only; exact Le.ent) | (dsimp only [List.cons_append, List.nil_append]; exact Le.ent) | (dsimp only [List.cons_append, List.nil_append]; simp only [List.take_zero, List.map_nil, List.flatMap_nil, List.length_nil]; exact Le.ent))
    · repeat refine s1 ?_
      refine al (cs := nbx nd0 nr0) (fun t9 => ?_)
      repeat refine s1 ?_
      refine s_loadW (vs := rcells r) rfl (by simp [hr.sum.1]) rfl rfl ?_
      repeat refine s1 ?_
      refine cx (tload_c ps N S D r m hr hS (by rw [show S.K r.sec = S.g.K r.sec from rfl, hK]; simp) hmr hmw hsec hsum ha (by omega) Φ) (fun y _ => ?_)
      generalize hmm : dnN D m = m2
      repeat refine s1 ?_
      refine r_storeW (vs := nbx m2 y) rfl rfl (by rfl) (by rfl) (by simp [Value.oneCell']) rfl ?_
      repeat refine s1 ?_
      rw [← hmm]
      exact j_meet (y, t9) trivial ⟨rfl, rfl, rfl, rfl, rfl, rfl, rfl, trivial⟩ (by first | exact Le.ent | (dsimp only; exact Le.ent) | (dsimp only [List.cons_append, List.nil_append]; exact Le.ent) | (dsimp only [List.cons_append, List.nil_append]; simp only [List.take_zero, List.map_nil, List.flatMap_nil, List.length_nil]; exact Le.ent))
  rintro ⟨y, t6⟩ _
  dsimp only [List.cons_append, List.nil_append]
  rcases hd : D.down with _ | _
  · unfold dnN dnE
    simp only [hd, Bool.false_eq_true, if_false]
    simp only [dnE, hd, Bool.false_eq_true, if_false] at hI0 ih
    repeat refine s2 ?_
    cases h with
    | zero =>
      obtain ⟨rfl, rfl, hok⟩ := hn
      have hkl : kv.length ≤ 9 := by have := (hmr.leaf rfl).2.1; simpa [leafN] using this
      rw [show (leafN kv).leaf = true from rfl]
      have hkeys : (leafN kv).keys = kv.map (·.1) := rfl
      repeat refine s1 ?_
      refine cl (find_c (leafN kv) y k hmr.rise (by simp [leafN]; omega) Φ) ?_
      rw [hkeys]
      have hfl := filt_drop (k := k) hs
      have hble : below (kv.map (·.1)) k ≤ kv.length := by have := List.countP_le_length (p := fun x => decide (x < k)) (l := kv.map (·.1)); simpa [below] using this
      generalize below (kv.map (·.1)) k = b0 at hfl hble ⊢
      have hpos : 1 ≤ kv.length := by have := hmr.pos; simpa [leafN] using this
      have hln : (leafN kv).vals.length = kv.length := by simp [leafN]
      refine jh [node (leafN kv) y] (j_ent (Ent.unnode _) ?_)
      refine jh [keysA (leafN kv) y] (j_leni (fun _ _ hka => ?_))
      obtain ⟨kb, ko, hkb⟩ := hka (by simp [leafN]; omega)
      refine jh [valsA (leafN kv) y] (j_leni (fun _ _ hva => ?_))
      obtain ⟨vb, vo, hvb⟩ := hva (by simp [leafN]; omega)
      obtain ⟨mka, mkc, mva, mvc, mra, mrc⟩ := y
      dsimp only at hkb hvb
      subst hkb
      subst hvb
      repeat refine s1 ?_
      refine t_loop (σ := Nat × σ) (fun z => [(8, i64 z.1), (6, ptr t6), (5, ptr t5), (1, ptr bt), (2, ptr br), (3, ptr bf), (4, ptr bk)])
        (fun z => isl (some ⟨kb, ko, none⟩) (leafN kv).keys.length mkc T.uint64 1 ((leafN kv).keys.map w64) :: isl (some ⟨vb, vo, none⟩) (leafN kv).vals.length mvc T.a44_uint8 44 ((leafN kv).vals.flatMap fun v => v.map u8) ::
          pt t6 (.cells [.bool (leafN kv).leaf, .slice (some ⟨kb, ko, none⟩) (leafN kv).keys.length mkc, .slice (some ⟨vb, vo, none⟩) (leafN kv).vals.length mvc, .slice mra (leafN kv).kids.length mrc].toArray T.node_Node (0, 0)) :: pt t5 (.cells [yl l].toArray T.func_256 (0, 0)) :: B z.2 :: (wkPre bt br bf bk tp pf r k 0 ++ tree tp ps o :: store ps S :: disk S.pd D :: hlog S.pl (N + 1) :: F))
        (fun z => b0 ≤ z.1 ∧ z.1 ≤ kv.length ∧ rounds nxt go s0 ((kv.take z.1).drop b0) = (z.2, true) ∧ Iv z.2 (kv.drop z.1)) (fun z => kv.length - z.1) (b0, s0) ⟨Nat.le_refl _, hble, by show rounds nxt go s0 ((kv.take b0).drop b0) = (s0, true); rw [show (kv.take b0).drop b0 = [] from List.drop_eq_nil_of_le (List.length_take_le _ _)]; rfl, by rw [hfl] at hI0; exact hI0⟩ ⟨rfl, rfl, rfl, rfl, rfl, rfl, rfl, trivial⟩ (by first | exact Le.ent | (dsimp only; exact Le.ent) | (dsimp only [List.cons_append, List.nil_append]; exact Le.ent) | (dsimp only [List.cons_append, List.nil_append]; simp only [List.take_zero, List.map_nil, List.flatMap_nil, List.length_nil]; exact Le.ent)) ?_
      rintro ⟨i, s⟩ ⟨h1, h2, h3, h4⟩
      dsimp only [List.cons_append, List.nil_append] at h1 h2 h3 h4 ⊢
      repeat refine s1 ?_
      refine r_iop rfl rfl rfl rfl ?_
      repeat refine s1 ?_
      refine t_condSB rfl (fun hq => ?_) (fun hq => ?_)
      · have hi : i < kv.length := by have := of_decide_eq_true hq; simp [leafN] at this; omega
        have hil : i < (leafN kv).vals.length := by rw [hln]; exact hi
        have hik : i < (leafN kv).keys.length := by simp [leafN]; exact hi
        rcases hkvi : kv[i] with ⟨key, u⟩
        have hku : (leafN kv).keys[i]? = some key := by simp [leafN, hkvi, hi]
        have hu : (leafN kv).vals[i]? = some u := by simp [leafN, hkvi, hi]
        have hul : u.length = 44 := (hmw.vals u (List.mem_of_getElem? hu)).1
        have hxs : ∀ (j : Nat) (v : Value), (u.map u8)[j]? = some v → ((leafN kv).vals.flatMap fun v => v.map u8)[i * 44 + j]? = some v := fun j v hv => by
          have hj := (List.getElem?_eq_some_iff.1 hv).1
          rw [flat_in (f := fun v : List Nat => v.map u8) (c := 44) (fun z hz => by simpa using (hmw.vals z hz).1) hu (by simpa [hul] using hj)]
          exact hv
        have htk : (kv.take (i + 1)).drop b0 = (kv.take i).drop b0 ++ [(key, u)] := by
          rw [List.take_add_one, List.getElem?_eq_getElem hi, hkvi, Option.toList_some, List.drop_append_of_le_length (by simp; omega)]
        have hdi : kv.drop i = (key, u) :: kv.drop (i + 1) := by rw [List.drop_eq_getElem_cons hi, hkvi]
        rw [hdi] at h4
        have hyx := hy s (key, u) _ h4
        have hro : rounds nxt go s0 ((kv.take (i + 1)).drop b0) = (nxt s (key, u), go s (key, u)) := by
          rw [htk, rounds_app, h3, if_pos rfl]
          simp only [rounds]
          split <;> simp_all
        repeat refine s1 ?_
        refine ix rfl rfl hik ?_
        refine r_loadI (n := (leafN kv).keys.length) (cap := mkc) (E := T.uint64) (s := 1) (xs := (leafN kv).keys.map w64) (off := ko) rfl (j := i) (v := w64 key) (by omega) (by rw [List.getElem?_map, hku]; rfl) rfl rfl ?_
        repeat refine s1 ?_
        refine ix rfl rfl hil ?_
        refine r_loadIA (off := vo) (n := (leafN kv).vals.length) (cap := mvc) (E := T.a44_uint8) (s := 44) (xs := (leafN kv).vals.flatMap fun v => v.map u8) (vs := u.map u8) rfl (j := i * 44) (by omega) (by simp [hul]) hxs rfl rfl ?_
        refine r_build (cells := w64 key :: u.map u8) rfl (by simp [fillL, hul, Value.cells]) rfl ?_
        refine r_yield rfl hyx ?_
        rcases hgo : go s (key, u) with _ | _
        · simp only [Bool.false_eq_true, if_false]
          repeat refine s1 ?_
          have hf : fin2 B Bx (rounds nxt go s0 (filt k kv)) = Bx (nxt s (key, u)) := by
            rw [hfl, ← List.take_append_drop (i + 1) kv, List.drop_append_of_le_length (by simp; omega), rounds_app, hro, hgo]
            simp
          rw [hf]
          refine jh [hlog S.pl (N + 1)] (j_ent (hlogUp (N' := N + (r.sec :: ([] : List Nat)).length) (by simp) _) ?_)
          refine j_ent (mkA_nil _) ?_
          exact j_finM (rs := []) [] rfl rfl .nil () rfl trivial
        · simp only [if_true]
          repeat refine s1 ?_
          rw [hgo] at hro
          exact j_again (i + 1, nxt s (key, u)) ⟨by omega, by omega, hro, hst s (key, u) _ h4 hgo⟩ (by omega) ⟨rfl, rfl, rfl, rfl, rfl, rfl, rfl, trivial⟩ (by first | exact Le.ent | (dsimp only; exact Le.ent) | (dsimp only [List.cons_append, List.nil_append]; exact Le.ent) | (dsimp only [List.cons_append, List.nil_append]; simp only [List.take_zero, List.map_nil, List.flatMap_nil, List.length_nil]; exact Le.ent))
      · have hi : i = kv.length := by have := of_decide_eq_false hq; simp [leafN] at this; omega
        subst hi
        rw [List.take_length, ← hfl] at h3
        repeat refine s1 ?_
        have hf : fin2 B Bx (rounds nxt go s0 (filt k kv)) = B s := by rw [h3]; simp
        rw [hf]
        refine jh [hlog S.pl (N + 1)] (j_ent (hlogUp (N' := N + (r.sec :: ([] : List Nat)).length) (by simp) _) ?_)
        refine j_ent (mkA_nil _) ?_
        exact j_finM (rs := []) [] rfl rfl .nil () rfl trivial
    | succ h =>
      have hlf : m.leaf = false := nsh_leaf hn
      have hwh : m.keys.length ≤ 11 := hmr.most
      obtain ⟨cs, hmi, hkv, hV, hcs⟩ := nsh_succ.1 hn
      have hrise := hmr.rise
      have hrl : m.kids.length = cs.length := by rw [hmi]; simp [inner]
      have hpos : 2 ≤ cs.length := by have := (hmr.inner hlf).1; have : m.keys.length = cs.length := (by rw [hmi]; simp [inner]); omega
      obtain ⟨A, c, C, hcut, hAl, hc1, hc2⟩ := way_cut (k := k) (cs := cs) (by intro e; rw [e] at hpos; simp at hpos) (by have := hrise; rw [hmi] at this; exact this)
      have hwk : way m.keys k = A.length := by rw [hAl, hmi]; rfl
      have hcl11 : cs.length ≤ 11 := by have : m.keys.length = cs.length := (by rw [hmi]; simp [inner]); omega
      have hsrt' := hs
      rw [hkv, hcut] at hsrt'
      obtain ⟨hsA, hsB⟩ := way_sides (k := k) hsrt' (fun d hd => (hcs d (by rw [hcut]; exact hd)).1) hc1 hc2
      rw [hlf]
      repeat refine s1 ?_
      refine cl (way_c m y k hrise (by omega) Φ) ?_
      rw [hwk]
      refine jh [node m y] (j_ent (Ent.unnode _) ?_)
      refine jh [kidsA m y] (j_leni (fun _ _ hka => ?_))
      obtain ⟨kb, ko, hkb⟩ := hka (by omega)
      obtain ⟨mka, mkc, mva, mvc, mra, mrc⟩ := y
      dsimp only at hkb
      subst hkb
      repeat refine s1 ?_
      refine jh [hlog S.pl (N + 1)] (j_ent (hlogUp (N' := N + 1 + ((cs.take A.length).flatMap (·.U)).length) (by omega) _) ?_)
      refine j_ent (mkA_nil _) ?_
      refine t_loopD (σ := Nat × σ × List Nat) (fun z => marks z.2.2) (fun z => [(10, i64 z.1), (6, ptr t6), (5, ptr t5), (1, ptr bt), (2, ptr br), (3, ptr bf), (4, ptr bk)])
        (fun z => mkA z.2.2 :: isl (some ⟨kb, ko, none⟩) m.kids.length mrc T.api_Ref 33 (m.kids.flatMap rcells) ::
          pt t6 (.cells [.bool m.leaf, .slice mka m.keys.length mkc, .slice mva m.vals.length mvc, .slice (some ⟨kb, ko, none⟩) m.kids.length mrc].toArray T.node_Node (0, 0)) :: pt t5 (.cells [yl l].toArray T.func_256 (0, 0)) :: B z.2.1 :: (wkPre bt br bf bk tp pf r k 0 ++ tree tp ps o :: store ps S :: disk S.pd D :: hlog S.pl (N + 1 + ((cs.take z.1).flatMap (·.U)).length) :: F))
        (fun z => z.1 ≤ cs.length ∧ rounds nxt go s0 (filt k ((cs.take z.1).flatMap (·.kv))) = (z.2.1, true) ∧ Iv z.2.1 (filt k ((cs.drop z.1).flatMap (·.kv)))) (fun z => cs.length - z.1) (A.length, s0, []) ⟨by rw [hcut]; simp, by dsimp only; rw [hcut, List.take_left, filt_none hsA]; rfl, by dsimp only; rw [hkv, hcut, List.flatMap_append, filt_app, filt_none hsA, List.nil_append] at hI0; rw [hcut, List.drop_left]; exact hI0⟩ rfl ⟨rfl, rfl, rfl, rfl, rfl, rfl, rfl, trivial⟩ ?_ ?_
      · dsimp only [List.cons_append, List.nil_append]
        exact Le.ent
      rintro ⟨i, s, Ds⟩ ⟨h1, h2, h3⟩
      dsimp only [List.cons_append, List.nil_append] at h1 h2 h3 ⊢
      repeat refine s1 ?_
      refine r_iop rfl rfl rfl rfl ?_
      repeat refine s1 ?_
      refine t_condSB rfl (fun hq => ?_) (fun hq => ?_)
      · have hi : i < cs.length := by have := of_decide_eq_true hq; omega
        have hik : i < m.kids.length := by omega
        have hcc := hcs cs[i] (List.getElem_mem hi)
        have hkid : m.kids[i] = cs[i].rf := by simp [hmi, inner]
        generalize hci : cs[i] = c' at hcc hkid
        have htk : cs.take (i + 1) = cs.take i ++ [c'] := by rw [List.take_add_one, List.getElem?_eq_getElem hi, hci]; rfl
        repeat refine s1 ?_
        refine ix rfl rfl hik ?_
        refine r_loadIA (off := ko) (n := m.kids.length) (cap := mrc) (E := T.api_Ref) (s := 33) (xs := m.kids.flatMap rcells) (vs := rcells c'.rf) rfl (j := i * 33) (by omega) (by simp [hcc.2.1.sum.1]) (by
          have := kid_at hmw hik
          rw [hkid] at this; exact this) rfl rfl ?_
        repeat refine s1 ?_
        refine cx (walkf_c tp pf k c'.rf Φ) (fun z _ => ?_)
        obtain ⟨b1, b2, b3, b4⟩ := z
        dsimp only
        repeat refine s1 ?_
        have hkv2 : kv = (cs.take i).flatMap (·.kv) ++ (c'.kv ++ (cs.drop (i + 1)).flatMap (·.kv)) := by
          rw [hkv]
          conv => lhs; rw [← List.take_append_drop (i + 1) cs, htk]
          simp
        have hcsrt : Srt c'.kv := by
          have := hs
          rw [hkv2] at this
          exact (List.pairwise_append.1 (List.pairwise_append.1 this).2.1).1
        have hUl : ((cs.take (i + 1)).flatMap (·.U)).length = ((cs.take i).flatMap (·.U)).length + c'.U.length := by rw [htk]; simp
        have hUV : ((cs.take (i + 1)).flatMap (·.U)).length ≤ V.length := by
          rw [hV]
          conv => rhs; rw [← List.take_append_drop (i + 1) cs]
          rw [List.flatMap_append, List.length_append]
          omega
        have hdi : cs.drop i = c' :: cs.drop (i + 1) := by rw [List.drop_eq_getElem_cons hi, hci]
        rw [hdi, List.flatMap_cons, filt_app] at h3
        have hlen : ∀ x ∈ filt k c'.kv, x.2.length = 44 := fun x hx => (hkvok x (by rw [hkv2]; simp only [List.mem_append]; exact .inr (.inl (List.mem_filter.1 hx).1))).2.1
        have hfs : filt k ((cs.take (i + 1)).flatMap (·.kv)) = filt k ((cs.take i).flatMap (·.kv)) ++ filt k c'.kv := by
          rw [htk, List.flatMap_append, filt_app]; simp
        have hinv : (rounds nxt go s (filt k c'.kv)).2 = true → Iv (rounds nxt go s (filt k c'.kv)).1 (filt k ((cs.drop (i + 1)).flatMap (·.kv))) := fun h5 => rounds_inv hst h3 h5
        have hro : rounds nxt go s0 (filt k ((cs.take (i + 1)).flatMap (·.kv))) = rounds nxt go s (filt k c'.kv) := by
          rw [hfs, rounds_app, h2, if_pos rfl]
        refine t_range (ps := [74]) (ζ := Nat) (lb := [ptr b1, ptr b2, ptr b3, ptr b4])
          (R := mkA Ds :: isl (some ⟨kb, ko, none⟩) m.kids.length mrc T.api_Ref 33 (m.kids.flatMap rcells) :: pt t6 (.cells [.bool m.leaf, .slice mka m.keys.length mkc, .slice mva m.vals.length mvc, .slice (some ⟨kb, ko, none⟩) m.kids.length mrc].toArray T.node_Node (0, 0)) ::
            pt bt (.cells [ptr tp].toArray T.p_mtree_Tree (0, 0)) :: pt br (.cells (rcells r).toArray T.api_Ref (0, 0)) :: pt bf (.cells [ptr pf].toArray T.p_api_Errno (0, 0)) :: pt bk (.cells [w64 k].toArray T.uint64 (0, 0)) :: F)
          rfl (ih h (Nat.lt_succ_self h) (N + 1 + ((cs.take i).flatMap (·.U)).length) c'.rf 4 c'.kv c'.U b1 b2 b3 b4 hcc.2 hcsrt (by omega))
          (fun s => all [pt t5 (.cells [yl l].toArray T.func_256 (0, 0)), B s]) (fun s => all [pt t5 (.cells [yl l].toArray T.func_256 (0, 0)), Bx s]) nxt go (fun s' rem => Iv s' (rem ++ filt k ((cs.drop (i + 1)).flatMap (·.kv))) ∧ ∀ x ∈ rem, x.2.length = 44) (fun s' x rem h5 hgo => ⟨hst s' x _ h5.1 hgo, fun y hy => h5.2 y (by simp [hy])⟩) .ret (.inl rfl) s ⟨h3, hlen⟩ (fun _ _ z => [(11, ptr z), (5, ptr t5)])
          (fun s x z => [pt z (.cells (w64 x.1 :: x.2.map u8).toArray T.mtree_Pair (0, 0)), all [pt t5 (.cells [yl l].toArray T.func_256 (0, 0)), B s]]) ?_ (fun _ => rfl) (by simp) rfl rfl ?_ ?_ ?_ ?_
        · refine Ent.trans ?_ (Ent.unall [pt t5 (.cells [yl l].toArray T.func_256 (0, 0)), B s] _)
          dsimp only [wkPre, List.cons_append, List.nil_append]
          exact Le.ent
        · intro s' x rem hx F'
          dsimp only [penv]
          repeat refine s1 ?_
          refine al (cs := w64 0 :: z44.map u8) (fun t11 => ?_)
          refine r_storeW (vs := w64 x.1 :: x.2.map u8) rfl rfl (by simp [hx.2 x (by simp)]) (by rfl) (by simp [Value.oneCell']) rfl ?_
          repeat refine s1 ?_
          exact j_meet t11 trivial ⟨rfl, rfl, trivial⟩ (by first | exact Le.ent | (dsimp only; exact Le.ent) | (dsimp only [List.cons_append, List.nil_append]; exact Le.ent) | (dsimp only [List.cons_append, List.nil_append]; simp only [List.take_zero, List.map_nil, List.flatMap_nil, List.length_nil]; exact Le.ent))
        · intro s' x rem hx z F'
          dsimp only [List.cons_append, List.nil_append]
          refine jh [all [pt t5 (.cells [yl l].toArray T.func_256 (0, 0)), B s']] (j_all ?_)
          dsimp only [List.cons_append, List.nil_append]
          repeat refine s1 ?_
          refine r_loadW (vs := w64 x.1 :: x.2.map u8) rfl (by simp [hx.2 x (by simp)]) rfl rfl ?_
          refine r_yield rfl (hy s' x _ hx.1) ?_
          rcases hgo : go s' x with _ | _
          · simp only [Bool.false_eq_true, if_false]
            repeat refine s1 ?_
            exact j_rnd_ret ((Le.ent (A := pt t5 (.cells [yl l].toArray T.func_256 (0, 0)) :: Bx (nxt s' x) :: F')).trans (Ent.unall [pt t5 (.cells [yl l].toArray T.func_256 (0, 0)), Bx (nxt s' x)] F'))
          · simp only [if_true]
            repeat refine s1 ?_
            exact j_rnd ((Le.ent (A := pt t5 (.cells [yl l].toArray T.func_256 (0, 0)) :: B (nxt s' x) :: F')).trans (Ent.unall [pt t5 (.cells [yl l].toArray T.func_256 (0, 0)), B (nxt s' x)] F'))
        · intro Dm z _ hr2
          dsimp only [wkPre, List.cons_append, List.nil_append]
          refine jh [all [pt t5 (.cells [yl l].toArray T.func_256 (0, 0)), B (rounds nxt go s (filt k c'.kv)).1]] (j_all ?_)
          refine js [pt Dm (.deferred (some [])), mkA Ds] (B := mkA (Dm :: Ds)) (fun L => mkA_cons Dm Ds L) ?_
          rw [show N + 1 + ((cs.take i).flatMap (·.U)).length + c'.U.length = N + 1 + ((cs.take (i + 1)).flatMap (·.U)).length by omega]
          repeat refine s2 ?_
          exact j_againD (i + 1, (rounds nxt go s (filt k c'.kv)).1, Dm :: Ds) ⟨by omega, by rw [hro]; exact Prod.ext rfl hr2, hinv hr2⟩ (by dsimp only; omega) rfl ⟨rfl, rfl, rfl, rfl, rfl, rfl, rfl, trivial⟩ (by first | exact Le.ent | (dsimp only; exact Le.ent) | (dsimp only [List.cons_append, List.nil_append]; exact Le.ent) | (dsimp only [List.cons_append, List.nil_append]; simp only [List.take_zero, List.map_nil, List.flatMap_nil, List.length_nil]; exact Le.ent))
        · intro Dm z _ hr2
          dsimp only [wkPre, List.cons_append, List.nil_append]
          refine jh [all [pt t5 (.cells [yl l].toArray T.func_256 (0, 0)), Bx (rounds nxt go s (filt k c'.kv)).1]] (j_all ?_)
          refine js [pt Dm (.deferred (some [])), mkA Ds] (B := mkA (Dm :: Ds)) (fun L => mkA_cons Dm Ds L) ?_
          repeat refine s1 ?_
          have hf : fin2 B Bx (rounds nxt go s0 (filt k kv)) = Bx (rounds nxt go s (filt k c'.kv)).1 := by
            have h5 : kv = (cs.take (i + 1)).flatMap (·.kv) ++ (cs.drop (i + 1)).flatMap (·.kv) := by rw [hkv, ← List.flatMap_append, List.take_append_drop]
            rw [h5, filt_app, rounds_app, hro, hr2]
            simp [fin2, hr2]
          rw [hf]
          refine jh [hlog S.pl (N + 1 + ((cs.take i).flatMap (·.U)).length + c'.U.length)] (j_ent (hlogUp (N' := N + (r.sec :: V).length) (by rw [List.length_cons]; omega) _) ?_)
          refine jh [mkA (Dm :: Ds)] ?_
          exact j_finM (rs := []) (Dm :: Ds) rfl rfl .nil () rfl trivial
      · have hi : i = cs.length := by have := of_decide_eq_false hq; omega
        subst hi
        rw [List.take_length, ← hkv] at h2
        repeat refine s1 ?_
        have hf : fin2 B Bx (rounds nxt go s0 (filt k kv)) = B s := by rw [h2]; simp
        rw [hf]
        refine jh [hlog S.pl (N + 1 + ((cs.take cs.length).flatMap (·.U)).length)] (j_ent (hlogUp (N' := N + (r.sec :: V).length) (by rw [List.length_cons, List.take_length, hV]; omega) _) ?_)
        refine jh [mkA Ds] ?_
        exact j_finM (rs := []) Ds rfl rfl .nil () rfl trivial
  · unfold dnN dnE
    simp only [hd, if_true]
    repeat refine s2 ?_
    refine so rfl rfl ?_
    repeat refine s1 ?_
    have hf : fin2 B Bx (rounds nxt go s0 ([] : KV)) = B s0 := by simp [rounds]
    rw [hf]
    refine jh [hlog S.pl (N + 1)] (j_ent (hlogUp (N' := N + (V.length + 1)) (by omega) _) ?_)
    refine j_ent (mkA_nil _) ?_
    refine j_finM (rs := []) [] rfl rfl .nil () rfl ?_
    trivial
end Go.Proofs.YtcnpkmdooekmgaaGreatDoor
namespace Go.Proofs.YtcnpkmdooekmgaaGreatDoor
open Go Sl
abbrev pcell (x : Nat × List Nat) : List Value := w64 x.1 :: x.2.map u8
abbrev prow (a : Option Addr) (n c : Nat) (l : KV) : Assn := vec a n c T.mtree_Pair 45 (l.flatMap pcell)
theorem prow_nil (L : List Assn) : Ent L (prow none ([] : KV).length 0 [] :: L) := Ent.vecNil (E := T.mtree_Pair) (s := 45) L
def nxtR (b : Nat) (s : KV) (x : Nat × List Nat) : KV := if b < x.1 then s else s ++ [x]
def goR (b : Nat) (n : Int) (s : KV) (x : Nat × List Nat) : Bool := !decide (b < x.1) && !decide (((s.length + 1 : Nat) : Int) = n)
def rngL (a b : Nat) (n : Int) (kv : KV) : KV := ((kv.filter fun x => decide (a ≤ x.1)).filter fun x => decide (x.1 ≤ b)).take n.toNat
theorem rounds_rng {b : Nat} {n : Int} : ∀ {xs s : KV}, Srt xs → (s.length : Int) < n → (rounds (nxtR b) (goR b n) s xs).1 = s ++ (xs.filter fun x => decide (x.1 ≤ b)).take (n.toNat - s.length)
  | [], s, _, _ => by simp [rounds]
  | x :: xs, s, hs, hn => by
    obtain ⟨h1, h2⟩ := List.pairwise_cons.1 hs
    by_cases hb : b < x.1
    · have hf : (x :: xs).filter (fun x => decide (x.1 ≤ b)) = [] := List.filter_eq_nil_iff.2 fun y hy => by
        rcases List.mem_cons.1 hy with rfl | hy
        · simp; omega
        · have := h1 y hy; simp; omega
      rw [hf]
      simp [rounds, goR, nxtR, hb]
    · have hf : (x :: xs).filter (fun x => decide (x.1 ≤ b)) = x :: xs.filter (fun x => decide (x.1 ≤ b)) := List.filter_cons_of_pos (by simp; omega)
      rw [hf]
      have hsub : n.toNat - s.length = (n.toNat - (s.length + 1)) + 1 := by omega
      rw [hsub, List.take_succ_cons]
      by_cases hl : ((s.length + 1 : Nat) : Int) = n
      · have : n.toNat - (s.length + 1) = 0 := by omega
        rw [this, List.take_zero]
        simp [rounds, goR, nxtR, hb, hl]
      · have := rounds_rng (b := b) (n := n) (xs := xs) (s := s ++ [x]) h2 (by simp; omega)
        have hg : goR b n s x = true := by simp [goR, hb]; omega
        have hx : nxtR b s x = s ++ [x] := by simp [nxtR, hb]
        simp only [rounds, hg, if_true, hx]
        rw [this, List.length_append, List.append_assoc]
        rfl
/-- what Range hands back. -/
def rngO (D : Dk) (t : Tre) (a b : Nat) (n : Int) : KV := if t.rt.isSome = true ∧ ¬ n < 1 ∧ ¬ b < a ∧ D.down = false then rngL a b n t.kv else []
def rngE (D : Dk) (t : Tre) (a b : Nat) (n : Int) : Nat := if t.rt.isSome = true ∧ ¬ n < 1 ∧ ¬ b < a ∧ D.down = true then 30 else 0
/-- what Range has gathered. -/
abbrev gotA (t10 t6 t7 b : Nat) (n : Int) (s : KV) (z : Option Addr × Nat) : List Assn := [pt t10 (.cells [.slice z.1 s.length z.2].toArray T.sl_mtree_Pair (0, 0)), prow z.1 s.length z.2 s, pt t6 (.cells [w64 b].toArray T.uint64 (0, 0)), pt t7 (.cells [.int .i64 n].toArray T.int (0, 0))]
def gotB (t10 t6 t7 b : Nat) (n : Int) (s : KV) : Assn := ex fun z : Option Addr × Nat => all (gotA t10 t6 t7 b n s z)
theorem gotB_of {t10 t6 t7 b : Nat} {n : Int} {s : KV} (z : Option Addr × Nat) (L : List Assn) : Ent (gotA t10 t6 t7 b n s z ++ L) (gotB t10 t6 t7 b n s :: L) := (Ent.unall (gotA t10 t6 t7 b n s z) L).trans (Ent.mkEx (f := fun z => all (gotA t10 t6 t7 b n s z)) z)
theorem j_got {X : Cx} {e : Env} {L : List Assn} {G : Act → World → Prop} {t10 t6 t7 b : Nat} {n : Int} {s : KV} (h : ∀ z, J X e (gotA t10 t6 t7 b n s z ++ L) G) : J X e (gotB t10 t6 t7 b n s :: L) G := j_ex fun z => j_all (h z)
attribute [local irreducible] cw sw J Exit.then Exit.inBlock Exit.noGoto bodyPost swG swL permL
set_option maxHeartbeats 2000000 in
theorem trange_c (ps pd pl N a b : Nat) (n : Int) (S : St) (D : Dk) (t : Tre) (ht : TOk S.g t) (hS : S.wf) (ha : Agr S D) (hN : N ≤ 600000000) (hkv : t.kv.length ≤ 1000000) (hpd : S.pd = pd) (hpl : S.pl = pl) (Φ : Base) :
    Sl.Fn Tryz.prog Φ F.mtree_Tree_Range [ptr t.p, w64 a, w64 b, .int .i64 n] [tree t.p ps t.rt, store ps S, disk pd D, hlog pl N] (fun _ : Option Addr × Nat => True) (fun x => .tuple #[.slice x.1 (rngO D t a b n).length x.2, i64 (rngE D t a b n)])
      (fun x => [prow x.1 (rngO D t a b n).length x.2 (rngO D t a b n), tree t.p ps t.rt, store ps S, disk pd D, hlog pl (N + t.kv.length + 1)]) := by
  obtain rfl := hpd
  obtain rfl := hpl
  have hw := oWt_of ht
  refine foM fun F => ?_
  repeat refine s1 ?_
  refine r_box (cs := [w64 b]) rfl rfl rfl rfl (fun t6 => ?_)
  repeat refine s1 ?_
  refine r_box (cs := [.int .i64 n]) rfl rfl rfl rfl (fun t7 => ?_)
  repeat refine s1 ?_
  refine cl (made_c t.p ps t.rt Φ) ?_
  repeat refine s1 ?_
  refine ld rfl (tc_has hw) ?_
  rcases hrt : t.rt with _ | r
  · rw [Option.isSome_none]
    repeat refine s1 ?_
    have h0 : rngO D t a b n = [] := by simp [rngO, hrt]
    have h1 : rngE D t a b n = 0 := by simp [rngE, hrt]
    rw [h0, h1]
    refine j_ent (prow_nil _) ?_
    refine jh [hlog S.pl N] (j_ent (hlogUp (N' := N + t.kv.length + 1) (by omega) _) ?_)
    refine j_ent (mkA_nil _) ?_
    exact j_finM (rs := [.tmp 8, .tmp 9]) [] rfl rfl (.cons (rv_tmp rfl) (.cons (rv_tmp rfl) .nil)) (none, 0) rfl trivial
  · rw [Option.isSome_some]
    rw [hrt] at hw
    have hrw : r.wt := hw
    obtain ⟨hsrt, hne, H, U, hsh⟩ := ht.sh hrt
    have hul : U.length ≤ t.kv.length + 1 := by have := (sh_size hsh).1; omega
    repeat refine s1 ?_
    refine r_iop rfl rfl rfl rfl ?_
    by_cases hn : n < 1
    · rw [decide_eq_true hn]
      repeat refine s1 ?_
      have h0 : rngO D t a b n = [] := by simp [rngO, hn]
      have h1 : rngE D t a b n = 0 := by simp [rngE, hn]
      rw [h0, h1]
      refine j_ent (prow_nil _) ?_
      refine jh [hlog S.pl N] (j_ent (hlogUp (N' := N + t.kv.length + 1) (by omega) _) ?_)
      refine j_ent (mkA_nil _) ?_
      exact j_finM (rs := [.tmp 8, .tmp 9]) [] rfl rfl (.cons (rv_tmp rfl) (.cons (rv_tmp rfl) .nil)) (none, 0) rfl trivial
    · rw [decide_eq_false hn]
      repeat refine s1 ?_
      refine r_icmp rfl rfl rfl rfl ?_
      by_cases hab : b < a
      · rw [decide_eq_true (show (b : Int) < (a : Int) by omega)]
        repeat refine s1 ?_
        have h0 : rngO D t a b n = [] := by simp [rngO, hab]
        have h1 : rngE D t a b n = 0 := by simp [rngE, hab]
        rw [h0, h1]
        refine j_ent (prow_nil _) ?_
        refine jh [hlog S.pl N] (j_ent (hlogUp (N' := N + t.kv.length + 1) (by omega) _) ?_)
        refine j_ent (mkA_nil _) ?_
        exact j_finM (rs := [.tmp 8, .tmp 9]) [] rfl rfl (.cons (rv_tmp rfl) (.cons (rv_tmp rfl) .nil)) (none, 0) rfl trivial
      · rw [decide_eq_false (show ¬ (b : Int) < (a : Int) by omega)]
        repeat refine s1 ?_
        refine al (cs := [.slice none 0 0]) (fun t10 => ?_)
        repeat refine s1 ?_
        refine al (cs := [i64 0]) (fun t11 => ?_)
        repeat refine s1 ?_
        refine so rfl rfl ?_
        repeat refine s1 ?_
        refine r_loadA (vs := rcells r) (off := 1) rfl (by simp [hrw.sum.1]) (tc_root (o := some r)) rfl rfl ?_
        repeat refine s1 ?_
        refine cx (walkf_c t.p t11 a r Φ) (fun z _ => ?_)
        obtain ⟨b1, b2, b3, b4⟩ := z
        dsimp only
        repeat refine s1 ?_
        have hseq := walk_s t.p ps t11 a (some r) S D hS ha Φ H N r 1 t.kv U b1 b2 b3 b4 hsh hsrt (by omega)
        refine t_range (ps := [37]) (ζ := Nat) (lb := [ptr b1, ptr b2, ptr b3, ptr b4]) (R := F) rfl hseq (gotB t10 t6 t7 b n) (gotB t10 t6 t7 b n) (nxtR b) (goR b n) (fun s rem => s.length + rem.length ≤ 1000000 ∧ ∀ x ∈ rem, x.2.length = 44) (fun s x rem h5 _ => ⟨by
            have h6 := h5.1
            rw [List.length_cons] at h6
            unfold nxtR
            split
            · omega
            · rw [List.length_append, List.length_singleton]; omega, fun y hy => h5.2 y (by simp [hy])⟩) (.exit 0) (.inr ⟨0, rfl⟩) [] ⟨?_, ?_⟩ (fun _ _ z => [(12, ptr z), (6, ptr t6), (7, ptr t7), (10, ptr t10)])
          (fun s x z => [pt z (.cells (pcell x).toArray T.mtree_Pair (0, 0)), gotB t10 t6 t7 b n s]) ?_ (fun _ => rfl) (by simp) rfl rfl ?_ ?_ ?_ ?_
        · split
          · simp
          · have := List.length_filter_le (fun x : Nat × List Nat => decide (a ≤ x.1)) t.kv
            simp only [List.length_nil, Nat.zero_add, filt]; omega
        · intro x hx
          split at hx
          · cases hx
          · exact (ht.kvok x (List.mem_filter.1 hx).1).2.1
        · refine Ent.trans ?_ (gotB_of (none, 0) _)
          dsimp only [wkPre, List.cons_append, List.nil_append]
          exact (prow_nil _).trans Le.ent
        · intro s' x rem hx F'
          dsimp only [penv]
          repeat refine s1 ?_
          refine al (cs := w64 0 :: z44.map u8) (fun t11 => ?_)
          refine r_storeW (vs := pcell x) rfl rfl (by simp [hx.2 x (by simp)]) (by rfl) (by simp [Value.oneCell']) rfl ?_
          repeat refine s1 ?_
          exact j_meet t11 trivial ⟨rfl, rfl, rfl, rfl, trivial⟩ (by first | exact Le.ent | (dsimp only; exact Le.ent) | (dsimp only [List.cons_append, List.nil_append]; exact Le.ent) | (dsimp only [List.cons_append, List.nil_append]; simp only [List.take_zero, List.map_nil, List.flatMap_nil, List.length_nil]; exact Le.ent))
        · intro s' x rem hx z F'
          have hxl := hx.2 x (by simp)
          have hsl := hx.1
          rw [List.length_cons] at hsl
          dsimp only [List.cons_append, List.nil_append]
          refine jh [gotB t10 t6 t7 b n s'] (j_got fun z2 => ?_)
          obtain ⟨oa, oc⟩ := z2
          dsimp only [List.cons_append, List.nil_append]
          repeat refine s1 ?_
          refine r_icmp rfl rfl rfl rfl ?_
          by_cases hbx : b < x.1
          · rw [decide_eq_true (show (b : Int) < (x.1 : Int) by omega)]
            have hg : goR b n s' x = false := by simp [goR, hbx]
            have hnx : nxtR b s' x = s' := by simp [nxtR, hbx]
            rw [hg, hnx]
            repeat refine s1 ?_
            refine js (gotA t10 t6 t7 b n s' (oa, oc)) (B := gotB t10 t6 t7 b n s') (fun L => gotB_of (oa, oc) L) ?_
            exact j_rnd_exit Le.ent
          · rw [decide_eq_false (show ¬ (b : Int) < (x.1 : Int) by omega)]
            have hnx : nxtR b s' x = s' ++ [x] := by simp [nxtR, hbx]
            rw [hnx]
            repeat refine s1 ?_
            refine r_loadW (vs := pcell x) rfl (by simp [hxl]) rfl rfl ?_
            refine r_buildA1 (v := pcell x) rfl (by simp [hxl]) (by decide) (fun bv => ?_)
            refine r_append (n := s'.length) (m := 1) (s := 45) (xs := s'.flatMap pcell) (ys := pcell x) rfl rfl (by decide) (by rfl) (by simp [Value.oneCell']) (by omega) (by omega) rfl rfl (fun a' c' _ => ?_)
            have he : s'.flatMap pcell ++ pcell x = (s' ++ [x]).flatMap pcell := by simp
            have hln : s'.length + 1 = (s' ++ [x]).length := by simp
            rw [he, hln]
            refine so rfl rfl ?_
            repeat refine s1 ?_
            refine r_icmp rfl rfl rfl rfl ?_
            by_cases hl : (((s' ++ [x]).length : Nat) : Int) = n
            · rw [decide_eq_true hl]
              have hg : goR b n s' x = false := by rw [← hln] at hl; simp [goR, hl]
              rw [hg]
              repeat refine s1 ?_
              refine js (gotA t10 t6 t7 b n (s' ++ [x]) (a', c')) (B := gotB t10 t6 t7 b n (s' ++ [x])) (fun L => gotB_of (a', c') L) ?_
              exact j_rnd_exit Le.ent
            · rw [decide_eq_false hl]
              have hg : goR b n s' x = true := by
                rw [← hln] at hl
                simp only [goR, decide_eq_false hbx, decide_eq_false hl, Bool.not_false, Bool.and_true]
              rw [hg]
              repeat refine s1 ?_
              refine js (gotA t10 t6 t7 b n (s' ++ [x]) (a', c')) (B := gotB t10 t6 t7 b n (s' ++ [x])) (fun L => gotB_of (a', c') L) ?_
              exact j_rnd Le.ent
        all_goals
          intro Dm z _ hr2
          dsimp only [wkPre, dnE, List.cons_append, List.nil_append]
          have hl : D.down = false → (rounds (nxtR b) (goR b n) [] (if D.down = true then [] else filt a t.kv)).1 = rngL a b n t.kv := fun hd => by
            simp only [hd, Bool.false_eq_true, if_false]
            rw [rounds_rng (hsrt.sublist List.filter_sublist) (by simp; omega)]
            simp [rngL]
          generalize (rounds (nxtR b) (goR b n) [] (if D.down = true then [] else filt a t.kv)).1 = out at hl ⊢
          refine j_ent (mkA_nil _) ?_
          refine js [pt Dm (.deferred (some [])), mkA []] (B := mkA [Dm]) (fun L => mkA_cons Dm [] L) ?_
          refine jh [hlog S.pl (N + U.length)] (j_ent (hlogUp (N' := N + t.kv.length + 1) (by omega) _) ?_)
          rcases hd : D.down with _ | _
          · have h0 : rngO D t a b n = out := by simp only [rngO, hrt, hd]; rw [if_pos ⟨rfl, hn, hab, trivial⟩, hl hd]
            have h1 : rngE D t a b n = 0 := by simp [rngE, hd]
            rw [h0, h1]
            simp only [Bool.false_eq_true, if_false]
            refine jh [gotB t10 t6 t7 b n out] (j_got fun z2 => ?_)
            obtain ⟨oa, oc⟩ := z2
            dsimp only [List.cons_append, List.nil_append]
            repeat refine s2 ?_
            refine jh [mkA [Dm]] ?_
            exact j_finM (rs := [.tmp 8, .tmp 9]) [Dm] rfl rfl (.cons (rv_tmp rfl) (.cons (rv_tmp rfl) .nil)) (oa, oc) rfl trivial
          · have h0 : rngO D t a b n = [] := by simp [rngO, hd]
            have h1 : rngE D t a b n = 30 := by simp only [rngE, hrt, hd]; rw [if_pos ⟨rfl, hn, hab, trivial⟩]
            rw [h0, h1]
            simp only [if_true]
            repeat refine s2 ?_
            refine j_ent (prow_nil _) ?_
            refine jh [mkA [Dm]] ?_
            exact j_finM (rs := [.tmp 8, .tmp 9]) [Dm] rfl rfl (.cons (rv_tmp rfl) (.cons (rv_tmp rfl) .nil)) (none, 0) rfl trivial
end Go.Proofs.YtcnpkmdooekmgaaGreatDoor
namespace Go.Proofs.YtcnpkmdooekmgaaGreatDoor
open Go Sl
structure RP where
  k : Nat
  v : List Nat
  a : Option Addr
  c : Nat
abbrev rpc (x : RP) : List Value := [w64 x.k, .slice x.a x.v.length x.c]
abbrev valA (x : RP) : Assn := isl x.a x.v.length x.c T.uint8 1 (x.v.map u8)
abbrev kvs (l : List RP) : KV := l.map fun x => (x.k, x.v)
/-- a list's values; nobody turns them. -/
def rvals (l : List RP) : Assn := im' (fun im => ∀ x ∈ l, (valA x).sat im Hp.emp) (fun hm h x hx => (valA x).mono hm (h x hx))
instance (l : List RP) : Pers (rvals l) := ⟨fun _ _ h => h⟩
abbrev rowR (a : Option Addr) (n c : Nat) (l : List RP) : Assn := isl a n c T.casemateref15_Pair 2 (l.flatMap rpc)
abbrev rowV (a : Option Addr) (n c : Nat) (l : List RP) : Assn := vec a n c T.casemateref15_Pair 2 (l.flatMap rpc)
theorem rvals_nil (L : List Assn) : Ent L (rvals [] :: L) := fun _ h s => ⟨Hp.emp, h, Hp.emp_le _, Hp.le_refl _, Hp.emp_dis _, fun x hx => (by cases hx), s⟩
theorem rvals_one (x : RP) (L : List Assn) : Ent (valA x :: L) (rvals [x] :: L) := by
  rintro im h ⟨a1, a2, e1, e2, e3, hn, s⟩
  exact ⟨Hp.emp, h, Hp.emp_le _, Hp.le_refl _, Hp.emp_dis _, fun z hz => by simp only [List.mem_singleton] at hz; subst hz; exact hn, satL_mono (Hp.le_refl _) e2 s⟩
theorem rvals_app (l m : List RP) (L : List Assn) : Ent (rvals l :: rvals m :: L) (rvals (l ++ m) :: L) := by
  rintro im h ⟨a1, a2, e1, e2, e3, hn, b1, b2, f1, f2, f3, hm, s⟩
  refine ⟨Hp.emp, h, Hp.emp_le _, Hp.le_refl _, Hp.emp_dis _, fun x hx => ?_, satL_mono (Hp.le_refl _) (Hp.le_trans f2 e2) s⟩
  rcases List.mem_append.1 hx with hx | hx
  · exact hn x hx
  · exact hm x hx
theorem rvals_at {l : List RP} {x : RP} (hx : x ∈ l) (L : List Assn) : Ent (rvals l :: L) (valA x :: rvals l :: L) := by
  rintro im h ⟨a1, a2, e1, e2, e3, hn, s⟩
  exact ⟨Hp.emp, h, Hp.emp_le _, Hp.le_refl _, Hp.emp_dis _, hn x hx, a1, a2, e1, e2, e3, hn, s⟩
theorem rpc_at {l : List RP} {i : Nat} {x : RP} (h : l[i]? = some x) : (l.flatMap rpc)[i * 2]? = some (w64 x.k) ∧ (l.flatMap rpc)[i * 2 + 1]? = some (.slice x.a x.v.length x.c) := by
  have h1 := flat_in (f := rpc) (c := 2) (l := l) (fun _ _ => rfl) h (j := 0) (by decide)
  have h2 := flat_in (f := rpc) (c := 2) (l := l) (fun _ _ => rfl) h (j := 1) (by decide)
  exact ⟨h1, h2⟩
theorem rowV_nil (L : List Assn) : Ent L (rowV none ([] : List RP).length 0 [] :: L) := Ent.vecNil (E := T.casemateref15_Pair) (s := 2) L
attribute [local irreducible] cw sw J Exit.then Exit.inBlock Exit.noGoto bodyPost swG swL permL
end Go.Proofs.YtcnpkmdooekmgaaGreatDoor
namespace Go.Proofs.YtcnpkmdooekmgaaGreatDoor
open Go Sl
theorem take_step {l : List RP} {x : RP} {n : Nat} : (l ++ [x]).take n = if (l.take n).length < n then l.take n ++ [x] else l.take n := by
  split
  · rename_i h
    rw [List.length_take] at h
    have hl : l.length < n := by omega
    rw [List.take_of_length_le (by simp; omega), List.take_of_length_le (by omega)]
  · rename_i h
    rw [List.length_take] at h
    rw [List.take_append_of_le_length (by omega)]
attribute [local irreducible] cw sw J Exit.then Exit.inBlock Exit.noGoto bodyPost swG swL permL
end Go.Proofs.YtcnpkmdooekmgaaGreatDoor
namespace Go.Proofs.YtcnpkmdooekmgaaGreatDoor
open Go Sl
theorem imm_isl {b n cap s : Nat} {E U : TypeId} {fr : Nat × Nat} {xs : List Value} (h1 : xs.length = n * s) (h2 : n ≤ cap) (L : List Assn) : Ent (imm b (.cells xs.toArray U fr) :: L) (isl (some ⟨b, 0, none⟩) n cap E s xs :: L) := by
  rintro im h ⟨a1, a2, e1, e2, e3, hb, s⟩
  exact ⟨a1, a2, e1, e2, e3, ⟨h1, h2, .inr ⟨b, 0, _, U, fr, rfl, hb, fun j x hj => by simpa using hj⟩⟩, s⟩
theorem pcell_at {o : KV} (hv : ∀ x ∈ o, x.2.length = 44) {i : Nat} {x : Nat × List Nat} (h : o[i]? = some x) : ∀ (j : Nat) (v : Value), (pcell x)[j]? = some v → (o.flatMap pcell)[i * 45 + j]? = some v := fun j v hj => by
  have hx := hv x (List.mem_of_getElem? h)
  rw [flat_in (f := pcell) (c := 45) (l := o) (fun z hz => by simp [hv z hz]) h (by have := (List.getElem?_eq_some_iff.1 hj).1; simpa [hx] using this)]
  exact hj
section
variable {X : Cx} {e : Env} {L A : List Assn} {S : List Nat} {ops : Array Oper} {k : Nat} {l : List Oper} {R : Act → World → Prop} {d : Nat} {T : TypeId} {pos : String} {af : Array Edge}
/-- a row's string, where the row stays. -/
theorem s_toStr {t u el : TypeId} {x : Operand} {a : Option Addr} {n cap : Nat} (xs : List Nat) [ts : TUnd X.P t (.slice el)] [te : TUnd X.P el (.int .u8)] [td : TUnd X.P u .string] (hx : ev e x = some (.slice a n cap)) {vs : List Value} [g : RdS a n 1 vs A] (hv : vs = xs.map u8)
    (h : J X ((d, .string (bstr xs)) :: e) L (sw X.P (Holds X.Φ A) S ops R (k + 1) l)) (hd : Nat.blt d X.n = true := by rfl) (hs : S.contains k = true := by rfl) : J X e L (sw X.P (Holds X.Φ A) S ops R k (⟨some d, .convert t u x, T, pos, af, none⟩ :: l)) :=
  r_stable rfl hs rfl hd (fun act w m hh => by
    have hr : Reads w a n 1 (xs.map u8) := by rw [← hv]; exact hh.rds
    have h1 := run_toStr (P := X.P) (src := t) (dst := u) (cap := cap) hr
    simp only [execOp, m.ev hx, Sem.run_bind, h1, Result.andThen_ok, Sem.run_pure]) h
end
section
variable {X : Cx} {e : Env} {L A : List Assn} {S : List Nat} {ops : Array Oper} {k : Nat} {l : List Oper} {R : Act → World → Prop} {d : Nat} {T : TypeId} {pos : String} {af : Array Edge}
theorem r_strne {t u : TypeId} {x y : Operand} {xs ys : List Nat} [_tu : TUnd X.P t .string] (hx : ev e x = some (.string (bstr xs))) (hy : ev e y = some (.string (bstr ys))) (h1 : ∀ x ∈ xs, x < 256) (h2 : ∀ y ∈ ys, y < 256)
    (h : J X ((d, .bool (!decide (xs = ys))) :: e) L (sw X.P (Holds X.Φ A) S ops R (k + 1) l)) (hd : Nat.blt d X.n = true := by rfl) : J X e L (sw X.P (Holds X.Φ A) S ops R k (⟨some d, .binOp .neq t x y u, T, pos, af, none⟩ :: l)) :=
  r_pure rfl (fun a m w => by
    have h3 : (binOp .neq t (.string (bstr xs)) (.string (bstr ys))).run X.P w = .ok (.bool (!decide (xs = ys))) w := by
      have h4 : ((bstr xs).toList == (bstr ys).toList) = decide (xs = ys) := bstr_beq h1 h2
      have h5 : ((bstr xs).toList != (bstr ys).toList) = !decide (xs = ys) := by rw [bne, h4]
      have h6 : (binOp .neq t (.string (bstr xs)) (.string (bstr ys))).run X.P w = .ok (.bool ((bstr xs).toList != (bstr ys).toList)) w := by
        simp [binOp, Op.stringOp, go_sem]
        rw [bne, Bool.not_not]
      rw [h6, h5]
    have h4 : eqGuard .neq t x y (.string (bstr xs)) (.string (bstr ys)) = pure () := rfl
    simp only [execOp, m.ev hx, m.ev hy, Sem.run_bind, h4, Sem.run_pure, h3, Result.andThen_ok]) hd h
end
abbrev mkq (key : Nat) (u : List Nat) (t5 : Nat) : RP := ⟨key, u, some ⟨t5, 0, none⟩, 44⟩
attribute [local irreducible] cw sw J Exit.then Exit.inBlock Exit.noGoto bodyPost swG swL permL
theorem as_c (a : Option Addr) (c : Nat) (o : KV) (hl : o.length ≤ 1000000) (hv : ∀ x ∈ o, x.2.length = 44) (Φ : Base) :
    Sl.Fn Tryz.prog Φ F.casematelaw15_As [.slice a o.length c] [isl a o.length c T.mtree_Pair 45 (o.flatMap pcell)] (fun z : List RP × Option Addr × Nat => kvs z.1 = o) (fun z => .slice z.2.1 z.1.length z.2.2) (fun z => [rowR z.2.1 z.1.length z.2.2 z.1, rvals z.1]) := by
  refine fo fun F => ?_
  repeat refine s1 ?_
  refine j_ent (rowV_nil _) ?_
  refine j_ent (rvals_nil _) ?_
  refine t_loop (σ := Nat × List RP × Option Addr × Nat) (fun z => [(4, i64 z.1), (3, .slice z.2.2.1 z.2.1.length z.2.2.2), (0, .slice a o.length c)]) (fun z => rvals z.2.1 :: rowV z.2.2.1 z.2.1.length z.2.2.2 z.2.1 :: isl a o.length c T.mtree_Pair 45 (o.flatMap pcell) :: F)
    (fun z => z.1 ≤ o.length ∧ kvs z.2.1 = o.take z.1) (fun z => o.length - z.1) (0, [], none, 0) ⟨Nat.zero_le _, rfl⟩ ⟨rfl, rfl, rfl, trivial⟩ (by first | exact Le.ent | (dsimp only; exact Le.ent) | (dsimp only [List.cons_append, List.nil_append]; exact Le.ent) | (dsimp only [List.cons_append, List.nil_append]; simp only [List.take_zero, List.map_nil, List.flatMap_nil, List.length_nil]; exact Le.ent)) ?_
  rintro ⟨i, out, oa, oc⟩ ⟨h1, h2⟩
  dsimp only at h1 h2 ⊢
  have hol : out.length = i := by have := congrArg List.length h2; rw [List.length_map, List.length_take_of_le h1] at this; exact this
  refine jh [isl a o.length c T.mtree_Pair 45 (o.flatMap pcell)] (j_leni (fun _ _ hla => ?_))
  repeat refine s1 ?_
  refine r_iop rfl rfl rfl rfl ?_
  repeat refine s1 ?_
  refine t_condSB rfl (fun hq => ?_) (fun hq => ?_)
  · have hi : i < o.length := by have := of_decide_eq_true hq; omega
    obtain ⟨lb, lo, rfl⟩ := hla (by omega)
    obtain ⟨x, hx⟩ : ∃ x, o[i]? = some x := ⟨_, List.getElem?_eq_getElem hi⟩
    obtain ⟨key, u⟩ := x
    have hat := pcell_at hv hx
    have hul : u.length = 44 := hv _ (List.mem_of_getElem? hx)
    have htk : o.take (i + 1) = o.take i ++ [(key, u)] := by rw [List.take_add_one, hx]; rfl
    repeat refine s1 ?_
    refine ix rfl rfl hi ?_
    repeat refine s1 ?_
    refine r_loadIA (off := lo) (n := o.length) (cap := c) (E := T.mtree_Pair) (s := 45) (xs := o.flatMap pcell) (vs := u.map u8) rfl (j := i * 45 + 1) (by omega) (by simp [hul]) (fun j v hj => by rw [Nat.add_assoc, Nat.add_comm 1 j]; exact hat (j + 1) v (by simpa using hj)) rfl rfl ?_
    refine al (cs := z44.map u8) (fun t5 => ?_)
    refine r_storeW (vs := u.map u8) rfl rfl (by simp [hul]) (by rfl) (by simp [Value.oneCell']) rfl ?_
    repeat refine s1 ?_
    refine ix rfl rfl hi ?_
    repeat refine s1 ?_
    refine r_loadI (off := lo) (n := o.length) (cap := c) (E := T.mtree_Pair) (s := 45) (xs := o.flatMap pcell) (v := w64 key) rfl (j := i * 45) (by omega) (hat 0 _ rfl) rfl rfl ?_
    repeat refine s1 ?_
    rw [show (Value.slice (some ⟨t5, 0, none⟩) 44 44) = .slice (some ⟨t5, 0, none⟩) u.length 44 by rw [hul]]
    refine r_build (cells := rpc (mkq key u t5)) rfl (by rfl) rfl ?_
    refine r_buildA1 (v := rpc (mkq key u t5)) rfl (by rfl) (by decide) (fun bv => ?_)
    refine r_append (n := out.length) (m := 1) (s := 2) (xs := out.flatMap rpc) (ys := rpc (mkq key u t5)) rfl rfl (by decide) (by rfl) (by simp [Value.oneCell']) (by omega) (by omega) rfl rfl (fun oa' oc' _ => ?_)
    rw [show out.flatMap rpc ++ rpc (mkq key u t5) = (out ++ [mkq key u t5]).flatMap rpc by simp, show out.length + 1 = (out ++ [mkq key u t5]).length by simp]
    repeat refine s1 ?_
    refine j_freeze t5 ?_
    refine j_ent (imm_isl (n := u.length) (cap := 44) (E := T.uint8) (s := 1) (by simp) (by omega) _) ?_
    refine js [valA (mkq key u t5)] (B := rvals [mkq key u t5]) (fun L => rvals_one _ L) ?_
    refine js [rvals out, rvals [mkq key u t5]] (B := rvals (out ++ [mkq key u t5])) (fun L => rvals_app _ _ L) ?_
    exact j_again (i + 1, out ++ [mkq key u t5], oa', oc') ⟨by omega, by dsimp only; rw [htk, ← h2]; simp [kvs]⟩ (by dsimp only; omega) ⟨rfl, rfl, rfl, trivial⟩ (by first | exact Le.ent | (dsimp only; exact Le.ent) | (dsimp only [List.cons_append, List.nil_append]; exact Le.ent) | (dsimp only [List.cons_append, List.nil_append]; simp only [List.take_zero, List.map_nil, List.flatMap_nil, List.length_nil]; exact Le.ent))
  · have hi : i = o.length := by have := of_decide_eq_false hq; omega
    subst hi
    rw [List.take_length] at h2
    repeat refine s1 ?_
    refine jh [rowV oa out.length oc out] (fz ?_)
    exact f1 (out, oa, oc) (hq := h2)
theorem same_c (a b : Option Addr) (c d : Nat) (l m : List RP) (hl : l.length ≤ 1000000) (hb1 : ∀ x ∈ l, ∀ y ∈ x.v, y < 256) (hb2 : ∀ x ∈ m, ∀ y ∈ x.v, y < 256) (Φ : Base) :
    Sl.Fn Tryz.prog Φ F.casemateref15_Same [.slice a l.length c, .slice b m.length d] [rowR a l.length c l, rvals l, rowR b m.length d m, rvals m] (fun _ : Unit => True) (fun _ => .bool (decide (kvs l = kvs m))) (fun _ => []) := by
  refine fo fun F => ?_
  repeat refine s1 ?_
  refine r_icmp rfl rfl rfl rfl ?_
  by_cases hlm : l.length = m.length
  · rw [show (!decide ((l.length : Int) = (m.length : Int))) = false by simp [hlm]]
    repeat refine s1 ?_
    refine t_loop (σ := Nat) (fun z => [(5, i64 z), (0, .slice a l.length c), (1, .slice b m.length d)]) (fun z => rowR a l.length c l :: rvals l :: rowR b m.length d m :: rvals m :: F)
      (fun z => z ≤ l.length ∧ kvs (l.take z) = kvs (m.take z)) (fun z => l.length - z) 0 ⟨Nat.zero_le _, rfl⟩ ⟨rfl, rfl, rfl, trivial⟩ (by first | exact Le.ent | (dsimp only; exact Le.ent) | (dsimp only [List.cons_append, List.nil_append]; exact Le.ent) | (dsimp only [List.cons_append, List.nil_append]; simp only [List.take_zero, List.map_nil, List.flatMap_nil, List.length_nil]; exact Le.ent)) ?_
    rintro i ⟨h1, h2⟩
    refine jh [rowR b m.length d m] (j_leni (fun _ _ hlb => ?_))
    refine jh [rowR a l.length c l] (j_leni (fun _ _ hla => ?_))
    repeat refine s1 ?_
    refine r_iop rfl rfl rfl rfl ?_
    repeat refine s1 ?_
    refine t_condSB rfl (fun hq => ?_) (fun hq => ?_)
    · have hi : i < l.length := by have := of_decide_eq_true hq; omega
      obtain ⟨lb, lo, rfl⟩ := hla (by omega)
      obtain ⟨mb, mo, rfl⟩ := hlb (by omega)
      obtain ⟨x, hx⟩ : ∃ x, l[i]? = some x := ⟨_, List.getElem?_eq_getElem hi⟩
      obtain ⟨y, hy⟩ : ∃ y, m[i]? = some y := ⟨_, List.getElem?_eq_getElem (by omega)⟩
      have hat := rpc_at hx
      have hbt := rpc_at hy
      have hxy : kvs (l.take (i + 1)) = kvs (m.take (i + 1)) ↔ x.k = y.k ∧ x.v = y.v := by
        rw [List.take_add_one, List.take_add_one, hx, hy, Option.toList_some, Option.toList_some, kvs, kvs, List.map_append, List.map_append, ← kvs, ← kvs, h2]
        simp
      have hno : kvs (l.take (i + 1)) ≠ kvs (m.take (i + 1)) → kvs l ≠ kvs m := fun h3 h4 => h3 (by
        rw [kvs, kvs, List.map_take, List.map_take]
        rw [kvs, kvs] at h4
        rw [h4])
      refine jh [rvals l] (j_ent (rvals_at (List.mem_of_getElem? hx) _) ?_)
      refine jh [rvals m] (j_ent (rvals_at (List.mem_of_getElem? hy) _) ?_)
      repeat refine s1 ?_
      refine t_draw [valA x, valA y] [17, 23] mixed (by decide +kernel) ?_
      repeat refine s1 ?_
      refine ix rfl rfl hi ?_
      repeat refine s1 ?_
      refine r_loadI (off := lo) (n := l.length) (cap := c) (E := T.casemateref15_Pair) (s := 2) (xs := l.flatMap rpc) (v := w64 x.k) rfl (j := i * 2) (by omega) hat.1 rfl rfl ?_
      repeat refine s1 ?_
      refine ix rfl rfl (by omega) ?_
      repeat refine s1 ?_
      refine r_loadI (off := mo) (n := m.length) (cap := d) (E := T.casemateref15_Pair) (s := 2) (xs := m.flatMap rpc) (v := w64 y.k) rfl (j := i * 2) (by omega) hbt.1 rfl rfl ?_
      repeat refine s1 ?_
      refine r_icmp rfl rfl rfl rfl ?_
      by_cases hk : x.k = y.k
      · rw [show (!decide ((x.k : Int) = (y.k : Int))) = false by simp [hk]]
        repeat refine s1 ?_
        refine ix rfl rfl hi ?_
        repeat refine s1 ?_
        refine r_loadI (off := lo) (n := l.length) (cap := c) (E := T.casemateref15_Pair) (s := 2) (xs := l.flatMap rpc) (v := .slice x.a x.v.length x.c) rfl (j := i * 2 + 1) (by omega) hat.2 rfl rfl ?_
        repeat refine s1 ?_
        refine s_toStr x.v rfl rfl ?_
        repeat refine s1 ?_
        refine ix rfl rfl (by omega) ?_
        repeat refine s1 ?_
        refine r_loadI (off := mo) (n := m.length) (cap := d) (E := T.casemateref15_Pair) (s := 2) (xs := m.flatMap rpc) (v := .slice y.a y.v.length y.c) rfl (j := i * 2 + 1) (by omega) hbt.2 rfl rfl ?_
        repeat refine s1 ?_
        refine s_toStr y.v rfl rfl ?_
        repeat refine s1 ?_
        refine r_strne rfl rfl (hb1 x (List.mem_of_getElem? hx)) (hb2 y (List.mem_of_getElem? hy)) ?_
        by_cases hv : x.v = y.v
        · rw [decide_eq_true hv, Bool.not_true]
          repeat refine s1 ?_
          exact j_again (i + 1) ⟨by omega, hxy.2 ⟨hk, hv⟩⟩ (by omega) ⟨rfl, rfl, rfl, trivial⟩ (by first | exact Le.ent | (dsimp only; exact Le.ent) | (dsimp only [List.cons_append, List.nil_append]; exact Le.ent) | (dsimp only [List.cons_append, List.nil_append]; simp only [List.take_zero, List.map_nil, List.flatMap_nil, List.length_nil]; exact Le.ent))
        · rw [decide_eq_false hv, Bool.not_false]
          rw [decide_eq_false (hno (fun h3 => hv (hxy.1 h3).2))]
          repeat refine s1 ?_
          exact f1 ()
      · rw [show (!decide ((x.k : Int) = (y.k : Int))) = true by simp; omega]
        rw [decide_eq_false (hno (fun h3 => hk (hxy.1 h3).1))]
        repeat refine s1 ?_
        exact f1 ()
    · have hi : i = l.length := by have := of_decide_eq_false hq; omega
      subst hi
      rw [List.take_length, hlm, List.take_length] at h2
      rw [decide_eq_true h2]
      repeat refine s1 ?_
      exact f1 ()
  · rw [show (!decide ((l.length : Int) = (m.length : Int))) = true by simp; omega]
    have hne : kvs l ≠ kvs m := fun h => hlm (by have := congrArg List.length h; simpa [kvs] using this)
    rw [decide_eq_false hne]
    repeat refine s1 ?_
    exact f1 ()
end Go.Proofs.YtcnpkmdooekmgaaGreatDoor
namespace Go.Proofs.YtcnpkmdooekmgaaGreatDoor
open Go Sl
def valL (by_ key : Nat) : List Nat := by_ :: (key % 256) :: (List.replicate 41 0 ++ [by_])
theorem valL_bytes {b k : Nat} (h : b < 256) : bytes 44 (valL b k) := ⟨by simp [valL], fun x hx => by
  simp only [valL, List.mem_cons, List.mem_append, List.mem_replicate, List.not_mem_nil, or_false] at hx
  omega⟩
section
variable {X : Cx} {e : Env} {L A : List Assn} {S : List Nat} {ops : Array Oper} {k : Nat} {l : List Oper} {R : Act → World → Prop} {d : Nat} {T : TypeId} {pos : String} {af : Array Edge}
theorem r_buildF {t : TypeId} {parts : Array (Nat × Operand)} {vs : List (Nat × Value)} {cells : List Value} (hp : evP e parts.toList = some vs) (hb : X.P.built t vs = some cells.toArray)
    (h : J X ((d, .agg cells.toArray) :: e) L (sw X.P (Holds X.Φ A) S ops R (k + 1) l)) (hd : Nat.blt d X.n = true := by rfl) : J X e L (sw X.P (Holds X.Φ A) S ops R k (⟨some d, .build t parts, T, pos, af, none⟩ :: l)) :=
  r_pure rfl (fun a m w => by
    have e1 : (parts.map fun (i, x) => (i, a.eval x)).toList = vs := by rw [← m.evP hp, Array.toList_map]
    have h1 : (Instr.build t (parts.map fun (i, x) => (i, a.eval x))).run X.P w = .ok (.agg cells.toArray) w := run_build w t _ _ (by rw [e1, hb])
    simp only [execOp, Sem.run_bind, h1, Result.andThen_ok, Sem.run_pure]) hd h
end
theorem wrap8 (k : Nat) : IntKind.u8.wrap (k : Int) = ((k % 256 : Nat) : Int) := by simp [IntKind.wrap, IntKind.signed, IntKind.bits]
theorem built51 (u v w : Value) (hu : u.cells = #[u]) (hv : v.cells = #[v]) (hw : w.cells = #[w]) : Program.built Tryz.prog 51 [(0, u), (1, v), (43, w)] = some ([u, v] ++ List.replicate 41 (u8 0) ++ [w]).toArray := by
  have h1 : Program.built Tryz.prog 51 [(0, u), (1, v), (43, w)] = Instr.fill (fun i => some (i * 1, 1)) (List.replicate 44 (u8 0)).toArray [(0, u), (1, v), (43, w)] := by kernel_rfl
  rw [h1]
  simp [Instr.fill, hu, hv, hw]
  done
attribute [local irreducible] cw sw J Exit.then Exit.inBlock Exit.noGoto bodyPost swG swL permL
theorem val_c (b k : Nat) (Φ : Base) : Sl.Fn Tryz.prog Φ F.casematelaw15_Val [u8 b, w64 k] [] (fun _ : Unit => True) (fun _ => v44 (valL b k)) (fun _ => []) := by
  refine fo fun F => ?_
  repeat refine s1 ?_
  refine al (cs := z44.map u8) (fun t4 => ?_)
  repeat refine s1 ?_
  rw [wrap8]
  refine r_buildF (cells := (valL b k).map u8) rfl ?_ ?_
  · rw [built51 _ _ _ rfl rfl rfl]; simp [valL]
  refine r_storeW (vs := (valL b k).map u8) rfl rfl (by rfl) (by rfl) (by simp [Value.oneCell']) rfl ?_
  repeat refine s1 ?_
  exact j_fin rfl (.cons (rv_agg (l := (valL b k).map u8) (U := T.a44_uint8) (fr := (0, 0)) rfl (by rfl)) .nil) () rfl trivial
abbrev Dk0 (n : Nat) : Dk := ⟨n, fun _ => none, fun _ => none, [], reg0, 0, false, 0, false⟩
theorem begin_c (n : Nat) (h1 : 1 ≤ n) (h2 : n ≤ 60000) (Φ : Base) : Sl.Fn Tryz.prog Φ F.casematelaw15_Begin [i64 n] [] (fun _ : Nat × Nat × Nat => True) (fun z => .tuple #[ptr z.1, ptr z.2.1, .bool true]) (fun z => [store z.2.1 (St0 z.1 z.2.2 3 n), disk z.1 (Dk0 (n + 3)), hlog z.2.2 0]) := by
  refine fo fun F => ?_
  repeat refine s1 ?_
  refine r_addN (m := n) (n := 3) rfl rfl (by omega) rfl ?_
  refine cx (dnew_c (n + 3) (by omega) (by omega) Φ) (fun pd _ => ?_)
  repeat refine s2 ?_
  refine cx (hlognew_c Φ) (fun pl _ => ?_)
  refine cx (snew_c pd pl 3 n (Dk0 (n + 3)) h1 (by show 3 + n ≤ n + 3; omega) Φ) (fun ps _ => ?_)
  repeat refine s2 ?_
  exact f3 (pd, ps, pl)
theorem all_c (ps pd pl N : Nat) (S : St) (D : Dk) (t : Tre) (ht : TOk S.g t) (hS : S.wf) (ha : Agr S D) (hN : N ≤ 600000000) (hkv : t.kv.length ≤ 1000000) (hpd : S.pd = pd) (hpl : S.pl = pl) (Φ : Base) :
    Sl.Fn Tryz.prog Φ F.casematelaw15_All [ptr t.p] [tree t.p ps t.rt, store ps S, disk pd D, hlog pl N] (fun z : List RP × Option Addr × Nat => (D.down = false ∨ t.rt = none) → kvs z.1 = t.kv) (fun z => .tuple #[.slice z.2.1 z.1.length z.2.2, .bool (decide (D.down = false ∨ t.rt = none))])
      (fun z => [rowR z.2.1 z.1.length z.2.2 z.1, rvals z.1, tree t.p ps t.rt, store ps S, disk pd D, hlog pl (N + t.kv.length + 1)]) := by
  have hall : rngO D t 0 18446744073709551615 1048576 = if D.down = false ∨ t.rt = none then t.kv else [] := by
    have hf : rngL 0 18446744073709551615 1048576 t.kv = t.kv := by
      unfold rngL
      rw [show t.kv.filter (fun x => decide (0 ≤ x.1)) = t.kv from List.filter_eq_self.2 (fun x hx => by simp), List.filter_eq_self.2 (fun x hx => by have := (ht.kvok x hx).1; simp; omega), List.take_of_length_le (by show _ ≤ 1048576; omega)]
    unfold rngO
    rcases hr : t.rt with _ | r
    · simp [ht.nil hr]
    · rcases hd : D.down with _ | _
      · simp [hf]
      · simp
  have hE : rngE D t 0 18446744073709551615 1048576 = if D.down = false ∨ t.rt = none then 0 else 30 := by
    unfold rngE
    rcases hr : t.rt with _ | r
    · simp
    · rcases hd : D.down with _ | _ <;> simp
  have hlen : ∀ x ∈ rngO D t 0 18446744073709551615 1048576, x.2.length = 44 := fun x hx => by
    rw [hall] at hx
    split at hx
    · exact (ht.kvok x hx).2.1
    · cases hx
  have hll : (rngO D t 0 18446744073709551615 1048576).length ≤ 1000000 := by
    rw [hall]
    split
    · exact hkv
    · simp
  refine fo fun F => ?_
  repeat refine s1 ?_
  refine cx (trange_c ps pd pl N 0 18446744073709551615 1048576 S D t ht hS ha hN hkv hpd hpl Φ) (fun x _ => ?_)
  obtain ⟨oa, oc⟩ := x
  dsimp only
  generalize rngO D t 0 18446744073709551615 1048576 = o at hall hlen hll ⊢
  rw [hE]
  refine jh [prow oa o.length oc o] (fz ?_)
  repeat refine s1 ?_
  refine cx (as_c oa oc o hll hlen Φ) (fun z hz => ?_)
  repeat refine s1 ?_
  refine r_icmp rfl rfl rfl rfl ?_
  repeat refine s1 ?_
  exact f2 z (hV := by by_cases hP : D.down = false ∨ t.rt = none <;> simp [hP]) (hq := fun hP => by rw [hall, if_pos hP] at hz; exact hz)
end Go.Proofs.YtcnpkmdooekmgaaGreatDoor
namespace Go.Proofs.YtcnpkmdooekmgaaGreatDoor
open Go Sl
/-- a play: a store and its trees; the disk fails by no plan. -/
structure Lv (pd pl n : Nat) (S : St) (D : Dk) (ts : List Tre) : Prop where
  ok : TsOk S ts
  agr : Agr S D
  cnt : S.cnt = n
  plan : D.plan = false
  up : D.down = false
  pd : S.pd = pd
  pl : S.pl = pl
theorem Lv.begin (pd pl n p : Nat) : Lv pd pl n (St0 pd pl 3 n) (Dk0 (n + 3)) [⟨p, none, []⟩] :=
  ⟨⟨fun s => by simp [hold, hd1], St0_wf _ _ _ _, fun s hs => absurd rfl hs, fun t ht => by simp only [List.mem_singleton] at ht; subst ht; rfl⟩,
    ⟨fun s hs => absurd rfl hs, by show 3 + n ≤ n + 3; omega, by show 0 ≤ _; decide⟩, rfl, rfl, rfl, rfl, rfl⟩
theorem Lv.room {pd pl n : Nat} {S : St} {D : Dk} {ts : List Tre} (h : Lv pd pl n S D ts) : 3 * card S.K ≤ (ts.map fun t => t.kv.length + 2).sum := h.ok.used
/-- a change that had room is done. -/
theorem Lv.done {pd pl n : Nat} {S : St} {D : Dk} {A B : List Tre} {t : Tre} {kv' : KV} {Y : Prop} {x : Nat × Option Rf × St × Dk} (h : Lv pd pl n S D (A ++ t :: B)) (q : TrQ S D A B t kv' Y x) (hr : card S.K + (2 * Nat.log2 t.kv.length + 4) < n) (hy : ¬ Y) :
    x.1 = 0 ∧ Lv pd pl n x.2.2.1 x.2.2.2 (A ++ ⟨t.p, x.2.1, kv'⟩ :: B) := by
  have hu := q.dle.up h.plan
  have h0 : x.1 = 0 := by
    rcases Nat.eq_zero_or_pos x.1 with h0 | h0
    · exact h0
    · rcases (q.er (by omega)).2.2.2 with ⟨_, h1⟩ | ⟨_, h1⟩ | ⟨_, h1⟩
      · rw [h.cnt] at h1; omega
      · rw [hu, h.up] at h1; cases h1
      · exact absurd h1 hy
  exact ⟨h0, q.ok h0, q.agr, q.cnt.trans h.cnt, q.dle.plan.trans h.plan, hu.trans h.up, q.pd.trans h.pd, q.pl.trans h.pl⟩
attribute [local irreducible] cw sw J Exit.then Exit.inBlock Exit.noGoto bodyPost swG swL permL
end Go.Proofs.YtcnpkmdooekmgaaGreatDoor
namespace Go.Proofs.YtcnpkmdooekmgaaGreatDoor
open Go Sl
structure Opn where
  kind : Int
  key : Nat
  to : Nat
  by_ : Nat
  n : Int
structure Opn.wt (o : Opn) : Prop where
  key : o.key < 18446744073709551616
  to : o.to < 18446744073709551616
  by_ : o.by_ < 256
theorem rngO_up {D : Dk} {t : Tre} {g : Gd} (ht : TOk g t) (hd : D.down = false) (a b : Nat) (n : Int) : rngO D t a b n = rngL a b n t.kv := by
  unfold rngO
  split
  · rfl
  · rename_i h
    unfold rngL
    by_cases h1 : t.rt.isSome = true
    · by_cases h2 : n < 1
      · rw [show n.toNat = 0 by omega, List.take_zero]
      · by_cases h3 : b < a
        · rw [List.filter_eq_nil_iff.2 (fun x hx => by have := (List.mem_filter.1 hx).2; simp at this ⊢; omega)]; simp
        · exact absurd ⟨h1, h2, h3, hd⟩ h
    · have : t.kv = [] := Decidable.byContradiction fun h0 => h1 (ht.has.2 h0)
      rw [this]; simp
theorem kvs_bytes {l : List RP} (h : KVok (kvs l)) : ∀ x ∈ l, ∀ y ∈ x.v, y < 256 := fun x hx => (h (x.k, x.v) (List.mem_map.2 ⟨x, hx, rfl⟩)).2.2
attribute [local irreducible] cw sw J Exit.then Exit.inBlock Exit.noGoto bodyPost swG swL permL
end Go.Proofs.YtcnpkmdooekmgaaGreatDoor
namespace Go.Proofs.YtcnpkmdooekmgaaGreatDoor
open Go Sl
attribute [local irreducible] cw sw J Exit.then Exit.inBlock Exit.noGoto bodyPost swG swL permL
end Go.Proofs.YtcnpkmdooekmgaaGreatDoor
namespace Go.Proofs.YtcnpkmdooekmgaaGreatDoor
open Go Sl
abbrev Fd := Nat × (Nd × NR)
/-- what was found stands there, and its kids were found. -/
structure FOk (g : Gd) (f c : Nat) (l : List Fd) : Prop where
  nd : (l.map Prod.fst).Nodup
  at' : ∀ e ∈ l, g.K e.1 = some (secs e.2.1) ∧ e.2.1.wt ∧ e.2.1.kids.length ≤ 11 ∧ f ≤ e.1 ∧ e.1 < f + c
  closed : ∀ e ∈ l, ∀ k ∈ secs e.2.1, k ∈ l.map Prod.fst
theorem aset_mem {β : Type} {l : List (Nat × β)} {k : Nat} {x : β} : ∀ y ∈ aset l k x, y = (k, x) ∨ y ∈ l := by
  induction l with
  | nil => intro y hy; simp [aset] at hy; exact .inl hy
  | cons p l ih =>
    intro y hy
    unfold aset at hy
    split at hy
    · simp only [List.mem_cons] at hy ⊢
      rcases hy with rfl | hy
      · exact .inl rfl
      · exact .inr (.inr hy)
    · simp only [List.mem_cons] at hy ⊢
      rcases hy with rfl | hy
      · exact .inr (.inl rfl)
      · exact (ih y hy).imp id .inr
theorem aset_keys {β : Type} {l : List (Nat × β)} {k : Nat} {x : β} : ∀ s, s ∈ (aset l k x).map Prod.fst ↔ s = k ∨ s ∈ l.map Prod.fst := by
  induction l with
  | nil => intro s; simp [aset]
  | cons p l ih =>
    intro s
    unfold aset
    split
    · rename_i e
      simp only [List.map_cons, List.mem_cons]
      constructor
      · rintro (h | h)
        · exact .inl h
        · exact .inr (.inr h)
      · rintro (h | h | h)
        · exact .inl h
        · exact .inl (by rw [h]; first | exact e | exact eq_of_beq e)
        · exact .inr h
    · simp only [List.map_cons, List.mem_cons, ih]
      constructor
      · rintro (h | h | h)
        · exact .inr (.inl h)
        · exact .inl h
        · exact .inr (.inr h)
      · rintro (h | h | h)
        · exact .inr (.inl h)
        · exact .inl h
        · exact .inr (.inr h)
theorem FOk.add {g : Gd} {f c : Nat} {l : List Fd} (h : FOk g f c l) {s : Nat} {n : Nd} {y : NR} (hK : g.K s = some (secs n)) (hw : n.wt) (hk : n.kids.length ≤ 11) (h1 : f ≤ s) (h2 : s < f + c) (hc : ∀ k ∈ secs n, k ∈ l.map Prod.fst) : FOk g f c (aset l s (n, y)) := by
  refine ⟨(Rep.set (l := l) (f := alook l) ⟨h.nd, fun _ => rfl⟩ s (n, y)).nd, fun e he => ?_, fun e he k hk' => ?_⟩
  · rcases aset_mem e he with rfl | he
    · exact ⟨hK, hw, hk, h1, h2⟩
    · exact h.at' e he
  · refine (aset_keys k).2 (.inr ?_)
    rcases aset_mem e he with rfl | he
    · exact hc k hk'
    · exact h.closed e he k hk'
end Go.Proofs.YtcnpkmdooekmgaaGreatDoor
namespace Go.Proofs.YtcnpkmdooekmgaaGreatDoor
open Go Sl
attribute [local irreducible] cw sw J Exit.then Exit.inBlock Exit.noGoto bodyPost swG swL permL
end Go.Proofs.YtcnpkmdooekmgaaGreatDoor
namespace Go.Proofs.YtcnpkmdooekmgaaGreatDoor
open Go Sl
theorem FOk.len {g : Gd} {f c : Nat} {l : List Fd} (h : FOk g f c l) : l.length ≤ c := by
  have := sub_len (a := l.map Prod.fst) (b := (List.range c).map (f + ·)) h.nd (fun x hx => by
    obtain ⟨e, he, rfl⟩ := List.mem_map.1 hx
    have := h.at' e he
    exact List.mem_map.2 ⟨e.1 - f, by simp; omega, by omega⟩)
  simpa using this
attribute [local irreducible] cw sw J Exit.then Exit.inBlock Exit.noGoto bodyPost swG swL permL
end Go.Proofs.YtcnpkmdooekmgaaGreatDoor
namespace Go.Proofs.YtcnpkmdooekmgaaGreatDoor
open Go Sl
section
variable {X : Cx} {e : Env} {L A : List Assn} {S : List Nat} {ops : Array Oper} {k : Nat} {l : List Oper} {R : Act → World → Prop} {d : Nat} {T : TypeId} {pos : String} {af : Array Edge}
end
attribute [local irreducible] cw sw J Exit.then Exit.inBlock Exit.noGoto bodyPost swG swL permL
end Go.Proofs.YtcnpkmdooekmgaaGreatDoor
namespace Go.Proofs.YtcnpkmdooekmgaaGreatDoor
open Go Sl
theorem Lv.any {pd pl n : Nat} {S : St} {D : Dk} {A B : List Tre} {t : Tre} {kv' : KV} {Y : Prop} {x : Nat × Option Rf × St × Dk} (h : Lv pd pl n S D (A ++ t :: B)) (q : TrQ S D A B t kv' Y x) :
    ∃ kv2, (kv2 = kv' ∨ kv2 = t.kv) ∧ Lv pd pl n x.2.2.1 x.2.2.2 (A ++ ⟨t.p, x.2.1, kv2⟩ :: B) := by
  have hu := q.dle.up h.plan
  by_cases h0 : x.1 = 0
  · exact ⟨kv', .inl rfl, q.ok h0, q.agr, q.cnt.trans h.cnt, q.dle.plan.trans h.plan, hu.trans h.up, q.pd.trans h.pd, q.pl.trans h.pl⟩
  · obtain ⟨e1, e2, _⟩ := q.er h0
    exact ⟨t.kv, .inr rfl, by rw [e1]; exact e2, q.agr, q.cnt.trans h.cnt, q.dle.plan.trans h.plan, hu.trans h.up, q.pd.trans h.pd, q.pl.trans h.pl⟩
theorem Lv.step {pd pl n : Nat} {S : St} {D : Dk} {A B : List Tre} {t : Tre} {kv' : KV} {Y : Prop} {x : Nat × Option Rf × St × Dk} (h : Lv pd pl n S D (A ++ t :: B)) (q : TrQ S D A B t kv' Y x) {m : Nat} (h1 : t.kv.length ≤ m) (h2 : kv'.length ≤ m) :
    ∃ kv2 : KV, Lv pd pl n x.2.2.1 x.2.2.2 (A ++ ⟨t.p, x.2.1, kv2⟩ :: B) ∧ kv2.length ≤ m ∧ x.2.2.2.waits.length ≤ D.waits.length + 70 := by
  obtain ⟨kv2, h8, h9⟩ := h.any q
  refine ⟨kv2, h9, ?_, q.dle.len⟩
  rcases h8 with rfl | rfl
  · exact h2
  · exact h1
section
variable {X : Cx} {e : Env} {L F : List Assn}
end
attribute [local irreducible] cw sw J Exit.then Exit.inBlock Exit.noGoto bodyPost swG swL permL
end Go.Proofs.YtcnpkmdooekmgaaGreatDoor
namespace Go.Proofs.YtcnpkmdooekmgaaGreatDoor
open Go Sl
attribute [local irreducible] cw sw J Exit.then Exit.inBlock Exit.noGoto bodyPost swG swL permL
end Go.Proofs.YtcnpkmdooekmgaaGreatDoor
namespace Go.Proofs.YtcnpkmdooekmgaaGreatDoor
open Go Sl
attribute [local irreducible] cw sw J Exit.then Exit.inBlock Exit.noGoto bodyPost swG swL permL
end Go.Proofs.YtcnpkmdooekmgaaGreatDoor
namespace Go.Proofs.YtcnpkmdooekmgaaGreatDoor
open Go Sl
attribute [local irreducible] cw sw J Exit.then Exit.inBlock Exit.noGoto bodyPost swG swL permL
end Go.Proofs.YtcnpkmdooekmgaaGreatDoor
namespace Go.Proofs.YtcnpkmdooekmgaaGreatDoor
open Go Sl
attribute [local irreducible] cw sw J Exit.then Exit.inBlock Exit.noGoto bodyPost swG swL permL
end Go.Proofs.YtcnpkmdooekmgaaGreatDoor
namespace Go.Proofs.YtcnpkmdooekmgaaGreatDoor
open Go Sl
/-- a play on a disk that may fail. -/
structure Gv (pd pl : Nat) (S : St) (D : Dk) (t : Tre) : Prop where
  ok : TsOk S [t]
  agr : Agr S D
  pd : S.pd = pd
  pl : S.pl = pl
theorem Gv.done {pd pl : Nat} {S : St} {D : Dk} {t : Tre} {kv' : KV} {Y : Prop} {x : Nat × Option Rf × St × Dk} (h : Gv pd pl S D t) (q : TrQ S D [] [] t kv' Y x) (h0 : x.1 = 0) : Gv pd pl x.2.2.1 x.2.2.2 ⟨t.p, x.2.1, kv'⟩ :=
  ⟨q.ok h0, q.agr, q.pd.trans h.pd, q.pl.trans h.pl⟩
attribute [local irreducible] cw sw J Exit.then Exit.inBlock Exit.noGoto bodyPost swG swL permL
end Go.Proofs.YtcnpkmdooekmgaaGreatDoor
namespace Go.Proofs.YtcnpkmdooekmgaaGreatDoor
open Go Sl
def insAll (xs kv : KV) : KV := xs.foldl (fun kv x => ins x.1 x.2 kv) kv
def delAll (xs kv : KV) : KV := xs.foldl (fun kv x => del x.1 kv) kv
abbrev sumL (ts : List Tre) : Nat := (ts.map fun t => t.kv.length + 2).sum
/-- what comes of many changes of one tree: all of them, or some till one was refused. -/
structure AllQ (n : Nat) (S : St) (D : Dk) (A B : List Tre) (p : Nat) (kv kv' : KV) (x : Nat × Option Rf × St × Dk × KV) : Prop where
  pd : x.2.2.1.pd = S.pd
  pl : x.2.2.1.pl = S.pl
  frm : x.2.2.1.frm = S.frm
  cnt : x.2.2.1.cnt = S.cnt
  agr : Agr x.2.2.1 x.2.2.2.1
  plan : x.2.2.2.1.plan = D.plan
  size : x.2.2.2.1.size = D.size
  up : D.plan = false → x.2.2.2.1.down = D.down
  waits : x.2.2.2.1.waits.length ≤ D.waits.length + 70 * n
  ok : TsOk x.2.2.1 (A ++ ⟨p, x.2.1, x.2.2.2.2⟩ :: B)
  done : x.1 = 0 → x.2.2.2.2 = kv'
  len : x.2.2.2.2.length ≤ kv.length + n
  er : x.1 ≠ 0 → x.1 = 5 ∧ 3 * S.cnt ≤ sumL (A ++ B) + (kv.length + n + 2) + 3 * (2 * Nat.log2 (kv.length + n) + 4) ∨ x.1 = 30 ∧ x.2.2.2.1.down = true
theorem log_mono {a b : Nat} (h : a ≤ b) : Nat.log2 a ≤ Nat.log2 b := by
  by_cases h0 : a = 0
  · subst h0; exact Nat.zero_le _
  · rw [Nat.le_log2 (by omega)]
    exact Nat.le_trans ((Nat.le_log2 h0).1 (Nat.le_refl _)) h
theorem AllQ.begin {S : St} {D : Dk} {A B : List Tre} {t : Tre} (h : TsOk S (A ++ t :: B)) (a : Agr S D) (kv' : KV) (n : Nat) (h0 : t.kv = kv') : AllQ n S D A B t.p t.kv kv' (0, t.rt, S, D, t.kv) :=
  ⟨rfl, rfl, rfl, rfl, a, rfl, rfl, fun _ => rfl, by dsimp only; omega, h, fun _ => h0, by dsimp only; omega, fun h => absurd rfl h⟩
theorem sumL_mid (A B : List Tre) (t : Tre) : sumL (A ++ t :: B) = sumL (A ++ B) + (t.kv.length + 2) := by
  simp only [sumL, List.map_append, List.map_cons, List.sum_append, List.sum_cons]; omega
/-- one more change. -/
theorem AllQ.step {n : Nat} {S S1 S2 : St} {D D1 D2 : Dk} {A B : List Tre} {p : Nat} {kv kv1 kv2 kvm : KV} {o1 o2 : Option Rf} {e2 : Nat} {Y : Prop} (q : AllQ n S D A B p kv kvm (0, o1, S1, D1, kv1)) (c : TrQ S1 D1 A B ⟨p, o1, kv1⟩ kv2 Y (e2, o2, S2, D2)) (hl : kv2.length ≤ kv1.length + 1) (hY : e2 = 4 → False)
    (kv' : KV) (hk : e2 = 0 → kv2 = kv') : AllQ (n + 1) S D A B p kv kv' (e2, o2, S2, D2, if e2 = 0 then kv2 else kv1) := by
  have hn := q.len
  have hw := q.waits
  have hcw := c.dle.len
  dsimp only at hn hw hcw
  refine ⟨c.pd.trans q.pd, c.pl.trans q.pl, c.frm.trans q.frm, c.cnt.trans q.cnt, c.agr, c.dle.plan.trans q.plan, c.dle.size.trans q.size, fun h => (c.dle.up (q.plan.trans h)).trans (q.up h), by dsimp only; omega, ?_, fun h0 => ?_, ?_, fun h0 => ?_⟩
  · dsimp only
    by_cases h0 : e2 = 0
    · rw [if_pos h0]; exact c.ok h0
    · rw [if_neg h0]
      have := c.er h0
      dsimp only at this
      rw [this.1]; exact this.2.1
  · dsimp only at h0 ⊢
    rw [if_pos h0]; exact hk h0
  · dsimp only
    split <;> omega
  · dsimp only at h0 ⊢
    have h4 := (c.er h0).2.2.2
    dsimp only at h4
    rcases h4 with ⟨h5, h6⟩ | h6 | ⟨h6, _⟩
    · refine .inl ⟨h5, ?_⟩
      have hu := q.ok.used
      dsimp only at hu
      have h7 := sumL_mid A B ⟨p, o1, kv1⟩
      dsimp only [sumL] at h7 ⊢
      have h8 := log_mono (show kv1.length ≤ kv.length + (n + 1) by omega)
      have h9 : S1.cnt = S.cnt := q.cnt
      omega
    · exact .inr h6
    · exact (hY h6).elim
theorem AllQ.same {n : Nat} {S S1 S2 : St} {D D1 D2 : Dk} {A B : List Tre} {p : Nat} {kv kv1 kv2 kvm : KV} {o1 o2 : Option Rf} {Y : Prop} (q : AllQ n S D A B p kv kvm (0, o1, S1, D1, kv1)) (c : TrQ S1 D1 A B ⟨p, o1, kv1⟩ kv2 Y (4, o2, S2, D2))
    (kv' : KV) (hk : kv1 = kv') : AllQ (n + 1) S D A B p kv kv' (0, o2, S2, D2, kv1) := by
  have hn := q.len
  have hw := q.waits
  have hcw := c.dle.len
  dsimp only at hn hw hcw
  have h4 := c.er (Nat.succ_ne_zero 3)
  dsimp only at h4
  exact ⟨c.pd.trans q.pd, c.pl.trans q.pl, c.frm.trans q.frm, c.cnt.trans q.cnt, c.agr, c.dle.plan.trans q.plan, c.dle.size.trans q.size, fun h => (c.dle.up (q.plan.trans h)).trans (q.up h), by dsimp only; omega, by dsimp only; rw [h4.1]; exact h4.2.1, fun _ => hk, by dsimp only; omega, fun h => absurd rfl h⟩
theorem AllQ.mono {n m : Nat} {S : St} {D : Dk} {A B : List Tre} {p : Nat} {kv kv' kv2 : KV} {x : Nat × Option Rf × St × Dk × KV} (q : AllQ n S D A B p kv kv' x) (h : n ≤ m) (h0 : x.1 ≠ 0) : AllQ m S D A B p kv kv2 x :=
  ⟨q.pd, q.pl, q.frm, q.cnt, q.agr, q.plan, q.size, q.up, by have := q.waits; omega, q.ok, fun h1 => absurd h1 h0, by have := q.len; omega, fun h1 => (q.er h1).imp (fun ⟨a, b⟩ => ⟨a, by have := log_mono (show kv.length + n ≤ kv.length + m by omega); omega⟩) id⟩
theorem insAll_snoc (xs : KV) (i : Nat) (x : Nat × List Nat) (h : xs[i]? = some x) (kv : KV) : insAll (xs.take (i + 1)) kv = ins x.1 x.2 (insAll (xs.take i) kv) := by
  rw [List.take_add_one, h]; simp [insAll, List.foldl_append]
theorem delAll_snoc (xs : KV) (i : Nat) (x : Nat × List Nat) (h : xs[i]? = some x) (kv : KV) : delAll (xs.take (i + 1)) kv = del x.1 (delAll (xs.take i) kv) := by
  rw [List.take_add_one, h]; simp [delAll, List.foldl_append]
abbrev irow (a : Option Addr) (n c : Nat) (l : KV) : Assn := isl a n c T.mtree_Pair 45 (l.flatMap pcell)
attribute [local irreducible] cw sw J Exit.then Exit.inBlock Exit.noGoto bodyPost swG swL permL
theorem istree_c (ps pd pl N : Nat) (S : St) (D : Dk) (t : Tre) (ht : TOk S.g t) (hS : S.wf) (ha : Agr S D) (hN : N ≤ 600000000) (hkv : t.kv.length ≤ 1000000) (hpd : S.pd = pd) (hpl : S.pl = pl) (Φ : Base) :
    Sl.Fn Tryz.prog Φ F.walk_isTree [ptr t.p] [tree t.p ps t.rt, store ps S, disk pd D, hlog pl N] (fun _ : Unit => True) (fun _ => .bool true) (fun _ => [tree t.p ps t.rt, store ps S, disk pd D, hlog pl (N + 200)]) := by
  refine fo fun F => ?_
  repeat refine s1 ?_
  refine cl (tget_c ps pd pl N 0 S D t (by decide) ht hS ha hN hkv hpd hpl Φ) ?_
  have hg : ((get? 0 t.kv).getD z44).length = 44 := by
    rcases hk : get? 0 t.kv with _ | v
    · rfl
    · exact (ht.kvok (0, v) (get_mem hk)).2.1
  by_cases hd : t.rt.isSome ∧ D.down = true
  · rw [if_pos hd]
    repeat refine s1 ?_
    refine al (cs := z44.map u8) (fun t3 => ?_)
    refine r_storeW (vs := z44.map u8) rfl rfl (by rfl) (by rfl) (by simp [Value.oneCell']) rfl ?_
    repeat refine s2 ?_
    exact f1 ()
  · rw [if_neg hd]
    repeat refine s1 ?_
    refine al (cs := z44.map u8) (fun t3 => ?_)
    refine r_storeW (vs := ((get? 0 t.kv).getD z44).map u8) rfl rfl (by simpa using hg) (by rfl) (by simp [Value.oneCell']) rfl ?_
    repeat refine s2 ?_
    exact f1 ()
theorem istree_n (x : Option Nat) (Φ : Base) : Sl.Fn Tryz.prog Φ F.walk_isTree [noneV x] [noneA x] (fun _ : Unit => True) (fun _ => .bool false) (fun _ => [noneA x]) := by
  refine fo fun F => ?_
  repeat refine s1 ?_
  refine cl (get_n x 0 Φ) ?_
  repeat refine s1 ?_
  refine al (cs := z44.map u8) (fun t3 => ?_)
  refine r_storeW (vs := z44.map u8) rfl rfl (by rfl) (by rfl) (by simp [Value.oneCell']) rfl ?_
  repeat refine s2 ?_
  exact f1 ()
set_option maxHeartbeats 1000000 in
theorem putall1_c (ps pd pl N tb : Nat) (a : Option Addr) (c : Nat) (xs : KV) (S : St) (D : Dk) (A B : List Tre) (t : Tre) (hxs : KVok xs) (h : TsOk S (A ++ t :: B)) (ha : Agr S D) (hN : N + 200 * xs.length ≤ 500000000) (hwt : D.waits.length + 70 * xs.length ≤ 500000000) (hkv : t.kv.length + xs.length ≤ 1000000) (hl : (A ++ t :: B).length ≤ 1000000) (hpd : S.pd = pd) (hpl : S.pl = pl) (Φ : Base) (hT : Tab Φ) :
    Sl.Fn Tryz.prog Φ 93 [ptr t.p, ptr tb] [irow a xs.length c xs, pt tb (.cells ([.slice a xs.length c] : List Value).toArray T.sl_mtree_Pair (0, 0)), tree t.p ps t.rt, store ps S, disk pd D, hlog pl N]
      (AllQ xs.length S D A B t.p t.kv (insAll xs t.kv)) (fun x => i64 x.1)
      (fun x => [tree t.p ps x.2.1, store ps x.2.2.1, disk pd x.2.2.2.1, hlog pl (N + 200 * xs.length), pt tb (.cells ([.slice a xs.length c] : List Value).toArray T.sl_mtree_Pair (0, 0))]) := by
  have hl44 : ∀ x ∈ xs, x.2.length = 44 := fun x hx => (hxs x hx).2.1
  refine fo fun F => ?_
  repeat refine s1 ?_
  refine jh [irow a xs.length c xs] (j_leni (fun _ _ hra => ?_))
  repeat refine s1 ?_
  refine t_loop (σ := Nat × Option Rf × St × Dk × KV) (fun z => [(9, i64 z.1), (8, i64 xs.length), (7, .slice a xs.length c), (0, ptr t.p), (1, ptr tb)])
    (fun z => irow a xs.length c xs :: pt tb (.cells ([.slice a xs.length c] : List Value).toArray T.sl_mtree_Pair (0, 0)) :: tree t.p ps z.2.1 :: store ps z.2.2.1 :: disk pd z.2.2.2.1 :: hlog pl (N + 200 * z.1) :: F)
    (fun z => z.1 ≤ xs.length ∧ AllQ z.1 S D A B t.p t.kv (insAll (xs.take z.1) t.kv) (0, z.2.1, z.2.2.1, z.2.2.2.1, z.2.2.2.2)) (fun z => xs.length - z.1)
    (0, t.rt, S, D, t.kv) ⟨Nat.zero_le _, AllQ.begin h ha _ 0 (by simp [insAll])⟩ ⟨rfl, rfl, rfl, rfl, rfl, trivial⟩ (by first | exact Le.ent | (dsimp only; exact Le.ent) | (dsimp only [List.cons_append, List.nil_append]; exact Le.ent) | (dsimp only [List.cons_append, List.nil_append]; simp only [List.take_zero, List.map_nil, List.flatMap_nil, List.length_nil]; exact Le.ent)) ?_
  rintro ⟨i, o1, S1, D1, kv1⟩ ⟨hi, q⟩
  have hpd1 := q.pd
  have hpl1 := q.pl
  have hw1 := q.waits
  have hn1 := q.len
  have hok1 := q.ok
  have hag1 := q.agr
  dsimp only at hi hpd1 hpl1 hw1 hn1 hok1 hag1 ⊢
  repeat refine s1 ?_
  refine r_icmp rfl rfl rfl rfl ?_
  repeat refine s1 ?_
  refine t_condS rfl (fun hlt => ?_) (fun hge => ?_)
  · have hil : i < xs.length := by omega
    obtain ⟨b, o, rfl⟩ := hra (by omega)
    obtain ⟨⟨k, v⟩, hxi⟩ : ∃ x, xs[i]? = some x := ⟨_, List.getElem?_eq_getElem hil⟩
    have hkv1 := hxs _ (List.mem_of_getElem? hxi)
    have hv44 : v.length = 44 := hkv1.2.1
    repeat refine s1 ?_
    refine ix rfl rfl hil ?_
    refine jh [irow (some ⟨b, o, none⟩) xs.length c xs] ?_
    refine r_loadIA (off := o) (n := xs.length) (cap := c) (E := T.mtree_Pair) (s := 45) (xs := xs.flatMap pcell) (vs := pcell (k, v)) rfl (j := i * 45) (by omega) (by simp [hv44]) (pcell_at hl44 hxi) rfl rfl ?_
    refine al (fun t5 => ?_)
    refine r_storeW (vs := pcell (k, v)) rfl rfl (by simp [hv44]) (by simp) (by simp [Value.oneCell']) rfl ?_
    repeat refine s1 ?_
    refine r_loadA (vs := v.map u8) rfl (by simpa using hv44) (fun j v hj => by rw [List.getElem?_toArray, Nat.add_comm, List.getElem?_cons_succ]; exact hj) rfl rfl ?_
    refine cx (tput_c ps pd pl (N + 200 * i) k v S1 D1 A B ⟨t.p, o1, kv1⟩ hkv1.1 hkv1.2 hok1 hag1 (by omega) (by omega) (by dsimp only; omega) (by simpa using hl) (hpd1.trans hpd) (hpl1.trans hpl) Φ hT) (fun x hx => ?_)
    obtain ⟨e2, o2, S2, D2⟩ := x
    dsimp only at hx ⊢
    repeat refine s1 ?_
    by_cases he : e2 = 0
    · subst he
      repeat refine s2 ?_
      refine jh [hlog pl (N + 200 * i + 200)] (j_ent (hlogUp (N' := N + 200 * (i + 1)) (by omega) _) ?_)
      have hst := q.step hx (ins_len kv1).2 (fun h4 => (by cases h4)) (insAll (xs.take (i + 1)) t.kv) (fun _ => by
        rw [insAll_snoc xs i (k, v) hxi, ← q.done rfl])
      rw [if_pos rfl] at hst
      exact j_again (i + 1, o2, S2, D2, ins k v kv1) ⟨hil, hst⟩ (by dsimp only; omega) ⟨rfl, rfl, rfl, rfl, rfl, trivial⟩ (by first | exact Le.ent | (dsimp only; exact Le.ent) | (dsimp only [List.cons_append, List.nil_append]; exact Le.ent) | (dsimp only [List.cons_append, List.nil_append]; simp only [List.take_zero, List.map_nil, List.flatMap_nil, List.length_nil]; exact Le.ent))
    · refine r_icmp rfl rfl rfl rfl ?_
      rw [show (!decide ((e2 : Int) = 0)) = true by simp [he]]
      repeat refine s1 ?_
      refine jh [hlog pl (N + 200 * i + 200)] (j_ent (hlogUp (N' := N + 200 * xs.length) (by omega) _) ?_)
      have hst := q.step hx (ins_len kv1).2 (fun h4 => by
        have := (hx.er he).2.2.2
        dsimp only at this
        rcases this with ⟨h, _⟩ | ⟨h, _⟩ | ⟨_, h⟩
        · omega
        · omega
        · exact h) (ins k v kv1) (fun _ => rfl)
      rw [if_neg he] at hst
      exact f1 (e2, o2, S2, D2, kv1) (hq := hst.mono hil he)
  · have hil : i = xs.length := by omega
    subst hil
    rw [List.take_length] at q
    repeat refine s1 ?_
    exact f1 (0, o1, S1, D1, kv1) (hq := q)
set_option maxHeartbeats 1000000 in
theorem delall1_c (ps pd pl N tb : Nat) (a : Option Addr) (c : Nat) (xs : KV) (S : St) (D : Dk) (A B : List Tre) (t : Tre) (hxs : KVok xs) (h : TsOk S (A ++ t :: B)) (ha : Agr S D) (hN : N + 200 * xs.length ≤ 500000000) (hwt : D.waits.length + 70 * xs.length ≤ 500000000) (hkv : t.kv.length + xs.length ≤ 1000000) (hl : (A ++ t :: B).length ≤ 1000000) (hpd : S.pd = pd) (hpl : S.pl = pl) (Φ : Base) (hT : Tab Φ) :
    Sl.Fn Tryz.prog Φ 94 [ptr t.p, ptr tb] [irow a xs.length c xs, pt tb (.cells ([.slice a xs.length c] : List Value).toArray T.sl_mtree_Pair (0, 0)), tree t.p ps t.rt, store ps S, disk pd D, hlog pl N]
      (AllQ xs.length S D A B t.p t.kv (delAll xs t.kv)) (fun x => i64 x.1)
      (fun x => [tree t.p ps x.2.1, store ps x.2.2.1, disk pd x.2.2.2.1, hlog pl (N + 200 * xs.length), pt tb (.cells ([.slice a xs.length c] : List Value).toArray T.sl_mtree_Pair (0, 0))]) := by
  have hl44 : ∀ x ∈ xs, x.2.length = 44 := fun x hx => (hxs x hx).2.1
  refine fo fun F => ?_
  repeat refine s1 ?_
  refine jh [irow a xs.length c xs] (j_leni (fun _ _ hra => ?_))
  repeat refine s1 ?_
  refine t_loop (σ := Nat × Option Rf × St × Dk × KV) (fun z => [(10, i64 z.1), (9, i64 xs.length), (8, .slice a xs.length c), (0, ptr t.p), (1, ptr tb)])
    (fun z => irow a xs.length c xs :: pt tb (.cells ([.slice a xs.length c] : List Value).toArray T.sl_mtree_Pair (0, 0)) :: tree t.p ps z.2.1 :: store ps z.2.2.1 :: disk pd z.2.2.2.1 :: hlog pl (N + 200 * z.1) :: F)
    (fun z => z.1 ≤ xs.length ∧ AllQ z.1 S D A B t.p t.kv (delAll (xs.take z.1) t.kv) (0, z.2.1, z.2.2.1, z.2.2.2.1, z.2.2.2.2)) (fun z => xs.length - z.1)
    (0, t.rt, S, D, t.kv) ⟨Nat.zero_le _, AllQ.begin h ha _ 0 (by simp [delAll])⟩ ⟨rfl, rfl, rfl, rfl, rfl, trivial⟩ (by first | exact Le.ent | (dsimp only; exact Le.ent) | (dsimp only [List.cons_append, List.nil_append]; exact Le.ent) | (dsimp only [List.cons_append, List.nil_append]; simp only [List.take_zero, List.map_nil, List.flatMap_nil, List.length_nil]; exact Le.ent)) ?_
  rintro ⟨i, o1, S1, D1, kv1⟩ ⟨hi, q⟩
  have hpd1 := q.pd
  have hpl1 := q.pl
  have hw1 := q.waits
  have hn1 := q.len
  have hok1 := q.ok
  have hag1 := q.agr
  dsimp only at hi hpd1 hpl1 hw1 hn1 hok1 hag1 ⊢
  repeat refine s1 ?_
  refine r_icmp rfl rfl rfl rfl ?_
  repeat refine s1 ?_
  refine t_condS rfl (fun hlt => ?_) (fun hge => ?_)
  · have hil : i < xs.length := by omega
    obtain ⟨b, o, rfl⟩ := hra (by omega)
    obtain ⟨⟨k, v⟩, hxi⟩ : ∃ x, xs[i]? = some x := ⟨_, List.getElem?_eq_getElem hil⟩
    have hkv1 := hxs _ (List.mem_of_getElem? hxi)
    have hv44 : v.length = 44 := hkv1.2.1
    repeat refine s1 ?_
    refine ix rfl rfl hil ?_
    refine jh [irow (some ⟨b, o, none⟩) xs.length c xs] ?_
    refine r_loadIA (off := o) (n := xs.length) (cap := c) (E := T.mtree_Pair) (s := 45) (xs := xs.flatMap pcell) (vs := pcell (k, v)) rfl (j := i * 45) (by omega) (by simp [hv44]) (pcell_at hl44 hxi) rfl rfl ?_
    refine al (fun t5 => ?_)
    refine r_storeW (vs := pcell (k, v)) rfl rfl (by simp [hv44]) (by simp) (by simp [Value.oneCell']) rfl ?_
    repeat refine s1 ?_
    refine cx (tdel_c ps pd pl (N + 200 * i) k S1 D1 A B ⟨t.p, o1, kv1⟩ hkv1.1 hok1 hag1 (by omega) (by omega) (by dsimp only; omega) (by simpa using hl) (hpd1.trans hpd) (hpl1.trans hpl) Φ hT) (fun x hx => ?_)
    obtain ⟨e2, o2, S2, D2⟩ := x
    obtain ⟨hx, hx0⟩ := hx
    dsimp only at hx hx0 ⊢
    repeat refine s1 ?_
    by_cases he : e2 = 0
    · subst he
      repeat refine s2 ?_
      refine jh [hlog pl (N + 200 * i + 200)] (j_ent (hlogUp (N' := N + 200 * (i + 1)) (by omega) _) ?_)
      have hst := q.step hx (Nat.le_trans del_le (Nat.le_succ _)) (fun h4 => (by cases h4)) (delAll (xs.take (i + 1)) t.kv) (fun _ => by
        rw [delAll_snoc xs i (k, v) hxi, ← q.done rfl])
      rw [if_pos rfl] at hst
      exact j_again (i + 1, o2, S2, D2, del k kv1) ⟨hil, hst⟩ (by dsimp only; omega) ⟨rfl, rfl, rfl, rfl, rfl, trivial⟩ (by first | exact Le.ent | (dsimp only; exact Le.ent) | (dsimp only [List.cons_append, List.nil_append]; exact Le.ent) | (dsimp only [List.cons_append, List.nil_append]; simp only [List.take_zero, List.map_nil, List.flatMap_nil, List.length_nil]; exact Le.ent))
    · by_cases he4 : e2 = 4
      · subst he4
        have her := hx.er (Nat.succ_ne_zero 3)
        have hY : get? k kv1 = none := by
          have := her.2.2.2
          dsimp only at this
          rcases this with ⟨h, _⟩ | ⟨h, _⟩ | ⟨_, h⟩
          · cases h
          · cases h
          · exact h
        have hd0 : del k kv1 = kv1 := del_none fun y hy hyk => get_iff.1 hY (List.mem_map.2 ⟨y, hy, hyk⟩)
        have hro := her.1
        dsimp only at hro
        repeat refine s2 ?_
        refine jh [hlog pl (N + 200 * i + 200)] (j_ent (hlogUp (N' := N + 200 * (i + 1)) (by omega) _) ?_)
        have hst := q.same hx (delAll (xs.take (i + 1)) t.kv) (by rw [delAll_snoc xs i (k, v) hxi, ← q.done rfl]; exact hd0.symm)
        exact j_again (i + 1, o2, S2, D2, kv1) ⟨hil, hst⟩ (by dsimp only; omega) ⟨rfl, rfl, rfl, rfl, rfl, trivial⟩ (by first | exact Le.ent | (dsimp only; exact Le.ent) | (dsimp only [List.cons_append, List.nil_append]; exact Le.ent) | (dsimp only [List.cons_append, List.nil_append]; simp only [List.take_zero, List.map_nil, List.flatMap_nil, List.length_nil]; exact Le.ent))
      · have hv : delV e2 = .tuple #[.bool (decide (e2 = 0)), i64 e2] := by rw [delV, if_neg he4]
        refine r_icmp rfl rfl rfl rfl ?_
        rw [if_neg he4, show (!decide ((e2 : Int) = 0)) = true by simp [he]]
        repeat refine s1 ?_
        refine jh [hlog pl (N + 200 * i + 200)] (j_ent (hlogUp (N' := N + 200 * xs.length) (by omega) _) ?_)
        have hst := q.step hx (Nat.le_trans del_le (Nat.le_succ _)) (fun h4 => absurd h4 he4) (del k kv1) (fun _ => rfl)
        rw [if_neg he] at hst
        exact f1 (e2, o2, S2, D2, kv1) (hq := hst.mono hil he)
  · have hil : i = xs.length := by omega
    subst hil
    rw [List.take_length] at q
    repeat refine s1 ?_
    exact f1 (0, o1, S1, D1, kv1) (hq := q)
end Go.Proofs.YtcnpkmdooekmgaaGreatDoor
namespace Go.Proofs.YtcnpkmdooekmgaaGreatDoor
open Go Sl
/-- what comes of many changes at once: all, or none. -/
structure WhQ (n : Nat) (S : St) (D : Dk) (A B : List Tre) (t : Tre) (kv' : KV) (x : Nat × Option Rf × St × Dk × KV) : Prop where
  pd : x.2.2.1.pd = S.pd
  pl : x.2.2.1.pl = S.pl
  frm : x.2.2.1.frm = S.frm
  cnt : x.2.2.1.cnt = S.cnt
  agr : Agr x.2.2.1 x.2.2.2.1
  plan : x.2.2.2.1.plan = D.plan
  size : x.2.2.2.1.size = D.size
  up : D.plan = false → x.2.2.2.1.down = D.down
  waits : x.2.2.2.1.waits.length ≤ D.waits.length + 70 * n
  ok : TsOk x.2.2.1 (A ++ ⟨t.p, x.2.1, x.2.2.2.2⟩ :: B)
  done : x.1 = 0 → x.2.2.2.2 = kv'
  er : x.1 ≠ 0 → x.2.1 = t.rt ∧ x.2.2.2.2 = t.kv ∧ (x.1 = 5 ∧ 3 * S.cnt ≤ sumL (A ++ t :: B) + (t.kv.length + n + 2) + 3 * (2 * Nat.log2 (t.kv.length + n) + 4) ∨ x.1 = 30 ∧ x.2.2.2.1.down = true)
abbrev cellV (a : Option Addr) (n c tb : Nat) : Assn := pt tb (.cells ([.slice a n c] : List Value).toArray T.sl_mtree_Pair (0, 0))
attribute [local irreducible] cw sw J Exit.then Exit.inBlock Exit.noGoto bodyPost swG swL permL
set_option maxHeartbeats 1000000 in
theorem wwhole_c (gf : Nat) [TFn Tryz.prog gf] (ps pd pl N tb : Nat) (a : Option Addr) (c : Nat) (xs : KV) (S : St) (D : Dk) (A B : List Tre) (t : Tre) (kv' : KV) (h : TsOk S (A ++ t :: B)) (ha : Agr S D) (hN : N ≤ 500000000) (hkv : t.kv.length ≤ 1000000) (hl : (A ++ t :: B).length ≤ 900000) (hpd : S.pd = pd) (hpl : S.pl = pl) (Φ : Base)
    (hc : ∀ cp, Sl.Fn Tryz.prog Φ gf ([ptr cp] ++ [ptr tb]) [irow a xs.length c xs, cellV a xs.length c tb, tree cp ps t.rt, store ps (S.turn none t.rt), disk pd D, hlog pl (N + 200)] (AllQ xs.length (S.turn none t.rt) D [] (A ++ t :: B) cp t.kv kv') (fun x => i64 x.1)
      (fun x => [tree cp ps x.2.1, store ps x.2.2.1, disk pd x.2.2.2.1, hlog pl (N + 200 + 200 * xs.length), cellV a xs.length c tb])) :
    Sl.Fn Tryz.prog Φ F.walk_whole [ptr t.p, .func (.func gf) #[] [ptr tb].toArray] [irow a xs.length c xs, cellV a xs.length c tb, tree t.p ps t.rt, store ps S, disk pd D, hlog pl N]
      (WhQ xs.length S D A B t kv') (fun x => i64 x.1) (fun x => [tree t.p ps x.2.1, store ps x.2.2.1, disk pd x.2.2.2.1, hlog pl (N + 200 + 200 * xs.length), cellV a xs.length c tb]) := by
  have ht := h.each t (by simp)
  refine fo fun F => ?_
  repeat refine s1 ?_
  refine cl (istree_c ps pd pl N S D t ht h.ok ha (by omega) hkv hpd hpl Φ) ?_
  repeat refine s1 ?_
  refine cx (tclone_c ps S t (oWt_of ht) (fun r hr => tok_root ht hr) (tre_low h (by omega)).1 Φ) (fun cp _ => ?_)
  repeat refine s1 ?_
  refine r_callv rfl (blt_any rfl) rfl rfl (hc cp) (fun x hx => ?_)
  obtain ⟨e, o1, S1, D1, kv1⟩ := x
  have hok := hx.ok
  dsimp only [bnd, List.cons_append, List.nil_append] at hok ⊢
  have hok2 : TsOk S1 ((⟨cp, o1, kv1⟩ :: A) ++ t :: B) := hok
  repeat refine s1 ?_
  by_cases he : e = 0
  · subst he
    repeat refine s2 ?_
    refine cx (tbecome_c ps S1 (⟨cp, o1, kv1⟩ :: A) B t ⟨cp, o1, kv1⟩ hok2 (hok2.each ⟨cp, o1, kv1⟩ (by simp)) (by simp only [List.cons_append, List.length_cons]; omega) Φ) (fun S2 h2 => ?_)
    repeat refine s1 ?_
    have hok3 : TsOk S2 ([] ++ (⟨cp, o1, kv1⟩ : Tre) :: (A ++ ⟨t.p, o1, kv1⟩ :: B)) := h2.ok
    refine cx (tfree_c ps S2 [] (A ++ ⟨t.p, o1, kv1⟩ :: B) ⟨cp, o1, kv1⟩ hok3 Φ) (fun S3 h3 => ?_)
    repeat refine s1 ?_
    exact f1 (0, o1, S3, D1, kv1) (hq := ⟨h3.pd.trans (h2.pd.trans hx.pd), h3.pl.trans (h2.pl.trans hx.pl), h3.frm.trans (h2.frm.trans hx.frm), h3.cnt.trans (h2.cnt.trans hx.cnt), h3.agr _ (h2.agr _ hx.agr), hx.plan, hx.size, hx.up, hx.waits, h3.ok, hx.done, fun h => absurd rfl h⟩)
  · refine r_icmp rfl rfl rfl rfl ?_
    rw [decide_eq_false (show ¬ (e : Int) = 0 by omega)]
    repeat refine s1 ?_
    have hok3 : TsOk S1 ([] ++ (⟨cp, o1, kv1⟩ : Tre) :: (A ++ t :: B)) := hok
    refine cx (tfree_c ps S1 [] (A ++ t :: B) ⟨cp, o1, kv1⟩ hok3 Φ) (fun S3 h3 => ?_)
    repeat refine s1 ?_
    exact f1 (e, t.rt, S3, D1, t.kv) (hq := ⟨h3.pd.trans hx.pd, h3.pl.trans hx.pl, h3.frm.trans hx.frm, h3.cnt.trans hx.cnt, h3.agr _ hx.agr, hx.plan, hx.size, hx.up, hx.waits, h3.ok, fun h => absurd h he, fun _ => ⟨rfl, rfl, hx.er he⟩⟩)
theorem putAll_c (ps pd pl N : Nat) (a : Option Addr) (c : Nat) (xs : KV) (S : St) (D : Dk) (A B : List Tre) (t : Tre) (hxs : KVok xs) (h : TsOk S (A ++ t :: B)) (ha : Agr S D) (hN : N + 200 * xs.length ≤ 400000000) (hwt : D.waits.length + 70 * xs.length ≤ 500000000) (hkv : t.kv.length + xs.length ≤ 1000000) (hl : (A ++ t :: B).length ≤ 900000) (hpd : S.pd = pd) (hpl : S.pl = pl) (Φ : Base) (hT : Tab Φ) :
    Sl.Fn Tryz.prog Φ F.walk_PutAll [ptr t.p, .slice a xs.length c] [irow a xs.length c xs, tree t.p ps t.rt, store ps S, disk pd D, hlog pl N]
      (WhQ xs.length S D A B t (insAll xs t.kv)) (fun x => i64 x.1) (fun x => [tree t.p ps x.2.1, store ps x.2.2.1, disk pd x.2.2.2.1, hlog pl (N + 200 + 200 * xs.length)]) := by
  have ht := h.each t (by simp)
  have hlow := (tre_low h (by omega)).1
  refine fo fun F => ?_
  repeat refine s1 ?_
  refine r_box (cs := [.slice a xs.length c]) rfl rfl rfl rfl (fun t3 => ?_)
  repeat refine s1 ?_
  refine mkf (vs := [ptr t3]) rfl ?_
  refine cx (wwhole_c 93 ps pd pl N t3 a c xs S D A B t (insAll xs t.kv) h ha (by omega) (by omega) hl hpd hpl Φ (fun cp =>
    putall1_c ps pd pl (N + 200) t3 a c xs (S.turn none t.rt) D [] (A ++ t :: B) ⟨cp, t.rt, t.kv⟩ hxs (h.clone (t := ⟨cp, t.rt, t.kv⟩) ht) ⟨ha.sec, ha.size, ha.left⟩ (by omega) (by omega) hkv (by simp only [List.nil_append, List.length_cons]; omega) hpd hpl Φ hT)) (fun x hx => ?_)
  repeat refine s1 ?_
  exact f1 x (hq := hx)
end Go.Proofs.YtcnpkmdooekmgaaGreatDoor
namespace Go.Proofs.YtcnpkmdooekmgaaGreatDoor
open Go Sl
def rngK (a b : Nat) (kv : KV) : KV := (kv.filter fun x => decide (a ≤ x.1)).filter fun x => decide (x.1 ≤ b)
theorem rngK_len {a b : Nat} {kv : KV} : (rngK a b kv).length ≤ kv.length := Nat.le_trans (List.length_filter_le _ _) (List.length_filter_le _ _)
theorem rngK_mem {a b : Nat} {kv : KV} : ∀ x ∈ rngK a b kv, x ∈ kv := fun _x hx => (List.mem_filter.1 (List.mem_filter.1 hx).1).1
theorem rngO_all {D : Dk} {t : Tre} {g : Gd} (ht : TOk g t) (hd : D.down = false) (hkv : t.kv.length ≤ 1000000) (a b : Nat) : rngO D t a b 1073741824 = rngK a b t.kv := by
  rw [rngO_up ht hd, rngL]
  exact List.take_of_length_le (by have := rngK_len (a := a) (b := b) (kv := t.kv); show (rngK a b t.kv).length ≤ 1073741824; omega)
theorem rngE_up {D : Dk} {t : Tre} (hd : D.down = false) (a b : Nat) (n : Int) : rngE D t a b n = 0 := by simp [rngE, hd]
attribute [local irreducible] cw sw J Exit.then Exit.inBlock Exit.noGoto bodyPost swG swL permL
theorem count_c (ps pd pl N a b : Nat) (S : St) (D : Dk) (t : Tre) (ht : TOk S.g t) (hS : S.wf) (ha : Agr S D) (hd : D.down = false) (hN : N ≤ 600000000) (hkv : t.kv.length ≤ 1000000) (hpd : S.pd = pd) (hpl : S.pl = pl) (Φ : Base) :
    Sl.Fn Tryz.prog Φ F.walk_Count [ptr t.p, w64 a, w64 b] [tree t.p ps t.rt, store ps S, disk pd D, hlog pl N] (fun _ : Unit => True) (fun _ => .tuple #[i64 (rngK a b t.kv).length, i64 0]) (fun _ => [tree t.p ps t.rt, store ps S, disk pd D, hlog pl (N + t.kv.length + 1)]) := by
  refine fo fun F => ?_
  repeat refine s1 ?_
  refine cx (trange_c ps pd pl N a b 1073741824 S D t ht hS ha hN hkv hpd hpl Φ) (fun x _ => ?_)
  rw [rngO_all ht hd hkv, rngE_up hd]
  obtain ⟨ra, rc⟩ := x
  dsimp only
  repeat refine s1 ?_
  exact f2 ()
set_option maxHeartbeats 1000000 in
theorem delRange_c (ps pd pl N a b : Nat) (S : St) (D : Dk) (A B : List Tre) (t : Tre) (h : TsOk S (A ++ t :: B)) (ha : Agr S D) (hd : D.down = false) (hN : N + 300 * t.kv.length ≤ 400000000) (hwt : D.waits.length + 70 * t.kv.length ≤ 500000000) (hkv : t.kv.length ≤ 400000) (hl : (A ++ t :: B).length ≤ 900000) (hpd : S.pd = pd) (hpl : S.pl = pl) (Φ : Base) (hT : Tab Φ) :
    Sl.Fn Tryz.prog Φ F.walk_DelRange [ptr t.p, w64 a, w64 b] [tree t.p ps t.rt, store ps S, disk pd D, hlog pl N] (WhQ (rngK a b t.kv).length S D A B t (delAll (rngK a b t.kv) t.kv)) (fun x => .tuple #[i64 (if x.1 = 0 then (rngK a b t.kv).length else 0), i64 x.1])
      (fun x => [tree t.p ps x.2.1, store ps x.2.2.1, disk pd x.2.2.2.1, hlog pl (N + 300 * t.kv.length + 300)]) := by
  have ht := h.each t (by simp)
  have hlow := (tre_low h (by omega)).1
  have hxl := rngK_len (a := a) (b := b) (kv := t.kv)
  have hxs : KVok (rngK a b t.kv) := fun x hx => ht.kvok x (rngK_mem x hx)
  refine fo fun F => ?_
  repeat refine s1 ?_
  refine cx (trange_c ps pd pl N a b 1073741824 S D t ht h.ok ha (by omega) (by omega) hpd hpl Φ) (fun x _ => ?_)
  rw [rngO_all ht hd (by omega), rngE_up hd]
  generalize rngK a b t.kv = xs at hxl hxs ⊢
  obtain ⟨ra, rc⟩ := x
  dsimp only
  refine jh [prow ra xs.length rc xs] (fz ?_)
  repeat refine s1 ?_
  refine al (cs := [.slice none 0 0]) (fun t8 => ?_)
  repeat refine s1 ?_
  refine so rfl rfl ?_
  repeat refine s2 ?_
  refine mkf (vs := [ptr t8]) rfl ?_
  refine cx (wwhole_c 94 ps pd pl (N + t.kv.length + 1) t8 ra rc xs S D A B t (delAll xs t.kv) h ha (by omega) (by omega) hl hpd hpl Φ (fun cp =>
    delall1_c ps pd pl (N + t.kv.length + 1 + 200) t8 ra rc xs (S.turn none t.rt) D [] (A ++ t :: B) ⟨cp, t.rt, t.kv⟩ hxs (h.clone (t := ⟨cp, t.rt, t.kv⟩) ht) ⟨ha.sec, ha.size, ha.left⟩ (by omega) (by omega) (by dsimp only; omega) (by simp only [List.nil_append, List.length_cons]; omega) hpd hpl Φ hT)) (fun x hx => ?_)
  refine jh [hlog pl (N + t.kv.length + 1 + 200 + 200 * xs.length)] (j_ent (hlogUp (N' := N + 300 * t.kv.length + 300) (by omega) _) ?_)
  repeat refine s1 ?_
  by_cases he : x.1 = 0
  · refine r_icmp rfl rfl rfl rfl ?_
    rw [show (!decide ((x.1 : Int) = 0)) = false by simp [he]]
    repeat refine s1 ?_
    exact f2 x (hq := hx) (hV := by rw [if_pos he, he]; rfl)
  · refine r_icmp rfl rfl rfl rfl ?_
    rw [show (!decide ((x.1 : Int) = 0)) = true by simp [he]]
    repeat refine s1 ?_
    exact f2 x (hq := hx) (hV := by rw [if_neg he]; rfl)
end Go.Proofs.YtcnpkmdooekmgaaGreatDoor
namespace Go.Proofs.YtcnpkmdooekmgaaGreatDoor
open Go Sl
def mvK (by_ : Nat) (x : Nat × List Nat) : Nat × List Nat := ((x.1 + by_) % 18446744073709551616, x.2)
theorem Ent.mkV2 {b n nc s : Nat} {E : TypeId} {pre xs post : List Value} (h1 : xs.length = n * s) (h2 : n ≤ nc) (h3 : post.length = (nc - n) * s) (L : List Assn) : Ent (pt b (.cells (pre ++ xs ++ post).toArray E (0, 0)) :: L) (vec (some ⟨b, pre.length, none⟩) n nc E s xs :: L) := by
  rintro im h ⟨p1, p2, pa, pb, pc, hp, st⟩
  exact ⟨p1, p2, pa, pb, pc, ⟨h1, h2, .inr ⟨b, pre.length, pre, post, rfl, rfl, h3, hp⟩⟩, st⟩
theorem mix_len {l : KV} (hl : ∀ x ∈ l, x.2.length = 44) : (l.flatMap pcell).length = l.length * 45 := by
  induction l with
  | nil => rfl
  | cons a l ih =>
    rw [List.flatMap_cons, List.length_append, ih (fun x hx => hl x (by simp [hx]))]
    have := hl a (by simp)
    simp only [List.length_cons, List.length_map, this]; omega
theorem addU64 (m n : Nat) : IntKind.u64.wrap ((m : Int) + (n : Int)) = (((m + n) % 18446744073709551616 : Nat) : Int) := by
  simp [IntKind.wrap, IntKind.signed, IntKind.bits]
theorem mv_set {pre post : List Value} {A B : KV} {k k' : Nat} {v : List Nat} {i : Nat} (hA : A.length = i) (hl : ∀ x ∈ A, x.2.length = 44) :
    (pre ++ (A ++ (k, v) :: B).flatMap pcell ++ post).set (pre.length + i * 45) (w64 k') = pre ++ (A ++ (k', v) :: B).flatMap pcell ++ post := by
  have hf : (A.flatMap pcell).length = i * 45 := by
    subst hA
    induction A with
    | nil => rfl
    | cons a A ih =>
      rw [List.flatMap_cons, List.length_append, ih (fun x hx => hl x (by simp [hx]))]
      have := hl a (by simp)
      simp only [List.length_cons, List.length_map, this]; omega
  rw [List.append_assoc, List.append_assoc, List.set_append_right _ _ (by omega), Nat.add_sub_cancel_left, List.flatMap_append, List.flatMap_append, List.append_assoc, List.append_assoc, List.set_append_right _ _ (by omega), hf, Nat.sub_self, List.flatMap_cons, List.flatMap_cons]
  rfl
theorem mv_at {pre post : List Value} {A B : KV} {k : Nat} {v : List Nat} {i : Nat} (hA : A.length = i) (hl : ∀ x ∈ A, x.2.length = 44) : (pre ++ (A ++ (k, v) :: B).flatMap pcell ++ post)[pre.length + i * 45]? = some (w64 k) := by
  have hs := mv_set (pre := pre) (post := post) (B := B) (k := k) (k' := k) (v := v) hA hl
  rw [← hs, List.getElem?_set_self]
  have hf : (A.flatMap pcell).length = i * 45 := by
    subst hA
    clear hs
    induction A with
    | nil => rfl
    | cons a A ih =>
      rw [List.flatMap_cons, List.length_append, ih (fun x hx => hl x (by simp [hx]))]
      have := hl a (by simp)
      simp only [List.length_cons, List.length_map, this]; omega
  simp only [List.length_append, List.flatMap_append, List.flatMap_cons, List.length_cons]
  omega
attribute [local irreducible] cw sw J Exit.then Exit.inBlock Exit.noGoto bodyPost swG swL permL
set_option maxHeartbeats 1000000 in
theorem move_c (ps pd pl N a b by_ : Nat) (S : St) (D : Dk) (A B : List Tre) (t : Tre) (_hby : by_ < 18446744073709551616) (hb0 : by_ ≠ 0) (h : TsOk S (A ++ t :: B)) (ha : Agr S D) (hd : D.down = false) (hN : N + 300 * t.kv.length ≤ 300000000) (hwt : D.waits.length + 70 * t.kv.length ≤ 500000000) (hkv : t.kv.length ≤ 400000) (hl : (A ++ t :: B).length ≤ 900000) (hpd : S.pd = pd) (hpl : S.pl = pl) (Φ : Base) (hT : Tab Φ) :
    Sl.Fn Tryz.prog Φ F.walk_Move [ptr t.p, w64 a, w64 b, w64 by_] [tree t.p ps t.rt, store ps S, disk pd D, hlog pl N] (WhQ (rngK a b t.kv).length S D A B t (insAll ((rngK a b t.kv).map (mvK by_)) t.kv)) (fun x => .tuple #[i64 (if x.1 = 0 then (rngK a b t.kv).length else 0), i64 x.1])
      (fun x => [tree t.p ps x.2.1, store ps x.2.2.1, disk pd x.2.2.2.1, hlog pl (N + 300 * t.kv.length + 700)]) := by
  have ht := h.each t (by simp)
  have hlow := (tre_low h (by omega)).1
  have hxl := rngK_len (a := a) (b := b) (kv := t.kv)
  have hxs : KVok (rngK a b t.kv) := fun x hx => ht.kvok x (rngK_mem x hx)
  refine fo fun F => ?_
  repeat refine s1 ?_
  refine cl (istree_c ps pd pl N S D t ht h.ok ha (by omega) (by omega) hpd hpl Φ) ?_
  repeat refine s1 ?_
  refine r_icmp rfl rfl rfl rfl ?_
  rw [decide_eq_false (show ¬ (by_ : Int) = 0 by omega)]
  repeat refine s1 ?_
  refine cx (trange_c ps pd pl (N + 200) a b 1073741824 S D t ht h.ok ha (by omega) (by omega) hpd hpl Φ) (fun x _ => ?_)
  rw [rngO_all ht hd (by omega), rngE_up hd]
  generalize rngK a b t.kv = xs at hxl hxs ⊢
  obtain ⟨ra, rc⟩ := x
  dsimp only
  have hx44 : ∀ x ∈ xs, x.2.length = 44 := fun x hx => (hxs x hx).2.1
  have hm44 : ∀ i, ∀ x ∈ (xs.take i).map (mvK by_), x.2.length = 44 := fun i x hx => by
    obtain ⟨y, hy, rfl⟩ := List.mem_map.1 hx
    exact hx44 y (List.mem_of_mem_take hy)
  have hmix : ∀ i, ∀ x ∈ (xs.take i).map (mvK by_) ++ xs.drop i, x.2.length = 44 := fun i x hx => by
    rcases List.mem_append.1 hx with hx | hx
    · exact hm44 i x hx
    · exact hx44 x (List.mem_of_mem_drop hx)
  have hmixl : ∀ i, i ≤ xs.length → ((xs.take i).map (mvK by_) ++ xs.drop i).length = xs.length := fun i hi => by simp; omega
  repeat refine s2 ?_
  refine t_loop (σ := Nat) (fun i => [(33, i64 i), (32, i64 xs.length), (31, .slice ra xs.length rc), (10, .slice ra xs.length rc), (0, ptr t.p), (3, w64 by_)])
    (fun i => prow ra xs.length rc ((xs.take i).map (mvK by_) ++ xs.drop i) :: tree t.p ps t.rt :: store ps S :: disk pd D :: hlog pl (N + 200 + t.kv.length + 1) :: F) (fun i => i ≤ xs.length) (fun i => xs.length - i) 0 (Nat.zero_le _) ⟨rfl, rfl, rfl, rfl, rfl, rfl, trivial⟩ (by rw [List.take_zero, List.map_nil, List.nil_append, List.drop_zero]; exact Le.ent) ?_
  intro i hi
  repeat refine s1 ?_
  refine r_icmp rfl rfl rfl rfl ?_
  repeat refine s1 ?_
  refine t_condS rfl (fun hlt => ?_) (fun hge => ?_)
  · have hil : i < xs.length := by omega
    obtain ⟨⟨k, v⟩, hxi⟩ : ∃ x, xs[i]? = some x := ⟨_, List.getElem?_eq_getElem hil⟩
    have hdr : xs.drop i = (k, v) :: xs.drop (i + 1) := by
      have := (List.getElem?_eq_some_iff.1 hxi).2
      rw [List.drop_eq_getElem_cons hil, this]
    have htk : (xs.take (i + 1)).map (mvK by_) ++ xs.drop (i + 1) = (xs.take i).map (mvK by_) ++ ((k + by_) % 18446744073709551616, v) :: xs.drop (i + 1) := by
      rw [List.take_add_one, hxi]; simp [mvK]
    have hAl : ((xs.take i).map (mvK by_)).length = i := by simp; omega
    have hl1 := mix_len (hmix (i + 1))
    rw [hmixl (i + 1) hil, htk] at hl1
    rw [hdr]
    refine jh [prow ra xs.length rc ((xs.take i).map (mvK by_) ++ (k, v) :: xs.drop (i + 1))] (j_ent (Ent.openV (by omega) _) (j_open fun q hq => ?_))
    obtain ⟨qb, pre, post⟩ := q
    obtain ⟨e1, e2, e3, e4⟩ := hq
    dsimp only [List.cons_append, List.nil_append] at e1 e2 e3 e4 ⊢
    subst e1
    repeat refine s1 ?_
    refine ix rfl rfl hil ?_
    repeat refine s1 ?_
    refine ld (v := w64 k) rfl (mv_at hAl (hm44 i)) ?_
    repeat refine s1 ?_
    refine r_iop (v := w64 ((k + by_) % 18446744073709551616)) rfl rfl (by show some (Value.int .u64 (IntKind.u64.wrap ((k : Int) + (by_ : Int)))) = _; rw [addU64]) rfl ?_
    repeat refine s1 ?_
    refine ix rfl rfl hil ?_
    repeat refine s1 ?_
    refine so (hl := ⟨mv_set hAl (hm44 i)⟩) rfl rfl ?_ (ho := by have := (List.getElem?_eq_some_iff.1 (mv_at (pre := pre) (post := post) (B := xs.drop (i + 1)) (k := k) (v := v) hAl (hm44 i))).1; exact this)
    repeat refine s1 ?_
    refine js [pt qb (.cells (pre ++ ((xs.take i).map (mvK by_) ++ ((k + by_) % 18446744073709551616, v) :: xs.drop (i + 1)).flatMap pcell ++ post).toArray T.mtree_Pair (0, 0))] (fun L => Ent.mkV2 hl1 e4 e2 L) ?_
    refine j_again (i + 1) hil (by omega) ⟨rfl, rfl, rfl, rfl, rfl, rfl, trivial⟩ (by rw [htk]; exact Le.ent)
  · have hil : i = xs.length := by omega
    subst hil
    rw [List.take_length, List.drop_length, List.append_nil]
    have hml : xs.length = (xs.map (mvK by_)).length := by simp
    refine jh [prow ra xs.length rc (xs.map (mvK by_))] (fz ?_)
    repeat refine s1 ?_
    rw [hml]
    refine cx (putAll_c ps pd pl (N + 200 + t.kv.length + 1) ra rc (xs.map (mvK by_)) S D A B t (fun x hx => ?_) h ha (by simp; omega) (by simp; omega) (by simp; omega) hl hpd hpl Φ hT) (fun x hx => ?_)
    · obtain ⟨y, hy, rfl⟩ := List.mem_map.1 hx
      exact ⟨Nat.mod_lt _ (by decide), (hxs y hy).2⟩
    rw [← hml] at hx ⊢
    refine jh [hlog pl (N + 200 + t.kv.length + 1 + 200 + 200 * xs.length)] (j_ent (hlogUp (N' := N + 300 * t.kv.length + 700) (by omega) _) ?_)
    repeat refine s1 ?_
    by_cases he : x.1 = 0
    · refine r_icmp rfl rfl rfl rfl ?_
      rw [show (!decide ((x.1 : Int) = 0)) = false by simp [he]]
      repeat refine s1 ?_
      exact f2 x (hq := hx) (hV := by rw [if_pos he, he]; rfl)
    · refine r_icmp rfl rfl rfl rfl ?_
      rw [show (!decide ((x.1 : Int) = 0)) = true by simp [he]]
      repeat refine s1 ?_
      exact f2 x (hq := hx) (hV := by rw [if_neg he]; rfl)
end Go.Proofs.YtcnpkmdooekmgaaGreatDoor
namespace Go.Proofs.YtcnpkmdooekmgaaGreatDoor
open Go Sl
structure Lo where
  (deep nodes leaves pairs : Nat)
  seen : Bool
  key : Nat
abbrev kcells (ps : Nat) (o : Lo) : List Value := [ptr ps, i64 o.deep, i64 o.nodes, i64 o.leaves, i64 o.pairs, .bool o.seen, w64 o.key, i64 0]
/-- a looker that has found nothing wrong. -/
abbrev lkr (p ps : Nat) (o : Lo) : Assn := pt p (.cells (kcells ps o).toArray T.walk_looker (0, 0))
/-- the last key of some pairs. -/
def lastk (kv : KV) : Nat := (kv.getLast?.map Prod.fst).getD 0
theorem lastk_at {kv : KV} (h : 0 < kv.length) : kv[kv.length - 1]?.map Prod.fst = some (lastk kv) := by
  unfold lastk
  rw [List.getLast?_eq_getElem?]
  rw [List.getElem?_eq_getElem (by omega)]
  rfl
theorem lastk_mem {kv : KV} (h : kv ≠ []) : ∃ x ∈ kv, x.1 = lastk kv := by
  refine ⟨kv.getLast h, List.getLast_mem h, ?_⟩
  rw [lastk, List.getLast?_eq_some_getLast h]; rfl
theorem lastk_app {a b : KV} (h : b ≠ []) : lastk (a ++ b) = lastk b := by
  obtain ⟨x, hx⟩ : ∃ x, b.getLast? = some x := ⟨_, List.getLast?_eq_some_getLast h⟩
  rw [lastk, lastk, List.getLast?_append, hx]; rfl
attribute [local irreducible] cw sw J Exit.then Exit.inBlock Exit.noGoto bodyPost swG swL permL
set_option maxHeartbeats 1000000 in
theorem lkleaf_c (p ps d : Nat) (o : Lo) (kv : KV) (y : NR) (hne : kv ≠ []) (h9 : kv.length ≤ 9) (hd : o.deep = 0 ∨ o.deep = d) (hk : o.seen = true → ∀ x ∈ kv, o.key < x.1) (hb : o.leaves ≤ 1000000 ∧ o.pairs ≤ 10000000) (Φ : Base) :
    Sl.Fn Tryz.prog Φ F.walk_looker_leaf [ptr p, nV (leafN kv) y, i64 d] [lkr p ps o, node (leafN kv) y] (fun _ : Unit => True) (fun _ => .tuple #[]) (fun _ => [lkr p ps ⟨d, o.nodes, o.leaves + 1, o.pairs + kv.length, true, lastk kv⟩]) := by
  obtain ⟨deep, nodes, leaves, pairs, seen, key⟩ := o
  dsimp only at hd hk hb
  have hpos : 0 < kv.length := List.length_pos_iff.2 hne
  have hkl : (leafN kv).keys.length = kv.length := by simp [leafN]
  have hlast : ((leafN kv).keys.map w64)[kv.length - 1]? = some (w64 (lastk kv)) := by
    have := lastk_at hpos
    simp only [leafN, List.map_map, List.getElem?_map]
    rw [List.getElem?_eq_getElem (by omega)] at this ⊢
    simp only [Option.map_some, Option.some.injEq] at this ⊢
    rw [← this]; rfl
  obtain ⟨k0, hk0, hk0m⟩ : ∃ k0, ((leafN kv).keys.map w64)[0]? = some (w64 k0) ∧ ∃ x ∈ kv, x.1 = k0 := by
    cases kv with
    | nil => exact absurd rfl hne
    | cons a l => exact ⟨a.1, rfl, a, by simp, rfl⟩
  refine fo fun F => ?_
  repeat refine s1 ?_
  refine r_box (cs := nbx (leafN kv) y) rfl rfl rfl rfl (fun t4 => ?_)
  refine jh [node (leafN kv) y] (j_ent (Ent.unnode _) ?_)
  obtain ⟨ka, kc, va, vc, ra, rc⟩ := y
  refine jh [keysA (leafN kv) ⟨ka, kc, va, vc, ra, rc⟩] (j_leni (fun _ _ hka => ?_))
  obtain ⟨kb, ko, rfl⟩ := hka (by rw [hkl]; exact hpos)
  repeat refine s1 ?_
  dsimp only
  refine r_icmp rfl rfl rfl rfl ?_
  repeat refine s1 ?_
  refine t_meet (σ := Unit) (fun _ => [(4, ptr t4), (0, ptr p), (2, i64 d)]) (fun _ => keysA (leafN kv) ⟨some ⟨kb, ko, none⟩, kc, va, vc, ra, rc⟩ :: lkr p ps ⟨d, nodes, leaves, pairs, seen, key⟩ :: pt t4 (.cells (nbx (leafN kv) ⟨some ⟨kb, ko, none⟩, kc, va, vc, ra, rc⟩).toArray T.node_Node (0, 0)) :: F) (fun _ => True) ?_ (fun _ _ => ?_)
  · refine t_condSB rfl (fun hq => ?_) (fun hq => ?_)
    · repeat refine s1 ?_
      refine so (cs' := kcells ps ⟨d, nodes, leaves, pairs, seen, key⟩) (hl := ⟨rfl⟩) rfl rfl ?_
      repeat refine s1 ?_
      exact j_meet () trivial ⟨rfl, rfl, rfl, trivial⟩ (by first | exact Le.ent | (dsimp only; exact Le.ent) | (dsimp only [List.cons_append, List.nil_append]; exact Le.ent) | (dsimp only [List.cons_append, List.nil_append]; simp only [List.take_zero, List.map_nil, List.flatMap_nil, List.length_nil]; exact Le.ent))
    · obtain rfl : deep = d := by have := of_decide_eq_false hq; rcases hd with h | h <;> omega
      repeat refine s1 ?_
      exact j_meet () trivial ⟨rfl, rfl, rfl, trivial⟩ (by first | exact Le.ent | (dsimp only; exact Le.ent) | (dsimp only [List.cons_append, List.nil_append]; exact Le.ent) | (dsimp only [List.cons_append, List.nil_append]; simp only [List.take_zero, List.map_nil, List.flatMap_nil, List.length_nil]; exact Le.ent))
  · rcases seen with _ | _
    all_goals
      repeat refine s2 ?_
      dsimp only
      refine r_icmp rfl rfl rfl rfl ?_
      rw [show (!decide ((d : Int) = (d : Int))) = false by simp]
      repeat refine s2 ?_
    case' refine_2.true =>
      refine ix (i := 0) rfl rfl (by rw [hkl]; exact hpos) ?_
      repeat refine s2 ?_
      refine r_loadI (off := ko) (n := (leafN kv).keys.length) (cap := kc) (E := T.uint64) (s := 1) (xs := (leafN kv).keys.map w64) (v := w64 k0) rfl (j := 0) (by omega) hk0 rfl rfl ?_
      repeat refine s2 ?_
      dsimp only
      refine r_icmp rfl rfl rfl rfl ?_
      have hlt0 : key < k0 := by
        obtain ⟨x, hx, rfl⟩ := hk0m
        exact hk rfl x hx
      rw [decide_eq_false (show ¬ (k0 : Int) ≤ (key : Int) by omega)]
      repeat refine s2 ?_
    all_goals
      rw [hkl]
      dsimp only
      refine r_subN (m := kv.length) (n := 1) rfl rfl (by omega) (by omega) rfl ?_
      repeat refine s1 ?_
      refine ix rfl rfl (by omega) ?_
      repeat refine s1 ?_
      refine r_loadI (off := ko) (n := (leafN kv).keys.length) (cap := kc) (E := T.uint64) (s := 1) (xs := (leafN kv).keys.map w64) (v := w64 (lastk kv)) rfl (j := kv.length - 1) (by omega) hlast rfl rfl ?_
      repeat refine s1 ?_
      refine so (cs' := kcells ps ⟨d, nodes, leaves, pairs, true, key⟩) (hl := ⟨rfl⟩) rfl rfl ?_
      repeat refine s1 ?_
      refine so (cs' := kcells ps ⟨d, nodes, leaves, pairs, true, lastk kv⟩) (hl := ⟨rfl⟩) rfl rfl ?_
      repeat refine s1 ?_
      dsimp only
      refine r_addN (m := leaves) (n := 1) rfl rfl (by omega) rfl ?_
      repeat refine s1 ?_
      refine so (cs' := kcells ps ⟨d, nodes, leaves + 1, pairs, true, lastk kv⟩) (hl := ⟨rfl⟩) rfl rfl ?_
      repeat refine s1 ?_
      rw [hkl]
      dsimp only
      refine r_addN (m := pairs) (n := kv.length) rfl rfl (by omega) rfl ?_
      repeat refine s1 ?_
      refine so (cs' := kcells ps ⟨d, nodes, leaves + 1, pairs + kv.length, true, lastk kv⟩) (hl := ⟨rfl⟩) rfl rfl ?_
      repeat refine s1 ?_
      first | exact f0 () | exact f0' ()
end Go.Proofs.YtcnpkmdooekmgaaGreatDoor
namespace Go.Proofs.YtcnpkmdooekmgaaGreatDoor
open Go Sl
theorem fst_app {a b : KV} {k : Nat} (h : fst? a = some k) : fst? (a ++ b) = some k := by
  cases a with
  | nil => cases h
  | cons x l => exact h
attribute [local irreducible] cw sw J Exit.then Exit.inBlock Exit.noGoto bodyPost swG swL permL
set_option maxHeartbeats 1000000 in
theorem lkleast_c (p ps N : Nat) (S : St) (D : Dk) (o : Lo) (H : Nat) (r0 : Rf) (lo : Nat) (kv : KV) (U : List Nat) (hsh : Sh S.g lo H r0 kv U) (k0 : Nat) (hk0 : fst? kv = some k0) (hS : S.wf) (ha : Agr S D) (hd : D.down = false) (hN : N + H ≤ 800000000) (Φ : Base) :
    Sl.Fn Tryz.prog Φ F.walk_looker_least [ptr p, .agg (rcells r0).toArray] [lkr p ps o, store ps S, disk S.pd D, hlog S.pl N] (fun _ : Unit => True) (fun _ => w64 k0) (fun _ => [lkr p ps o, store ps S, disk S.pd D, hlog S.pl (N + H + 1)]) := by
  have hrw : r0.wt := hsh.1
  refine fo fun F => ?_
  repeat refine s1 ?_
  refine r_box (cs := rcells r0) rfl rfl rfl rfl (fun t3 => ?_)
  repeat refine s1 ?_
  refine t_loop (σ := Nat × Rf) (fun _ => [(3, ptr t3), (0, ptr p)])
    (fun z => lkr p ps o :: pt t3 (.cells (rcells z.2).toArray T.api_Ref (0, 0)) :: store ps S :: disk S.pd D :: hlog S.pl (N + (H - z.1)) :: F)
    (fun z => z.1 ≤ H ∧ ∃ lo kv' U, Sh S.g lo z.1 z.2 kv' U ∧ fst? kv' = some k0) (fun z => z.1) (H, r0) ⟨Nat.le_refl _, lo, kv, U, hsh, hk0⟩ ⟨rfl, rfl, trivial⟩ (by dsimp only; rw [Nat.sub_self, Nat.add_zero]; exact Le.ent) ?_
  clear hrw
  rintro ⟨h, r⟩ ⟨hle, lo, kv, U, hsh, hk0⟩
  dsimp only at hle hsh hk0 ⊢
  obtain ⟨hr, m, V, hn, hmr, hlo, hsec, hsum, hK, rfl⟩ := hsh
  have hmw := nsh_wt hn
  have hdn : dnN D m = m := by unfold dnN; simp [hd]
  have hde : dnE D = 0 := by unfold dnE; simp [hd]
  have hld := tload_c ps (N + (H - h)) S D r m hr hS (by rw [show S.K r.sec = S.g.K r.sec from rfl, hK]; simp) hmr hmw hsec hsum ha (by omega) Φ
  rw [hdn, hde] at hld
  repeat refine s1 ?_
  refine t_meet (σ := NR × Nat) (fun z => [(5, ptr z.2), (6, i64 0), (3, ptr t3), (0, ptr p)])
    (fun z => pt z.2 (.cells (nbx m z.1).toArray T.node_Node (0, 0)) :: node m z.1 :: lkr p ps o :: pt t3 (.cells (rcells r).toArray T.api_Ref (0, 0)) :: store ps S :: disk S.pd D :: hlog S.pl (N + (H - h) + 1) :: F) (fun _ => True) ?_ ?_
  · refine t_draw2 [lkr p ps o, pt t3 (.cells (rcells r).toArray T.api_Ref (0, 0))] [3, 4] 5 9 [9, 0, 1, 2, 3, 4, 5, 6, 7, 8, 10, 11] mixed (by decide +kernel) ?_ ?_
    · repeat refine s1 ?_
      refine s_loadW (vs := rcells r) rfl (by simp [hr.sum.1]) rfl rfl ?_
      repeat refine s1 ?_
      refine cx hld (fun y _ => ?_)
      repeat refine s1 ?_
      refine al (cs := nbx nd0 nr0) (fun t5 => ?_)
      repeat refine s1 ?_
      refine r_storeW (vs := nbx m y) rfl rfl (by rfl) (by rfl) (by simp [Value.oneCell']) rfl ?_
      repeat refine s1 ?_
      exact j_meet (y, t5) trivial ⟨rfl, rfl, rfl, rfl, trivial⟩ (by first | exact Le.ent | (dsimp only; exact Le.ent) | (dsimp only [List.cons_append, List.nil_append]; exact Le.ent) | (dsimp only [List.cons_append, List.nil_append]; simp only [List.take_zero, List.map_nil, List.flatMap_nil, List.length_nil]; exact Le.ent))
    · repeat refine s1 ?_
      refine al (cs := nbx nd0 nr0) (fun t5 => ?_)
      repeat refine s1 ?_
      refine s_loadW (vs := rcells r) rfl (by simp [hr.sum.1]) rfl rfl ?_
      repeat refine s1 ?_
      refine cx hld (fun y _ => ?_)
      repeat refine s1 ?_
      refine r_storeW (vs := nbx m y) rfl rfl (by rfl) (by rfl) (by simp [Value.oneCell']) rfl ?_
      repeat refine s1 ?_
      exact j_meet (y, t5) trivial ⟨rfl, rfl, rfl, rfl, trivial⟩ (by first | exact Le.ent | (dsimp only; exact Le.ent) | (dsimp only [List.cons_append, List.nil_append]; exact Le.ent) | (dsimp only [List.cons_append, List.nil_append]; simp only [List.take_zero, List.map_nil, List.flatMap_nil, List.length_nil]; exact Le.ent))
  rintro ⟨y, t5⟩ _
  dsimp only
  repeat refine s2 ?_
  refine jh [node m y] (j_ent (Ent.unnode _) ?_)
  cases h with
  | zero =>
    obtain ⟨rfl, rfl, hok⟩ := hn
    have hpos : 0 < kv.length := by cases kv with
      | nil => cases hk0
      | cons a l => simp
    have hkl : (leafN kv).keys.length = kv.length := by simp [leafN]
    refine jh [keysA (leafN kv) y] (j_leni (fun _ _ hka => ?_))
    obtain ⟨kb, ko, hkb⟩ := hka (by omega)
    obtain ⟨mka, mkc, mva, mvc, mra, mrc⟩ := y
    dsimp only at hkb
    subst hkb
    rw [show (leafN kv).leaf = true from rfl]
    repeat refine s1 ?_
    refine ix (i := 0) rfl rfl (by omega) ?_
    repeat refine s1 ?_
    refine r_loadI (off := ko) (n := (leafN kv).keys.length) (cap := mkc) (E := T.uint64) (s := 1) (xs := (leafN kv).keys.map w64) (v := w64 k0) rfl (j := 0) (by omega) (by
      cases kv with
      | nil => cases hk0
      | cons a l => simp only [fst?, List.head?_cons, Option.map_some, Option.some.injEq] at hk0; rw [← hk0]; rfl) rfl rfl ?_
    repeat refine s1 ?_
    refine jh [hlog S.pl (N + (H - 0) + 1)] ?_
    rw [show N + (H - 0) + 1 = N + H + 1 by omega]
    exact f1 ()
  | succ h =>
    have hlf : m.leaf = false := nsh_leaf hn
    obtain ⟨cs, hmi, hkv', hV, hcs⟩ := nsh_succ.1 hn
    have hrl : m.kids.length = cs.length := by rw [hmi]; simp [inner]
    have hpos : 2 ≤ cs.length := by have := (hmr.inner hlf).1; have : m.keys.length = cs.length := (by rw [hmi]; simp [inner]); omega
    obtain ⟨c, cs', rfl⟩ : ∃ c cs', cs = c :: cs' := by cases cs with
      | nil => simp at hpos
      | cons c cs' => exact ⟨c, cs', rfl⟩
    have hcc := hcs c (by simp)
    have hkid2 : m.kids[0]'(by omega) = c.rf := by simp [hmi, inner]
    have hfc : fst? c.kv = some k0 := by
      have := fst_app (b := cs'.flatMap (·.kv)) hcc.1
      rw [hkv', List.flatMap_cons, this] at hk0
      rw [hcc.1]; exact hk0
    rw [hlf]
    refine jh [kidsA m y] (j_leni (fun _ _ hka => ?_))
    obtain ⟨kb, ko, hkb⟩ := hka (by omega)
    obtain ⟨mka, mkc, mva, mvc, mra, mrc⟩ := y
    dsimp only at hkb
    subst hkb
    repeat refine s1 ?_
    refine ix (i := 0) rfl rfl (by omega) ?_
    refine r_loadIA (off := ko) (n := m.kids.length) (cap := mrc) (E := T.api_Ref) (s := 33) (xs := m.kids.flatMap rcells) (vs := rcells c.rf) rfl (j := 0) (by omega) (by simp [hcc.2.1.sum.1]) (by
      have := kid_at hmw (show 0 < m.kids.length by omega)
      rw [hkid2] at this; simpa using this) rfl rfl ?_
    refine r_storeW (vs := rcells c.rf) rfl rfl (by simp [hcc.2.1.sum.1]) (by simp [hr.sum.1]) (by simp [Value.oneCell']) rfl ?_
    repeat refine s1 ?_
    exact j_again (h, c.rf) ⟨by omega, 4, c.kv, c.U, hcc.2, hfc⟩ (Nat.lt_succ_self h) ⟨rfl, rfl, trivial⟩ (by
      dsimp only
      rw [show N + (H - (h + 1)) + 1 = N + (H - h) by omega]
      exact Le.ent)
end Go.Proofs.YtcnpkmdooekmgaaGreatDoor
namespace Go.Proofs.YtcnpkmdooekmgaaGreatDoor
open Go Sl
/-- how many leaves a tree has. -/
structure LvQ (lo : Nat) (kv : KV) (U : List Nat) (L : Nat) : Prop where
  le : L ≤ U.length
  most : kv.length ≤ 9 * L
  one : L = 1 ∨ 4 * L ≤ kv.length
  four : 4 ≤ lo → 4 * L ≤ kv.length
/-- a looker that has seen some of a node's kids. -/
structure LkI (o0 o : Lo) (dp : Nat) (cs : List Ch) (i L : Nat) : Prop where
  dpt : o.deep = 0 ∨ o.deep = dp
  fs : i = 0 → o = { o0 with nodes := o0.nodes + 1 }
  th : 0 < i → o.deep = dp ∧ o.seen = true ∧ o.key = lastk ((cs.take i).flatMap (·.kv))
  nd : o.nodes = o0.nodes + 1 + ((cs.take i).flatMap (·.U)).length
  lv : o.leaves = o0.leaves + L
  pr : o.pairs = o0.pairs + ((cs.take i).flatMap (·.kv)).length
  le : L ≤ ((cs.take i).flatMap (·.U)).length
  most : ((cs.take i).flatMap (·.kv)).length ≤ 9 * L
  four : 4 * L ≤ ((cs.take i).flatMap (·.kv)).length
theorem take_snoc {α β : Type} (f : α → List β) {cs : List α} {i : Nat} (h : i < cs.length) : (cs.take (i + 1)).flatMap f = (cs.take i).flatMap f ++ f cs[i] := by
  rw [List.take_add_one, List.getElem?_eq_getElem h, List.flatMap_append, Option.toList_some, List.flatMap_cons, List.flatMap_nil, List.append_nil]
theorem take_le {α β : Type} (f : α → List β) (cs : List α) (i : Nat) : ((cs.take i).flatMap f).length ≤ (cs.flatMap f).length := by
  have := congrArg (fun l : List α => (l.flatMap f).length) (List.take_append_drop i cs)
  simp only [List.flatMap_append, List.length_append] at this
  omega
/-- light steps, up to a region. -/
theorem s4 {G R : Prop} (k : R) (h : R → G := by intro k; (first | refine r_nil ?_ | (refine k_move ?_; refine r_move rfl rfl ?_) | (refine k_assign ?_; refine r_assign rfl rfl ?_) | (refine k_nck ?_; first | refine r_nck rfl rfl ?_ | refine r_nckf rfl rfl ?_) | (refine k_fld ?_; first | refine r_fld0 rfl rfl ?_ | refine r_fld rfl rfl ?_) | (refine k_load ?_; first | refine r_load1L rfl rfl rfl ?_ | refine s_load1L rfl rfl rfl ?_ | refine r_load1 rfl rfl rfl rfl ?_ | refine r_loadW rfl rfl rfl rfl ?_ | refine s_loadW rfl rfl rfl rfl ?_) | (refine k_ext ?_; first | refine r_extL rfl rfl ?_ | refine r_ext rfl rfl rfl ?_) | (refine k_len ?_; refine r_lenS rfl rfl ?_) | (refine k_ixA ?_; refine ixA rfl rfl rfl rfl ?_) | (refine k_un ?_; first | refine r_notT rfl (by with_reducible rfl) rfl ?_ | refine r_notF rfl (by with_reducible rfl) rfl ?_ | refine r_not rfl rfl ?_) | (refine k_sl0 ?_; refine r_sliceA rfl (by decide) rfl ?_) | (refine k_conv ?_; refine r_conv rfl rfl ?_) | (refine k_pick ?_; first | refine r_pickT rfl (by with_reducible rfl) rfl rfl ?_ | refine r_pickF rfl (by with_reducible rfl) rfl rfl ?_) | (refine k_inc ?_; refine r_inc rfl (by clear k; omega) rfl ?_) | (refine k_eql ?_; first | refine r_peqS rfl rfl rfl ?_ | refine r_peqN rfl rfl rfl ?_ | refine r_meqS rfl rfl rfl ?_ | refine r_meqN rfl rfl rfl ?_ | refine r_peq rfl rfl rfl ?_) | (refine k_neq ?_; first | refine r_pneS rfl rfl rfl ?_ | refine r_pneN rfl rfl rfl ?_ | refine r_mneS rfl rfl rfl ?_ | refine r_mneN rfl rfl rfl ?_ | refine r_pne rfl rfl rfl ?_) | (refine g_mark ?_; first | refine gg_pass rfl rfl (by with_reducible rfl) ?_ | refine gg_skipT rfl rfl (by with_reducible rfl) (blt_any rfl) ?_ | refine gg_skipF rfl rfl (by with_reducible rfl) (blt_any rfl) ?_ | refine gg_skipU rfl rfl (by with_reducible rfl) (blt_any rfl) ?_) | refine t_seq ?_ | refine t_perm rfl ?_ | refine t_permE ?_ | refine j_then ?_ | (refine k_cond ?_; first | refine t_condT rfl (by with_reducible rfl) ?_ | refine t_condF rfl (by with_reducible rfl) ?_) | refine t_block ?_ | refine j_in ?_ | refine t_skip ?_ | refine t_ret ?_ | refine j_then_ret ?_ | refine j_in_ret ?_ | refine t_exit ?_ | refine j_then_exit ?_ | refine j_in_exit ?_ | refine j_in_other rfl ?_ | refine t_scope ?_ | refine t_label ?_ | refine j_ng ?_ | refine j_ng_ret ?_ | refine j_ng_exit ?_); exact k) : G := h k
attribute [local irreducible] cw sw J Exit.then Exit.inBlock Exit.noGoto bodyPost swG swL permL
set_option maxHeartbeats 2000000 in
theorem lklook_c (p ps : Nat) (S : St) (D : Dk) (hS : S.wf) (ha : Agr S D) (hd : D.down = false) (Φ : Base) : ∀ (h : Nat) (r : Rf) (lo : Nat) (kv : KV) (U : List Nat) (d : Nat) (o : Lo) (N : Nat), Sh S.g lo h r kv U → Srt kv → h ≤ 11 → (1 < d → 4 ≤ lo) → 1 ≤ d → d + h ≤ 1000 → (o.deep = 0 ∨ o.deep = d + h) → (o.seen = true → ∀ x ∈ kv, o.key < x.1) →
    o.nodes + U.length ≤ 1000000 → o.leaves + U.length ≤ 1000000 → o.pairs + kv.length ≤ 10000000 → N + 13 * U.length ≤ 700000000 →
    Sl.Fn Tryz.prog Φ F.walk_looker_look [ptr p, .agg (rcells r).toArray, i64 d] [lkr p ps o, store ps S, disk S.pd D, hlog S.pl N] (LvQ lo kv U) (fun _ => .tuple #[])
      (fun L => [lkr p ps ⟨d + h, o.nodes + U.length, o.leaves + L, o.pairs + kv.length, true, lastk kv⟩, store ps S, disk S.pd D, hlog S.pl (N + 13 * (U.length - 1) + 1)]) := by
  intro h
  induction h with
  | zero =>
    intro r lo kv U d o N hsh hs hh hlo1 hd1 hdh hdeep hseen b1 b2 b3 hN
    obtain ⟨deep, nodes, leaves, pairs, seen, key⟩ := o
    dsimp only at hdeep hseen b1 b2 b3 ⊢
    obtain ⟨hr, m, V, hn, hmr, hlo, hsec, hsum, hK, rfl⟩ := hsh
    have hmw := nsh_wt hn
    have hdn : dnN D m = m := by unfold dnN; simp [hd]
    have hde : dnE D = 0 := by unfold dnE; simp [hd]
    have hld := tload_c ps N S D r m hr hS (by rw [show S.K r.sec = S.g.K r.sec from rfl, hK]; simp) hmr hmw hsec hsum ha (by omega) Φ
    rw [hdn, hde] at hld
    refine fo fun F => ?_
    repeat refine s1 ?_
    refine r_box (cs := rcells r) rfl rfl rfl rfl (fun t4 => ?_)
    repeat refine s2 ?_
    refine t_meet (σ := NR × Nat) (fun z => [(6, ptr z.2), (7, i64 0), (4, ptr t4), (0, ptr p), (2, i64 d)])
      (fun z => pt z.2 (.cells (nbx m z.1).toArray T.node_Node (0, 0)) :: node m z.1 :: lkr p ps ⟨deep, nodes, leaves, pairs, seen, key⟩ :: pt t4 (.cells (rcells r).toArray T.api_Ref (0, 0)) :: store ps S :: disk S.pd D :: hlog S.pl (N + 1) :: F) (fun _ => True) ?_ ?_
    · refine t_draw2 [lkr p ps ⟨deep, nodes, leaves, pairs, seen, key⟩, pt t4 (.cells (rcells r).toArray T.api_Ref (0, 0))] [3, 4] 5 9 [9, 0, 1, 2, 3, 4, 5, 6, 7, 8, 10, 11] mixed (by decide +kernel) ?_ ?_
      · repeat refine s1 ?_
        refine s_loadW (vs := rcells r) rfl (by simp [hr.sum.1]) rfl rfl ?_
        repeat refine s1 ?_
        refine cx hld (fun y _ => ?_)
        repeat refine s1 ?_
        refine al (cs := nbx nd0 nr0) (fun t5 => ?_)
        repeat refine s1 ?_
        refine r_storeW (vs := nbx m y) rfl rfl (by rfl) (by rfl) (by simp [Value.oneCell']) rfl ?_
        repeat refine s1 ?_
        exact j_meet (y, t5) trivial ⟨rfl, rfl, rfl, rfl, rfl, trivial⟩ (by first | exact Le.ent | (dsimp only; exact Le.ent) | (dsimp only [List.cons_append, List.nil_append]; exact Le.ent) | (dsimp only [List.cons_append, List.nil_append]; simp only [List.take_zero, List.map_nil, List.flatMap_nil, List.length_nil]; exact Le.ent))
      · repeat refine s1 ?_
        refine al (cs := nbx nd0 nr0) (fun t5 => ?_)
        repeat refine s1 ?_
        refine s_loadW (vs := rcells r) rfl (by simp [hr.sum.1]) rfl rfl ?_
        repeat refine s1 ?_
        refine cx hld (fun y _ => ?_)
        repeat refine s1 ?_
        refine r_storeW (vs := nbx m y) rfl rfl (by rfl) (by rfl) (by simp [Value.oneCell']) rfl ?_
        repeat refine s1 ?_
        exact j_meet (y, t5) trivial ⟨rfl, rfl, rfl, rfl, rfl, trivial⟩ (by first | exact Le.ent | (dsimp only; exact Le.ent) | (dsimp only [List.cons_append, List.nil_append]; exact Le.ent) | (dsimp only [List.cons_append, List.nil_append]; simp only [List.take_zero, List.map_nil, List.flatMap_nil, List.length_nil]; exact Le.ent))
    rintro ⟨y, t6⟩ _
    dsimp only
    repeat refine s2 ?_
    dsimp only
    refine r_addN (m := nodes) (n := 1) rfl rfl (by omega) rfl ?_
    repeat refine s1 ?_
    refine jh [node m y] (j_ent (Ent.unnode _) ?_)
    refine so (cs' := kcells ps ⟨deep, nodes + 1, leaves, pairs, seen, key⟩) (hl := ⟨rfl⟩) rfl rfl ?_
    repeat refine s4 ?_
    refine t_meet (σ := Unit) (fun _ => [(45, .bool false), (6, ptr t6), (4, ptr t4), (0, ptr p), (2, i64 d)])
      (fun _ => pt t6 (.cells (nbx m y).toArray T.node_Node (0, 0)) :: keysA m y :: kidsA m y :: node m y :: lkr p ps ⟨deep, nodes + 1, leaves, pairs, seen, key⟩ :: store ps S :: disk S.pd D :: hlog S.pl (N + 1) :: F) (fun _ => True) ?_ (fun _ _ => ?_)
    · repeat refine s1 ?_
      refine r_icmp rfl rfl rfl rfl ?_
      by_cases hd2 : 1 < d
      · have hl4 := hlo1 hd2
        rw [decide_eq_true (show (d : Int) > 1 by omega)]
        repeat refine s1 ?_
        refine r_icmp rfl rfl rfl rfl ?_
        rw [decide_eq_false (show ¬ (m.keys.length : Int) < 4 by omega)]
        repeat refine s1 ?_
        exact j_meet () trivial ⟨rfl, rfl, rfl, rfl, rfl, trivial⟩ (by first | exact Le.ent | (dsimp only; exact Le.ent) | (dsimp only [List.cons_append, List.nil_append]; exact Le.ent) | (dsimp only [List.cons_append, List.nil_append]; simp only [List.take_zero, List.map_nil, List.flatMap_nil, List.length_nil]; exact Le.ent))
      · rw [decide_eq_false (show ¬ (d : Int) > 1 by omega)]
        repeat refine s1 ?_
        exact j_meet () trivial ⟨rfl, rfl, rfl, rfl, rfl, trivial⟩ (by first | exact Le.ent | (dsimp only; exact Le.ent) | (dsimp only [List.cons_append, List.nil_append]; exact Le.ent) | (dsimp only [List.cons_append, List.nil_append]; simp only [List.take_zero, List.map_nil, List.flatMap_nil, List.length_nil]; exact Le.ent))
    dsimp only
    repeat refine s1 ?_
    obtain ⟨rfl, rfl, hok⟩ := hn
    have hkl : (leafN kv).keys.length = kv.length := by simp [leafN]
    have h19 := hmr.leaf rfl
    have hne : kv ≠ [] := fun h0 => by have := h19.1; rw [hkl, h0] at this; simp at this
    rw [show (leafN kv).leaf = true from rfl]
    repeat refine s1 ?_
    refine cl (lkleaf_c p ps d ⟨deep, nodes + 1, leaves, pairs, seen, key⟩ kv y hne (by omega) (by simpa using hdeep) hseen ⟨by dsimp only; simp at b2; omega, by dsimp only; omega⟩ Φ) ?_
    repeat refine s1 ?_
    dsimp only
    refine jh [hlog S.pl (N + 1)] ?_
    rw [show N + 1 = N + 13 * ((r.sec :: ([] : List Nat)).length - 1) + 1 by simp]
    refine jh [lkr p ps ⟨d, nodes + 1, leaves + 1, pairs + kv.length, true, lastk kv⟩] ?_
    rw [show (⟨d, nodes + 1, leaves + 1, pairs + kv.length, true, lastk kv⟩ : Lo) = ⟨d + 0, nodes + (r.sec :: ([] : List Nat)).length, leaves + 1, pairs + kv.length, true, lastk kv⟩ from rfl]
    exact f0 1 (hq := ⟨by simp, by omega, .inl rfl, fun h4 => by omega⟩)
  | succ h ih =>
    intro r lo kv U d o N hsh hs hh hlo1 hd1 hdh hdeep hseen b1 b2 b3 hN
    obtain ⟨deep, nodes, leaves, pairs, seen, key⟩ := o
    dsimp only at hdeep hseen b1 b2 b3 ⊢
    obtain ⟨hr, m, V, hn, hmr, hlo, hsec, hsum, hK, rfl⟩ := hsh
    have hmw := nsh_wt hn
    have hdn : dnN D m = m := by unfold dnN; simp [hd]
    have hde : dnE D = 0 := by unfold dnE; simp [hd]
    have hld := tload_c ps N S D r m hr hS (by rw [show S.K r.sec = S.g.K r.sec from rfl, hK]; simp) hmr hmw hsec hsum ha (by omega) Φ
    rw [hdn, hde] at hld
    refine fo fun F => ?_
    repeat refine s1 ?_
    refine r_box (cs := rcells r) rfl rfl rfl rfl (fun t4 => ?_)
    repeat refine s2 ?_
    refine t_meet (σ := NR × Nat) (fun z => [(6, ptr z.2), (7, i64 0), (4, ptr t4), (0, ptr p), (2, i64 d)])
      (fun z => pt z.2 (.cells (nbx m z.1).toArray T.node_Node (0, 0)) :: node m z.1 :: lkr p ps ⟨deep, nodes, leaves, pairs, seen, key⟩ :: pt t4 (.cells (rcells r).toArray T.api_Ref (0, 0)) :: store ps S :: disk S.pd D :: hlog S.pl (N + 1) :: F) (fun _ => True) ?_ ?_
    · refine t_draw2 [lkr p ps ⟨deep, nodes, leaves, pairs, seen, key⟩, pt t4 (.cells (rcells r).toArray T.api_Ref (0, 0))] [3, 4] 5 9 [9, 0, 1, 2, 3, 4, 5, 6, 7, 8, 10, 11] mixed (by decide +kernel) ?_ ?_
      · repeat refine s1 ?_
        refine s_loadW (vs := rcells r) rfl (by simp [hr.sum.1]) rfl rfl ?_
        repeat refine s1 ?_
        refine cx hld (fun y _ => ?_)
        repeat refine s1 ?_
        refine al (cs := nbx nd0 nr0) (fun t5 => ?_)
        repeat refine s1 ?_
        refine r_storeW (vs := nbx m y) rfl rfl (by rfl) (by rfl) (by simp [Value.oneCell']) rfl ?_
        repeat refine s1 ?_
        exact j_meet (y, t5) trivial ⟨rfl, rfl, rfl, rfl, rfl, trivial⟩ (by first | exact Le.ent | (dsimp only; exact Le.ent) | (dsimp only [List.cons_append, List.nil_append]; exact Le.ent) | (dsimp only [List.cons_append, List.nil_append]; simp only [List.take_zero, List.map_nil, List.flatMap_nil, List.length_nil]; exact Le.ent))
      · repeat refine s1 ?_
        refine al (cs := nbx nd0 nr0) (fun t5 => ?_)
        repeat refine s1 ?_
        refine s_loadW (vs := rcells r) rfl (by simp [hr.sum.1]) rfl rfl ?_
        repeat refine s1 ?_
        refine cx hld (fun y _ => ?_)
        repeat refine s1 ?_
        refine r_storeW (vs := nbx m y) rfl rfl (by rfl) (by rfl) (by simp [Value.oneCell']) rfl ?_
        repeat refine s1 ?_
        exact j_meet (y, t5) trivial ⟨rfl, rfl, rfl, rfl, rfl, trivial⟩ (by first | exact Le.ent | (dsimp only; exact Le.ent) | (dsimp only [List.cons_append, List.nil_append]; exact Le.ent) | (dsimp only [List.cons_append, List.nil_append]; simp only [List.take_zero, List.map_nil, List.flatMap_nil, List.length_nil]; exact Le.ent))
    rintro ⟨y, t6⟩ _
    dsimp only
    repeat refine s2 ?_
    dsimp only
    refine r_addN (m := nodes) (n := 1) rfl rfl (by omega) rfl ?_
    repeat refine s1 ?_
    refine jh [node m y] (j_ent (Ent.unnode _) ?_)
    refine so (cs' := kcells ps ⟨deep, nodes + 1, leaves, pairs, seen, key⟩) (hl := ⟨rfl⟩) rfl rfl ?_
    repeat refine s4 ?_
    refine t_meet (σ := Unit) (fun _ => [(45, .bool false), (6, ptr t6), (4, ptr t4), (0, ptr p), (2, i64 d)])
      (fun _ => pt t6 (.cells (nbx m y).toArray T.node_Node (0, 0)) :: keysA m y :: kidsA m y :: node m y :: lkr p ps ⟨deep, nodes + 1, leaves, pairs, seen, key⟩ :: store ps S :: disk S.pd D :: hlog S.pl (N + 1) :: F) (fun _ => True) ?_ (fun _ _ => ?_)
    · repeat refine s1 ?_
      refine r_icmp rfl rfl rfl rfl ?_
      by_cases hd2 : 1 < d
      · have hl4 := hlo1 hd2
        rw [decide_eq_true (show (d : Int) > 1 by omega)]
        repeat refine s1 ?_
        refine r_icmp rfl rfl rfl rfl ?_
        rw [decide_eq_false (show ¬ (m.keys.length : Int) < 4 by omega)]
        repeat refine s1 ?_
        exact j_meet () trivial ⟨rfl, rfl, rfl, rfl, rfl, trivial⟩ (by first | exact Le.ent | (dsimp only; exact Le.ent) | (dsimp only [List.cons_append, List.nil_append]; exact Le.ent) | (dsimp only [List.cons_append, List.nil_append]; simp only [List.take_zero, List.map_nil, List.flatMap_nil, List.length_nil]; exact Le.ent))
      · rw [decide_eq_false (show ¬ (d : Int) > 1 by omega)]
        repeat refine s1 ?_
        exact j_meet () trivial ⟨rfl, rfl, rfl, rfl, rfl, trivial⟩ (by first | exact Le.ent | (dsimp only; exact Le.ent) | (dsimp only [List.cons_append, List.nil_append]; exact Le.ent) | (dsimp only [List.cons_append, List.nil_append]; simp only [List.take_zero, List.map_nil, List.flatMap_nil, List.length_nil]; exact Le.ent))
    dsimp only
    repeat refine s1 ?_
    obtain ⟨cs, hmi, hkv, hV, hcs⟩ := nsh_succ.1 hn
    have hlf : m.leaf = false := nsh_leaf hn
    have hrl : m.kids.length = cs.length := by rw [hmi]; simp [inner]
    have hkl : m.keys.length = cs.length := by rw [hmi]; simp [inner]
    have hpos : 2 ≤ cs.length := by have := (hmr.inner hlf).1; omega
    have hm11 := hmr.most
    rw [hlf]
    obtain ⟨ka, kc, va, vc, ra, rc⟩ := y
    refine jh [keysA m ⟨ka, kc, va, vc, ra, rc⟩] (j_leni (fun _ _ hka => ?_))
    obtain ⟨kb, ko, rfl⟩ := hka (by omega)
    refine jh [kidsA m ⟨some ⟨kb, ko, none⟩, kc, va, vc, ra, rc⟩] (j_leni (fun _ _ hra => ?_))
    obtain ⟨rb, ro, rfl⟩ := hra (by omega)
    repeat refine s1 ?_
    refine t_loop (σ := Nat × Nat × Lo) (fun z => [(57, i64 z.1), (56, i64 m.kids.length), (55, .slice (some ⟨rb, ro, none⟩) m.kids.length rc), (6, ptr t6), (0, ptr p), (2, i64 d)])
      (fun z => kidsA m ⟨some ⟨kb, ko, none⟩, kc, va, vc, some ⟨rb, ro, none⟩, rc⟩ :: keysA m ⟨some ⟨kb, ko, none⟩, kc, va, vc, some ⟨rb, ro, none⟩, rc⟩ :: pt t6 (.cells (nbx m ⟨some ⟨kb, ko, none⟩, kc, va, vc, some ⟨rb, ro, none⟩, rc⟩).toArray T.node_Node (0, 0)) :: lkr p ps z.2.2 :: store ps S :: disk S.pd D :: hlog S.pl (N + 1 + 13 * ((cs.take z.1).flatMap (·.U)).length) :: F)
      (fun z => z.1 ≤ cs.length ∧ LkI ⟨deep, nodes, leaves, pairs, seen, key⟩ z.2.2 (d + (h + 1)) cs z.1 z.2.1) (fun z => cs.length - z.1) (0, 0, ⟨deep, nodes + 1, leaves, pairs, seen, key⟩)
      ⟨Nat.zero_le _, ⟨hdeep, fun _ => rfl, fun h0 => absurd h0 (Nat.lt_irrefl _), rfl, rfl, rfl, Nat.zero_le _, by simp, by simp⟩⟩ ⟨rfl, rfl, rfl, rfl, rfl, rfl, trivial⟩ (by first | exact Le.ent | (dsimp only; exact Le.ent) | (dsimp only [List.cons_append, List.nil_append]; exact Le.ent) | (dsimp only [List.cons_append, List.nil_append]; simp only [List.take_zero, List.flatMap_nil, List.length_nil]; exact Le.ent)) ?_
    rintro ⟨i, L, o⟩ ⟨hi, hI⟩
    dsimp only at hi hI ⊢
    repeat refine s1 ?_
    refine r_icmp rfl rfl rfl rfl ?_
    repeat refine s1 ?_
    refine t_condS rfl (fun hlt => ?_) (fun hge => ?_)
    · have hic : i < cs.length := by omega
      have hil : i < m.kids.length := by omega
      have hki : m.kids[i] = cs[i].rf := by simp [hmi, inner]
      have hcc := hcs cs[i] (List.getElem_mem hic)
      have hkey : (m.keys.map w64)[i]? = some (w64 cs[i].key) := by simp [hmi, inner, List.getElem?_eq_getElem hic]
      have hcU := take_le (·.U) cs (i + 1)
      have hckv := take_le (·.kv) cs (i + 1)
      rw [take_snoc _ hic, List.length_append] at hcU hckv
      have hkvl : kv.length = (cs.flatMap (·.kv)).length := by rw [hkv]
      have hVl : V.length = (cs.flatMap (·.U)).length := by rw [hV]
      have hsc : Srt ((cs.take i).flatMap (·.kv) ++ cs[i].kv ++ (cs.drop (i + 1)).flatMap (·.kv)) := by
        have := hs
        rw [hkv, ← List.take_append_drop (i + 1) cs, List.flatMap_append, take_snoc _ hic] at this
        exact this
      have hs1 := (List.pairwise_append.1 hsc).1
      have hs2 := List.pairwise_append.1 hs1
      simp only [List.length_cons] at b1 b2 hN
      repeat refine s1 ?_
      refine ix rfl rfl hil ?_
      refine r_loadIA (off := ro) (n := m.kids.length) (cap := rc) (E := T.api_Ref) (s := 33) (xs := m.kids.flatMap rcells) (vs := rcells m.kids[i]) rfl (j := i * 33) (by omega) (by rw [hki]; simp [hcc.2.1.sum.1]) (kid_at hmw hil) rfl rfl ?_
      rw [hki]
      refine al (fun t9 => ?_)
      repeat refine s1 ?_
      refine r_storeW (vs := rcells cs[i].rf) rfl rfl (by simp [hcc.2.1.sum.1]) (by simp) (by simp [Value.oneCell']) rfl ?_
      repeat refine s4 ?_
      refine t_meet (σ := Unit) (fun _ => [(81, .bool false), (8, i64 i), (57, i64 i), (56, i64 m.kids.length), (55, .slice (some ⟨rb, ro, none⟩) m.kids.length rc), (9, ptr t9), (6, ptr t6), (0, ptr p), (2, i64 d)])
        (fun _ => kidsA m ⟨some ⟨kb, ko, none⟩, kc, va, vc, some ⟨rb, ro, none⟩, rc⟩ :: keysA m ⟨some ⟨kb, ko, none⟩, kc, va, vc, some ⟨rb, ro, none⟩, rc⟩ :: pt t6 (.cells (nbx m ⟨some ⟨kb, ko, none⟩, kc, va, vc, some ⟨rb, ro, none⟩, rc⟩).toArray T.node_Node (0, 0)) :: pt t9 (.cells (rcells cs[i].rf).toArray T.api_Ref (0, 0)) :: lkr p ps o :: store ps S :: disk S.pd D :: hlog S.pl (N + 1 + 13 * ((cs.take i).flatMap (·.U)).length) :: F) (fun _ => True) ?_ (fun _ _ => ?_)
      · repeat refine s1 ?_
        refine r_icmp rfl rfl rfl rfl ?_
        by_cases hi0 : i = 0
        · rw [decide_eq_false (show ¬ (i : Int) > 0 by omega)]
          repeat refine s1 ?_
          exact j_meet () trivial ⟨rfl, rfl, rfl, rfl, rfl, rfl, rfl, rfl, rfl, trivial⟩ (by first | exact Le.ent | (dsimp only; exact Le.ent) | (dsimp only [List.cons_append, List.nil_append]; exact Le.ent) | (dsimp only [List.cons_append, List.nil_append]; simp only [List.take_zero, List.map_nil, List.flatMap_nil, List.length_nil]; exact Le.ent))
        · obtain ⟨h1, h2, h3⟩ := hI.th (by omega)
          have hltk : o.key < cs[i].key := by
            have hpn : (cs.take i).flatMap (·.kv) ≠ [] := fun h0 => by
              have h8 := (hcs cs[0] (List.getElem_mem (by omega))).1
              have : cs[0].kv = [] := List.flatMap_eq_nil_iff.1 h0 cs[0] (by rw [List.mem_take_iff_getElem]; exact ⟨0, by omega, rfl⟩)
              rw [this] at h8; cases h8
            obtain ⟨x, hx, hxe⟩ := lastk_mem hpn
            obtain ⟨y, hy, hye⟩ : ∃ y ∈ cs[i].kv, y.1 = cs[i].key := by
              have h8 := hcc.1
              cases hck : cs[i].kv with
              | nil => rw [hck] at h8; cases h8
              | cons a l => rw [hck] at h8; exact ⟨a, by simp, by simpa [fst?] using h8⟩
            rw [h3, ← hxe, ← hye]
            exact hs2.2.2 x hx y hy
          rw [decide_eq_true (show (i : Int) > 0 by omega)]
          repeat refine s1 ?_
          rw [h2]
          repeat refine s1 ?_
          refine ix rfl rfl (show i < m.keys.length by omega) ?_
          repeat refine s1 ?_
          refine r_loadI (off := ko) (n := m.keys.length) (cap := kc) (E := T.uint64) (s := 1) (xs := m.keys.map w64) (v := w64 cs[i].key) rfl (j := i) (by omega) hkey rfl rfl ?_
          repeat refine s1 ?_
          refine r_icmp rfl rfl rfl rfl ?_
          rw [decide_eq_false (show ¬ (o.key : Int) ≥ (cs[i].key : Int) by omega)]
          repeat refine s1 ?_
          exact j_meet () trivial ⟨rfl, rfl, rfl, rfl, rfl, rfl, rfl, rfl, rfl, trivial⟩ (by first | exact Le.ent | (dsimp only; exact Le.ent) | (dsimp only [List.cons_append, List.nil_append]; exact Le.ent) | (dsimp only [List.cons_append, List.nil_append]; simp only [List.take_zero, List.map_nil, List.flatMap_nil, List.length_nil]; exact Le.ent))
      · dsimp only
        have hU1 : 1 ≤ cs[i].U.length := List.length_pos_of_mem (sh_root hcc.2)
        have e1 := hI.nd
        have e2 := hI.lv
        have e3 := hI.pr
        have e4 := hI.le
        dsimp only at e1 e2 e3 e4
        repeat refine s1 ?_
        refine r_loadW (vs := rcells cs[i].rf) rfl (by simp [hcc.2.1.sum.1]) rfl rfl ?_
        repeat refine s1 ?_
        refine cx (ih cs[i].rf 4 cs[i].kv cs[i].U (d + 1) o (N + 1 + 13 * ((cs.take i).flatMap (·.U)).length) hcc.2 hs2.2.1 (by omega) (fun _ => Nat.le_refl 4) (by omega) (by omega) (hI.dpt.imp id (fun h => by omega)) (fun hsn x hx => ?_) (by omega) (by omega) (by omega) (by omega)) (fun Lc hLc => ?_)
        · by_cases hi0 : i = 0
          · have h8 := hI.fs hi0
            subst h8
            exact hseen hsn x (by rw [hkv]; exact List.mem_flatMap.2 ⟨cs[i], List.getElem_mem hic, hx⟩)
          · obtain ⟨h1, h2, h3⟩ := hI.th (by omega)
            have hpn : (cs.take i).flatMap (·.kv) ≠ [] := fun h0 => by
              have h8 := (hcs cs[0] (List.getElem_mem (by omega))).1
              have : cs[0].kv = [] := List.flatMap_eq_nil_iff.1 h0 cs[0] (by rw [List.mem_take_iff_getElem]; exact ⟨0, by omega, rfl⟩)
              rw [this] at h8; cases h8
            obtain ⟨y, hy, hye⟩ := lastk_mem hpn
            rw [h3, ← hye]
            exact hs2.2.2 y hy x hx
        repeat refine s4 ?_
        refine jh [keysA m ⟨some ⟨kb, ko, none⟩, kc, va, vc, some ⟨rb, ro, none⟩, rc⟩] ?_
        refine t_draw [keysA m ⟨some ⟨kb, ko, none⟩, kc, va, vc, some ⟨rb, ro, none⟩, rc⟩, pt t6 (.cells (nbx m ⟨some ⟨kb, ko, none⟩, kc, va, vc, some ⟨rb, ro, none⟩, rc⟩).toArray T.node_Node (0, 0))] [10, 13] mixed (by decide +kernel) ?_
        repeat refine s2 ?_
        refine r_loadW (vs := rcells cs[i].rf) rfl (by simp [hcc.2.1.sum.1]) rfl rfl ?_
        repeat refine s2 ?_
        refine cl (lkleast_c p ps (N + 1 + 13 * ((cs.take i).flatMap (·.U)).length + 13 * (cs[i].U.length - 1) + 1) S D ⟨d + 1 + h, o.nodes + cs[i].U.length, o.leaves + Lc, o.pairs + cs[i].kv.length, true, lastk cs[i].kv⟩ h cs[i].rf 4 cs[i].kv cs[i].U hcc.2 cs[i].key hcc.1 hS ha hd (by omega) Φ) ?_
        repeat refine s1 ?_
        refine ix rfl rfl (show i < m.keys.length by omega) ?_
        repeat refine s1 ?_
        refine s_loadBy (v := w64 cs[i].key) rfl (fun w hh => run_loadI (j := i) hh (by omega) hkey) rfl rfl ?_
        repeat refine s1 ?_
        refine r_icmp rfl rfl rfl rfl ?_
        rw [decide_eq_false (show ¬ (cs[i].key : Int) < (cs[i].key : Int) by omega)]
        repeat refine s1 ?_
        have hsU := take_snoc (·.U) hic
        have hsk := take_snoc (·.kv) hic
        have hck : cs[i].kv ≠ [] := fun h0 => by have h8 := hcc.1; rw [h0] at h8; cases h8
        have q1 := hLc.four (Nat.le_refl 4)
        have q2 := hLc.le
        have q3 := hLc.most
        have q4 := hI.most
        have q5 := hI.four
        refine jh [hlog S.pl (N + 1 + 13 * ((cs.take i).flatMap (·.U)).length + 13 * (cs[i].U.length - 1) + 1 + h + 1)] (j_ent (hlogUp (N' := N + 1 + 13 * ((cs.take (i + 1)).flatMap (·.U)).length) (by rw [hsU, List.length_append]; omega) _) ?_)
        exact j_again (i + 1, L + Lc, ⟨d + 1 + h, o.nodes + cs[i].U.length, o.leaves + Lc, o.pairs + cs[i].kv.length, true, lastk cs[i].kv⟩) ⟨hic, ⟨.inr (by dsimp only; omega), fun h0 => (by cases h0), fun _ => ⟨by dsimp only; omega, rfl, by rw [hsk, lastk_app hck]⟩, by rw [hsU, List.length_append]; dsimp only; omega, by dsimp only; omega, by rw [hsk, List.length_append]; dsimp only; omega, by rw [hsU, List.length_append]; dsimp only; omega, by rw [hsk, List.length_append]; dsimp only; omega, by rw [hsk, List.length_append]; dsimp only; omega⟩⟩ (by dsimp only; omega) ⟨rfl, rfl, rfl, rfl, rfl, rfl, trivial⟩ (by first | exact Le.ent | (dsimp only; exact Le.ent) | (dsimp only [List.cons_append, List.nil_append]; exact Le.ent) | (dsimp only [List.cons_append, List.nil_append]; simp only [List.take_zero, List.map_nil, List.flatMap_nil, List.length_nil]; exact Le.ent))
    · have hil : i = cs.length := by omega
      subst hil
      obtain ⟨h1, h2, h3⟩ := hI.th (by omega)
      have e1 := hI.nd
      have e2 := hI.lv
      have e3 := hI.pr
      have q2 := hI.le
      have q4 := hI.most
      have q5 := hI.four
      rw [List.take_length] at h3 e1 e3 q2 q4 q5
      rw [← hV] at e1 q2
      rw [← hkv] at h3 e3 q4 q5
      obtain ⟨odp, ond, olv, opr, osn, oky⟩ := o
      dsimp only at h1 h2 h3 e1 e2 e3
      subst h1 h2 h3 e1 e2 e3
      rw [List.take_length, ← hV]
      repeat refine s1 ?_
      refine jh [hlog S.pl (N + 1 + 13 * V.length)] ?_
      rw [show N + 1 + 13 * V.length = N + 13 * ((r.sec :: V).length - 1) + 1 by rw [List.length_cons]; omega]
      refine jh [lkr p ps ⟨d + (h + 1), nodes + 1 + V.length, leaves + L, pairs + kv.length, true, lastk kv⟩] ?_
      rw [show nodes + 1 + V.length = nodes + (r.sec :: V).length by rw [List.length_cons]; omega]
      first
        | exact f0 L (hq := ⟨by rw [List.length_cons]; omega, q4, .inr q5, fun _ => q5⟩)
        | exact f0' L (hq := ⟨by rw [List.length_cons]; omega, q4, .inr q5, fun _ => q5⟩)
end Go.Proofs.YtcnpkmdooekmgaaGreatDoor
namespace Go.Proofs.YtcnpkmdooekmgaaGreatDoor
open Go Sl
abbrev Rfx : Rf := ⟨4294967295, List.replicate 32 0⟩
/-- a tree's shape: how deep, how many nodes, how many leaves. -/
structure ShpQ (S : St) (t : Tre) (z : Nat × Nat × Nat) : Prop where
  no : t.rt = none → z = (0, 0, 0)
  yes : ∀ r, t.rt = some r → ∃ h U, Sh S.g 1 h r t.kv U ∧ z.1 = 1 + h ∧ z.2.1 = U.length ∧ LvQ 1 t.kv U z.2.2
abbrev shpL (z : Nat × Nat × Nat) (n : Nat) : List Value := [i64 z.1, i64 z.2.1, i64 z.2.2, i64 n]
theorem shp_eq (d : Nat) (xs : List Int) (w : World) (hx : xs.length = 4) : (Op.equalIn (d + 4) 85 (.agg (xs.map (Value.int .i64)).toArray) (.agg (xs.map (Value.int .i64)).toArray)).run Tryz.prog w = .ok true w := by
  rw [run_equalIn_struct w (d + 3) 85 _ _ (by kernel_rfl) (by kernel_rfl)]
  match xs, hx with
  | [a, b, c, e], _ => simp [Program.fieldsOf, Tryz.underlying85, Op.eqFields, part, go_sem]
section
variable {X : Cx} {e : Env} {L A : List Assn} {S : List Nat} {ops : Array Oper} {k : Nat} {l : List Oper} {R : Act → World → Prop} {d : Nat} {T : TypeId} {pos : String} {af : Array Edge}
/-- what has many parts is itself. -/
theorem r_aeqS {t u : TypeId} {x y : Operand} {xs : Array Value} (hg : X.P.eqGuardType X.P.depth t = false) (hx : ev e x = some (.agg xs)) (hy : ev e y = some (.agg xs)) (he : ∀ w, (Op.equalIn 10000 t (.agg xs) (.agg xs)).run X.P w = .ok true w) (hd : Nat.blt d X.n = true)
    (h : J X ((d, .bool true) :: e) L (sw X.P (Holds X.Φ A) S ops R (k + 1) l)) : J X e L (sw X.P (Holds X.Φ A) S ops R k (⟨some d, .binOp .eql t x y u, T, pos, af, none⟩ :: l)) :=
  r_pure rfl (fun a m w => by
    have h3 : (binOp .eql t (.agg xs) (.agg xs)).run X.P w = .ok (.bool true) w := by rw [run_eql_struct, he]; rfl
    simp only [execOp, m.ev hx, m.ev hy, Sem.run_bind, run_eqGuard_agg w .eql t x y xs xs hg, h3, Result.andThen_ok, Sem.run_pure]) hd h
end
attribute [local irreducible] cw sw J Exit.then Exit.inBlock Exit.noGoto bodyPost swG swL permL
theorem isstore_c (p : Nat) (S : St) (hS : S.wf) (Φ : Base) : Sl.Fn Tryz.prog Φ F.walk_isStore [ptr p] [store p S] (fun _ : Unit => True) (fun _ => .bool true) (fun _ => [store p S]) := by
  have hold : ∀ Φ, Sl.Fn Tryz.prog Φ F.shadow_Store_Hold [ptr p, .agg (rcells Rfx).toArray] [store p S] (fun _ : Unit => True) (fun _ => i64 7) (fun _ => [store p S]) := fun Φ => by
    refine fo fun F => ?_
    repeat refine s1 ?_
    refine r_box (cs := rcells Rfx) rfl rfl rfl rfl (fun t3 => ?_)
    refine j_head (storeD p S noδ) (j_store fun x hx => ?_)
    dsimp only [List.cons_append, List.nil_append]
    have hK : S.K 4294967295 = none := by
      rcases hk : S.K 4294967295 with _ | ks
      · rfl
      · have := hS.rng 4294967295 (by rw [hk]; simp)
        have := hx.big
        omega
    refine js (storeB p S x) (fun L => Ent.store x hx) ?_
    repeat refine s1 ?_
    refine cl (smade_c p S noδ Φ) ?_
    repeat refine s1 ?_
    refine cl (shas_c p S noδ 4294967295 Φ) ?_
    rw [hK, Option.isSome_none]
    repeat refine s1 ?_
    exact f1 ()
  refine fo fun F => ?_
  repeat refine s1 ?_
  refine r_build (cells := rcells Rfx) rfl (by rfl) rfl ?_
  refine cl (hold Φ) ?_
  repeat refine s2 ?_
  exact f1 ()
set_option maxHeartbeats 1000000 in
theorem look_c (ps pd pl N : Nat) (S : St) (D : Dk) (t : Tre) (ht : TOk S.g t) (hS : S.wf) (ha : Agr S D) (hd : D.down = false) (hN : N + 13 * t.kv.length ≤ 500000000) (hkv : t.kv.length ≤ 400000) (hpd : S.pd = pd) (hpl : S.pl = pl) (Φ : Base) :
    Sl.Fn Tryz.prog Φ F.walk_Look [ptr ps, ptr t.p] [tree t.p ps t.rt, store ps S, disk pd D, hlog pl N] (ShpQ S t) (fun z => .tuple #[.agg (shpL z t.kv.length).toArray, i64 0]) (fun _ => [tree t.p ps t.rt, store ps S, disk pd D, hlog pl (N + 13 * t.kv.length + 300)]) := by
  have hw := oWt_of ht
  obtain rfl := hpd
  obtain rfl := hpl
  refine fo fun F => ?_
  repeat refine s1 ?_
  refine al (cs := shpL (0, 0, 0) 0) (fun t4 => ?_)
  repeat refine s1 ?_
  refine cl (isstore_c ps S hS Φ) ?_
  repeat refine s1 ?_
  refine cl (istree_c ps S.pd S.pl N S D t ht hS ha (by omega) (by omega) rfl rfl Φ) ?_
  repeat refine s1 ?_
  refine cl (root_c t.p ps t.rt hw Φ) ?_
  repeat refine s1 ?_
  refine al (cs := rcells Rf0) (fun t6 => ?_)
  refine r_storeW (vs := rcells (oR t.rt)) rfl rfl (by simp [hw.sum.1]) (by rfl) (by simp [Value.oneCell']) rfl ?_
  repeat refine s1 ?_
  refine r_build (cells := kcells ps ⟨0, 0, 0, 0, false, 0⟩) rfl (by rfl) rfl ?_
  refine r_box (cs := kcells ps ⟨0, 0, 0, 0, false, 0⟩) rfl rfl rfl rfl (fun p => ?_)
  repeat refine s1 ?_
  refine t_meet (σ := (Nat × Nat × Nat) × Bool × Nat) (fun _ => [(8, ptr p), (4, ptr t4), (5, i64 0)])
    (fun z => lkr p ps ⟨z.1.1, z.1.2.1, z.1.2.2, t.kv.length, z.2.1, z.2.2⟩ :: tree t.p ps t.rt :: store ps S :: disk S.pd D :: hlog S.pl (N + 13 * t.kv.length + 300) :: pt t4 (.cells (shpL (0, 0, 0) 0).toArray T.walk_Shape (0, 0)) :: F) (fun z => ShpQ S t z.1) ?_ (fun z hz => ?_)
  · rcases hr : t.rt with _ | r
    · rw [Option.isSome_none]
      repeat refine s1 ?_
      refine jh [hlog S.pl (N + 200)] (j_ent (hlogUp (N' := N + 13 * t.kv.length + 300) (by omega) _) ?_)
      refine j_meet ((0, 0, 0), false, 0) ⟨fun _ => rfl, fun r' h' => by rw [hr] at h'; cases h'⟩ ⟨rfl, rfl, rfl, trivial⟩ ?_
      rw [ht.nil hr]
      exact Le.ent
    · rw [Option.isSome_some]
      rw [hr] at hw
      have hrw : r.wt := hw
      obtain ⟨hsrt, hne, H, U, hsh⟩ := ht.sh hr
      have hh10 := pow_small (sh_size hsh).2 (by omega)
      have hsz := (sh_size hsh).1
      repeat refine s1 ?_
      refine r_loadW (vs := rcells r) rfl (by simp [hrw.sum.1]) rfl rfl ?_
      refine cx (lklook_c p ps S D hS ha hd Φ H r 1 t.kv U 1 ⟨0, 0, 0, 0, false, 0⟩ (N + 200) hsh hsrt (by omega) (fun h => absurd h (by decide)) (Nat.le_refl 1) (by omega) (.inl rfl) (fun h => by cases h) (by dsimp only; omega) (by dsimp only; omega) (by dsimp only; omega) (by omega)) (fun L hL => ?_)
      repeat refine s1 ?_
      dsimp only
      refine jh [hlog S.pl (N + 200 + 13 * (U.length - 1) + 1)] (j_ent (hlogUp (N' := N + 13 * t.kv.length + 300) (by omega) _) ?_)
      refine j_meet ((1 + H, U.length, L), true, lastk t.kv) ⟨fun h' => (by rw [hr] at h'; cases h'), fun r' h' => by rw [hr] at h'; cases h'; exact ⟨H, U, hsh, rfl, rfl, hL⟩⟩ ⟨rfl, rfl, rfl, trivial⟩ ?_
      dsimp only
      simp only [Nat.zero_add]
      exact Le.ent
  · obtain ⟨⟨z1, z2, z3⟩, zs, zk⟩ := z
    dsimp only at hz ⊢
    repeat refine s2 ?_
    refine r_loadA (vs := shpL (z1, z2, z3) t.kv.length) (off := 1) rfl (by rfl) (fun j v hj => by
      rw [List.getElem?_toArray, Nat.add_comm, List.getElem?_cons_succ]
      have := (List.getElem?_eq_some_iff.1 hj).1
      rw [show [i64 z1, i64 z2, i64 z3, i64 t.kv.length, .bool zs, w64 zk, i64 0] = shpL (z1, z2, z3) t.kv.length ++ [.bool zs, w64 zk, i64 0] from rfl, List.getElem?_append_left this]
      exact hj) rfl rfl ?_
    refine r_storeW (vs := shpL (z1, z2, z3) t.kv.length) rfl rfl (by rfl) (by rfl) (by simp [Value.oneCell']) rfl ?_
    repeat refine s1 ?_
    exact j_fin rfl (.cons (rv_agg (l := shpL (z1, z2, z3) t.kv.length) (U := T.walk_Shape) (fr := (0, 0)) rfl (by rfl)) (.cons (rv_tmp rfl) .nil)) (z1, z2, z3) rfl hz
end Go.Proofs.YtcnpkmdooekmgaaGreatDoor
namespace Go.Proofs.YtcnpkmdooekmgaaGreatDoor
open Go Sl
theorem Lv.whole {pd pl n m : Nat} {S : St} {D : Dk} {A B : List Tre} {t : Tre} {kv' : KV} {x : Nat × Option Rf × St × Dk × KV} (h : Lv pd pl n S D (A ++ t :: B)) (q : WhQ m S D A B t kv' x) :
    Lv pd pl n x.2.2.1 x.2.2.2.1 (A ++ ⟨t.p, x.2.1, x.2.2.2.2⟩ :: B) :=
  ⟨q.ok, q.agr, q.cnt.trans h.cnt, q.plan.trans h.plan, (q.up h.plan).trans h.up, q.pd.trans h.pd, q.pl.trans h.pl⟩
/-- a change of many is done, or there was no room. -/
theorem Lv.full {pd pl n m : Nat} {S : St} {D : Dk} {A B : List Tre} {t : Tre} {kv' : KV} {x : Nat × Option Rf × St × Dk × KV} (h : Lv pd pl n S D (A ++ t :: B)) (q : WhQ m S D A B t kv' x) (h0 : x.1 ≠ 0) :
    x.2.1 = t.rt ∧ x.2.2.2.2 = t.kv ∧ x.1 = 5 ∧ 3 * n ≤ sumL (A ++ t :: B) + (t.kv.length + m + 2) + 3 * (2 * Nat.log2 (t.kv.length + m) + 4) := by
  obtain ⟨e1, e2, e3⟩ := q.er h0
  refine ⟨e1, e2, ?_⟩
  rcases e3 with ⟨a, b⟩ | ⟨_, b⟩
  · rw [h.cnt] at b; exact ⟨a, b⟩
  · rw [q.up h.plan, h.up] at b; cases b
attribute [local irreducible] cw sw J Exit.then Exit.inBlock Exit.noGoto bodyPost swG swL permL
set_option maxHeartbeats 2000000 in
theorem alive2_c (Φ : Base) (hT : Tab Φ) : Sl.Fn Tryz.prog Φ F.casematelaw16_alive [] [] (fun _ : Unit => True) (fun _ => .bool true) (fun _ => []) := by
  refine fo fun F => ?_
  repeat refine s1 ?_
  refine cx (begin_c 30 (by decide) (by decide) Φ) (fun z _ => ?_)
  obtain ⟨pd, ps, pl⟩ := z
  dsimp only
  repeat refine s1 ?_
  refine cx (tnew_c ps Φ) (fun tp _ => ?_)
  repeat refine s1 ?_
  refine cl (val_c 1 7 Φ) ?_
  have hvb : bytes 44 (valL 1 7) := valL_bytes (by decide)
  generalize valL 1 7 = v at hvb ⊢
  have l0 := Lv.begin pd pl 30 tp
  repeat refine s1 ?_
  refine cx (tput_c ps pd pl 0 7 v (St0 pd pl 3 30) (Dk0 33) [] [] ⟨tp, none, []⟩ (by decide) hvb l0.ok l0.agr (by decide) (by show 0 ≤ _; decide) (by show 0 ≤ _; decide) (by show 1 ≤ _; decide) rfl rfl Φ hT) (fun x hx => ?_)
  obtain ⟨hx0, l1⟩ := l0.done hx (by have := l0.room; simp at this ⊢; omega) (fun h => h)
  obtain ⟨e1, o1, S1, D1⟩ := x
  dsimp only at hx0 l1 ⊢
  subst hx0
  have l1 : Lv pd pl 30 S1 D1 ([] ++ (⟨tp, o1, [(7, v)]⟩ : Tre) :: []) := l1
  have w1 : D1.waits.length ≤ 70 := by have := hx.dle.len; simpa using this
  have ht1 := l1.ok.each ⟨tp, o1, [(7, v)]⟩ (by simp)
  repeat refine s1 ?_
  refine cx (look_c ps pd pl (0 + 200) S1 D1 ⟨tp, o1, [(7, v)]⟩ ht1 l1.ok.ok l1.agr l1.up (by show _ ≤ _; simp) (by simp) l1.pd l1.pl Φ) (fun z hz => ?_)
  have hz1 : z = (1, 1, 1) := by
    obtain ⟨r, hr⟩ := Option.isSome_iff_exists.1 (ht1.has.2 (by simp))
    obtain ⟨h, U, hsh, a1, a2, a3⟩ := hz.yes r hr
    have hs := sh_size hsh
    have hU := List.length_pos_of_mem (sh_root hsh)
    have h0 : h = 0 := by
      rcases Nat.eq_zero_or_pos h with h0 | h0
      · exact h0
      · have := Nat.pow_le_pow_right (show 0 < 4 by omega) h0
        have h9 := hs.2
        simp at h9 this; omega
    have b1 := a3.le
    have b2 := a3.most
    have b3 := hs.1
    simp at b2 b3
    obtain ⟨z1, z2, z3⟩ := z
    dsimp only at a1 a2 b1 b2 ⊢
    simp only [Prod.mk.injEq]
    omega
  subst hz1
  repeat refine s1 ?_
  refine al (cs := shpL (0, 0, 0) 0) (fun t6 => ?_)
  refine r_storeW (vs := shpL (1, 1, 1) [(7, v)].length) rfl rfl (by rfl) (by rfl) (by simp [Value.oneCell']) rfl ?_
  repeat refine s1 ?_
  refine cx (move_c ps pd pl (0 + 200 + 13 * [(7, v)].length + 300) 0 9 100 S1 D1 [] [] ⟨tp, o1, [(7, v)]⟩ (by decide) (by decide) l1.ok l1.agr l1.up (by simp) (by simp; omega) (by simp) (by simp) l1.pd l1.pl Φ hT) (fun x hx2 => ?_)
  rw [show rngK 0 9 [(7, v)] = [(7, v)] from rfl] at hx2 ⊢
  have l2 := l1.whole hx2
  have hx0 : x.1 = 0 := Decidable.byContradiction fun h0 => by
    have := (l1.full hx2 h0).2.2.2
    rw [show Nat.log2 ((⟨tp, o1, [(7, v)]⟩ : Tre).kv.length + [(7, v)].length) = 1 from (by show Nat.log2 2 = 1; decide)] at this
    simp [sumL] at this
  have hk2 := hx2.done hx0
  have w2 := hx2.waits
  obtain ⟨e2, o2, S2, D2, kv2⟩ := x
  dsimp only at hx0 l2 hk2 w2 ⊢
  subst hx0
  rw [show insAll ([(7, v)].map (mvK 100)) [(7, v)] = [(7, v), (107, v)] from rfl] at hk2
  subst hk2
  have ht2 := l2.ok.each ⟨tp, o2, [(7, v), (107, v)]⟩ (by simp)
  repeat refine s1 ?_
  refine cl (count_c ps pd pl (0 + 200 + 13 * [(7, v)].length + 300 + 300 * [(7, v)].length + 700) 0 200 S2 D2 ⟨tp, o2, [(7, v), (107, v)]⟩ ht2 l2.ok.ok l2.agr l2.up (by simp) (by simp) l2.pd l2.pl Φ) ?_
  rw [show rngK 0 200 [(7, v), (107, v)] = [(7, v), (107, v)] from rfl]
  repeat refine s1 ?_
  refine cx (delRange_c ps pd pl (0 + 200 + 13 * [(7, v)].length + 300 + 300 * [(7, v)].length + 700 + [(7, v), (107, v)].length + 1) 0 50 S2 D2 [] [] ⟨tp, o2, [(7, v), (107, v)]⟩ l2.ok l2.agr l2.up (by simp) (by simp at w2 ⊢; omega) (by simp) (by simp) l2.pd l2.pl Φ hT) (fun x hx3 => ?_)
  rw [show rngK 0 50 [(7, v), (107, v)] = [(7, v)] from rfl] at hx3 ⊢
  have hx0 : x.1 = 0 := Decidable.byContradiction fun h0 => by
    have := (l2.full hx3 h0).2.2.2
    rw [show Nat.log2 ((⟨tp, o2, [(7, v), (107, v)]⟩ : Tre).kv.length + [(7, v)].length) = 1 from (by show Nat.log2 3 = 1; decide)] at this
    simp [sumL] at this
  rw [hx0, if_pos rfl]
  repeat refine s2 ?_
  refine r_build (cells := shpL (1, 1, 1) [(7, v)].length) rfl (by rfl) rfl ?_
  repeat refine s2 ?_
  refine r_aeqS (by kernel_rfl) rfl rfl (fun w => shp_eq 9996 [((1 : Nat) : Int), ((1 : Nat) : Int), ((1 : Nat) : Int), (([(7, v)].length : Nat) : Int)] w rfl) rfl ?_
  rw [show [(7, v)].length = 1 from rfl, show [(7, v), (107, v)].length = 2 from rfl]
  repeat refine s2 ?_
  exact f1 ()
end Go.Proofs.YtcnpkmdooekmgaaGreatDoor
namespace Go.Proofs.YtcnpkmdooekmgaaGreatDoor
open Go Sl
theorem insAll_len (xs kv : KV) : (insAll xs kv).length ≤ kv.length + xs.length := by
  induction xs generalizing kv with
  | nil => simp [insAll]
  | cons x xs ih =>
    have h1 := ih (ins x.1 x.2 kv)
    have h2 := (ins_len (k := x.1) (v := x.2) kv).2
    simp only [insAll, List.foldl_cons, List.length_cons] at h1 ⊢
    omega
theorem delAll_filter (xs kv : KV) : delAll xs kv = kv.filter fun y => !(xs.any fun x => x.1 == y.1) := by
  induction xs generalizing kv with
  | nil => exact (List.filter_eq_self.2 (fun y _ => rfl)).symm
  | cons x xs ih =>
    have h1 := ih (del x.1 kv)
    simp only [delAll, List.foldl_cons] at h1 ⊢
    rw [h1, del, List.filter_filter]
    congr 1
    funext y
    simp only [List.any_cons, Bool.not_or]
    rw [Bool.and_comm]
    congr 2
    rw [Bool.eq_iff_iff, beq_iff_eq, beq_iff_eq]
    exact ⟨fun h => h.symm, fun h => h.symm⟩
theorem filter_split {α : Type} (p : α → Bool) (l : List α) : (l.filter fun x => !p x).length + (l.filter p).length = l.length := by
  induction l with
  | nil => rfl
  | cons a l ih =>
    by_cases h : p a = true
    · simp [h]; omega
    · simp [h]; omega
theorem rngK_filter (a b : Nat) (kv : KV) : rngK a b kv = kv.filter fun x => decide (a ≤ x.1) && decide (x.1 ≤ b) := by
  rw [rngK, List.filter_filter]
  congr 1
  funext x
  rw [Bool.and_comm]
theorem delRng (a b : Nat) (kv : KV) : delAll (rngK a b kv) kv = kv.filter fun x => !(decide (a ≤ x.1) && decide (x.1 ≤ b)) := by
  rw [delAll_filter]
  refine List.filter_congr fun y hy => ?_
  congr 1
  rw [Bool.eq_iff_iff, List.any_eq_true, rngK_filter]
  constructor
  · rintro ⟨x, hx, he⟩
    have h1 := (List.mem_filter.1 hx).2
    rw [eq_of_beq he] at h1
    exact h1
  · intro h
    exact ⟨y, List.mem_filter.2 ⟨hy, h⟩, by simp⟩
theorem delRng_len (a b : Nat) (kv : KV) : (delAll (rngK a b kv) kv).length + (rngK a b kv).length = kv.length := by
  rw [delRng, rngK_filter]
  exact filter_split _ kv
attribute [local irreducible] cw sw J Exit.then Exit.inBlock Exit.noGoto bodyPost swG swL permL
set_option maxHeartbeats 2000000 in
theorem wwhole_l (count : Nat) (hcn : count < 256) (a : Option Addr) (c : Nat) (xs : KV) (hxs : KVok xs) (fr to : Nat) (Φ : Base) (hT : Tab Φ) :
    Sl.Fn Tryz.prog Φ F.casematelaw16_WalkWhole [u8 count, .slice a xs.length c, w64 fr, w64 to] [irow a xs.length c xs] (fun _ : Unit => True) (fun _ => .bool true) (fun _ => []) := by
  have hl44 : ∀ x ∈ xs, x.2.length = 44 := fun x hx => (hxs x hx).2.1
  refine fo fun F => ?_
  refine jh [irow a xs.length c xs] (j_leni (fun _ _ hra => ?_))
  repeat refine s1 ?_
  refine r_icmp rfl rfl rfl rfl ?_
  by_cases h60 : xs.length > 60
  · rw [decide_eq_true (show (xs.length : Int) > 60 by omega)]
    repeat refine s1 ?_
    refine cl (alive2_c Φ hT) ?_
    repeat refine s1 ?_
    exact f1 ()
  · rw [decide_eq_false (show ¬ (xs.length : Int) > 60 by omega)]
    repeat refine s1 ?_
    rw [show IntKind.i64.wrap (count : Int) = (count : Int) from i64_nat (by omega)]
    refine r_addN (m := 1) (n := count) rfl rfl (by omega) rfl ?_
    repeat refine s1 ?_
    refine cx (begin_c (1 + count) (by omega) (by omega) Φ) (fun z _ => ?_)
    obtain ⟨pd, ps, pl⟩ := z
    dsimp only
    repeat refine s1 ?_
    refine cx (begin_c 800 (by omega) (by omega) Φ) (fun z _ => ?_)
    obtain ⟨pd2, ps2, pl2⟩ := z
    dsimp only
    repeat refine s1 ?_
    refine cx (tnew_c ps Φ) (fun tp _ => ?_)
    repeat refine s1 ?_
    refine cx (tnew_c ps2 Φ) (fun up _ => ?_)
    repeat refine s1 ?_
    have l0 := Lv.begin pd pl (1 + count) tp
    refine t_loop (σ := Nat × Option Rf × St × Dk) (fun z => [(17, i64 z.1), (15, ptr tp), (16, ptr up), (10, ptr ps), (1, .slice a xs.length c), (2, w64 fr), (3, w64 to)])
      (fun z => tree up ps2 z.2.1 :: store ps2 z.2.2.1 :: disk pd2 z.2.2.2 :: hlog pl2 (200 * z.1) :: tree tp ps none :: store ps (St0 pd pl 3 (1 + count)) :: disk pd (Dk0 (1 + count + 3)) :: hlog pl 0 :: irow a xs.length c xs :: F)
      (fun z => z.1 ≤ xs.length ∧ Lv pd2 pl2 800 z.2.2.1 z.2.2.2 ([] ++ (⟨up, z.2.1, insAll (xs.take z.1) []⟩ : Tre) :: []) ∧ z.2.2.2.waits.length ≤ 70 * z.1) (fun z => xs.length - z.1)
      (0, none, St0 pd2 pl2 3 800, Dk0 803) ⟨Nat.zero_le _, Lv.begin pd2 pl2 800 up, Nat.le_refl _⟩ ⟨rfl, rfl, rfl, rfl, rfl, rfl, rfl, trivial⟩ (by first | exact Le.ent | (dsimp only; exact Le.ent) | (dsimp only [List.cons_append, List.nil_append]; exact Le.ent) | (dsimp only [List.cons_append, List.nil_append]; simp only [List.take_zero, List.map_nil, List.flatMap_nil, List.length_nil]; exact Le.ent)) ?_
    rintro ⟨i, rt, S, D⟩ ⟨h1, h2, h3⟩
    dsimp only at h1 h2 h3 ⊢
    have hin := insAll_len (xs.take i) []
    have htl : (xs.take i).length = i := by simp; omega
    rw [htl] at hin
    simp only [List.length_nil] at hin
    repeat refine s1 ?_
    refine r_icmp rfl rfl rfl rfl ?_
    repeat refine s1 ?_
    refine t_condSB rfl (fun hq => ?_) (fun hq => ?_)
    · have hil : i < xs.length := by have := of_decide_eq_true hq; omega
      obtain ⟨b, o, rfl⟩ := hra (by omega)
      obtain ⟨⟨k, v⟩, hxi⟩ : ∃ x, xs[i]? = some x := ⟨_, List.getElem?_eq_getElem hil⟩
      have hkv1 := hxs _ (List.mem_of_getElem? hxi)
      have hv44 : v.length = 44 := hkv1.2.1
      have hsn := insAll_snoc xs i (k, v) hxi []
      have hpc := pcell_at hl44 hxi
      generalize insAll (xs.take i) [] = kv at h2 hin hsn ⊢
      refine jh [irow (some ⟨b, o, none⟩) xs.length c xs] ?_
      repeat refine s4 ?_
      refine t_draw [irow (some ⟨b, o, none⟩) xs.length c xs] [5, 10] mixed (by decide +kernel) ?_
      repeat refine s1 ?_
      refine ix rfl rfl hil ?_
      repeat refine s1 ?_
      refine s_loadBy (v := w64 k) rfl (fun w hh => run_loadI (j := i * 45) hh (by omega) (hpc 0 _ rfl)) rfl rfl ?_
      repeat refine s1 ?_
      refine ix rfl rfl hil ?_
      repeat refine s1 ?_
      refine s_loadByA (v.map u8) rfl (by simpa using hv44) (fun w hh j u hu => run_loadI (j := i * 45 + (j + 1)) hh (by omega) (hpc (j + 1) u (by rw [List.getElem?_cons_succ]; exact hu))) rfl rfl ?_
      refine cx (tput_c ps2 pd2 pl2 (200 * i) k v S D [] [] ⟨up, rt, kv⟩ hkv1.1 hkv1.2 h2.ok h2.agr (by omega) (by omega) (by dsimp only; omega) (by simp) h2.pd h2.pl Φ hT) (fun x hx => ?_)
      obtain ⟨hx0, l2⟩ := h2.done hx (by
        have h9 := h2.room
        have h8 := log_mono (show kv.length ≤ 63 by omega)
        have h7 : Nat.log2 63 = 5 := by decide
        simp only [List.nil_append, List.map_cons, List.map_nil, List.sum_cons, List.sum_nil] at h9
        dsimp only
        omega) (fun h => h)
      have hw := hx.dle.len
      obtain ⟨e2, o2, S2, D2⟩ := x
      dsimp only at hx0 l2 hw ⊢
      subst hx0
      repeat refine s2 ?_
      exact j_again (i + 1, o2, S2, D2) ⟨hil, by dsimp only; rw [hsn]; exact l2, by dsimp only; omega⟩ (by dsimp only; omega) ⟨rfl, rfl, rfl, rfl, rfl, rfl, rfl, trivial⟩ (by first | exact Le.ent | (dsimp only; exact Le.ent) | (dsimp only [List.cons_append, List.nil_append]; exact Le.ent) | (dsimp only [List.cons_append, List.nil_append]; simp only [List.take_zero, List.map_nil, List.flatMap_nil, List.length_nil]; exact Le.ent))
    · have hil : i = xs.length := by have := of_decide_eq_false hq; omega
      subst hil
      rw [List.take_length] at h2 hin
      repeat refine s1 ?_
      have hinl := insAll_len xs []
      simp only [List.length_nil] at hinl
      refine cx (putAll_c ps pd pl 0 a c xs (St0 pd pl 3 (1 + count)) (Dk0 (1 + count + 3)) [] [] ⟨tp, none, []⟩ hxs l0.ok l0.agr (by omega) (by show 0 + 70 * xs.length ≤ _; omega) (by show 0 + xs.length ≤ _; omega) (by simp) rfl rfl Φ hT) (fun x hx => ?_)
      have l1 := l0.whole (A := []) (B := []) hx
      have hfu := l0.full (A := []) (B := []) hx
      have hdn := hx.done
      have hwt := hx.waits
      obtain ⟨e1, o1, S1, D1, kv1⟩ := x
      dsimp only at l1 hfu hdn hwt ⊢
      have hkl : kv1.length ≤ 60 := by
        by_cases he : e1 = 0
        · rw [hdn he]; omega
        · rw [(hfu he).2.1]; simp
      have hw0 : D1.waits.length ≤ 70 * xs.length := by simpa using hwt
      generalize hUu : insAll xs [] = kvU at *
      repeat refine s1 ?_
      have ht1 := l1.ok.each (⟨tp, o1, kv1⟩ : Tre) (by simp)
      refine cx (all_c ps pd pl (0 + 200 + 200 * xs.length) S1 D1 (⟨tp, o1, kv1⟩ : Tre) ht1 l1.ok.ok l1.agr (by omega) (by dsimp only; omega) l1.pd l1.pl Φ) (fun z hz => ?_)
      obtain ⟨m1, a1, c1⟩ := z
      have hk1 : kvs m1 = kv1 := hz (.inl l1.up)
      have hb1 : ∀ x ∈ m1, ∀ y ∈ x.v, y < 256 := kvs_bytes (by rw [hk1]; exact ht1.kvok)
      have hl1 : m1.length = (kv1 : KV).length := by have := congrArg List.length hk1; simpa [kvs] using this
      rw [decide_eq_true (show (D1 : Dk).down = false ∨ Tre.rt (⟨tp, o1, kv1⟩ : Tre) = none from .inl l1.up)]
      dsimp only
      repeat refine s1 ?_
      have ht2 := h2.ok.each (⟨up, rt, kvU⟩ : Tre) (by simp)
      refine cx (all_c ps2 pd2 pl2 (200 * xs.length) S D (⟨up, rt, kvU⟩ : Tre) ht2 h2.ok.ok h2.agr (by omega) (by dsimp only; omega) h2.pd h2.pl Φ) (fun z hz => ?_)
      obtain ⟨l2, a2, c2⟩ := z
      have hk2 : kvs l2 = kvU := hz (.inl h2.up)
      have hb2 : ∀ x ∈ l2, ∀ y ∈ x.v, y < 256 := kvs_bytes (by rw [hk2]; exact ht2.kvok)
      have hl2 : l2.length = (kvU : KV).length := by have := congrArg List.length hk2; simpa [kvs] using this
      rw [decide_eq_true (show (D : Dk).down = false ∨ Tre.rt (⟨up, rt, kvU⟩ : Tre) = none from .inl h2.up)]
      dsimp only
      repeat refine s2 ?_
      by_cases he : e1 = 0
      · subst he
        obtain rfl : kv1 = kvU := hdn rfl
        repeat refine s2 ?_
        refine cl (same_c a1 a2 c1 c2 m1 l2 (by omega) hb1 hb2 Φ) ?_
        rw [hk1, hk2, decide_eq_true rfl]
        repeat refine s2 ?_
        refine cx (delRange_c ps pd pl (0 + 200 + 200 * xs.length + kv1.length + 1) fr to S1 D1 [] [] ⟨tp, o1, kv1⟩ l1.ok l1.agr l1.up (by dsimp only; omega) (by dsimp only; omega) (by dsimp only; omega) (by simp) l1.pd l1.pl Φ hT) (fun y hy => ?_)
        have l3 := l1.whole (A := []) (B := []) hy
        have hfu2 := l1.full (A := []) (B := []) hy
        have hdn2 := hy.done
        have hdl := delRng_len fr to kv1
        obtain ⟨e2, o2, S2, D2, kv2⟩ := y
        dsimp only at l3 hfu2 hdn2 ⊢
        have hkl2 : kv2.length ≤ 60 := by
          by_cases he : e2 = 0
          · rw [hdn2 he]; omega
          · rw [(hfu2 he).2.1]; omega
        repeat refine s1 ?_
        have ht3 := l3.ok.each (⟨tp, o2, kv2⟩ : Tre) (by simp)
        refine cx (all_c ps pd pl (0 + 200 + 200 * xs.length + kv1.length + 1 + 300 * kv1.length + 300) S2 D2 (⟨tp, o2, kv2⟩ : Tre) ht3 l3.ok.ok l3.agr (by omega) (by dsimp only; omega) l3.pd l3.pl Φ) (fun z hz => ?_)
        obtain ⟨m3, a3, c3⟩ := z
        have hk3 : kvs m3 = kv2 := hz (.inl l3.up)
        have hb3 : ∀ x ∈ m3, ∀ y ∈ x.v, y < 256 := kvs_bytes (by rw [hk3]; exact ht3.kvok)
        have hl3 : m3.length = (kv2 : KV).length := by have := congrArg List.length hk3; simpa [kvs] using this
        rw [decide_eq_true (show (D2 : Dk).down = false ∨ Tre.rt (⟨tp, o2, kv2⟩ : Tre) = none from .inl l3.up)]
        dsimp only
        by_cases he2 : e2 = 0
        · subst he2
          obtain rfl : kv2 = delAll (rngK fr to kv1) kv1 := hdn2 rfl
          rw [if_pos rfl]
          repeat refine s2 ?_
          refine cl (alive2_c Φ hT) ?_
          repeat refine s2 ?_
          refine r_subN (m := l2.length) (n := (rngK fr to kv1).length) rfl rfl (by omega) (by omega) rfl ?_
          repeat refine s1 ?_
          refine r_icmp rfl rfl rfl rfl ?_
          rw [decide_eq_true (show (m3.length : Int) = ((l2.length - (rngK fr to kv1).length : Nat) : Int) by omega)]
          repeat refine s1 ?_
          exact f1 ()
        · obtain ⟨rfl, rfl, rfl, _⟩ := hfu2 he2
          rw [if_neg (show ¬ (5 : Nat) = 0 by decide)]
          repeat refine s2 ?_
          refine cl (alive2_c Φ hT) ?_
          repeat refine s2 ?_
          refine cl (same_c a3 a2 c3 c2 m3 l2 (by omega) hb3 hb2 Φ) ?_
          rw [hk3, hk2, decide_eq_true rfl]
          repeat refine s2 ?_
          exact f1 ()
      · obtain ⟨rfl, rfl, rfl, _⟩ := hfu he
        repeat refine s2 ?_
        refine cl (alive2_c Φ hT) ?_
        repeat refine s2 ?_
        rw [hl1]
        repeat refine s2 ?_
        refine cl (sused_c ps S1 noδ Φ) ?_
        rw [show card S1.K = 0 by have := l1.ok.used; simp only [List.nil_append, List.map_cons, List.map_nil, List.sum_cons, List.sum_nil, List.length_nil] at this; omega]
        repeat refine s2 ?_
        exact f1 ()
end Go.Proofs.YtcnpkmdooekmgaaGreatDoor
namespace Go.Proofs.YtcnpkmdooekmgaaGreatDoor
open Go Sl
abbrev zstore : List Value := [.pointer none, i64 0, i64 0, .pointer none, .pointer none, .map none]
abbrev snull (b : Nat) : Assn := pt b (.cells zstore.toArray T.shadow_Store (0, 0))
abbrev noneSL : Option Nat → List Assn
  | none => []
  | some b => [snull b]
/-- a store that is nil, or that no call made. -/
abbrev noneS (x : Option Nat) : Assn := all (noneSL x)
attribute [local irreducible] cw sw J Exit.then Exit.inBlock Exit.noGoto bodyPost swG swL permL
theorem smade_z (x : Option Nat) (Φ : Base) : Sl.Fn Tryz.prog Φ F.shadow_Store_made [noneV x] [noneS x] (fun _ : Unit => True) (fun _ => .bool false) (fun _ => [noneS x]) := by
  refine fo fun F => j_all ?_
  rcases x with _ | b
  · dsimp only [noneV, noneSL, Option.map_none, List.cons_append, List.nil_append]
    repeat refine s1 ?_
    refine js [] (B := all []) (fun L => Ent.unall [] L) ?_
    exact f1 ()
  · dsimp only [noneV, noneSL, Option.map_some, List.cons_append, List.nil_append]
    repeat refine s1 ?_
    refine js [snull b] (B := all [snull b]) (fun L => Ent.unall [snull b] L) ?_
    exact f1 ()
theorem hold_z (x : Option Nat) (r : Rf) (Φ : Base) : Sl.Fn Tryz.prog Φ F.shadow_Store_Hold [noneV x, .agg (rcells r).toArray] [noneS x] (fun _ : Unit => True) (fun _ => i64 6) (fun _ => [noneS x]) := by
  refine fo fun F => ?_
  repeat refine s1 ?_
  refine r_box (cs := rcells r) rfl rfl rfl rfl (fun t3 => ?_)
  repeat refine s1 ?_
  refine cl (smade_z x Φ) ?_
  repeat refine s1 ?_
  exact f1 ()
theorem isstore_z (x : Option Nat) (Φ : Base) : Sl.Fn Tryz.prog Φ F.walk_isStore [noneV x] [noneS x] (fun _ : Unit => True) (fun _ => .bool false) (fun _ => [noneS x]) := by
  refine fo fun F => ?_
  repeat refine s1 ?_
  refine r_build (cells := rcells Rfx) rfl (by rfl) rfl ?_
  refine cl (hold_z x Rfx Φ) ?_
  repeat refine s2 ?_
  exact f1 ()
theorem look_n1 (p : Nat) (S : St) (hS : S.wf) (x : Option Nat) (Φ : Base) : Sl.Fn Tryz.prog Φ F.walk_Look [ptr p, noneV x] [store p S, noneA x] (fun _ : Unit => True) (fun _ => .tuple #[.agg (shpL (0, 0, 0) 0).toArray, i64 6]) (fun _ => [store p S, noneA x]) := by
  refine fo fun F => ?_
  repeat refine s1 ?_
  refine al (cs := shpL (0, 0, 0) 0) (fun t4 => ?_)
  repeat refine s1 ?_
  refine cl (isstore_c p S hS Φ) ?_
  repeat refine s1 ?_
  refine cl (istree_n x Φ) ?_
  repeat refine s1 ?_
  refine r_build (cells := shpL (0, 0, 0) 0) rfl (by rfl) rfl ?_
  refine r_storeW (vs := shpL (0, 0, 0) 0) rfl rfl (by rfl) (by rfl) (by simp [Value.oneCell']) rfl ?_
  repeat refine s1 ?_
  exact j_fin rfl (.cons (rv_agg (l := shpL (0, 0, 0) 0) (U := T.walk_Shape) (fr := (0, 0)) rfl (by rfl)) (.cons (rv_tmp rfl) .nil)) () rfl trivial
theorem look_n2 (x : Option Nat) (v : Value) (Φ : Base) : Sl.Fn Tryz.prog Φ F.walk_Look [noneV x, v] [noneS x] (fun _ : Unit => True) (fun _ => .tuple #[.agg (shpL (0, 0, 0) 0).toArray, i64 6]) (fun _ => [noneS x]) := by
  refine fo fun F => ?_
  repeat refine s1 ?_
  refine al (cs := shpL (0, 0, 0) 0) (fun t4 => ?_)
  repeat refine s1 ?_
  refine cl (isstore_z x Φ) ?_
  repeat refine s1 ?_
  refine r_build (cells := shpL (0, 0, 0) 0) rfl (by rfl) rfl ?_
  refine r_storeW (vs := shpL (0, 0, 0) 0) rfl rfl (by rfl) (by rfl) (by simp [Value.oneCell']) rfl ?_
  repeat refine s1 ?_
  exact j_fin rfl (.cons (rv_agg (l := shpL (0, 0, 0) 0) (U := T.walk_Shape) (fr := (0, 0)) rfl (by rfl)) (.cons (rv_tmp rfl) .nil)) () rfl trivial
theorem diff_n1 (p : Nat) (S : St) (hS : S.wf) (x : Option Nat) (v : Value) (Φ : Base) : Sl.Fn Tryz.prog Φ F.walk_Diff [ptr p, noneV x, v] [store p S, noneA x] (fun _ : Unit => True) (fun _ => .tuple #[.slice none 0 0, i64 6]) (fun _ => [store p S, noneA x]) := by
  refine fo fun F => ?_
  repeat refine s1 ?_
  refine cl (isstore_c p S hS Φ) ?_
  repeat refine s1 ?_
  refine cl (istree_n x Φ) ?_
  repeat refine s1 ?_
  exact f2 ()
theorem diff_n2 (x : Option Nat) (v u : Value) (Φ : Base) : Sl.Fn Tryz.prog Φ F.walk_Diff [noneV x, v, u] [noneS x] (fun _ : Unit => True) (fun _ => .tuple #[.slice none 0 0, i64 6]) (fun _ => [noneS x]) := by
  refine fo fun F => ?_
  repeat refine s1 ?_
  refine cl (isstore_z x Φ) ?_
  repeat refine s1 ?_
  exact f2 ()
theorem count_n (x : Option Nat) (a b : Nat) (Φ : Base) : Sl.Fn Tryz.prog Φ F.walk_Count [noneV x, w64 a, w64 b] [noneA x] (fun _ : Unit => True) (fun _ => .tuple #[i64 0, i64 6]) (fun _ => [noneA x]) := by
  refine fo fun F => ?_
  repeat refine s1 ?_
  refine cl (range_n x a b 1073741824 Φ) ?_
  repeat refine s1 ?_
  exact f2 ()
theorem delrange_n (x : Option Nat) (a b : Nat) (Φ : Base) : Sl.Fn Tryz.prog Φ F.walk_DelRange [noneV x, w64 a, w64 b] [noneA x] (fun _ : Unit => True) (fun _ => .tuple #[i64 0, i64 6]) (fun _ => [noneA x]) := by
  refine fo fun F => ?_
  repeat refine s1 ?_
  refine cl (range_n x a b 1073741824 Φ) ?_
  repeat refine s1 ?_
  refine al (cs := [.slice none 0 0]) (fun t8 => ?_)
  repeat refine s1 ?_
  refine so rfl rfl ?_
  repeat refine s2 ?_
  exact f2 ()
theorem move_n (x : Option Nat) (a b c : Nat) (Φ : Base) : Sl.Fn Tryz.prog Φ F.walk_Move [noneV x, w64 a, w64 b, w64 c] [noneA x] (fun _ : Unit => True) (fun _ => .tuple #[i64 0, i64 6]) (fun _ => [noneA x]) := by
  refine fo fun F => ?_
  repeat refine s1 ?_
  refine cl (istree_n x Φ) ?_
  repeat refine s1 ?_
  exact f2 ()
theorem putall_n (x : Option Nat) (Φ : Base) : Sl.Fn Tryz.prog Φ F.walk_PutAll [noneV x, .slice none 0 0] [noneA x] (fun _ : Unit => True) (fun _ => i64 6) (fun _ => [noneA x]) := by
  have hw : ∀ (v : Value) (Φ : Base), Sl.Fn Tryz.prog Φ F.walk_whole [noneV x, v] [noneA x] (fun _ : Unit => True) (fun _ => i64 6) (fun _ => [noneA x]) := fun v Φ => by
    refine fo fun F => ?_
    repeat refine s1 ?_
    refine cl (istree_n x Φ) ?_
    repeat refine s1 ?_
    exact f1 ()
  refine fo fun F => ?_
  repeat refine s1 ?_
  refine r_box (cs := [.slice none 0 0]) rfl rfl rfl rfl (fun t3 => ?_)
  repeat refine s1 ?_
  refine mkf (vs := [ptr t3]) rfl ?_
  refine cl (hw _ Φ) ?_
  repeat refine s1 ?_
  exact f1 ()
set_option maxHeartbeats 2000000 in
theorem wnobody_l (a b c : Nat) (Φ : Base) (hT : Tab Φ) :
    Sl.Fn Tryz.prog Φ F.casematelaw16_WalkNobody [w64 a, w64 b, w64 c] [] (fun _ : Unit => True) (fun _ => .bool true) (fun _ => []) := by
  refine fo fun F => ?_
  repeat refine s1 ?_
  refine cx (begin_c 9 (by decide) (by decide) Φ) (fun z _ => ?_)
  obtain ⟨pd, ps, pl⟩ := z
  dsimp only
  have hwf := St0_wf pd pl 3 9
  repeat refine s1 ?_
  refine al (cs := .pointer none :: (rcells Rf0 ++ [.bool false])) (fun t11 => ?_)
  repeat refine s1 ?_
  refine cx (tnew_c ps Φ) (fun t12 _ => ?_)
  repeat refine s1 ?_
  refine js [] (B := noneA none) (fun L => Ent.unall [] L) ?_
  refine cl (look_n1 ps (St0 pd pl 3 9) hwf none Φ) ?_
  repeat refine s1 ?_
  refine al (cs := shpL (0, 0, 0) 0) (fun t13 => ?_)
  refine r_storeW (vs := shpL (0, 0, 0) 0) rfl rfl (by rfl) (by rfl) (by simp [Value.oneCell']) rfl ?_
  repeat refine s1 ?_
  refine js [] (B := noneS none) (fun L => Ent.unall [] L) ?_
  refine cl (look_n2 none (ptr t12) Φ) ?_
  repeat refine s1 ?_
  refine al (cs := shpL (0, 0, 0) 0) (fun t15 => ?_)
  refine r_storeW (vs := shpL (0, 0, 0) 0) rfl rfl (by rfl) (by rfl) (by simp [Value.oneCell']) rfl ?_
  repeat refine s1 ?_
  refine js [tnull t11] (B := noneA (some t11)) (fun L => Ent.unall [tnull t11] L) ?_
  refine cl (diff_n1 ps (St0 pd pl 3 9) hwf (some t11) (ptr t12) Φ) ?_
  repeat refine s1 ?_
  refine cl (count_n none a b Φ) ?_
  repeat refine s1 ?_
  refine cl (delrange_n (some t11) a b Φ) ?_
  repeat refine s1 ?_
  refine cl (move_n none a b c Φ) ?_
  repeat refine s1 ?_
  refine al (cs := zstore) (fun t25 => ?_)
  repeat refine s1 ?_
  refine js [snull t25] (B := noneS (some t25)) (fun L => Ent.unall [snull t25] L) ?_
  refine cl (diff_n2 (some t25) (ptr t12) (ptr t12) Φ) ?_
  repeat refine s1 ?_
  refine cl (putall_n none Φ) ?_
  repeat refine s1 ?_
  refine r_buildA [.tmp 83, .tmp 84, .tmp 85, .tmp 86, .tmp 87, .tmp 88, .tmp 89, .tmp 91] (List.replicate 8 (i64 6)) rfl rfl (by simp [Value.oneCell']) (by rfl) rfl ?_
  refine al (cs := List.replicate 8 (i64 0)) (fun t28 => ?_)
  refine r_storeW (vs := List.replicate 8 (i64 6)) rfl rfl (by rfl) (by rfl) (by simp [Value.oneCell']) rfl ?_
  repeat refine s1 ?_
  refine t_loop (σ := Nat) (fun i => [(29, i64 i), (28, ptr t28)]) (fun _ => pt t28 (.cells (List.replicate 8 (i64 6)).toArray T.a8_api_Errno (0, 0)) :: F) (fun i => i ≤ 8) (fun i => 8 - i) 0 (Nat.zero_le _) ⟨rfl, rfl, trivial⟩ (by first | exact Le.ent | (dsimp only; exact Le.ent) | (dsimp only [List.cons_append, List.nil_append]; exact Le.ent) | (dsimp only [List.cons_append, List.nil_append]; simp only [List.take_zero, List.map_nil, List.flatMap_nil, List.length_nil]; exact Le.ent)) ?_
  intro i hi
  repeat refine s1 ?_
  refine r_icmp rfl rfl rfl rfl ?_
  repeat refine s1 ?_
  refine t_condSB rfl (fun hq => ?_) (fun hq => ?_)
  · have hi8 : i < 8 := by have := of_decide_eq_true hq; omega
    repeat refine s1 ?_
    refine r_idxA (i := (i : Int)) rfl rfl (by omega) (by omega) rfl ?_
    rw [show 0 + ((i : Int)).toNat * 1 = i by omega]
    repeat refine s1 ?_
    refine ld (v := i64 6) rfl (by rw [List.getElem?_replicate, if_pos hi8]) ?_
    repeat refine s2 ?_
    exact j_again (i + 1) hi8 (by omega) ⟨rfl, rfl, trivial⟩ (by first | exact Le.ent | (dsimp only; exact Le.ent) | (dsimp only [List.cons_append, List.nil_append]; exact Le.ent) | (dsimp only [List.cons_append, List.nil_append]; simp only [List.take_zero, List.map_nil, List.flatMap_nil, List.length_nil]; exact Le.ent))
  · repeat refine s1 ?_
    refine cl (alive2_c Φ hT) ?_
    repeat refine s1 ?_
    exact f1 ()
end Go.Proofs.YtcnpkmdooekmgaaGreatDoor
